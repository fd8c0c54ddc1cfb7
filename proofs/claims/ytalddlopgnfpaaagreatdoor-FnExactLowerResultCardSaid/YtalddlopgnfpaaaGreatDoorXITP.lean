/-
  NAMES AND TYPES: what is right, in plain Lean.
-/
import Derived.Test.YtalddlopgnfpaaaGreatDoorXIplA
import Derived.Test.YtalddlopgnfpaaaGreatDoorXIGH
set_option linter.unusedVariables false
namespace M
open Go.V (inB bK ah cH)
def ql(c:UInt8):Bool:=decide ((97:Int)<=((c.toNat:Nat):Int))&&decide (((c.toNat:Nat):Int)<=122)
def JM(c:UInt8):Bool:=decide ((48:Int)<=((c.toNat:Nat):Int))&&decide (((c.toNat:Nat):Int)<=57)
def sr(c:UInt8):Bool:=((c.toNat:Nat):Int)==45
def qm(s:List UInt8)(k:Nat):Bool:=ql (s.getD k 0)||(decide (0<k)&&((JM (s.getD k 0)||sr (s.getD k 0))&& !(sr (s.getD k 0)&&sr (s.getD (k-1) 0))))
def gw(s:List UInt8):Bool:=(List.range s.length).all (qm s)&&((decide (1<=s.length)&&decide (s.length<=12))&& !sr (s.getD (s.length-1) 0))
def oI(l:List (List UInt8)):Bool:=(decide (1<=l.length)&&decide (l.length<=16))&&(nodupB l&&l.all gw)
mutual
def dJ:aa->Nat
 |.mk _ _ _ kids=>1+dB kids
def dB:List aa->Nat
 |[]=>0
 |x::r=>dJ x+dB r
end
mutual
def gz:aa->Nat
 |.mk _ _ _ kids=>1+j8 kids
def j8:List aa->Nat
 |[]=>0
 |x::r=>max (gz x) (j8 r)
end
mutual
def jF(p:Int->Bool):aa->Bool
 |.mk k _ _ kids=>p k||kN p kids
def kN(p:Int->Bool):List aa->Bool
 |[]=>false
 |x::r=>jF p x||kN p r
end
theorem uO(t:aa):dJ t=1+dB t.Kids:=by cases t;rfl
theorem JO(t:aa):gz t=1+j8 t.Kids:=by cases t;rfl
theorem WL(p:Int->Bool)(t:aa):jF p t=(p t.Kind||kN p t.Kids):=by cases t;rfl
theorem JP(p:Int->Bool):∀l,kN p l=l.any (jF p)
 |[]=>rfl
 |x::r=>by rw[kN,List.any_cons,JP p r]
def i4(t:aa):Bool:=t.Kind==1
def JQ(t:aa):Bool:=(t.Kind==20)||(t.Kind==21)
def Ae(t:aa):Bool:=decide ((16:Int)<=t.Kind)&&decide (t.Kind<=19)
def sj(t:aa):Bool:=
 if t.Kind=12\/t.Kind=13 then(t.Kids.length==1)&& !t.Kids.any i4
 else if t.Kind=14 then t.Kids.length==2
 else if t.Kind=15 then(decide (1<=t.Kids.length)&&decide (t.Kids.length<=6))&& !t.Kids.any i4
 else if t.Kind=16 then(t.Kids.length==t.bp.length)&& !t.Kids.any i4
 else if t.Kind=17 then t.Kids.length==t.bp.length
 else if t.Kind=22\/t.Kind=23 then(t.Kids.length==1)&& !kN (fun k=>k==21) t.Kids
 else(decide ((1:Int)<=t.Kind)&&decide (t.Kind<=23))&&(t.Kids.length==0)
def jD(t:aa):Bool:=
 ((if Ae t then oI t.bp else t.bp.length==0)&&(if JQ t then gw t.Name else t.Name==[]))&&sj t
mutual
def bw:aa->Bool
 |.mk k n l kids=>jD (.mk k n l kids)&&uP kids
def uP:List aa->Bool
 |[]=>true
 |x::r=>bw x&&uP r
end
theorem oH(t:aa):bw t=(jD t&&uP t.Kids):=by cases t;rfl
theorem xX:∀l,uP l=l.all bw
 |[]=>rfl
 |x::r=>by rw[uP,List.all_cons,xX r]
def fm(t:aa):Bool:=(decide (gz t<=4)&&decide (dJ t<=24))&&bw t
theorem WM:∀(l:List aa)(x:aa),x∈l->dJ x<=dB l
 |y::r,x,h=>by
  rcases dW.1 h with rfl|h
  ·simp only[dB];omega
  ·have:=WM r x h;simp only[dB];omega
theorem WN:∀l:List aa,l.length<=dB l
 |[]=>bj _
 |x::r=>by have:=WN r;simp only[dB,bQ,uO x];omega
theorem sq{l:List aa}{k:Nat}(h:k<l.length):dB (l.drop k)=dJ l[k]+dB (l.drop (k+1)):=by rw[dX h];rfl
theorem WO{l:List aa}{k:Nat}(h:k<l.length):j8 (l.drop k)=max (gz l[k]) (j8 (l.drop (k+1))):=by rw[dX h];rfl
theorem WQ(t:aa):1<=gz t:=by rw[JO];omega
end M
set_option linter.unusedSimpArgs false
namespace M
open Go.V (inB bK ah cH)
theorem fj{n:Nat}(h:n<=1048576):n<ah:=by have:=cH;omega
theorem EP{k n:Nat}(h0:0<k)(h:k<=n)(hn:n<2^62):Go.IntKind.wrap .i64 ((k:Int)-1)=((k-1:Nat):Int):=by
 rw[wrap_i64 (by omega) (by omega)];omega
theorem WR(s:List UInt8)(hs:s.length<=1048576):M.rl s=some (gw s):=by
 unfold M.rl;rw[xY (p:=qm s) (F:=M.rk s (s.length:Int)) (e:=s) (b:=false) s.length (by omega) (fun f k hk=>by
  rw[M.rk];simp only[cN,cB,cO,hk,cr,aA,gR,bI,aP,cm hk (gC hs),qm,ql,JM,sr,m6];generalize decide ((97:Int)<=(((s.getD k 0).toNat:Nat):Int))=a1;generalize decide ((((s.getD k 0).toNat:Nat):Int)<=122)=a2;generalize decide ((48:Int)<=(((s.getD k 0).toNat:Nat):Int))=a3;generalize decide ((((s.getD k 0).toNat:Nat):Int)<=57)=a4;generalize ((((s.getD k 0).toNat:Nat):Int)==45)=a5;rcases jj k with h0|h0
  ·subst h0;cases a1<;>cases a2<;>cases a3<;>cases a4<;>cases a5<;>simp
  ·have e0:((k:Int)==0)=false:=by rw[kF];omega
   have hk1:k-1<s.length:=by omega
   simp only[e0,EP h0 (Nat.le_of_lt hk) (gC hs),cN,cB,hk1,h0,cr];generalize ((((s.getD (k-1) 0).toNat:Nat):Int)==45)=a6;cases a1<;>cases a2<;>cases a3<;>cases a4<;>cases a5<;>cases a6<;>simp) (fun f=>by rw[M.rk];simp)]
 unfold gw;cases hall:(List.range s.length).all (qm s)
 ·simp
 ·simp only[gv,m6,bI];rcases jj s.length with h0|h0
  ·simp[h0]
  ·have h1:s.length-1<s.length:=by omega
   have e1:decide ((1:Int)<=((s.length:Nat):Int))=decide (1<=s.length):=by simp only[gA];omega
   have e2:decide (((s.length:Nat):Int)<=12)=decide (s.length<=12):=by simp only[gA];omega
   simp only[EP h0 (bj _) (gC hs),cN,cB,h1,cr,gR,aP,aA,e1,e2,sr]
theorem WS(s:List UInt8)(hs:s.length<=1048576):M.qV s=some (gw s):=by
 unfold M.qV;rcases jj s.length with h0|h0
 ·have:s=[]:=iU h0;subst this;rfl
 have h1:s.length-1<s.length:=by omega
 simp only[EP h0 (bj _) (gC hs),cN,cB,h1,Int.toNat_zero,cr,gR,aP,aA];have hz:inB (0:Int) s.length=true:=by
  show inB ((0:Nat):Int) s.length=true
  rw[cB];simpa using h0
 simp only[hz,gR,aP,aA];have e1:decide (((s.length:Nat):Int)<1)= !decide (1<=s.length):=by rw[<-oN];simp only[gA];omega
 have e2:decide ((12:Int)<((s.length:Nat):Int))= !decide (s.length<=12):=by rw[<-oN];simp only[gA];omega
 have e3:decide ((((s.getD 0 0).toNat:Nat):Int)<97)= !decide ((97:Int)<=(((s.getD 0 0).toNat:Nat):Int)):=by rw[<-oN];simp only[gA];omega
 have e4:decide ((122:Int)<(((s.getD 0 0).toNat:Nat):Int))= !decide ((((s.getD 0 0).toNat:Nat):Int)<=122):=by rw[<-oN];simp only[gA];omega
 rw[e1,e2,e3,e4];by_cases hlow:ql (s.getD 0 0)=true
 ·have hl:=hlow;simp only[ql,aW]at hl;rw[xY (p:=qm s) (F:=M.tq s) (e:=()) (b:=false) s.length (by omega) (fun f k hk=>by
   rw[M.tq];have f1:decide ((((s.getD k 0).toNat:Nat):Int)<97)= !decide ((97:Int)<=(((s.getD k 0).toNat:Nat):Int)):=by rw[<-oN];simp only[gA];omega
   have f2:decide ((122:Int)<(((s.getD k 0).toNat:Nat):Int))= !decide ((((s.getD k 0).toNat:Nat):Int)<=122):=by rw[<-oN];simp only[gA];omega
   have f3:decide ((((s.getD k 0).toNat:Nat):Int)<48)= !decide ((48:Int)<=(((s.getD k 0).toNat:Nat):Int)):=by rw[<-oN];simp only[gA];omega
   have f4:decide ((57:Int)<(((s.getD k 0).toNat:Nat):Int))= !decide ((((s.getD k 0).toNat:Nat):Int)<=57):=by rw[<-oN];simp only[gA];omega
   simp only[cN,cB,cO,hk,cr,aA,gR,bI,aP,cm hk (gC hs),qm,ql,JM,sr,m6,f1,f2,f3,f4];have dash:ql (s.getD k 0)=true->((((s.getD k 0).toNat:Nat):Int)==45)=false:=fun h=>by
    simp only[ql,aW,bm]at h;rw[kF];omega
   simp only[ql]at dash;rcases jj k with k0|k0
   ·subst k0;rw[hl.1,hl.2]at*;simp only[fE]at dash;rw[dash trivial];simp
   ·have hk1:k-1<s.length:=by omega
    simp only[EP k0 (Nat.le_of_lt hk) (gC hs),cN,cB,hk1,k0,cr];generalize ((((s.getD (k-1) 0).toNat:Nat):Int)==45)=a6
    revert dash
    generalize decide ((97:Int)<=(((s.getD k 0).toNat:Nat):Int))=a1;generalize decide ((((s.getD k 0).toNat:Nat):Int)<=122)=a2;generalize decide ((48:Int)<=(((s.getD k 0).toNat:Nat):Int))=a3;generalize decide ((((s.getD k 0).toNat:Nat):Int)<=57)=a4;generalize ((((s.getD k 0).toNat:Nat):Int)==45)=a5;intro dash;cases a1<;>cases a2<;>cases a3<;>cases a4<;>cases a5<;>cases a6<;>simp at dash⊢) (fun f=>by rw[M.tq];simp)]
  rw[hl.1,hl.2];unfold gw sr;cases (List.range s.length).all (qm s)<;>cases decide (1<=s.length)<;>cases decide (s.length<=12)<;>cases ((((s.getD (s.length-1) 0).toNat:Nat):Int)==45)<;>rfl
 ·have hno:gw s=false:=by
   unfold gw;have:(List.range s.length).all (qm s)=false:=by
    rw[List.all_eq_false];refine⟨0,by simpa using h0,?_⟩;simp only[uQ]at hlow;simp only[qm,hlow];intro h;cases h
   rw[this];rfl
  rw[hno];simp only[uQ]at hlow;simp only[ql]at hlow;cases h3:decide ((97:Int)<=(((s.getD 0 0).toNat:Nat):Int))<;>cases h4:decide ((((s.getD 0 0).toNat:Nat):Int)<=122)<;>rw[h3,h4]at hlow<;>simp at hlow⊢
end M
namespace M
open Go.V (inB bK ah cH)
theorem nodup_range(l:List (List UInt8)):(List.range l.length).all (fun i=>(List.range i).all fun k=> !(l.getD k []==l.getD i []))=nodupB l:=by
 rw[su,JR,List.Nodup,Aw];simp only[fg,xN,ib,kF];constructor
 ·intro h i j hi hj hij e;have:=h j hj i hij;rw[getD_lt hi,getD_lt hj]at this;exact this e
 ·intro h i hi k hk e;rw[getD_lt hi,getD_lt (by omega)]at e;exact h k i (by omega) hi hk e
theorem ajJ{α:Type}(p:α->Bool)(l:List α)(d:α):(List.range l.length).all (fun i=>p (l.getD i d))=l.all p:=by
 rw[su];simp only[fg,xN];constructor
 ·intro h x hx;obtain⟨i,hi,rfl⟩:=oK hx;have:=h i hi
  rwa [getD_lt hi]at this
 ·intro h i hi;rw[getD_lt hi];exact h _ (bC hi)
theorem ajK{α:Type}(p q:α->Bool)(l:List α):l.all (fun x=>p x&&q x)=(l.all p&&l.all q):=by
 induction l with
 |nil=>rfl
 |cons x r ih=>simp only[List.all_cons,ih];cases p x<;>cases q x<;>cases r.all p<;>cases r.all q<;>rfl
theorem ajL(l:List (List UInt8))(h:aZ List.length l<=1048576):M.vN l=some (oI l):=by
 have hl:=fD (fx List.length l) h;unfold M.vN;have e1:decide (((l.length:Nat):Int)<1)= !decide (1<=l.length):=by rw[<-oN];simp only[gA];omega
 have e2:decide ((16:Int)<((l.length:Nat):Int))= !decide (l.length<=16):=by rw[<-oN];simp only[gA];omega
 rw[e1,e2,xY (p:=fun i=>gw (l.getD i [])&&(List.range i).all fun k=> !(l.getD k []==l.getD i [])) (F:=fun f i=>M.pn f l i) (e:=()) (b:=false) l.length (by omega) (fun f k hk=>by
  show M.pn (f+1) l (k:Int)=_
  rw[M.pn];have hn:(l.getD k []).length<=1048576:=by rw[getD_lt hk];exact fD (jU List.length _ _ (bC hk)) h
  have inner:M.qW l (k:Int) ah 0=some (if(List.range k).all (fun j=> !(l.getD j []==l.getD k []))then .inr (l,(k:Int))else .inl false):=
   xY (p:=fun j=> !(l.getD j []==l.getD k [])) (F:=M.qW l (k:Int)) (e:=(l,(k:Int))) (b:=false) k (by omega) (fun f j hj=>by
    rw[M.qW];have hj':j<l.length:=by omega
    simp only[cN,cB,cO,hj,hk,hj',cr,aA,gR,bI,aP,cm hj (by omega:k<2^62)];cases l.getD j []==l.getD k []<;>rfl) (fun f=>by rw[M.qW];simp)
  simp only[cN,cB,cO,hk,cr,aA,gR,bI,aP,cm hk (by omega:l.length<2^62),WS _ hn,inner,aS,aU];cases gw (l.getD k [])<;>cases (List.range k).all (fun j=> !(l.getD j []==l.getD k []))<;>simp[cm hk (by omega:l.length<2^62)]) (fun f=>by
  show M.pn (f+1) l (l.length:Int)=_
  rw[M.pn];simp)]
 unfold oI;rw[ajK,ajJ,nodup_range];cases decide (1<=l.length)<;>cases decide (l.length<=16)<;>cases l.all gw<;>cases nodupB l<;>rfl
theorem ajM(l:List (List UInt8))(h:aZ List.length l<=1048576):M.vZ l=some (oI l):=by
 have hl:=fD (fx List.length l) h;have c1:∀s:List UInt8,s.length<=1048576->M.vX s=some (!gw s):=fun s hs=>by
  unfold M.vX;rw[WR s hs];rfl
 have cf:M.vY l=some (l.any fun s=> !gw s):=by
  have e:=sw (p:=fun s=> !gw s) (F:=M.tz l (l.length:Int)) (e:=()) (fun k=>k) l (by omega) (fun f k hk=>by
   rw[M.tz];have hn:l[k].length<=1048576:=fD (jU List.length _ _ (bC hk)) h;simp only[getD_lt hk,cN,cB,cO,hk,cr,aA,gR,bI,aP,cm hk (by omega:l.length<2^62),c1 _ hn,aS,aU]) (fun f=>by rw[M.tz];simp)
  unfold M.vY M.za;rw[e,sx];cases l.findIdx? (fun s=> !gw s)<;>simp
 unfold M.vZ;rw[cf,ajN l hl];have e1:decide ((1:Int)<=((l.length:Nat):Int))=decide (1<=l.length):=by simp only[gA];omega
 have e2:decide (((l.length:Nat):Int)<=16)=decide (l.length<=16):=by simp only[gA];omega
 have e3:(l.any fun s=> !gw s)= !l.all gw:=by rw[Jr]
 unfold oI;simp only[aU,gR,aP,aA,aS,e1,e2,e3,Bool.not_not];cases decide (1<=l.length)<;>cases decide (l.length<=16)<;>cases l.all gw<;>cases nodupB l<;>rfl
end M
namespace M
open Go.V (inB bK ah cH)
theorem aa.EO{a:aa}{N:Nat}(h:a.sz<=N):aZ List.length a.bp<=N:=by rw[aa.dV]at h;omega
theorem aa.WT{a:aa}{N:Nat}(h:a.sz<=N):a.Name.length<=N:=by rw[aa.dV]at h;omega
theorem aa.jk{a:aa}{N:Nat}(h:a.sz<=N):aZ aa.sz a.Kids<=N:=by rw[aa.dV]at h;omega
theorem aa.fi{a:aa}{N:Nat}(h:a.sz<=N):a.Kids.length<=N:=fD (fx _ _) (aa.jk h)
theorem aa.ajO{a:aa}{N:Nat}(h:a.sz<=N):a.bp.length<=N:=fD (fx _ _) (aa.EO h)
theorem aa.cZ{a x:aa}(h:x∈a.Kids):x.sz<a.sz:=by
 rw[aa.dV a];have:=jV aa.sz _ _ h;omega
theorem ajP(t:aa)(h:t.sz<=1048576):M.qX t=some (t.Kids.any i4):=by
 have hl:=aa.fi h;have e:=sw (p:=i4) (F:=fun f i=>M.nB f i t) (e:=()) (fun _=>true) t.Kids (by omega) (fun f k hk=>by
  show M.nB (f+1) (k:Int) t=_
  rw[M.nB];simp only[aa.aO,getD_lt hk,cN,cB,cO,hk,cr,aA,gR,bI,aP,cm hk (by omega:t.Kids.length<2^62),i4]) (fun f=>by
  show M.nB (f+1) _ t=_
  rw[M.nB];simp)
 unfold M.qX;rw[aa.aO,sx];have e':M.nB ah 0 t=_:=e;rw[e'];cases t.Kids.findIdx? i4<;>simp
theorem WU(lo hi:Int):∀(m:Nat)(t:aa),t.sz<m->t.sz<=1048576->M.mE m t lo hi=some (jF (fun k=>decide (lo<=k)&&decide (k<=hi)) t)
 |0,t,h,_=>absurd h (eB _)
 |m+1,t,h,hN=>by
  have hl:=aa.fi hN;have e:=sw (p:=jF (fun k=>decide (lo<=k)&&decide (k<=hi))) (F:=fun f i=>M.nC (M.mE m) lo hi f i t) (e:=()) (fun _=>true) t.Kids (by omega) (fun f k hk=>by
   show M.nC (M.mE m) lo hi (f+1) (k:Int) t=_
   rw[M.nC];have hx:=aa.cZ (bC hk);simp only[aa.aO,getD_lt hk,WU lo hi m t.Kids[k] (by omega) (by omega),cN,cB,cO,hk,cr,aA,gR,bI,aP,cm hk (by omega:t.Kids.length<2^62),aS,aU]) (fun f=>by
   show M.nC (M.mE m) lo hi (f+1) _ t=_
   rw[M.nC];simp)
  show M.yY (M.mE m) t lo hi=_
  unfold M.yY;have e':M.nC (M.mE m) lo hi ah 0 t=_:=e;rw[aa.aO,e',WL,JP,sx];cases (decide (lo<=t.Kind)&&decide (t.Kind<=hi))<;>cases t.Kids.findIdx? (jF fun k=>decide (lo<=k)&&decide (k<=hi))<;>simp
theorem ajQ(l:List Int)(v:Int)(hl:l.length<2^62):M.v8 l v=some (l.any fun x=>v==x):=by
 have e:=sw (p:=fun x=>v==x) (F:=M.tB l v (l.length:Int)) (e:=()) (fun k=>k) l hl (fun f k hk=>by
  rw[M.tB];simp only[getD_lt hk,cN,cB,cO,hk,cr,aA,gR,bI,aP,cm hk hl]) (fun f=>by rw[M.tB];simp)
 unfold M.v8 M.ze;rw[e,sx];cases l.findIdx? (fun x=>v==x)<;>simp
theorem WV(ks:List Int)(hk:ks.length<2^62):∀(m:Nat)(t:aa),t.sz<m->t.sz<=1048576->M.nF m t ks=some (jF (fun k=>ks.any fun x=>k==x) t)
 |0,t,h,_=>absurd h (eB _)
 |m+1,t,h,hN=>by
  have hl:=aa.fi hN;have e:=sw (p:=jF (fun k=>ks.any fun x=>k==x)) (F:=M.tC (M.nF m) t.Kids ks (t.Kids.length:Int)) (e:=()) (fun k=>k) t.Kids (by omega) (fun f k hk'=>by
   rw[M.tC];have hx:=aa.cZ (bC hk');have c:M.wa (M.nF m) t.Kids[k] ks=some (jF (fun k=>ks.any fun x=>k==x) t.Kids[k]):=by
    unfold M.wa;simp only[aa.aO,WV ks hk m t.Kids[k] (by omega) (by omega)];rfl
   simp only[aa.aO,getD_lt hk',c,cN,cB,cO,hk',cr,aA,gR,bI,aP,cm hk' (by omega:t.Kids.length<2^62),aS,aU]) (fun f=>by
   rw[M.tC];simp)
  have e2:M.wb (M.nF m) t.Kids ks=some (t.Kids.any (jF (fun k=>ks.any fun x=>k==x))):=by
   unfold M.wb M.zf;rw[e,sx];cases t.Kids.findIdx? (jF (fun k=>ks.any fun x=>k==x))<;>simp
  show M.zg (M.nF m) t ks=_
  unfold M.zg;rw[e2,ajQ ks _ hk,WL,JP];simp
theorem JS:∀(l:List aa),(∀x∈l,dJ x<=x.sz+1)->dB l<=aZ aa.sz l
 |[],_=>bj _
 |x::r,h=>by
  have:=JS r fun y hy=>h y (gQ _ hy)
  have:=h x (fa ..);simp only[dB,aZ];omega
theorem WW:∀(n:Nat)(t:aa),t.sz<n->dJ t<=t.sz+1
 |0,t,h=>absurd h (eB _)
 |n+1,t,h=>by
  have:=JS t.Kids fun x hx=>WW n x (by have:=aa.cZ hx;omega)
  rw[uO,aa.dV];omega
theorem JH(t:aa):dJ t<=t.sz+1:=WW _ t (uE _)
theorem xU{l:List aa}{N:Nat}(h:aZ aa.sz l<=N):dB l<=N:=fD (JS l fun x _=>JH x) h
theorem WX:∀(m:Nat)(t:aa),t.sz<m->t.sz<=1048576->M.rh m t=some ((dJ t:Nat):Int)
 |0,t,h,_=>absurd h (eB _)
 |m+1,t,h,hN=>by
  have hl:=aa.fi hN;have hs:=xU (aa.jk hN);have key:∀f k (a:Nat),k<=t.Kids.length->t.Kids.length-k<f->a+dB (t.Kids.drop k)<=1048577->M.rf (M.rh m) t.Kids (t.Kids.length:Int) f (a:Int) (k:Int)=some (((a+dB (t.Kids.drop k):Nat)):Int):=by
   intro f
   induction f with
   |zero=>intro k a h1 h2;omega
   |succ f ih=>
    intro k a h1 h2 h3;rcases cQ k t.Kids.length with hk|hk
    ·rw[M.rf];have hx:=aa.cZ (bC hk);rw[sq hk]at h3⊢;have hw:Go.IntKind.wrap .i64 ((a:Int)+((dJ t.Kids[k]:Nat):Int))=((a+dJ t.Kids[k]:Nat):Int):=by rw[wrap_i64 (by omega) (by omega)];omega
     simp only[aa.aO,getD_lt hk,WX m t.Kids[k] (by omega) (by omega),cN,cB,cO,hk,cr,aA,bI,aP,cm hk (by omega:t.Kids.length<2^62),aS,aU,hw];rw[ih (k+1) _ (by omega) (by omega) (by omega)];congr 1;omega
    ·have:k=t.Kids.length:=by omega
     subst this;rw[M.rf];simp[gU,dB]
  show M.y7 (M.rh m) t=_
  unfold M.y7;have e:=key ah 0 1 (cU _) (by have:=cH;omega) (by simp only[ej];omega);have e':M.rf (M.rh m) t.Kids (t.Kids.length:Int) ah 1 0=_:=e;rw[e',uO];rfl
theorem WY:∀(m:Nat)(t:aa)(L:Nat),L<m->L<=100->t.sz<=1048576->M.qZ m t (L:Int)=some ((min (gz t) (L+1):Nat):Int)
 |0,t,L,h,_,_=>absurd h (eB _)
 |m+1,t,L,h,hL,hN=>by
  have hl:=aa.fi hN
  show M.y4 (M.qZ m) t (L:Int)=_
  unfold M.y4;cases L with
  |zero=>
   have:=WQ t;rw[show min (gz t) (0+1)=1 by omega];rfl
  |succ L=>
   have hw0:Go.IntKind.wrap .i64 (((L+1:Nat):Int)-1)=(L:Int):=by rw[wrap_i64 (by omega) (by omega)];omega
   have key:∀f k (a:Nat),k<=t.Kids.length->t.Kids.length-k<f->M.qY (M.qZ m) ((L+1:Nat):Int) t.Kids (t.Kids.length:Int) f (a:Int) (k:Int)=some ((max a (min (j8 (t.Kids.drop k)) (L+1)):Nat):Int):=by
    intro f
    induction f with
    |zero=>intro k a h1 h2;omega
    |succ f ih=>
     intro k a h1 h2;rcases cQ k t.Kids.length with hk|hk
     ·rw[M.qY];have hx:=aa.cZ (bC hk);simp only[aa.aO,getD_lt hk,hw0,WY m t.Kids[k] L (by omega) (by omega) (by omega),cN,cB,cO,hk,cr,aA,bI,aP,cm hk (by omega:t.Kids.length<2^62),aS,aU];have hm:(bif decide (a<min (gz t.Kids[k]) (L+1))then((min (gz t.Kids[k]) (L+1):Nat):Int)else(a:Int))=((max a (min (gz t.Kids[k]) (L+1)):Nat):Int):=by
       by_cases hc:a<min (gz t.Kids[k]) (L+1)
       ·simp only[hc,cr,aA];omega
       ·simp only[hc,uR,aR];omega
      rw[hm,ih (k+1) _ (by omega) (by omega),WO hk];congr 1;omega
     ·have:k=t.Kids.length:=by omega
      subst this;rw[M.qY];simp[gU,j8]
   have e:=key ah 0 0 (cU _) (by have:=cH;omega);have e':M.qY (M.qZ m) ((L+1:Nat):Int) t.Kids (t.Kids.length:Int) ah 0 0=_:=e;have d:(((L+1:Nat):Int)==0)=false:=by rw[kF];omega
   rw[d,e',JO];simp only[aR,ej];rw[wrap_i64 (by omega) (by omega)];congr 1;omega
end M
namespace M
open Go.V (inB bK ah cH)
def qn(d:Nat)(t:aa):Int×Int:=if d+gz t<=5/\dJ t<=24 then(((gz t:Nat):Int),((dJ t:Nat):Int))else(5,25)
theorem WZ:∀(m d:Nat)(t:aa),d<=5->6<=m+d->t.sz<=1048576->M.qS m t (d:Int)=some (qn d t)
 |0,d,t,h1,h2,_=>by omega
 |m+1,d,t,h1,h2,hN=>by
  have hl:=aa.fi hN;have hdp:=WQ t
  show M.yX (M.qS m) t (d:Int)=_
  unfold M.yX;by_cases h5:d=5
  ·subst h5;have:qn 5 t=(5,25):=by unfold qn;rw[ak (by omega)]
   rw[this];rfl
  have d4:decide ((4:Int)<(d:Int))=false:=by rw[lC];omega
  by_cases h24:24<t.Kids.length
  ·have:qn d t=(5,25):=by
    unfold qn;have:=WN t.Kids;rw[ak (by rw[uO];omega)]
   rw[this,d4];have:decide ((24:Int)<((t.Kids.length:Nat):Int))=true:=by rw[bm];omega
   rw[this];rfl
  have d24:decide ((24:Int)<((t.Kids.length:Nat):Int))=false:=by rw[lC];omega
  have hw:Go.IntKind.wrap .i64 ((d:Int)+1)=((d+1:Nat):Int):=by rw[wrap_i64 (by omega) (by omega)];omega
  have mx:∀a b:Nat,M.il (a:Int) (b:Int)=some ((max a b:Nat):Int):=fun a b=>by
   unfold M.il;by_cases hc:b<a
   ·have:decide ((b:Int)<(a:Int))=true:=by rw[bm];omega
    rw[this];simp only[aA];congr 1;omega
   ·have:decide ((b:Int)<(a:Int))=false:=by rw[lC];omega
    rw[this];simp only[aR];congr 1;omega
  have key:∀f k (a p:Nat),k<=t.Kids.length->t.Kids.length-k<f->p<=24->M.qR (M.qS m) (d:Int) f (a:Int) (p:Int) (k:Int) t=
   some (if d+1+j8 (t.Kids.drop k)<=5/\p+dB (t.Kids.drop k)<=24 then .inr (((max a (j8 (t.Kids.drop k)):Nat):Int),((p+dB (t.Kids.drop k):Nat):Int))else .inl (5,25)):=by
   intro f
   induction f with
   |zero=>intro k a p h1 h2;omega
   |succ f ih=>
    intro k a p h1 h2 h3;rcases cQ k t.Kids.length with hk|hk
    ·rw[M.qR];have hx:=aa.cZ (bC hk);have hc:=WZ m (d+1) t.Kids[k] (by omega) (by omega) (by omega);rw[WO hk,sq hk];simp only[aa.aO,getD_lt hk,hw,hc,cN,cB,cO,hk,cr,aA,bI,aP,cm hk (by omega:t.Kids.length<2^62),aS,aU];unfold qn;by_cases hv:d+1+gz t.Kids[k]<=5/\dJ t.Kids[k]<=24
     ·rw[av hv];have hw2:Go.IntKind.wrap .i64 ((p:Int)+((dJ t.Kids[k]:Nat):Int))=((p+dJ t.Kids[k]:Nat):Int):=by rw[wrap_i64 (by omega) (by omega)];omega
      dsimp only;rw[hw2,mx];by_cases hp:24<p+dJ t.Kids[k]
      ·have:decide ((24:Int)<((p+dJ t.Kids[k]:Nat):Int))=true:=by rw[bm];omega
       rw[this,ak (by omega)];simp
      ·have:decide ((24:Int)<((p+dJ t.Kids[k]:Nat):Int))=false:=by rw[lC];omega
       rw[this];simp only[aR,aU,bI,aA,aS];rw[ih (k+1) _ _ (by omega) (by omega) (by omega)];have e1:(d+1+j8 (t.Kids.drop (k+1))<=5/\p+dJ t.Kids[k]+dB (t.Kids.drop (k+1))<=24)↔(d+1+max (gz t.Kids[k]) (j8 (t.Kids.drop (k+1)))<=5/\p+(dJ t.Kids[k]+dB (t.Kids.drop (k+1)))<=24):=by omega
       by_cases hq:d+1+j8 (t.Kids.drop (k+1))<=5/\p+dJ t.Kids[k]+dB (t.Kids.drop (k+1))<=24
       ·rw[av hq,av (e1.1 hq)];congr 3
        ·omega
        ·omega
       ·rw[ak hq,ak (fun h=>hq (e1.2 h))]
     ·rw[ak hv,ak (by omega)];have hw2:Go.IntKind.wrap .i64 ((p:Int)+25)=(p:Int)+25:=wrap_i64 (by omega) (by omega);have mx5:M.il (a:Int) 5=some ((max a 5:Nat):Int):=mx a 5;dsimp only;rw[hw2,mx5];have:decide ((24:Int)<(p:Int)+25)=true:=by rw[bm];omega
      rw[this];simp
    ·have:k=t.Kids.length:=by omega
     subst this;rw[M.qR,gU];have hq:d+1+j8 []<=5/\p+dB []<=24:=⟨by show d+1+0<=5;omega,by show p+0<=24;omega⟩;rw[av hq];simp[j8,dB]
  have e:=key ah 0 0 1 (cU _) (by have:=cH;omega) (by omega);have e':M.qR (M.qS m) (d:Int) ah 0 1 0 t=_:=e;rw[aa.aO,d4,d24,e'];simp only[ej,hU,aR];unfold qn;rw[JO,uO];by_cases hq:d+1+j8 t.Kids<=5/\1+dB t.Kids<=24
  ·rw[av hq,av (by omega)];simp only;congr 2;rw[wrap_i64 (by omega) (by omega)];omega
  ·rw[ak hq,ak (by omega)]
theorem W0{p:Int->Bool}{l:List aa}(h:l.length=1):jF p (l.getD 0 aa.zero)=kN p l:=by
 match l,h with
 |[x],_=>simp[kN]
theorem W1{p q:Int->Bool}(h:∀k,p k=q k):jF p=jF q:=by
 have:p=q:=funext h;rw[this]
theorem b21(k:Int):(decide ((21:Int)<=k)&&decide (k<=21))=(k==21):=by
 rw[su];simp only[aW,bm,kK];omega
theorem xZ(n m:Nat):(((n:Nat):Int)==((m:Nat):Int))=(n==m):=by
 rw[su];simp only[kK];omega
theorem W2(n:Nat):(((n:Nat):Int)==1)=(n==1):=xZ n 1
theorem W4(n:Nat):(((n:Nat):Int)==2)=(n==2):=xZ n 2
theorem W5(n:Nat):(((n:Nat):Int)==0)=(n==0):=xZ n 0
theorem JU(n:Nat):inB (0:Int) n=decide (0<n):=cB 0 n
theorem ajU(t:aa)(h:t.sz<=1048576):M.vP t=some (jD t):=by
 have hn:=WS t.Name (aa.WT h);have hb:=ajL t.bp (aa.EO h);have hu:=ajP t h;have hh:t.Kids.length=1->M.tr (M.aa.re (List.getD t.Kids 0 aa.zero)) 21 21=some (kN (fun k=>k==21) t.Kids):=fun h1=>by
  have hx:(t.Kids.getD 0 aa.zero).sz<t.sz:=by
   rw[getD_lt (by omega)];exact aa.cZ (bC _)
  rw[aa.aO,show M.tr=M.mE ah from rfl,WU 21 21 ah _ (fj (by omega)) (by omega),W1 b21,W0 h1]
 unfold M.vP;simp only[aa.aO,hn,hb,hu,aS,aU,gR,aP,bI,aA,W2,W4,W5,xZ,JU,Int.toNat_zero];unfold jD sj;have e0:decide ((0:Int)<((t.bp.length:Nat):Int))= !(t.bp.length==0):=by
  rw[su];simp only[bm,ib,kF];omega
 have e1:decide ((1:Int)<=((t.Kids.length:Nat):Int))=decide (1<=t.Kids.length):=by simp only[gA];omega
 have e2:decide (((t.Kids.length:Nat):Int)<=6)=decide (t.Kids.length<=6):=by simp only[gA];omega
 rw[e0,e1,e2];have fp:oI t.bp=true->(t.bp.length==0)=false:=fun h=>by
  simp only[oI,aW,bm]at h;rw[kF];omega
 have fq:gw t.Name=true->(t.Name==[])=false:=fun h=>by
  simp only[gw,aW,bm]at h;rw[kF];intro e;rw[e]at h;simp at h
 unfold JQ Ae;have hz:t.Kids.length=1->decide (0<t.Kids.length)=true:=fun h1=>by rw[h1];rfl
 have hl1:(t.Kids.length==1)=true->t.Kids.length=1:=fun h1=>by simpa using h1
 have hbr:(t.Kids.length==1)=true->M.tr (M.aa.re (List.getD t.Kids 0 aa.zero)) 21 21=some (kN (fun k=>k==21) t.Kids)/\decide (0<t.Kids.length)=true:=fun h1=>⟨hh (hl1 h1),hz (hl1 h1)⟩
 clear hn hb hu hh hz hl1;simp only[aa.aO]at hbr⊢;generalize hK:t.Kind=K;generalize (t.Name==[])=nn at fq⊢;generalize gw t.Name=no at fq⊢;generalize oI t.bp=lo at fp⊢;generalize (t.bp.length==0)=ll at fp⊢;generalize M.tr (List.getD t.Kids 0 aa.zero) 21 21=o at hbr⊢;generalize decide (0<t.Kids.length)=z at hbr⊢;generalize (t.Kids.length==1)=l1 at hbr⊢;generalize kN (fun k=>k==21) t.Kids=kh at hbr⊢;generalize t.Kids.any i4=au;generalize (t.Kids.length==2)=l2;generalize (t.Kids.length==0)=l0;generalize (t.Kids.length==t.bp.length)=lk;generalize decide (1<=t.Kids.length)=ge;generalize decide (t.Kids.length<=6)=le;clear hK h e0 e1 e2;by_cases h12:K=12
 ·subst h12;cases l1
  ·cases no<;>cases nn<;>simp at fq<;>cases lo<;>cases ll<;>simp at fp<;>simp
  ·obtain⟨rfl,rfl⟩:=hbr rfl;cases no<;>cases nn<;>simp at fq<;>cases lo<;>cases ll<;>simp at fp<;>simp
 by_cases h13:K=13
 ·subst h13;cases l1
  ·cases no<;>cases nn<;>simp at fq<;>cases lo<;>cases ll<;>simp at fp<;>simp
  ·obtain⟨rfl,rfl⟩:=hbr rfl;cases no<;>cases nn<;>simp at fq<;>cases lo<;>cases ll<;>simp at fp<;>simp
 by_cases i5:K=14
 ·subst i5;cases l1
  ·cases no<;>cases nn<;>simp at fq<;>cases lo<;>cases ll<;>simp at fp<;>simp
  ·obtain⟨rfl,rfl⟩:=hbr rfl;cases no<;>cases nn<;>simp at fq<;>cases lo<;>cases ll<;>simp at fp<;>simp
 by_cases h15:K=15
 ·subst h15;cases l1
  ·cases no<;>cases nn<;>simp at fq<;>cases lo<;>cases ll<;>simp at fp<;>simp
  ·obtain⟨rfl,rfl⟩:=hbr rfl;cases no<;>cases nn<;>simp at fq<;>cases lo<;>cases ll<;>simp at fp<;>simp
 by_cases h16:K=16
 ·subst h16;cases l1
  ·cases no<;>cases nn<;>simp at fq<;>cases lo<;>cases ll<;>simp at fp<;>simp
  ·obtain⟨rfl,rfl⟩:=hbr rfl;cases no<;>cases nn<;>simp at fq<;>cases lo<;>cases ll<;>simp at fp<;>simp
 by_cases h17:K=17
 ·subst h17;cases l1
  ·cases no<;>cases nn<;>simp at fq<;>cases lo<;>cases ll<;>simp at fp<;>simp
  ·obtain⟨rfl,rfl⟩:=hbr rfl;cases no<;>cases nn<;>simp at fq<;>cases lo<;>cases ll<;>simp at fp<;>simp
 by_cases h18:K=18
 ·subst h18;cases l1
  ·cases no<;>cases nn<;>simp at fq<;>cases lo<;>cases ll<;>simp at fp<;>simp
  ·obtain⟨rfl,rfl⟩:=hbr rfl;cases no<;>cases nn<;>simp at fq<;>cases lo<;>cases ll<;>simp at fp<;>simp
 by_cases h19:K=19
 ·subst h19;cases l1
  ·cases no<;>cases nn<;>simp at fq<;>cases lo<;>cases ll<;>simp at fp<;>simp
  ·obtain⟨rfl,rfl⟩:=hbr rfl;cases no<;>cases nn<;>simp at fq<;>cases lo<;>cases ll<;>simp at fp<;>simp
 by_cases h20:K=20
 ·subst h20;cases l1
  ·cases no<;>cases nn<;>simp at fq<;>cases lo<;>cases ll<;>simp at fp<;>simp
  ·obtain⟨rfl,rfl⟩:=hbr rfl;cases no<;>cases nn<;>simp at fq<;>cases lo<;>cases ll<;>simp at fp<;>simp
 by_cases h21:K=21
 ·subst h21;cases l1
  ·cases no<;>cases nn<;>simp at fq<;>cases lo<;>cases ll<;>simp at fp<;>simp
  ·obtain⟨rfl,rfl⟩:=hbr rfl;cases no<;>cases nn<;>simp at fq<;>cases lo<;>cases ll<;>simp at fp<;>simp
 by_cases h22:K=22
 ·subst h22;cases l1
  ·cases no<;>cases nn<;>simp at fq<;>cases lo<;>cases ll<;>simp at fp<;>simp
  ·obtain⟨rfl,rfl⟩:=hbr rfl;cases no<;>cases nn<;>simp at fq<;>cases lo<;>cases ll<;>simp at fp<;>simp
 by_cases h23:K=23
 ·subst h23;cases l1
  ·cases no<;>cases nn<;>simp at fq<;>cases lo<;>cases ll<;>simp at fp<;>simp
  ·obtain⟨rfl,rfl⟩:=hbr rfl;cases no<;>cases nn<;>simp at fq<;>cases lo<;>cases ll<;>simp at fp<;>simp
 have q1:(K==20)=false:=by simpa using h20
 have q2:(K==21)=false:=by simpa using h21
 have q3:(decide ((16:Int)<=K)&&decide (K<=19))=false:=by
  rw[Et];simp only[ne_eq,aW,bm];omega
 have q4:(K==12)=false:=by simpa using h12
 have q5:(K==13)=false:=by simpa using h13
 have q6:(K==14)=false:=by simpa using i5
 have q7:(K==15)=false:=by simpa using h15
 have q8:(K==16)=false:=by simpa using h16
 have q9:(K==17)=false:=by simpa using h17
 have q10:(K==22)=false:=by simpa using h22
 have q11:(K==23)=false:=by simpa using h23
 simp only[q1,q2,q3,q4,q5,q6,q7,q8,q9,q10,q11,h12,h13,i5,h15,h16,h17,h22,h23,or_self,eN];cases nn<;>cases ll<;>simp
end M
namespace M
open Go.V (inB bK ah cH)
theorem W6:∀(m:Nat)(t:aa),t.sz<m->t.sz<=1048576->M.nE m t=some (bw t)
 |0,t,h,_=>absurd h (eB _)
 |m+1,t,h,hN=>by
  have hl:=aa.fi hN;have e:=W7 (p:=bw) (F:=fun f i=>M.nD (M.nE m) f i t) (e:=()) (b:=false) t.Kids (by omega) (fun f k hk=>by
   show M.nD (M.nE m) (f+1) (k:Int) t=_
   rw[M.nD];have hx:=aa.cZ (bC hk);simp only[aa.aO,getD_lt hk,W6 m t.Kids[k] (by omega) (by omega),cN,cB,cO,hk,cr,aA,gR,bI,aP,cm hk (by omega:t.Kids.length<2^62),aS,aU];cases bw t.Kids[k]<;>rfl) (fun f=>by
   show M.nD (M.nE m) (f+1) _ t=_
   rw[M.nD];simp)
  show M.yZ (M.nE m) t=_
  unfold M.yZ;have e':M.nD (M.nE m) ah 0 t=_:=e;rw[aa.aO,ajU t hN,e',oH,xX];cases jD t<;>cases t.Kids.all bw<;>simp
theorem ajV(t:aa)(h:t.sz<=1048576):M.we t=some (fm t):=by
 unfold M.we;have e1:M.BP t=some (bw t):=W6 ah t (fj h) h;have e2:M.BJ t 1=some (qn 1 t):=WZ ah 1 t (by omega) (by have:=cH;omega) h;simp only[aa.aO,e1,e2,aS,aU,gR,aP,aA];unfold fm qn;by_cases hq:1+gz t<=5/\dJ t<=24
 ·rw[av hq];have a1:decide (((gz t:Nat):Int)<=4)=decide (gz t<=4):=by simp only[gA];omega
  have a2:decide (((dJ t:Nat):Int)<=24)=decide (dJ t<=24):=by simp only[gA];omega
  dsimp only;rw[a1,a2]
 ·rw[ak hq];have:(decide (gz t<=4)&&decide (dJ t<=24))=false:=by
   rw[Et];simp only[ne_eq,aW,bm];omega
  rw[this];rfl
theorem aiO(t:aa)(h:t.sz<=1048576):M.wh t=some (fm t):=by
 unfold M.wh;simp only[aa.aO,ajV t h];rfl
end M
namespace M
open Go.V (inB bK ah cH)
theorem ajW(l:List aa)(hl:l.length<=1048576):M.v7 l=some (l.any i4):=by
 have e:=sw (p:=i4) (F:=M.tA l (l.length:Int)) (e:=()) (fun k=>k) l (by omega) (fun f k hk=>by
  rw[M.tA];simp only[getD_lt hk,cN,cB,cO,hk,cr,aA,gR,bI,aP,cm hk (by omega:l.length<2^62)];rfl) (fun f=>by rw[M.tA];simp)
 unfold M.v7 M.zd;rw[e,sx];cases l.findIdx? i4<;>simp
theorem ajX(t:aa)(h:t.sz<=1048576)(n:Nat):M.pv t (n:Int)=some ((t.Kids.length==n)&& !t.Kids.any i4):=by
 unfold M.pv;rw[ajW t.Kids (aa.fi h)];simp only[aU,gR,aP,aA,aS,xZ]
theorem ajY(t:aa)(h:t.sz<=1048576)(rec:aa->Option Bool)(b:Bool)(hb:M.tw rec t.Kids=some (!b)):M.wc rec t=some (b&&jD t):=by
 have hn:=WR t.Name (aa.WT h);have hlab:=ajM t.bp (aa.EO h);have hk:=ajX t h;have hk1:M.pv t 1=some ((t.Kids.length==1)&& !t.Kids.any i4):=hk 1;have hh:t.Kids.length=1->M.tD (M.aa.re (List.getD t.Kids 0 aa.zero)) [21]=some (kN (fun k=>k==21) t.Kids):=fun h1=>by
  have hx:(t.Kids.getD 0 aa.zero).sz<t.sz:=by
   rw[getD_lt (by omega)];exact aa.cZ (bC _)
  have e:jF (fun k=>[(21:Int)].any fun x=>k==x)=jF (fun k=>k==21):=W1 fun k=>by simp
  rw[aa.aO,show M.tD=M.nF ah from rfl,WV [21] (by simp) ah _ (fj (by omega)) (by omega),e,W0 h1]
 unfold M.wc;simp only[aa.aO,hb,hn,hlab,hk,hk1,aS,aU,gR,aP,bI,aA,W2,W4,W5,xZ,JU,Int.toNat_zero];unfold jD sj;have e0:decide ((0:Int)<((t.bp.length:Nat):Int))= !(t.bp.length==0):=by
  rw[su];simp only[bm,ib,kF];omega
 have e1:decide ((1:Int)<=((t.Kids.length:Nat):Int))=decide (1<=t.Kids.length):=by simp only[gA];omega
 have e2:decide (((t.Kids.length:Nat):Int)<=6)=decide (t.Kids.length<=6):=by simp only[gA];omega
 rw[e0,e1,e2];unfold JQ Ae;have hz:t.Kids.length=1->decide (0<t.Kids.length)=true:=fun h1=>by rw[h1];rfl
 have hl1:(t.Kids.length==1)=true->t.Kids.length=1:=fun h1=>by simpa using h1
 have hbr:(t.Kids.length==1)=true->M.tD (M.aa.re (List.getD t.Kids 0 aa.zero)) [21]=some (kN (fun k=>k==21) t.Kids)/\decide (0<t.Kids.length)=true:=fun h1=>⟨hh (hl1 h1),hz (hl1 h1)⟩
 clear hn hlab hk hk1 hh hz hl1 hb;simp only[aa.aO]at hbr⊢;generalize hK:t.Kind=K;generalize (t.Name==[])=nn;generalize gw t.Name=no;generalize oI t.bp=lo;generalize (t.bp.length==0)=ll;generalize M.tD (List.getD t.Kids 0 aa.zero) [21]=o at hbr⊢;generalize decide (0<t.Kids.length)=z at hbr⊢;generalize (t.Kids.length==1)=l1 at hbr⊢;generalize kN (fun k=>k==21) t.Kids=kh at hbr⊢;generalize t.Kids.any i4=au;generalize (t.Kids.length==2)=l2;generalize (t.Kids.length==0)=l0;have W8:(t.Kids.length==t.Kids.length)=true:=by simp
 rw[W8];generalize (t.Kids.length==t.bp.length)=lk;generalize decide (1<=t.Kids.length)=ge;generalize decide (t.Kids.length<=6)=le;clear hK h e0 e1 e2 W8;cases b
 ·simp
 by_cases h12:K=12
 ·subst h12;cases l1
  ·cases no<;>cases nn<;>cases lo<;>cases ll<;>simp
  ·obtain⟨rfl,rfl⟩:=hbr rfl;cases no<;>cases nn<;>cases lo<;>cases ll<;>simp
 by_cases h13:K=13
 ·subst h13;cases l1
  ·cases no<;>cases nn<;>cases lo<;>cases ll<;>simp
  ·obtain⟨rfl,rfl⟩:=hbr rfl;cases no<;>cases nn<;>cases lo<;>cases ll<;>simp
 by_cases i5:K=14
 ·subst i5;cases l1
  ·cases no<;>cases nn<;>cases lo<;>cases ll<;>simp
  ·obtain⟨rfl,rfl⟩:=hbr rfl;cases no<;>cases nn<;>cases lo<;>cases ll<;>simp
 by_cases h15:K=15
 ·subst h15;cases l1
  ·cases no<;>cases nn<;>cases lo<;>cases ll<;>simp
  ·obtain⟨rfl,rfl⟩:=hbr rfl;cases no<;>cases nn<;>cases lo<;>cases ll<;>simp
 by_cases h16:K=16
 ·subst h16;cases l1
  ·cases no<;>cases nn<;>cases lo<;>cases ll<;>simp
  ·obtain⟨rfl,rfl⟩:=hbr rfl;cases no<;>cases nn<;>cases lo<;>cases ll<;>simp
 by_cases h17:K=17
 ·subst h17;cases l1
  ·cases no<;>cases nn<;>cases lo<;>cases ll<;>simp
  ·obtain⟨rfl,rfl⟩:=hbr rfl;cases no<;>cases nn<;>cases lo<;>cases ll<;>simp
 by_cases h18:K=18
 ·subst h18;cases l1
  ·cases no<;>cases nn<;>cases lo<;>cases ll<;>simp
  ·obtain⟨rfl,rfl⟩:=hbr rfl;cases no<;>cases nn<;>cases lo<;>cases ll<;>simp
 by_cases h19:K=19
 ·subst h19;cases l1
  ·cases no<;>cases nn<;>cases lo<;>cases ll<;>simp
  ·obtain⟨rfl,rfl⟩:=hbr rfl;cases no<;>cases nn<;>cases lo<;>cases ll<;>simp
 by_cases h20:K=20
 ·subst h20;cases l1
  ·cases no<;>cases nn<;>cases lo<;>cases ll<;>simp
  ·obtain⟨rfl,rfl⟩:=hbr rfl;cases no<;>cases nn<;>cases lo<;>cases ll<;>simp
 by_cases h21:K=21
 ·subst h21;cases l1
  ·cases no<;>cases nn<;>cases lo<;>cases ll<;>simp
  ·obtain⟨rfl,rfl⟩:=hbr rfl;cases no<;>cases nn<;>cases lo<;>cases ll<;>simp
 by_cases h22:K=22
 ·subst h22;cases l1
  ·cases no<;>cases nn<;>cases lo<;>cases ll<;>simp
  ·obtain⟨rfl,rfl⟩:=hbr rfl;cases no<;>cases nn<;>cases lo<;>cases ll<;>simp
 by_cases h23:K=23
 ·subst h23;cases l1
  ·cases no<;>cases nn<;>cases lo<;>cases ll<;>simp
  ·obtain⟨rfl,rfl⟩:=hbr rfl;cases no<;>cases nn<;>cases lo<;>cases ll<;>simp
 have q1:(K==20)=false:=by simpa using h20
 have q2:(K==21)=false:=by simpa using h21
 have q3:(decide ((16:Int)<=K)&&decide (K<=19))=false:=by
  rw[Et];simp only[ne_eq,aW,bm];omega
 have q4:(K==12)=false:=by simpa using h12
 have q5:(K==13)=false:=by simpa using h13
 have q6:(K==14)=false:=by simpa using i5
 have q7:(K==15)=false:=by simpa using h15
 have q8:(K==16)=false:=by simpa using h16
 have q9:(K==17)=false:=by simpa using h17
 have q10:(K==22)=false:=by simpa using h22
 have q11:(K==23)=false:=by simpa using h23
 simp only[q1,q2,q3,q4,q5,q6,q7,q8,q9,q10,q11,h12,h13,i5,h15,h16,h17,h22,h23,or_self,eN];cases nn<;>cases ll<;>simp
theorem W9:∀(m:Nat)(t:aa),t.sz<m->t.sz<=1048576->M.pw m t=some (bw t)
 |0,t,h,_=>absurd h (eB _)
 |m+1,t,h,hN=>by
  have hl:=aa.fi hN;have e:=sw (p:=fun x=> !bw x) (F:=M.tu (M.pw m) t.Kids (t.Kids.length:Int)) (e:=()) (fun k=>k) t.Kids (by omega) (fun f k hk=>by
   rw[M.tu];have hx:=aa.cZ (bC hk);have c:M.vT (M.pw m) t.Kids[k]=some (!bw t.Kids[k]):=by
    unfold M.vT;simp only[aa.aO,W9 m t.Kids[k] (by omega) (by omega)];rfl
   simp only[aa.aO,getD_lt hk,c,cN,cB,cO,hk,cr,aA,gR,bI,aP,cm hk (by omega:t.Kids.length<2^62),aS,aU]) (fun f=>by
   rw[M.tu];simp)
  have e2:M.tw (M.pw m) t.Kids=some (!uP t.Kids):=by
   unfold M.tw M.y9;have e3:(!uP t.Kids)=t.Kids.any fun x=> !bw x:=by rw[xX,Jr]
   rw[e,e3,sx];cases t.Kids.findIdx? (fun x=> !bw x)<;>simp
  show M.wc (M.pw m) t=_
  rw[ajY t hN _ _ e2,oH,Bool.and_comm]
theorem aiR(t:aa)(h:t.sz<=1048576):M.wo t=some (fm t):=by
 unfold M.wo;have e1:M.B9 t=some (bw t):=W9 ah t (fj h) h;have e2:M.BR t 4=some ((min (gz t) 5:Nat):Int):=WY ah t 4 (by have:=cH;omega) (by omega) h;have e3:M.BU t=some ((dJ t:Nat):Int):=WX ah t (fj h) h;simp only[aa.aO,e1,e2,e3,aS,aU,gR,aP,aA];have a1:decide (((min (gz t) 5:Nat):Int)<=4)=decide (gz t<=4):=by simp only[gA];omega
 have a2:decide (((dJ t:Nat):Int)<=24)=decide (dJ t<=24):=by simp only[gA];omega
 rw[a1,a2];rfl
end M
namespace M
open Go.V (inB bK ah cH)
def bB(t:aa):List aa:=if t.Kind=13 then[.mk 1 [] [] [],t.Kids.getD 0 aa.zero]else t.Kids
theorem sg{t:aa}(h:bw t=true)(hk:t.Kind=13):0<t.Kids.length:=by
 rw[oH]at h;have h1:jD t=true:=by rw[aW]at h;exact h.1
 unfold jD sj at h1;rw[av (.inr hk:t.Kind=12\/t.Kind=13)]at h1;simp only[aW,kK]at h1;omega
theorem fh{t:aa}(h:bw t=true):∀x∈t.Kids,bw x=true:=by
 rw[oH,aW,xX,fg]at h;exact h.2
theorem xI(t:aa)(h:bw t=true)(hk:t.Kind=13\/t.Kind=14\/t.Kind=17):M.iJ t=some (bB t):=by
 unfold M.iJ bB;by_cases h13:t.Kind=13
 ·have hp:=sg h h13;rw[av h13];simp only[aa.aO,h13,JU,hp,cr,aP,aA,Int.toNat_zero,mc]
 ·rw[ak h13];rcases hk with hk|hk|hk
  ·exact absurd hk h13
  ·rw[hk];rfl
  ·rw[hk];rfl
theorem xK(t:aa)(h:bw t=true)(hk:t.Kind=13\/t.Kind=14\/t.Kind=17):M.lY t=some (bB t):=xI t h hk
theorem lD{t:aa}(h:bw t=true)(hk:t.Kind=13\/t.Kind=14\/t.Kind=17):∀x∈bB t,bw x=true:=by
 unfold bB;by_cases h13:t.Kind=13
 ·have hp:=sg h h13;rw[av h13,getD_lt hp];intro x hx;rcases dW.1 hx with rfl|hx
  ·decide
  ·rcases dW.1 hx with rfl|hx
   ·exact fh h _ (bC _)
   ·simp at hx
 ·rw[ak h13];exact fh h
theorem kG{t:aa}(h:bw t=true)(hk:t.Kind=13\/t.Kind=14\/t.Kind=17):∀x∈bB t,x.sz<t.sz:=by
 unfold bB;by_cases h13:t.Kind=13
 ·have hp:=sg h h13;rw[av h13,getD_lt hp];have hg:(t.Kids[0]).sz<t.sz:=aa.cZ (bC _);intro x hx;rcases dW.1 hx with rfl|hx
  ·have:(aa.mk 1 [] [] []).sz=0:=by rw[aa.dV];rfl
   omega
  ·rcases dW.1 hx with rfl|hx
   ·exact hg
   ·simp at hx
 ·rw[ak h13];exact fun x hx=>aa.cZ hx
end M
