/-
  NAMES AND TYPES: what is right, in plain Lean.
-/
import Derived.Test.YthggbkhhdgnmaaaGreatDoorXEpl4
import Derived.Test.YthggbkhhdgnmaaaGreatDoorXEFH
set_option linter.unusedVariables false
namespace M
open Go.V (inB cA ae bS)
def qA(c:UInt8):Bool:=decide ((97:Int)<=((c.toNat:Nat):Int))&&decide (((c.toNat:Nat):Int)<=122)
def OH(c:UInt8):Bool:=decide ((48:Int)<=((c.toNat:Nat):Int))&&decide (((c.toNat:Nat):Int)<=57)
def tA(c:UInt8):Bool:=((c.toNat:Nat):Int)==45
def qB(s:List UInt8)(k:Nat):Bool:=qA (s.getD k 0)||(decide (0<k)&&((OH (s.getD k 0)||tA (s.getD k 0))&& !(tA (s.getD k 0)&&tA (s.getD (k-1) 0))))
def dn(s:List UInt8):Bool:=(List.range s.length).all (qB s)&&((decide (1<=s.length)&&decide (s.length<=12))&& !tA (s.getD (s.length-1) 0))
def qC(l:List (List UInt8)):Bool:=(decide (1<=l.length)&&decide (l.length<=16))&&(nodupB l&&l.all dn)
mutual
def dV:aa->Nat
 |.mk _ _ _ kids=>1+dB kids
def dB:List aa->Nat
 |[]=>0
 |x::r=>dV x+dB r
end
mutual
def hQ:aa->Nat
 |.mk _ _ _ kids=>1+kq kids
def kq:List aa->Nat
 |[]=>0
 |x::r=>max (hQ x) (kq r)
end
mutual
def gP(p:Int->Bool):aa->Bool
 |.mk k _ _ kids=>p k||kX p kids
def kX(p:Int->Bool):List aa->Bool
 |[]=>false
 |x::r=>gP p x||kX p r
end
theorem qo(t:aa):dV t=1+dB t.Kids:=by cases t;rfl
theorem OI(t:aa):hQ t=1+kq t.Kids:=by cases t;rfl
theorem ahW(p:Int->Bool)(t:aa):gP p t=(p t.Kind||kX p t.Kids):=by cases t;rfl
theorem OJ(p:Int->Bool):∀l,kX p l=l.any (gP p)
 |[]=>rfl
 |x::r=>by rw[kX,List.any_cons,OJ p r]
def fZ(t:aa):Bool:=t.Kind==1
def te(t:aa):Bool:=(t.Kind==20)||(t.Kind==21)
def OK(t:aa):Bool:=decide ((16:Int)<=t.Kind)&&decide (t.Kind<=19)
def J6(t:aa):Bool:=
 if t.Kind=12\/t.Kind=13 then(t.Kids.length==1)&& !t.Kids.any fZ
 else if t.Kind=14 then t.Kids.length==2
 else if t.Kind=15 then(decide (1<=t.Kids.length)&&decide (t.Kids.length<=6))&& !t.Kids.any fZ
 else if t.Kind=16 then(t.Kids.length==t.bF.length)&& !t.Kids.any fZ
 else if t.Kind=17 then t.Kids.length==t.bF.length
 else if t.Kind=22\/t.Kind=23 then(t.Kids.length==1)&& !kX (fun k=>k==21) t.Kids
 else(decide ((1:Int)<=t.Kind)&&decide (t.Kind<=23))&&(t.Kids.length==0)
def pg(t:aa):Bool:=
 ((if OK t then qC t.bF else t.bF.length==0)&&(if te t then dn t.Name else t.Name==[]))&&J6 t
mutual
def eN:aa->Bool
 |.mk k n l kids=>pg (.mk k n l kids)&&wK kids
def wK:List aa->Bool
 |[]=>true
 |x::r=>eN x&&wK r
end
theorem yL(t:aa):eN t=(pg t&&wK t.Kids):=by cases t;rfl
theorem D8:∀l,wK l=l.all eN
 |[]=>rfl
 |x::r=>by rw[wK,kD,D8 r]
def gz(t:aa):Bool:=(decide (hQ t<=4)&&decide (dV t<=24))&&eN t
theorem N6:∀(l:List aa)(x:aa),x∈l->dV x<=dB l
 |y::r,x,h=>by
  rcases eH.1 h with rfl|h
  ·simp only[dB];omega
  ·have:=N6 r x h;simp only[dB];omega
theorem ahX:∀l:List aa,l.length<=dB l
 |[]=>cr _
 |x::r=>by have:=ahX r;simp only[dB,cD,qo x];omega
theorem wo{l:List aa}{k:Nat}(h:k<l.length):dB (l.drop k)=dV l[k]+dB (l.drop (k+1)):=by rw[eD h];rfl
theorem ahY{l:List aa}{k:Nat}(h:k<l.length):kq (l.drop k)=max (hQ l[k]) (kq (l.drop (k+1))):=by rw[eD h];rfl
theorem ahZ(t:aa):1<=hQ t:=by rw[OI];omega
end M
set_option linter.unusedSimpArgs false
namespace M
open Go.V (inB cA ae bS)
theorem jb{n:Nat}(h:n<=1048576):n<ae:=by have:=bS;omega
theorem tg{k n:Nat}(h0:0<k)(h:k<=n)(hn:n<2^62):Go.IntKind.wrap .i64 ((k:Int)-1)=((k-1:Nat):Int):=by
 rw[wrap_i64 (by omega) (by omega)];omega
theorem ru(s:List UInt8)(hs:s.length<=1048576):M.jD s=some (dn s):=by
 unfold M.jD;rw[lB (p:=qB s) (F:=M.s8 s (s.length:Int)) (e:=s) (b:=false) s.length (by omega) (fun f k hk=>by
  rw[M.s8];simp only[bn,bz,bU,hk,bD,aG,cC,bj,aS,bE hk (cu hs),qB,qA,OH,tA,kJ];generalize decide ((97:Int)<=(((s.getD k 0).toNat:Nat):Int))=a1;generalize decide ((((s.getD k 0).toNat:Nat):Int)<=122)=a2;generalize decide ((48:Int)<=(((s.getD k 0).toNat:Nat):Int))=a3;generalize decide ((((s.getD k 0).toNat:Nat):Int)<=57)=a4;generalize ((((s.getD k 0).toNat:Nat):Int)==45)=a5;rcases kg k with h0|h0
  ·subst h0;cases a1<;>cases a2<;>cases a3<;>cases a4<;>cases a5<;>simp
  ·have e0:((k:Int)==0)=false:=by rw[eI];omega
   have hk1:k-1<s.length:=by omega
   simp only[e0,tg h0 (ti hk) (cu hs),bn,bz,hk1,h0,bD];generalize ((((s.getD (k-1) 0).toNat:Nat):Int)==45)=a6;cases a1<;>cases a2<;>cases a3<;>cases a4<;>cases a5<;>cases a6<;>simp) (fun f=>by rw[M.s8];simp)]
 unfold dn;cases hall:(List.range s.length).all (qB s)
 ·simp
 ·simp only[pt,kJ,bj];rcases kg s.length with h0|h0
  ·simp[h0]
  ·have h1:s.length-1<s.length:=by omega
   have e1:decide ((1:Int)<=((s.length:Nat):Int))=decide (1<=s.length):=by simp only[fl];omega
   have e2:decide (((s.length:Nat):Int)<=12)=decide (s.length<=12):=by simp only[fl];omega
   simp only[tg h0 (cr _) (cu hs),bn,bz,h1,bD,cC,aS,aG,e1,e2,tA]
theorem rq(s:List UInt8)(hs:s.length<=1048576):M.jF s=some (dn s):=by
 unfold M.jF;rcases kg s.length with h0|h0
 ·have:s=[]:=mq h0;subst this;rfl
 have h1:s.length-1<s.length:=by omega
 simp only[tg h0 (cr _) (cu hs),bn,bz,h1,Int.toNat_zero,bD,cC,aS,aG];have hz:inB (0:Int) s.length=true:=by
  show inB ((0:Nat):Int) s.length=true
  rw[bz];simpa using h0
 simp only[hz,cC,aS,aG];have e1:decide (((s.length:Nat):Int)<1)= !decide (1<=s.length):=by rw[<-lR];simp only[fl];omega
 have e2:decide ((12:Int)<((s.length:Nat):Int))= !decide (s.length<=12):=by rw[<-lR];simp only[fl];omega
 have e3:decide ((((s.getD 0 0).toNat:Nat):Int)<97)= !decide ((97:Int)<=(((s.getD 0 0).toNat:Nat):Int)):=by rw[<-lR];simp only[fl];omega
 have e4:decide ((122:Int)<(((s.getD 0 0).toNat:Nat):Int))= !decide ((((s.getD 0 0).toNat:Nat):Int)<=122):=by rw[<-lR];simp only[fl];omega
 rw[e1,e2,e3,e4];by_cases hlow:qA (s.getD 0 0)=true
 ·have hl:=hlow;simp only[qA,bJ]at hl;rw[lB (p:=qB s) (F:=M.vV s) (e:=()) (b:=false) s.length (by omega) (fun f k hk=>by
   rw[M.vV];have f1:decide ((((s.getD k 0).toNat:Nat):Int)<97)= !decide ((97:Int)<=(((s.getD k 0).toNat:Nat):Int)):=by rw[<-lR];simp only[fl];omega
   have f2:decide ((122:Int)<(((s.getD k 0).toNat:Nat):Int))= !decide ((((s.getD k 0).toNat:Nat):Int)<=122):=by rw[<-lR];simp only[fl];omega
   have f3:decide ((((s.getD k 0).toNat:Nat):Int)<48)= !decide ((48:Int)<=(((s.getD k 0).toNat:Nat):Int)):=by rw[<-lR];simp only[fl];omega
   have f4:decide ((57:Int)<(((s.getD k 0).toNat:Nat):Int))= !decide ((((s.getD k 0).toNat:Nat):Int)<=57):=by rw[<-lR];simp only[fl];omega
   simp only[bn,bz,bU,hk,bD,aG,cC,bj,aS,bE hk (cu hs),qB,qA,OH,tA,kJ,f1,f2,f3,f4];have dash:qA (s.getD k 0)=true->((((s.getD k 0).toNat:Nat):Int)==45)=false:=fun h=>by
    simp only[qA,bJ,bu]at h;rw[eI];omega
   simp only[qA]at dash;rcases kg k with k0|k0
   ·subst k0;rw[hl.1,hl.2]at*;simp only[db]at dash;rw[dash trivial];simp
   ·have hk1:k-1<s.length:=by omega
    simp only[tg k0 (ti hk) (cu hs),bn,bz,hk1,k0,bD];generalize ((((s.getD (k-1) 0).toNat:Nat):Int)==45)=a6
    revert dash
    generalize decide ((97:Int)<=(((s.getD k 0).toNat:Nat):Int))=a1;generalize decide ((((s.getD k 0).toNat:Nat):Int)<=122)=a2;generalize decide ((48:Int)<=(((s.getD k 0).toNat:Nat):Int))=a3;generalize decide ((((s.getD k 0).toNat:Nat):Int)<=57)=a4;generalize ((((s.getD k 0).toNat:Nat):Int)==45)=a5;intro dash;cases a1<;>cases a2<;>cases a3<;>cases a4<;>cases a5<;>cases a6<;>simp at dash⊢) (fun f=>by rw[M.vV];simp)]
  rw[hl.1,hl.2];unfold dn tA;cases (List.range s.length).all (qB s)<;>cases decide (1<=s.length)<;>cases decide (s.length<=12)<;>cases ((((s.getD (s.length-1) 0).toNat:Nat):Int)==45)<;>rfl
 ·have hno:dn s=false:=by
   unfold dn;have:(List.range s.length).all (qB s)=false:=by
    rw[List.all_eq_false];refine⟨0,by simpa using h0,?_⟩;simp only[yY]at hlow;simp only[qB,hlow];intro h;cases h
   rw[this];rfl
  rw[hno];simp only[yY]at hlow;simp only[qA]at hlow;cases h3:decide ((97:Int)<=(((s.getD 0 0).toNat:Nat):Int))<;>cases h4:decide ((((s.getD 0 0).toNat:Nat):Int)<=122)<;>rw[h3,h4]at hlow<;>simp at hlow⊢
end M
namespace M
open Go.V (inB cA ae bS)
theorem nodup_range(l:List (List UInt8)):(List.range l.length).all (fun i=>(List.range i).all fun k=> !(l.getD k []==l.getD i []))=nodupB l:=by
 rw[gj,xt,List.Nodup,wC];simp only[ee,wL,fk,eI];constructor
 ·intro h i j hi hj hij e;have:=h j hj i hij;rw[getD_lt hi,getD_lt hj]at this;exact this e
 ·intro h i hi k hk e;rw[getD_lt hi,getD_lt (by omega)]at e;exact h k i (by omega) hi hk e
theorem Ed{α:Type}(p:α->Bool)(l:List α)(d:α):(List.range l.length).all (fun i=>p (l.getD i d))=l.all p:=by
 rw[gj];simp only[ee,wL];constructor
 ·intro h x hx;obtain⟨i,hi,rfl⟩:=jZ hx;have:=h i hi
  rwa [getD_lt hi]at this
 ·intro h i hi;rw[getD_lt hi];exact h _ (bK hi)
theorem Ec{α:Type}(p q:α->Bool)(l:List α):l.all (fun x=>p x&&q x)=(l.all p&&l.all q):=by
 induction l with
 |nil=>rfl
 |cons x r ih=>simp only[kD,ih];cases p x<;>cases q x<;>cases r.all p<;>cases r.all q<;>rfl
theorem azh(l:List (List UInt8))(h:aB List.length l<=1048576):M.DF l=some (qC l):=by
 have hl:=cN (bW List.length l) h;unfold M.DF;have e1:decide (((l.length:Nat):Int)<1)= !decide (1<=l.length):=by rw[<-lR];simp only[fl];omega
 have e2:decide ((16:Int)<((l.length:Nat):Int))= !decide (l.length<=16):=by rw[<-lR];simp only[fl];omega
 rw[e1,e2,lB (p:=fun i=>dn (l.getD i [])&&(List.range i).all fun k=> !(l.getD k []==l.getD i [])) (F:=fun f i=>M.qj f l i) (e:=()) (b:=false) l.length (by omega) (fun f k hk=>by
  show M.qj (f+1) l (k:Int)=_
  rw[M.qj];have hn:(l.getD k []).length<=1048576:=by rw[getD_lt hk];exact cN (da List.length _ _ (bK hk)) h
  have inner:M.sW l (k:Int) ae 0=some (if(List.range k).all (fun j=> !(l.getD j []==l.getD k []))then .inr (l,(k:Int))else .inl false):=
   lB (p:=fun j=> !(l.getD j []==l.getD k [])) (F:=M.sW l (k:Int)) (e:=(l,(k:Int))) (b:=false) k (by omega) (fun f j hj=>by
    rw[M.sW];have hj':j<l.length:=by omega
    simp only[bn,bz,bU,hj,hk,hj',bD,aG,cC,bj,aS,bE hj (by omega:k<2^62)];cases l.getD j []==l.getD k []<;>rfl) (fun f=>by rw[M.sW];simp)
  simp only[bn,bz,bU,hk,bD,aG,cC,bj,aS,bE hk (by omega:l.length<2^62),rq _ hn,inner,aZ,bf];cases dn (l.getD k [])<;>cases (List.range k).all (fun j=> !(l.getD j []==l.getD k []))<;>simp[bE hk (by omega:l.length<2^62)]) (fun f=>by
  show M.qj (f+1) l (l.length:Int)=_
  rw[M.qj];simp)]
 unfold qC;rw[Ec,Ed,nodup_range];cases decide (1<=l.length)<;>cases decide (l.length<=16)<;>cases l.all dn<;>cases nodupB l<;>rfl
theorem azi(l:List (List UInt8))(h:aB List.length l<=1048576):M.DL l=some (qC l):=by
 have hl:=cN (bW List.length l) h;have c1:∀s:List UInt8,s.length<=1048576->M.DJ s=some (!dn s):=fun s hs=>by
  unfold M.DJ;rw[ru s hs];rfl
 have cf:M.DK l=some (l.any fun s=> !dn s):=by
  have e:=ft (p:=fun s=> !dn s) (F:=M.vY l (l.length:Int)) (e:=()) (fun k=>k) l (by omega) (fun f k hk=>by
   rw[M.vY];have hn:l[k].length<=1048576:=cN (da List.length _ _ (bK hk)) h;simp only[getD_lt hk,bn,bz,bU,hk,bD,aG,cC,bj,aS,bE hk (by omega:l.length<2^62),c1 _ hn,aZ,bf]) (fun f=>by rw[M.vY];simp)
  unfold M.DK M.Jw;rw[e,jH];cases l.findIdx? (fun s=> !dn s)<;>simp
 unfold M.DL;rw[cf,FC l hl];have e1:decide ((1:Int)<=((l.length:Nat):Int))=decide (1<=l.length):=by simp only[fl];omega
 have e2:decide (((l.length:Nat):Int)<=16)=decide (l.length<=16):=by simp only[fl];omega
 have e3:(l.any fun s=> !dn s)= !l.all dn:=by rw[wu]
 unfold qC;simp only[bf,cC,aS,aG,aZ,e1,e2,e3,wG];cases decide (1<=l.length)<;>cases decide (l.length<=16)<;>cases l.all dn<;>cases nodupB l<;>rfl
end M
namespace M
open Go.V (inB cA ae bS)
theorem aa.OL{a:aa}{N:Nat}(h:a.sz<=N):aB List.length a.bF<=N:=by rw[aa.bL]at h;omega
theorem aa.Eu{a:aa}{N:Nat}(h:a.sz<=N):a.Name.length<=N:=by rw[aa.bL]at h;omega
theorem aa.yM{a:aa}{N:Nat}(h:a.sz<=N):aB aa.sz a.Kids<=N:=by rw[aa.bL]at h;omega
theorem aa.ke{a:aa}{N:Nat}(h:a.sz<=N):a.Kids.length<=N:=cN (bW _ _) (aa.yM h)
theorem aa.azj{a:aa}{N:Nat}(h:a.sz<=N):a.bF.length<=N:=cN (bW _ _) (aa.OL h)
theorem aa.iL{a x:aa}(h:x∈a.Kids):x.sz<a.sz:=by
 rw[aa.bL a];have:=pn aa.sz _ _ h;omega
theorem azk(t:aa)(h:t.sz<=1048576):M.vW t=some (t.Kids.any fZ):=by
 have hl:=aa.ke h;have e:=ft (p:=fZ) (F:=fun f i=>M.oN f i t) (e:=()) (fun _=>true) t.Kids (by omega) (fun f k hk=>by
  show M.oN (f+1) (k:Int) t=_
  rw[M.oN];simp only[aa.ai,getD_lt hk,bn,bz,bU,hk,bD,aG,cC,bj,aS,bE hk (by omega:t.Kids.length<2^62),fZ]) (fun f=>by
  show M.oN (f+1) _ t=_
  rw[M.oN];simp)
 unfold M.vW;rw[aa.ai,jH];have e':M.oN ae 0 t=_:=e;rw[e'];cases t.Kids.findIdx? fZ<;>simp
theorem JO(lo hi:Int):∀(m:Nat)(t:aa),t.sz<m->t.sz<=1048576->M.lK m t lo hi=some (gP (fun k=>decide (lo<=k)&&decide (k<=hi)) t)
 |0,t,h,_=>absurd h (jy _)
 |m+1,t,h,hN=>by
  have hl:=aa.ke hN;have e:=ft (p:=gP (fun k=>decide (lo<=k)&&decide (k<=hi))) (F:=fun f i=>M.oO (M.lK m) lo hi f i t) (e:=()) (fun _=>true) t.Kids (by omega) (fun f k hk=>by
   show M.oO (M.lK m) lo hi (f+1) (k:Int) t=_
   rw[M.oO];have hx:=aa.iL (bK hk);simp only[aa.ai,getD_lt hk,JO lo hi m t.Kids[k] (by omega) (by omega),bn,bz,bU,hk,bD,aG,cC,bj,aS,bE hk (by omega:t.Kids.length<2^62),aZ,bf]) (fun f=>by
   show M.oO (M.lK m) lo hi (f+1) _ t=_
   rw[M.oO];simp)
  show M.Jk (M.lK m) t lo hi=_
  unfold M.Jk;have e':M.oO (M.lK m) lo hi ae 0 t=_:=e;rw[aa.ai,e',ahW,OJ,jH];cases (decide (lo<=t.Kind)&&decide (t.Kind<=hi))<;>cases t.Kids.findIdx? (gP fun k=>decide (lo<=k)&&decide (k<=hi))<;>simp
theorem azl(l:List Int)(v:Int)(hl:l.length<2^62):M.DO l v=some (l.any fun x=>v==x):=by
 have e:=ft (p:=fun x=>v==x) (F:=M.v7 l v (l.length:Int)) (e:=()) (fun k=>k) l hl (fun f k hk=>by
  rw[M.v7];simp only[getD_lt hk,bn,bz,bU,hk,bD,aG,cC,bj,aS,bE hk hl]) (fun f=>by rw[M.v7];simp)
 unfold M.DO M.JB;rw[e,jH];cases l.findIdx? (fun x=>v==x)<;>simp
theorem JP(ks:List Int)(hk:ks.length<2^62):∀(m:Nat)(t:aa),t.sz<m->t.sz<=1048576->M.mn m t ks=some (gP (fun k=>ks.any fun x=>k==x) t)
 |0,t,h,_=>absurd h (jy _)
 |m+1,t,h,hN=>by
  have hl:=aa.ke hN;have e:=ft (p:=gP (fun k=>ks.any fun x=>k==x)) (F:=M.v8 (M.mn m) t.Kids ks (t.Kids.length:Int)) (e:=()) (fun k=>k) t.Kids (by omega) (fun f k hk'=>by
   rw[M.v8];have hx:=aa.iL (bK hk');have c:M.DR (M.mn m) t.Kids[k] ks=some (gP (fun k=>ks.any fun x=>k==x) t.Kids[k]):=by
    unfold M.DR;simp only[aa.ai,JP ks hk m t.Kids[k] (by omega) (by omega)];rfl
   simp only[aa.ai,getD_lt hk',c,bn,bz,bU,hk',bD,aG,cC,bj,aS,bE hk' (by omega:t.Kids.length<2^62),aZ,bf]) (fun f=>by
   rw[M.v8];simp)
  have e2:M.DT (M.mn m) t.Kids ks=some (t.Kids.any (gP (fun k=>ks.any fun x=>k==x))):=by
   unfold M.DT M.JD;rw[e,jH];cases t.Kids.findIdx? (gP (fun k=>ks.any fun x=>k==x))<;>simp
  show M.JE (M.mn m) t ks=_
  unfold M.JE;rw[e2,azl ks _ hk,ahW,OJ];simp
theorem OM:∀(l:List aa),(∀x∈l,dV x<=x.sz+1)->dB l<=aB aa.sz l
 |[],_=>cr _
 |x::r,h=>by
  have:=OM r fun y hy=>h y (pw _ hy)
  have:=h x (qD ..);simp only[dB,aB];omega
theorem ah0:∀(n:Nat)(t:aa),t.sz<n->dV t<=t.sz+1
 |0,t,h=>absurd h (jy _)
 |n+1,t,h=>by
  have:=OM t.Kids fun x hx=>ah0 n x (by have:=aa.iL hx;omega)
  rw[qo,aa.bL];omega
theorem Ea(t:aa):dV t<=t.sz+1:=ah0 _ t (D7 _)
theorem D9{l:List aa}{N:Nat}(h:aB aa.sz l<=N):dB l<=N:=cN (OM l fun x _=>Ea x) h
theorem aw2(l:List aa)(k:Nat):dB (l.take k)<=dB l:=by
 have:∀(a b:List aa),dB (a++b)=dB a+dB b:=fun a b=>by
  induction a with
  |nil=>simp[dB]
  |cons x r ih=>simp only[mM,dB,ih];omega
 have h:=this (l.take k) (l.drop k);rw[List.take_append_drop]at h;omega
theorem ah1:∀(m:Nat)(t:aa),t.sz<m->t.sz<=1048576->M.s7 m t=some ((dV t:Nat):Int)
 |0,t,h,_=>absurd h (jy _)
 |m+1,t,h,hN=>by
  have hl:=aa.ke hN;have hs:=D9 (aa.yM hN);have key:∀f k (a:Nat),k<=t.Kids.length->t.Kids.length-k<f->a+dB (t.Kids.drop k)<=1048577->M.s6 (M.s7 m) t.Kids (t.Kids.length:Int) f (a:Int) (k:Int)=some (((a+dB (t.Kids.drop k):Nat)):Int):=by
   intro f
   induction f with
   |zero=>intro k a h1 h2;omega
   |succ f ih=>
    intro k a h1 h2 h3;rcases cJ k t.Kids.length with hk|hk
    ·rw[M.s6];have hx:=aa.iL (bK hk);rw[wo hk]at h3⊢;have hw:Go.IntKind.wrap .i64 ((a:Int)+((dV t.Kids[k]:Nat):Int))=((a+dV t.Kids[k]:Nat):Int):=by rw[wrap_i64 (by omega) (by omega)];omega
     simp only[aa.ai,getD_lt hk,ah1 m t.Kids[k] (by omega) (by omega),bn,bz,bU,hk,bD,aG,bj,aS,bE hk (by omega:t.Kids.length<2^62),aZ,bf,hw];rw[ih (k+1) _ (by omega) (by omega) (by omega)];congr 1;omega
    ·have:k=t.Kids.length:=by omega
     subst this;rw[M.s6];simp[gG,dB]
  show M.Jr (M.s7 m) t=_
  unfold M.Jr;have e:=key ae 0 1 (cU _) (by have:=bS;omega) (by simp only[fW];omega);have e':M.s6 (M.s7 m) t.Kids (t.Kids.length:Int) ae 1 0=_:=e;rw[e',qo];rfl
theorem ah2:∀(m:Nat)(t:aa)(L:Nat),L<m->L<=100->t.sz<=1048576->M.sZ m t (L:Int)=some ((min (hQ t) (L+1):Nat):Int)
 |0,t,L,h,_,_=>absurd h (jy _)
 |m+1,t,L,h,hL,hN=>by
  have hl:=aa.ke hN
  show M.Jp (M.sZ m) t (L:Int)=_
  unfold M.Jp;cases L with
  |zero=>
   have:=ahZ t;rw[show min (hQ t) (0+1)=1 by omega];rfl
  |succ L=>
   have hw0:Go.IntKind.wrap .i64 (((L+1:Nat):Int)-1)=(L:Int):=by rw[wrap_i64 (by omega) (by omega)];omega
   have key:∀f k (a:Nat),k<=t.Kids.length->t.Kids.length-k<f->M.sY (M.sZ m) ((L+1:Nat):Int) t.Kids (t.Kids.length:Int) f (a:Int) (k:Int)=some ((max a (min (kq (t.Kids.drop k)) (L+1)):Nat):Int):=by
    intro f
    induction f with
    |zero=>intro k a h1 h2;omega
    |succ f ih=>
     intro k a h1 h2;rcases cJ k t.Kids.length with hk|hk
     ·rw[M.sY];have hx:=aa.iL (bK hk);simp only[aa.ai,getD_lt hk,hw0,ah2 m t.Kids[k] L (by omega) (by omega) (by omega),bn,bz,bU,hk,bD,aG,bj,aS,bE hk (by omega:t.Kids.length<2^62),aZ,bf];have hm:(bif decide (a<min (hQ t.Kids[k]) (L+1))then((min (hQ t.Kids[k]) (L+1):Nat):Int)else(a:Int))=((max a (min (hQ t.Kids[k]) (L+1)):Nat):Int):=by
       by_cases hc:a<min (hQ t.Kids[k]) (L+1)
       ·simp only[hc,bD,aG];omega
       ·simp only[hc,nX,bM];omega
      rw[hm,ih (k+1) _ (by omega) (by omega),ahY hk];congr 1;omega
     ·have:k=t.Kids.length:=by omega
      subst this;rw[M.sY];simp[gG,kq]
   have e:=key ae 0 0 (cU _) (by have:=bS;omega);have e':M.sY (M.sZ m) ((L+1:Nat):Int) t.Kids (t.Kids.length:Int) ae 0 0=_:=e;have d:(((L+1:Nat):Int)==0)=false:=by rw[eI];omega
   rw[d,e',OI];simp only[bM,fW];rw[wrap_i64 (by omega) (by omega)];congr 1;omega
end M
namespace M
open Go.V (inB cA ae bS)
def qE(d:Nat)(t:aa):Int×Int:=if d+hQ t<=5/\dV t<=24 then(((hQ t:Nat):Int),((dV t:Nat):Int))else(5,25)
theorem ah3:∀(m d:Nat)(t:aa),d<=5->6<=m+d->t.sz<=1048576->M.sV m t (d:Int)=some (qE d t)
 |0,d,t,h1,h2,_=>by omega
 |m+1,d,t,h1,h2,hN=>by
  have hl:=aa.ke hN;have hdp:=ahZ t
  show M.Jf (M.sV m) t (d:Int)=_
  unfold M.Jf;by_cases h5:d=5
  ·subst h5;have:qE 5 t=(5,25):=by unfold qE;rw[ax (by omega)]
   rw[this];rfl
  have d4:decide ((4:Int)<(d:Int))=false:=by rw[ew];omega
  by_cases gK:24<t.Kids.length
  ·have:qE d t=(5,25):=by
    unfold qE;have:=ahX t.Kids;rw[ax (by rw[qo];omega)]
   rw[this,d4];have:decide ((24:Int)<((t.Kids.length:Nat):Int))=true:=by rw[bu];omega
   rw[this];rfl
  have d24:decide ((24:Int)<((t.Kids.length:Nat):Int))=false:=by rw[ew];omega
  have hw:Go.IntKind.wrap .i64 ((d:Int)+1)=((d+1:Nat):Int):=by rw[wrap_i64 (by omega) (by omega)];omega
  have mx:∀a b:Nat,M.mY (a:Int) (b:Int)=some ((max a b:Nat):Int):=fun a b=>by
   unfold M.mY;by_cases hc:b<a
   ·have:decide ((b:Int)<(a:Int))=true:=by rw[bu];omega
    rw[this];simp only[aG];congr 1;omega
   ·have:decide ((b:Int)<(a:Int))=false:=by rw[ew];omega
    rw[this];simp only[bM];congr 1;omega
  have key:∀f k (a p:Nat),k<=t.Kids.length->t.Kids.length-k<f->p<=24->M.sU (M.sV m) (d:Int) f (a:Int) (p:Int) (k:Int) t=
   some (if d+1+kq (t.Kids.drop k)<=5/\p+dB (t.Kids.drop k)<=24 then .inr (((max a (kq (t.Kids.drop k)):Nat):Int),((p+dB (t.Kids.drop k):Nat):Int))else .inl (5,25)):=by
   intro f
   induction f with
   |zero=>intro k a p h1 h2;omega
   |succ f ih=>
    intro k a p h1 h2 h3;rcases cJ k t.Kids.length with hk|hk
    ·rw[M.sU];have hx:=aa.iL (bK hk);have hc:=ah3 m (d+1) t.Kids[k] (by omega) (by omega) (by omega);rw[ahY hk,wo hk];simp only[aa.ai,getD_lt hk,hw,hc,bn,bz,bU,hk,bD,aG,bj,aS,bE hk (by omega:t.Kids.length<2^62),aZ,bf];unfold qE;by_cases hv:d+1+hQ t.Kids[k]<=5/\dV t.Kids[k]<=24
     ·rw[aF hv];have hw2:Go.IntKind.wrap .i64 ((p:Int)+((dV t.Kids[k]:Nat):Int))=((p+dV t.Kids[k]:Nat):Int):=by rw[wrap_i64 (by omega) (by omega)];omega
      dsimp only;rw[hw2,mx];by_cases hp:24<p+dV t.Kids[k]
      ·have:decide ((24:Int)<((p+dV t.Kids[k]:Nat):Int))=true:=by rw[bu];omega
       rw[this,ax (by omega)];simp
      ·have:decide ((24:Int)<((p+dV t.Kids[k]:Nat):Int))=false:=by rw[ew];omega
       rw[this];simp only[bM,bf,bj,aG,aZ];rw[ih (k+1) _ _ (by omega) (by omega) (by omega)];have e1:(d+1+kq (t.Kids.drop (k+1))<=5/\p+dV t.Kids[k]+dB (t.Kids.drop (k+1))<=24)↔(d+1+max (hQ t.Kids[k]) (kq (t.Kids.drop (k+1)))<=5/\p+(dV t.Kids[k]+dB (t.Kids.drop (k+1)))<=24):=by omega
       by_cases hq:d+1+kq (t.Kids.drop (k+1))<=5/\p+dV t.Kids[k]+dB (t.Kids.drop (k+1))<=24
       ·rw[aF hq,aF (e1.1 hq)];congr 3
        ·omega
        ·omega
       ·rw[ax hq,ax (fun h=>hq (e1.2 h))]
     ·rw[ax hv,ax (by omega)];have hw2:Go.IntKind.wrap .i64 ((p:Int)+25)=(p:Int)+25:=wrap_i64 (by omega) (by omega);have mx5:M.mY (a:Int) 5=some ((max a 5:Nat):Int):=mx a 5;dsimp only;rw[hw2,mx5];have:decide ((24:Int)<(p:Int)+25)=true:=by rw[bu];omega
      rw[this];simp
    ·have:k=t.Kids.length:=by omega
     subst this;rw[M.sU,gG];have hq:d+1+kq []<=5/\p+dB []<=24:=⟨by show d+1+0<=5;omega,by show p+0<=24;omega⟩;rw[aF hq];simp[kq,dB]
  have e:=key ae 0 0 1 (cU _) (by have:=bS;omega) (by omega);have e':M.sU (M.sV m) (d:Int) ae 0 1 0 t=_:=e;rw[aa.ai,d4,d24,e'];simp only[fW,wq,bM];unfold qE;rw[OI,qo];by_cases hq:d+1+kq t.Kids<=5/\1+dB t.Kids<=24
  ·rw[aF hq,aF (by omega)];simp only;congr 2;rw[wrap_i64 (by omega) (by omega)];omega
  ·rw[ax hq,ax (by omega)]
theorem ah4{p:Int->Bool}{l:List aa}(h:l.length=1):gP p (l.getD 0 aa.zero)=kX p l:=by
 match l,h with
 |[x],_=>simp[kX]
theorem yO{p q:Int->Bool}(h:∀k,p k=q k):gP p=gP q:=by
 have:p=q:=funext h;rw[this]
theorem b21(k:Int):(decide ((21:Int)<=k)&&decide (k<=21))=(k==21):=by
 rw[gj];simp only[bJ,bu,dx];omega
theorem yZ(n m:Nat):(((n:Nat):Int)==((m:Nat):Int))=(n==m):=by
 rw[gj];simp only[dx];omega
theorem ah6(n:Nat):(((n:Nat):Int)==1)=(n==1):=yZ n 1
theorem ah7(n:Nat):(((n:Nat):Int)==2)=(n==2):=yZ n 2
theorem ah8(n:Nat):(((n:Nat):Int)==0)=(n==0):=yZ n 0
theorem ON(n:Nat):inB (0:Int) n=decide (0<n):=bz 0 n
theorem azo(t:aa)(h:t.sz<=1048576):M.DG t=some (pg t):=by
 have hn:=rq t.Name (aa.Eu h);have hb:=azh t.bF (aa.OL h);have hu:=azk t h;have hh:t.Kids.length=1->M.jC (M.aa.re (List.getD t.Kids 0 aa.zero)) 21 21=some (kX (fun k=>k==21) t.Kids):=fun h1=>by
  have hx:(t.Kids.getD 0 aa.zero).sz<t.sz:=by
   rw[getD_lt (by omega)];exact aa.iL (bK _)
  rw[aa.ai,show M.jC=M.lK ae from rfl,JO 21 21 ae _ (jb (by omega)) (by omega),yO b21,ah4 h1]
 unfold M.DG;simp only[aa.ai,hn,hb,hu,aZ,bf,cC,aS,bj,aG,ah6,ah7,ah8,yZ,ON,Int.toNat_zero];unfold pg J6;have e0:decide ((0:Int)<((t.bF.length:Nat):Int))= !(t.bF.length==0):=by
  rw[gj];simp only[bu,fk,eI];omega
 have e1:decide ((1:Int)<=((t.Kids.length:Nat):Int))=decide (1<=t.Kids.length):=by simp only[fl];omega
 have e2:decide (((t.Kids.length:Nat):Int)<=6)=decide (t.Kids.length<=6):=by simp only[fl];omega
 rw[e0,e1,e2];have f5:qC t.bF=true->(t.bF.length==0)=false:=fun h=>by
  simp only[qC,bJ,bu]at h;rw[eI];omega
 have f6:dn t.Name=true->(t.Name==[])=false:=fun h=>by
  simp only[dn,bJ,bu]at h;rw[eI];intro e;rw[e]at h;simp at h
 unfold te OK;have hz:t.Kids.length=1->decide (0<t.Kids.length)=true:=fun h1=>by rw[h1];rfl
 have hl1:(t.Kids.length==1)=true->t.Kids.length=1:=fun h1=>by simpa using h1
 have hbr:(t.Kids.length==1)=true->M.jC (M.aa.re (List.getD t.Kids 0 aa.zero)) 21 21=some (kX (fun k=>k==21) t.Kids)/\decide (0<t.Kids.length)=true:=fun h1=>⟨hh (hl1 h1),hz (hl1 h1)⟩
 clear hn hb hu hh hz hl1;simp only[aa.ai]at hbr⊢;generalize hK:t.Kind=K;generalize (t.Name==[])=nn at f6⊢;generalize dn t.Name=no at f6⊢;generalize qC t.bF=lo at f5⊢;generalize (t.bF.length==0)=ll at f5⊢;generalize M.jC (List.getD t.Kids 0 aa.zero) 21 21=o at hbr⊢;generalize decide (0<t.Kids.length)=z at hbr⊢;generalize (t.Kids.length==1)=l1 at hbr⊢;generalize kX (fun k=>k==21) t.Kids=kh at hbr⊢;generalize t.Kids.any fZ=au;generalize (t.Kids.length==2)=l2;generalize (t.Kids.length==0)=l0;generalize (t.Kids.length==t.bF.length)=lk;generalize decide (1<=t.Kids.length)=ge;generalize decide (t.Kids.length<=6)=le;clear hK h e0 e1 e2;by_cases h12:K=12
 ·subst h12;cases l1
  ·cases no<;>cases nn<;>simp at f6<;>cases lo<;>cases ll<;>simp at f5<;>simp
  ·obtain⟨rfl,rfl⟩:=hbr rfl;cases no<;>cases nn<;>simp at f6<;>cases lo<;>cases ll<;>simp at f5<;>simp
 by_cases h13:K=13
 ·subst h13;cases l1
  ·cases no<;>cases nn<;>simp at f6<;>cases lo<;>cases ll<;>simp at f5<;>simp
  ·obtain⟨rfl,rfl⟩:=hbr rfl;cases no<;>cases nn<;>simp at f6<;>cases lo<;>cases ll<;>simp at f5<;>simp
 by_cases wM:K=14
 ·subst wM;cases l1
  ·cases no<;>cases nn<;>simp at f6<;>cases lo<;>cases ll<;>simp at f5<;>simp
  ·obtain⟨rfl,rfl⟩:=hbr rfl;cases no<;>cases nn<;>simp at f6<;>cases lo<;>cases ll<;>simp at f5<;>simp
 by_cases h15:K=15
 ·subst h15;cases l1
  ·cases no<;>cases nn<;>simp at f6<;>cases lo<;>cases ll<;>simp at f5<;>simp
  ·obtain⟨rfl,rfl⟩:=hbr rfl;cases no<;>cases nn<;>simp at f6<;>cases lo<;>cases ll<;>simp at f5<;>simp
 by_cases h16:K=16
 ·subst h16;cases l1
  ·cases no<;>cases nn<;>simp at f6<;>cases lo<;>cases ll<;>simp at f5<;>simp
  ·obtain⟨rfl,rfl⟩:=hbr rfl;cases no<;>cases nn<;>simp at f6<;>cases lo<;>cases ll<;>simp at f5<;>simp
 by_cases h17:K=17
 ·subst h17;cases l1
  ·cases no<;>cases nn<;>simp at f6<;>cases lo<;>cases ll<;>simp at f5<;>simp
  ·obtain⟨rfl,rfl⟩:=hbr rfl;cases no<;>cases nn<;>simp at f6<;>cases lo<;>cases ll<;>simp at f5<;>simp
 by_cases h18:K=18
 ·subst h18;cases l1
  ·cases no<;>cases nn<;>simp at f6<;>cases lo<;>cases ll<;>simp at f5<;>simp
  ·obtain⟨rfl,rfl⟩:=hbr rfl;cases no<;>cases nn<;>simp at f6<;>cases lo<;>cases ll<;>simp at f5<;>simp
 by_cases h19:K=19
 ·subst h19;cases l1
  ·cases no<;>cases nn<;>simp at f6<;>cases lo<;>cases ll<;>simp at f5<;>simp
  ·obtain⟨rfl,rfl⟩:=hbr rfl;cases no<;>cases nn<;>simp at f6<;>cases lo<;>cases ll<;>simp at f5<;>simp
 by_cases h20:K=20
 ·subst h20;cases l1
  ·cases no<;>cases nn<;>simp at f6<;>cases lo<;>cases ll<;>simp at f5<;>simp
  ·obtain⟨rfl,rfl⟩:=hbr rfl;cases no<;>cases nn<;>simp at f6<;>cases lo<;>cases ll<;>simp at f5<;>simp
 by_cases h21:K=21
 ·subst h21;cases l1
  ·cases no<;>cases nn<;>simp at f6<;>cases lo<;>cases ll<;>simp at f5<;>simp
  ·obtain⟨rfl,rfl⟩:=hbr rfl;cases no<;>cases nn<;>simp at f6<;>cases lo<;>cases ll<;>simp at f5<;>simp
 by_cases h22:K=22
 ·subst h22;cases l1
  ·cases no<;>cases nn<;>simp at f6<;>cases lo<;>cases ll<;>simp at f5<;>simp
  ·obtain⟨rfl,rfl⟩:=hbr rfl;cases no<;>cases nn<;>simp at f6<;>cases lo<;>cases ll<;>simp at f5<;>simp
 by_cases h23:K=23
 ·subst h23;cases l1
  ·cases no<;>cases nn<;>simp at f6<;>cases lo<;>cases ll<;>simp at f5<;>simp
  ·obtain⟨rfl,rfl⟩:=hbr rfl;cases no<;>cases nn<;>simp at f6<;>cases lo<;>cases ll<;>simp at f5<;>simp
 have q1:(K==20)=false:=by simpa using h20
 have q2:(K==21)=false:=by simpa using h21
 have q3:(decide ((16:Int)<=K)&&decide (K<=19))=false:=by
  rw[kj];simp only[ne_eq,bJ,bu];omega
 have q4:(K==12)=false:=by simpa using h12
 have q5:(K==13)=false:=by simpa using h13
 have q6:(K==14)=false:=by simpa using wM
 have q7:(K==15)=false:=by simpa using h15
 have q8:(K==16)=false:=by simpa using h16
 have q9:(K==17)=false:=by simpa using h17
 have q10:(K==22)=false:=by simpa using h22
 have q11:(K==23)=false:=by simpa using h23
 simp only[q1,q2,q3,q4,q5,q6,q7,q8,q9,q10,q11,h12,h13,wM,h15,h16,h17,h22,h23,or_self,gw];cases nn<;>cases ll<;>simp
end M
namespace M
open Go.V (inB cA ae bS)
theorem ah9:∀(m:Nat)(t:aa),t.sz<m->t.sz<=1048576->M.oQ m t=some (eN t)
 |0,t,h,_=>absurd h (jy _)
 |m+1,t,h,hN=>by
  have hl:=aa.ke hN;have e:=mP (p:=eN) (F:=fun f i=>M.oP (M.oQ m) f i t) (e:=()) (b:=false) t.Kids (by omega) (fun f k hk=>by
   show M.oP (M.oQ m) (f+1) (k:Int) t=_
   rw[M.oP];have hx:=aa.iL (bK hk);simp only[aa.ai,getD_lt hk,ah9 m t.Kids[k] (by omega) (by omega),bn,bz,bU,hk,bD,aG,cC,bj,aS,bE hk (by omega:t.Kids.length<2^62),aZ,bf];cases eN t.Kids[k]<;>rfl) (fun f=>by
   show M.oP (M.oQ m) (f+1) _ t=_
   rw[M.oP];simp)
  show M.Jm (M.oQ m) t=_
  unfold M.Jm;have e':M.oP (M.oQ m) ae 0 t=_:=e;rw[aa.ai,azo t hN,e',yL,D8];cases pg t<;>cases t.Kids.all eN<;>simp
theorem OO(t:aa)(h:t.sz<=1048576):M.rQ t=some (gz t):=by
 unfold M.rQ;have e1:M.Jn t=some (eN t):=ah9 ae t (jb h) h;have e2:M.Jg t 1=some (qE 1 t):=ah3 ae 1 t (by omega) (by have:=bS;omega) h;simp only[aa.ai,e1,e2,aZ,bf,cC,aS,aG];unfold gz qE;by_cases hq:1+hQ t<=5/\dV t<=24
 ·rw[aF hq];have a1:decide (((hQ t:Nat):Int)<=4)=decide (hQ t<=4):=by simp only[fl];omega
  have a2:decide (((dV t:Nat):Int)<=24)=decide (dV t<=24):=by simp only[fl];omega
  dsimp only;rw[a1,a2]
 ·rw[ax hq];have:(decide (hQ t<=4)&&decide (dV t<=24))=false:=by
   rw[kj];simp only[ne_eq,bJ,bu];omega
  rw[this];rfl
theorem azp(t:aa)(h:t.sz<=1048576):M.Bo t=some (gz t):=by
 unfold M.Bo;simp only[aa.ai,OO t h];rfl
end M
namespace M
open Go.V (inB cA ae bS)
theorem azq(l:List aa)(hl:l.length<=1048576):M.DN l=some (l.any fZ):=by
 have e:=ft (p:=fZ) (F:=M.vZ l (l.length:Int)) (e:=()) (fun k=>k) l (by omega) (fun f k hk=>by
  rw[M.vZ];simp only[getD_lt hk,bn,bz,bU,hk,bD,aG,cC,bj,aS,bE hk (by omega:l.length<2^62)];rfl) (fun f=>by rw[M.vZ];simp)
 unfold M.DN M.Jz;rw[e,jH];cases l.findIdx? fZ<;>simp
theorem azr(t:aa)(h:t.sz<=1048576)(n:Nat):M.s9 t (n:Int)=some ((t.Kids.length==n)&& !t.Kids.any fZ):=by
 unfold M.s9;rw[azq t.Kids (aa.ke h)];simp only[bf,cC,aS,aG,aZ,yZ]
theorem azs(t:aa)(h:t.sz<=1048576)(rec:aa->Option Bool)(b:Bool)(hb:M.yD rec t.Kids=some (!b)):M.DU rec t=some (b&&pg t):=by
 have hn:=ru t.Name (aa.Eu h);have hlab:=azi t.bF (aa.OL h);have hk:=azr t h;have hk1:M.s9 t 1=some ((t.Kids.length==1)&& !t.Kids.any fZ):=hk 1;have hh:t.Kids.length=1->M.j0 (M.aa.re (List.getD t.Kids 0 aa.zero)) [21]=some (kX (fun k=>k==21) t.Kids):=fun h1=>by
  have hx:(t.Kids.getD 0 aa.zero).sz<t.sz:=by
   rw[getD_lt (by omega)];exact aa.iL (bK _)
  have e:gP (fun k=>[(21:Int)].any fun x=>k==x)=gP (fun k=>k==21):=yO fun k=>by simp
  rw[aa.ai,show M.j0=M.mn ae from rfl,JP [21] (by simp) ae _ (jb (by omega)) (by omega),e,ah4 h1]
 unfold M.DU;simp only[aa.ai,hb,hn,hlab,hk,hk1,aZ,bf,cC,aS,bj,aG,ah6,ah7,ah8,yZ,ON,Int.toNat_zero];unfold pg J6;have e0:decide ((0:Int)<((t.bF.length:Nat):Int))= !(t.bF.length==0):=by
  rw[gj];simp only[bu,fk,eI];omega
 have e1:decide ((1:Int)<=((t.Kids.length:Nat):Int))=decide (1<=t.Kids.length):=by simp only[fl];omega
 have e2:decide (((t.Kids.length:Nat):Int)<=6)=decide (t.Kids.length<=6):=by simp only[fl];omega
 rw[e0,e1,e2];unfold te OK;have hz:t.Kids.length=1->decide (0<t.Kids.length)=true:=fun h1=>by rw[h1];rfl
 have hl1:(t.Kids.length==1)=true->t.Kids.length=1:=fun h1=>by simpa using h1
 have hbr:(t.Kids.length==1)=true->M.j0 (M.aa.re (List.getD t.Kids 0 aa.zero)) [21]=some (kX (fun k=>k==21) t.Kids)/\decide (0<t.Kids.length)=true:=fun h1=>⟨hh (hl1 h1),hz (hl1 h1)⟩
 clear hn hlab hk hk1 hh hz hl1 hb;simp only[aa.ai]at hbr⊢;generalize hK:t.Kind=K;generalize (t.Name==[])=nn;generalize dn t.Name=no;generalize qC t.bF=lo;generalize (t.bF.length==0)=ll;generalize M.j0 (List.getD t.Kids 0 aa.zero) [21]=o at hbr⊢;generalize decide (0<t.Kids.length)=z at hbr⊢;generalize (t.Kids.length==1)=l1 at hbr⊢;generalize kX (fun k=>k==21) t.Kids=kh at hbr⊢;generalize t.Kids.any fZ=au;generalize (t.Kids.length==2)=l2;generalize (t.Kids.length==0)=l0;have aia:(t.Kids.length==t.Kids.length)=true:=by simp
 rw[aia];generalize (t.Kids.length==t.bF.length)=lk;generalize decide (1<=t.Kids.length)=ge;generalize decide (t.Kids.length<=6)=le;clear hK h e0 e1 e2 aia;cases b
 ·simp
 by_cases h12:K=12
 ·subst h12;cases l1
  ·cases no<;>cases nn<;>cases lo<;>cases ll<;>simp
  ·obtain⟨rfl,rfl⟩:=hbr rfl;cases no<;>cases nn<;>cases lo<;>cases ll<;>simp
 by_cases h13:K=13
 ·subst h13;cases l1
  ·cases no<;>cases nn<;>cases lo<;>cases ll<;>simp
  ·obtain⟨rfl,rfl⟩:=hbr rfl;cases no<;>cases nn<;>cases lo<;>cases ll<;>simp
 by_cases wM:K=14
 ·subst wM;cases l1
  ·cases no<;>cases nn<;>cases lo<;>cases ll<;>simp
  ·obtain⟨rfl,rfl⟩:=hbr rfl;cases no<;>cases nn<;>cases lo<;>cases ll<;>simp
 by_cases h15:K=15
 ·subst h15;cases l1
  ·cases no<;>cases nn<;>cases lo<;>cases ll<;>simp
  ·obtain⟨rfl,rfl⟩:=hbr rfl;cases no<;>cases nn<;>cases lo<;>cases ll<;>simp
 by_cases h16:K=16
 ·subst h16;cases l1
  ·cases no<;>cases nn<;>cases lo<;>cases ll<;>simp
  ·obtain⟨rfl,rfl⟩:=hbr rfl;cases no<;>cases nn<;>cases lo<;>cases ll<;>simp
 by_cases h17:K=17
 ·subst h17;cases l1
  ·cases no<;>cases nn<;>cases lo<;>cases ll<;>simp
  ·obtain⟨rfl,rfl⟩:=hbr rfl;cases no<;>cases nn<;>cases lo<;>cases ll<;>simp
 by_cases h18:K=18
 ·subst h18;cases l1
  ·cases no<;>cases nn<;>cases lo<;>cases ll<;>simp
  ·obtain⟨rfl,rfl⟩:=hbr rfl;cases no<;>cases nn<;>cases lo<;>cases ll<;>simp
 by_cases h19:K=19
 ·subst h19;cases l1
  ·cases no<;>cases nn<;>cases lo<;>cases ll<;>simp
  ·obtain⟨rfl,rfl⟩:=hbr rfl;cases no<;>cases nn<;>cases lo<;>cases ll<;>simp
 by_cases h20:K=20
 ·subst h20;cases l1
  ·cases no<;>cases nn<;>cases lo<;>cases ll<;>simp
  ·obtain⟨rfl,rfl⟩:=hbr rfl;cases no<;>cases nn<;>cases lo<;>cases ll<;>simp
 by_cases h21:K=21
 ·subst h21;cases l1
  ·cases no<;>cases nn<;>cases lo<;>cases ll<;>simp
  ·obtain⟨rfl,rfl⟩:=hbr rfl;cases no<;>cases nn<;>cases lo<;>cases ll<;>simp
 by_cases h22:K=22
 ·subst h22;cases l1
  ·cases no<;>cases nn<;>cases lo<;>cases ll<;>simp
  ·obtain⟨rfl,rfl⟩:=hbr rfl;cases no<;>cases nn<;>cases lo<;>cases ll<;>simp
 by_cases h23:K=23
 ·subst h23;cases l1
  ·cases no<;>cases nn<;>cases lo<;>cases ll<;>simp
  ·obtain⟨rfl,rfl⟩:=hbr rfl;cases no<;>cases nn<;>cases lo<;>cases ll<;>simp
 have q1:(K==20)=false:=by simpa using h20
 have q2:(K==21)=false:=by simpa using h21
 have q3:(decide ((16:Int)<=K)&&decide (K<=19))=false:=by
  rw[kj];simp only[ne_eq,bJ,bu];omega
 have q4:(K==12)=false:=by simpa using h12
 have q5:(K==13)=false:=by simpa using h13
 have q6:(K==14)=false:=by simpa using wM
 have q7:(K==15)=false:=by simpa using h15
 have q8:(K==16)=false:=by simpa using h16
 have q9:(K==17)=false:=by simpa using h17
 have q10:(K==22)=false:=by simpa using h22
 have q11:(K==23)=false:=by simpa using h23
 simp only[q1,q2,q3,q4,q5,q6,q7,q8,q9,q10,q11,h12,h13,wM,h15,h16,h17,h22,h23,or_self,gw];cases nn<;>cases ll<;>simp
theorem aib:∀(m:Nat)(t:aa),t.sz<m->t.sz<=1048576->M.qk m t=some (eN t)
 |0,t,h,_=>absurd h (jy _)
 |m+1,t,h,hN=>by
  have hl:=aa.ke hN;have e:=ft (p:=fun x=> !eN x) (F:=M.vX (M.qk m) t.Kids (t.Kids.length:Int)) (e:=()) (fun k=>k) t.Kids (by omega) (fun f k hk=>by
   rw[M.vX];have hx:=aa.iL (bK hk);have c:M.DI (M.qk m) t.Kids[k]=some (!eN t.Kids[k]):=by
    unfold M.DI;simp only[aa.ai,aib m t.Kids[k] (by omega) (by omega)];rfl
   simp only[aa.ai,getD_lt hk,c,bn,bz,bU,hk,bD,aG,cC,bj,aS,bE hk (by omega:t.Kids.length<2^62),aZ,bf]) (fun f=>by
   rw[M.vX];simp)
  have e2:M.yD (M.qk m) t.Kids=some (!wK t.Kids):=by
   unfold M.yD M.Jt;have e3:(!wK t.Kids)=t.Kids.any fun x=> !eN x:=by rw[D8,wu]
   rw[e,e3,jH];cases t.Kids.findIdx? (fun x=> !eN x)<;>simp
  show M.DU (M.qk m) t=_
  rw[azs t hN _ _ e2,yL,Bool.and_comm]
theorem aic(t:aa)(h:t.sz<=1048576):M.uG t=some (gz t):=by
 unfold M.uG;have e1:M.FT t=some (eN t):=aib ae t (jb h) h;have e2:M.FQ t 4=some ((min (hQ t) 5:Nat):Int):=ah2 ae t 4 (by have:=bS;omega) (by omega) h;have e3:M.FR t=some ((dV t:Nat):Int):=ah1 ae t (jb h) h;simp only[aa.ai,e1,e2,e3,aZ,bf,cC,aS,aG];have a1:decide (((min (hQ t) 5:Nat):Int)<=4)=decide (hQ t<=4):=by simp only[fl];omega
 have a2:decide (((dV t:Nat):Int)<=24)=decide (dV t<=24):=by simp only[fl];omega
 rw[a1,a2];rfl
end M
namespace M
open Go.V (inB cA ae bS)
def ik:List Int->List Int->List Int
 |[],b=>b
 |x::a,[]=>x::a
 |x::a,y::b=>max x y::ik a b
theorem J7(a:List Int):ik a []=a:=by cases a<;>rfl
theorem J8:∀a b:List Int,(ik a b).length=max a.length b.length
 |[],b=>by simp[ik]
 |x::a,[]=>by simp[ik]
 |x::a,y::b=>by simp only[ik,cD,J8 a b];omega
def ones(l:List Int):Prop:=∀x∈l,x=1\/x=2
theorem OP:∀a b:List Int,ones a->ones b->ones (ik a b)
 |[],b,_,h=>h
 |x::a,[],h,_=>h
 |x::a,y::b,ha,hb=>by
  intro z hz;rcases eH.1 hz with rfl|hz
  ·have:=ha x (qD ..);have:=hb y (qD ..);omega
  ·exact OP a b (fun w hw=>ha w (pw _ hw)) (fun w hw=>hb w (pw _ hw)) z hz
theorem OQ{a b:List Int}(ha:ones a)(hb:ones b):ones (a++b):=fun x hx=>(dy.1 hx).elim (ha x) (hb x)
mutual
def fC:aa->List Int
 |.mk k n l kids=>
   if k=1 then[]else if k=9 then[2]else if k=11\/k=12 then[1,1]
   else if k=15\/k=16 then fm kids
   else if k=13 then 1::tB kids
   else if k=14\/k=17 then 1::jf [] kids else[1]
def fm:List aa->List Int
 |[]=>[]
 |x::r=>fC x++fm r
def tB:List aa->List Int
 |[]=>[]
 |x::_=>fC x
def jf(a:List Int):List aa->List Int
 |[]=>a
 |x::r=>jf (ik a (fC x)) r
end
theorem jg(t:aa):fC t=(if t.Kind=1 then[]else if t.Kind=9 then[2]else if t.Kind=11\/t.Kind=12 then[1,1]
 else if t.Kind=15\/t.Kind=16 then fm t.Kids
 else if t.Kind=13 then 1::tB t.Kids
 else if t.Kind=14\/t.Kind=17 then 1::jf [] t.Kids else[1]):=by cases t;rw[fC];rfl
theorem aid:∀l:List aa,(∀x∈l,ones (fC x))->ones (fm l)
 |[],_=>fun x hx=>by simp[fm]at hx
 |x::r,h=>by
  rw[fm];exact OQ (h x (qD ..)) (aid r fun y hy=>h y (pw _ hy))
theorem aie:∀(l:List aa)(a:List Int),ones a->(∀x∈l,ones (fC x))->ones (jf a l)
 |[],a,ha,_=>ha
 |x::r,a,ha,h=>aie r _ (OP _ _ ha (h x (qD ..))) fun y hy=>h y (pw _ hy)
theorem aif:∀(n:Nat)(t:aa),t.sz<n->ones (fC t)
 |0,t,h=>absurd h (jy _)
 |n+1,t,h=>by
  have hk:∀x∈t.Kids,ones (fC x):=fun x hx=>aif n x (by have:=aa.iL hx;omega)
  have h0:ones []:=fun x hx=>by simp at hx
  have h1:ones [1]:=fun x hx=>by simp at hx;exact .inl hx
  rw[jg];by_cases q1:t.Kind=1
  ·rw[aF q1];exact h0
  rw[ax q1];by_cases q2:t.Kind=9
  ·rw[aF q2];intro x hx;simp at hx;exact .inr hx
  rw[ax q2];by_cases q3:t.Kind=11\/t.Kind=12
  ·rw[aF q3];intro x hx;simp at hx;exact .inl hx
  rw[ax q3];by_cases q4:t.Kind=15\/t.Kind=16
  ·rw[aF q4];exact aid _ hk
  rw[ax q4];by_cases q5:t.Kind=13
  ·rw[aF q5];refine OQ h1 (b:=tB t.Kids) ?_;cases hks:t.Kids with
   |nil=>exact h0
   |cons x r=>exact hk x (by rw[hks];exact qD ..)
  rw[ax q5];by_cases q6:t.Kind=14\/t.Kind=17
  ·rw[aF q6];exact OQ h1 (aie _ _ h0 hk)
  rw[ax q6];exact h1
theorem aih(t:aa):ones (fC t):=aif _ t (D7 _)
theorem aii:∀l:List aa,(∀x∈l,(fC x).length<=2*dV x)->(fm l).length<=2*dB l
 |[],_=>cr _
 |x::r,h=>by
  have:=aii r fun y hy=>h y (pw _ hy)
  have:=h x (qD ..);simp only[fm,dB,ek];omega
theorem J9:∀(l:List aa)(a:List Int),(∀x∈l,(fC x).length<=2*dV x)->(jf a l).length<=a.length+2*dB l
 |[],a,_=>by simp[jf]
 |x::r,a,h=>by
  have h1:=J9 r (ik a (fC x)) fun y hy=>h y (pw _ hy)
  have:=h x (qD ..);rw[J8]at h1;simp only[jf,dB];omega
theorem aij:∀(n:Nat)(t:aa),t.sz<n->(fC t).length<=2*dV t
 |0,t,h=>absurd h (jy _)
 |n+1,t,h=>by
  have hk:∀x∈t.Kids,(fC x).length<=2*dV x:=fun x hx=>aij n x (by have:=aa.iL hx;omega)
  have a1:=aii _ hk;have a2:=J9 _ [] hk;have a3:(tB t.Kids).length<=2*dB t.Kids:=by
   cases hks:t.Kids with
   |nil=>simp[tB]
   |cons x r=>
    have:=hk x (by rw[hks];exact qD ..);simp only[tB,dB];omega
  rw[jg,qo]
  repeat' split
  all_goals simp only[cD,dj]at*
  all_goals omega
theorem y8(t:aa):(fC t).length<=2*dV t:=aij _ t (D7 _)
theorem aik{l:List aa}{k:Nat}(h:k<l.length):fm (l.drop k)=fC l[k]++fm (l.drop (k+1)):=by rw[eD h];rfl
theorem ail{l:List aa}{k:Nat}(a:List Int)(h:k<l.length):jf a (l.drop k)=jf (ik a (fC l[k])) (l.drop (k+1)):=by rw[eD h];rfl
theorem aim{a b:List Int}{k:Nat}(ha:k<a.length)(hb:k<b.length):ik (a.drop k) (b.drop k)=max a[k] b[k]::ik (a.drop (k+1)) (b.drop (k+1)):=by rw[eD ha,eD hb];rfl
theorem azt(a b:List Int)(ha:a.length<=4194304)(hb:b.length<=4194304):M.Br a b=some (ik a b):=by
 have key:∀f k (o:List Int),k<=max a.length b.length->max a.length b.length-k<f->o.length=k->M.ou a b f (k:Int) o=some (o++ik (a.drop k) (b.drop k)):=by
  intro f
  induction f with
  |zero=>intro k o h1 h2;omega
  |succ f ih=>
   intro k o h1 h2 h3;rcases cJ k (max a.length b.length)with hk|hk
   ·rw[M.ou];have hw:Go.IntKind.wrap .i64 ((k:Int)+1)=((k+1:Nat):Int):=bE hk (by omega);rcases cJ k b.length with hkb|hkb
    ·have c1:decide (((b.length:Nat):Int)<=(k:Int))=false:=by simp only[ew];omega
     rcases cJ k a.length with hka|hka
     ·have c2:decide (((a.length:Nat):Int)<=(k:Int))=false:=by simp only[ew];omega
      have hm:M.mY a[k] b[k]=some (max a[k] b[k]):=by
       unfold M.mY;rcases Int.lt_or_le b[k] a[k]with h|h
       ·rw[jt h,aG];congr 1;omega
       ·rw[ly (by omega),bM];congr 1;omega
      simp only[c1,c2,getD_lt hka,getD_lt hkb,hm,bn,bz,bU,hka,hkb,bD,cC,aG,bM,bj,aS,aZ,bf,hw,h3,cD,dj];rw[show decide (k+(0+1)<=1073741824)=true by simp only[bu];omega,aG,ih (k+1) _ (by omega) (by omega) (by simp[h3]),aim hka hkb];simp
     ·have c2:decide (((a.length:Nat):Int)<=(k:Int))=true:=by simp only[bu];omega
      simp only[c1,c2,getD_lt hkb,bn,bz,bU,hkb,bD,pO,aG,bM,bj,aS,hw,h3,cD,dj];rw[show decide (k+(0+1)<=1073741824)=true by simp only[bu];omega,aG,ih (k+1) _ (by omega) (by omega) (by simp[h3]),lS hka,lS (by omega:a.length<=k+1),eD hkb];simp[ik]
    ·have c1:decide (((b.length:Nat):Int)<=(k:Int))=true:=by simp only[bu];omega
     have hka:k<a.length:=by omega
     simp only[c1,getD_lt hka,bn,bz,bU,hka,bD,cC,aG,bM,bj,aS,hw,h3,cD,dj];rw[show decide (k+(0+1)<=1073741824)=true by simp only[bu];omega,aG,ih (k+1) _ (by omega) (by omega) (by simp[h3]),lS hkb,lS (by omega:b.length<=k+1),eD hka,J7,J7];simp
   ·rw[M.ou];have n1:¬(k:Int)<((a.length:Nat):Int):=by omega
    have n2:¬(k:Int)<((b.length:Nat):Int):=by omega
    simp only[n1,n2,nX,wq,bM];rw[lS (by omega:a.length<=k),lS (by omega:b.length<=k)];simp[ik]
 unfold M.Br;have e:=key ae 0 [] (cU _) (by have:=bS;omega) rfl;have e':M.ou a b ae 0 []=_:=e;rw[e'];rfl
theorem azu(a b:List Int)(ha:a.length<=4194304)(hb:b.length<=4194304)(oa:ones a)(ob:ones b):M.BU a b=some (ik a b):=by
 have key:∀f k (o:List Int),k<=max a.length b.length->max a.length b.length-k<f->o.length=k->M.si a b ((max a.length b.length:Nat):Int) f (k:Int) o=some (o++ik (a.drop k) (b.drop k)):=by
  intro f
  induction f with
  |zero=>intro k o h1 h2;omega
  |succ f ih=>
   intro k o h1 h2 h3;rcases cJ k (max a.length b.length)with hk|hk
   ·rw[M.si];have hw:Go.IntKind.wrap .i64 ((k:Int)+1)=((k+1:Nat):Int):=bE hk (by omega);have c0:decide ((k:Int)<((max a.length b.length:Nat):Int))=true:=by simp only[bu];omega
    rw[c0,aG];have hd:decide (o.length+([(1:Int)]:List Int).length<=1073741824)=true:=by simp only[bu,cD,dj];omega
    rcases cJ k b.length with hkb|hkb
    ·have vb:=ob b[k] (bK hkb);rcases cJ k a.length with hka|hka
     ·have va:=oa a[k] (bK hka);simp only[getD_lt hka,getD_lt hkb,bn,bz,bU,hka,hkb,bD,cC,bj,aS,hw,cD,dj];simp only[cD,dj]at hd;rw[hd];have hm:(bif(a[k]==2)||(b[k]==2)then(2:Int)else 1)=max a[k] b[k]:=by
       rcases va with va|va<;>rcases vb with vb|vb<;>rw[va,vb]<;>decide
      rw[hm];have hg:((true|| !((a[k]==(2:Int))||(b[k]==2)))&&(true||((a[k]==(2:Int))||(b[k]==2))))=true:=by simp
      simp only[cC,db,aG];rw[ih (k+1) _ (by omega) (by omega) (by simp[h3]),aim hka hkb];simp
     ·have na:¬(k<a.length):=by omega
      simp only[getD_lt hkb,bn,bz,bU,hkb,na,bD,nX,cC,bj,aS,rf,gm,pO,mg,hw,cD,dj];simp only[cD,dj]at hd;rw[hd];have hm:(bif(b[k]==2)then(2:Int)else 1)=b[k]:=by
       rcases vb with vb|vb<;>rw[vb]<;>decide
      rw[hm];simp;rw[show((k:Nat):Int)+1=((k+1:Nat):Int)from rfl,ih (k+1) _ (by omega) (by omega) (by simp[h3]),lS hka,lS (by omega:a.length<=k+1),eD hkb];simp[ik]
    ·have hka:k<a.length:=by omega
     have va:=oa a[k] (bK hka);have nb:¬(k<b.length):=by omega
     simp only[getD_lt hka,bn,bz,bU,hka,nb,bD,nX,cC,bj,aS,rf,Bool.and_false,gm,mf,pO,mg,hw,cD,dj];simp only[cD,dj]at hd;rw[hd];have hm:(bif(a[k]==2)then(2:Int)else 1)=a[k]:=by
      rcases va with va|va<;>rw[va]<;>decide
     rw[hm];simp;rw[show((k:Nat):Int)+1=((k+1:Nat):Int)from rfl,ih (k+1) _ (by omega) (by omega) (by simp[h3]),lS hkb,lS (by omega:b.length<=k+1),eD hka,J7,J7];simp
   ·rw[M.si];have n1:decide ((k:Int)<((max a.length b.length:Nat):Int))=false:=by simp only[ew];omega
    rw[n1,bM,lS (by omega:a.length<=k),lS (by omega:b.length<=k)];simp[ik]
 unfold M.BU;have hmx:(bif decide (((a.length:Nat):Int)<((b.length:Nat):Int))then((b.length:Nat):Int)else((a.length:Nat):Int))=((max a.length b.length:Nat):Int):=by
  rcases cJ a.length b.length with h|h
  ·rw[jt (by omega),aG];omega
  ·rw[ly (by omega),bM];omega
 rw[hmx];have e:=key ae 0 [] (cU _) (by have:=bS;omega) rfl;have e':M.si a b ((max a.length b.length:Nat):Int) ae 0 []=_:=e;rw[e'];rfl
end M
namespace M
open Go.V (inB cA ae bS)
def dQ(t:aa):List aa:=if t.Kind=13 then[.mk 1 [] [] [],t.Kids.getD 0 aa.zero]else t.Kids
theorem Ew{t:aa}(h:eN t=true)(hk:t.Kind=13):0<t.Kids.length:=by
 rw[yL]at h;have h1:pg t=true:=by rw[bJ]at h;exact h.1
 unfold pg J6 at h1;rw[aF (.inr hk:t.Kind=12\/t.Kind=13)]at h1;simp only[bJ,dx]at h1;omega
theorem Ko{t:aa}(h:eN t=true):∀x∈t.Kids,eN x=true:=by
 rw[yL,bJ,D8,ee]at h;exact h.2
theorem ain(t:aa)(h:eN t=true)(hk:t.Kind=13\/t.Kind=14\/t.Kind=17):M.Bq t=some (dQ t):=by
 unfold M.Bq dQ;by_cases h13:t.Kind=13
 ·have hp:=Ew h h13;rw[aF h13];simp only[aa.ai,h13,ON,hp,bD,aS,aG,Int.toNat_zero,js]
 ·rw[ax h13];rcases hk with hk|hk|hk
  ·exact absurd hk h13
  ·rw[hk];rfl
  ·rw[hk];rfl
theorem azv(t:aa)(h:eN t=true)(hk:t.Kind=13\/t.Kind=14\/t.Kind=17):M.HB t=some (dQ t):=ain t h hk
theorem aio{t:aa}(h:eN t=true)(hk:t.Kind=13\/t.Kind=14\/t.Kind=17):∀x∈dQ t,eN x=true:=by
 unfold dQ;by_cases h13:t.Kind=13
 ·have hp:=Ew h h13;rw[aF h13,getD_lt hp];intro x hx;rcases eH.1 hx with rfl|hx
  ·decide
  ·rcases eH.1 hx with rfl|hx
   ·exact Ko h _ (bK _)
   ·simp at hx
 ·rw[ax h13];exact Ko h
theorem aip{t:aa}(h:eN t=true)(hk:t.Kind=13\/t.Kind=14\/t.Kind=17):∀x∈dQ t,x.sz<t.sz:=by
 unfold dQ;by_cases h13:t.Kind=13
 ·have hp:=Ew h h13;rw[aF h13,getD_lt hp];have hg:(t.Kids[0]).sz<t.sz:=aa.iL (bK _);intro x hx;rcases eH.1 hx with rfl|hx
  ·have:(aa.mk 1 [] [] []).sz=0:=by rw[aa.bL];rfl
   omega
  ·rcases eH.1 hx with rfl|hx
   ·exact hg
   ·simp at hx
 ·rw[ax h13];exact fun x hx=>aa.iL hx
theorem aiq{t:aa}(h:eN t=true)(hk:t.Kind=13\/t.Kind=14\/t.Kind=17):fC t=1::jf [] (dQ t):=by
 unfold dQ;rw[jg];by_cases h13:t.Kind=13
 ·have hp:=Ew h h13;rw[aF h13,getD_lt hp];have q1:¬t.Kind=1:=by omega
  have q2:¬t.Kind=9:=by omega
  have q3:¬(t.Kind=11\/t.Kind=12):=by omega
  have q4:¬(t.Kind=15\/t.Kind=16):=by omega
  rw[ax q1,ax q2,ax q3,ax q4,aF h13];have hu:fC (.mk 1 [] [] [])=[]:=by rw[jg];rfl
  have:∀(l:List aa)(hl:0<l.length),tB l=jf [] [.mk 1 [] [] [],l[0]]:=fun l hl=>by
   cases l with
   |nil=>simp at hl
   |cons x r=>simp only[tB,jf,hu,List.getElem_cons_zero,ik]
  rw[this _ hp]
 ·rw[ax h13];have hk':t.Kind=14\/t.Kind=17:=by omega
  have q1:¬t.Kind=1:=by omega
  have q2:¬t.Kind=9:=by omega
  have q3:¬(t.Kind=11\/t.Kind=12):=by omega
  have q4:¬(t.Kind=15\/t.Kind=16):=by omega
  rw[ax q1,ax q2,ax q3,ax q4,ax h13,aF hk']
theorem air{t:aa}(h:eN t=true)(hk:t.Kind=13\/t.Kind=14\/t.Kind=17)(hN:t.sz<=1048576):dB (dQ t)<=1048580/\(dQ t).length<=1048576+2:=by
 have h1:=D9 (aa.yM hN);have h2:=aa.ke hN;unfold dQ;by_cases h13:t.Kind=13
 ·have hp:=Ew h h13;rw[aF h13,getD_lt hp];have h3:=N6 t.Kids t.Kids[0] (bK _);have:dV (.mk 1 [] [] [])=1:=by rw[qo];rfl
  simp only[dB,this,cD,dj];omega
 ·rw[ax h13];omega
theorem ais(K:Int){P:Prop}(h1:K=1->P)(h9:K=9->P)(h11:K=11->P)(h12:K=12->P)(h15:K=15->P)(h16:K=16->P)
 (hc:(K=13\/K=14\/K=17)->P) (he:(K≠1/\K≠9/\K≠11/\K≠12/\K≠15/\K≠16/\K≠13/\K≠14/\K≠17)->P):P:=by
 by_cases q1:K=1
 ·exact h1 q1
 by_cases q2:K=9
 ·exact h9 q2
 by_cases q3:K=11
 ·exact h11 q3
 by_cases q4:K=12
 ·exact h12 q4
 by_cases q5:K=15
 ·exact h15 q5
 by_cases q6:K=16
 ·exact h16 q6
 by_cases q7:K=13\/K=14\/K=17
 ·exact hc q7
 ·exact he ⟨q1,q2,q3,q4,q5,q6,by omega,by omega,by omega⟩
theorem ait(n:Nat)(rec:List aa->Option (List Int))(hr:∀ts,aB aa.sz ts<n->ts.length<=1048576->aB aa.sz ts<=1048576->(∀x∈ts,eN x=true)->rec ts=some (fm ts)):
 ∀(m:Nat)(t:aa),t.sz<m->t.sz<n->t.sz<=1048576->eN t=true->M.rU rec m t=some (fC t)
 |0,t,h,_,_,_=>absurd h (jy _)
 |m+1,t,h,hn,hN,hs=>by
  have hka:rec t.Kids=some (fm t.Kids):=hr _ (by rw[aa.bL]at hn;omega) (aa.ke hN) (aa.yM hN) (Ko hs)
  show M.G1 rec (M.rU rec m) t=_
  unfold M.G1;refine ais t.Kind ?_ ?_ ?_ ?_ ?_ ?_ ?_ ?_
  ·intro hk;rw[jg];simp only[hk];rfl
  ·intro hk;rw[jg];simp only[hk];rfl
  ·intro hk;rw[jg];simp only[hk];rfl
  ·intro hk;rw[jg];simp only[hk];rfl
  ·intro hk;rw[jg];simp only[hk,hka];rfl
  ·intro hk;rw[jg];simp only[hk,hka];rfl
  ·intro hk;obtain⟨hsum,hlen⟩:=air hs hk hN;have hcs:=aio hs hk;have hcz:=aip hs hk;have key:∀f k (a:List Int),k<=(dQ t).length->(dQ t).length-k<f->a.length+2*dB ((dQ t).drop k)<=2097160->M.rS (M.rU rec m) (dQ t) f (k:Int) a=some (jf a ((dQ t).drop k)):=by
    intro f
    induction f with
    |zero=>intro k a h1 h2;omega
    |succ f ih=>
     intro k a h1 h2 h3;rcases cJ k (dQ t).length with hk'|hk'
     ·rw[M.rS];have hm:=bK hk';have hz:=hcz _ hm;have hfl:=y8 (dQ t)[k];rw[wo hk']at h3;have hj:=azt a (fC (dQ t)[k]) (by omega) (by omega);simp only[aa.ai,getD_lt hk',ait n rec hr m (dQ t)[k] (by omega) (by omega) (by omega) (hcs _ hm),bn,bz,bU,hk',bD,aG,bj,aS,bE hk' (by omega:(dQ t).length<2^62),aZ,bf,hj];rw[ih (k+1) _ (by omega) (by omega) (by rw[J8];omega),ail a hk']
     ·have:k=(dQ t).length:=by omega
      subst this;rw[M.rS];simp[gG,jf]
   have e:=key ae 0 [] (cU _) (by have:=bS;omega) (by simp only[fW,dj];omega);have e':M.rS (M.rU rec m) (dQ t) ae 0 []=_:=e;rw[fW]at e';have hjl:=J9 (dQ t) [] (fun x _=>y8 x);have hd:decide (([(1:Int)]:List Int).length+(jf [] (dQ t)).length<=1073741824)=true:=by simp only[bu,cD,dj]at*;omega
   rw[aiq hs hk];have hce:=ain t hs hk;simp only[aa.ai,hce,aZ,e',hd,bf,db];rcases hk with hk|hk|hk<;>rw[hk]<;>rfl
  ·rintro ⟨q1,q2,q3,q4,q5,q6,q7,q8,q9⟩
   rw[jg,ax q1,ax q2,ax (by omega),ax (by omega),ax q7,ax (by omega)];have b1:(t.Kind==1)=false:=by simpa using q1
   have b2:(t.Kind==9)=false:=by simpa using q2
   have b3:(t.Kind==11)=false:=by simpa using q3
   have b4:(t.Kind==12)=false:=by simpa using q4
   have b5:(t.Kind==15)=false:=by simpa using q5
   have b6:(t.Kind==16)=false:=by simpa using q6
   have b7:(t.Kind==13)=false:=by simpa using q7
   have b8:(t.Kind==14)=false:=by simpa using q8
   have b9:(t.Kind==17)=false:=by simpa using q9
   simp only[b1,b2,b3,b4,b5,b6,b7,b8,b9,bM]
theorem aiu:∀(n:Nat)(ts:List aa),aB aa.sz ts<n->ts.length<=1048576->aB aa.sz ts<=1048576->(∀x∈ts,eN x=true)->M.qb n ts=some (fm ts)
 |0,ts,h,_,_,_=>absurd h (jy _)
 |n+1,ts,h,hl,hN,hs=>by
  have hsum:=D9 hN;have key:∀f k (a:List Int),k<=ts.length->ts.length-k<f->a.length+2*dB (ts.drop k)<=2097160->M.rV (M.qb n) ts f (k:Int) a=some (a++fm (ts.drop k)):=by
   intro f
   induction f with
   |zero=>intro k a h1 h2;omega
   |succ f ih=>
    intro k a h1 h2 h3;rcases cJ k ts.length with hk|hk
    ·rw[M.rV];have hm:=bK hk;have hz:=pn aa.sz _ _ hm;have hfl:=y8 ts[k];rw[wo hk]at h3;have hf:M.G2 (M.qb n) ts[k]=some (fC ts[k]):=ait n _ (fun ts h1 h2 h3 h4=>aiu n ts h1 h2 h3 h4) ae _ (jb (by omega)) (by omega) (by omega) (hs _ hm);have hd:decide (a.length+(fC ts[k]).length<=1073741824)=true:=by simp only[bu];omega
     simp only[aa.ai,getD_lt hk,hf,bn,bz,bU,hk,bD,aG,bj,aS,bE hk (by omega:ts.length<2^62),aZ,bf,hd];rw[ih (k+1) _ (by omega) (by omega) (by rw[ek];omega),aik hk,mO]
    ·have:k=ts.length:=by omega
     subst this;rw[M.rV];simp[gG,fm]
  show M.G4 (M.qb n) ts=_
  unfold M.G4;have e:=key ae 0 [] (cU _) (by have:=bS;omega) (by simp only[fW,dj];omega);have e':M.rV (M.qb n) ts ae 0 []=_:=e;rw[e'];rfl
theorem aiv(n:Nat)(rec:List aa->Option (List Int))(hr:∀ts,aB aa.sz ts<n->ts.length<=1048576->aB aa.sz ts<=1048576->(∀x∈ts,eN x=true)->rec ts=some (fm ts)):
 ∀(m:Nat)(t:aa),t.sz<m->t.sz<n->t.sz<=1048576->eN t=true->M.sk rec m t=some (fC t)
 |0,t,h,_,_,_=>absurd h (jy _)
 |m+1,t,h,hn,hN,hs=>by
  have hka:rec t.Kids=some (fm t.Kids):=hr _ (by rw[aa.bL]at hn;omega) (aa.ke hN) (aa.yM hN) (Ko hs)
  show M.HG rec (M.sk rec m) t=_
  unfold M.HG;refine ais t.Kind ?_ ?_ ?_ ?_ ?_ ?_ ?_ ?_
  ·intro hk;rw[jg];simp only[hk];rfl
  ·intro hk;rw[jg];simp only[hk];rfl
  ·intro hk;rw[jg];simp only[hk];rfl
  ·intro hk;rw[jg];simp only[hk];rfl
  ·intro hk;rw[jg];simp only[hk,hka];rfl
  ·intro hk;rw[jg];simp only[hk,hka];rfl
  ·intro hk;obtain⟨hsum,hlen⟩:=air hs hk hN;have hcs:=aio hs hk;have hcz:=aip hs hk;have key:∀f k (a:List Int),k<=(dQ t).length->(dQ t).length-k<f->a.length+2*dB ((dQ t).drop k)<=2097160->ones a->M.sj (M.sk rec m) (dQ t) ((dQ t).length:Int) f (k:Int) a=some (jf a ((dQ t).drop k)):=by
    intro f
    induction f with
    |zero=>intro k a h1 h2;omega
    |succ f ih=>
     intro k a h1 h2 h3 h4;rcases cJ k (dQ t).length with hk'|hk'
     ·rw[M.sj];have hm:=bK hk';have hz:=hcz _ hm;have hfl:=y8 (dQ t)[k];rw[wo hk']at h3;have hj:=azu a (fC (dQ t)[k]) (by omega) (by omega) h4 (aih _);simp only[aa.ai,getD_lt hk',aiv n rec hr m (dQ t)[k] (by omega) (by omega) (by omega) (hcs _ hm),bn,bz,bU,hk',bD,aG,bj,aS,bE hk' (by omega:(dQ t).length<2^62),aZ,bf,hj];rw[ih (k+1) _ (by omega) (by omega) (by rw[J8];omega) (OP _ _ h4 (aih _)),ail a hk']
     ·have:k=(dQ t).length:=by omega
      subst this;rw[M.sj];simp[gG,jf]
   have e:=key ae 0 [] (cU _) (by have:=bS;omega) (by simp only[fW,dj];omega) (fun x hx=>by simp at hx);have e':M.sj (M.sk rec m) (dQ t) ((dQ t).length:Int) ae 0 []=_:=e;rw[fW]at e';have hjl:=J9 (dQ t) [] (fun x _=>y8 x);have hd:decide (([(1:Int)]:List Int).length+(jf [] (dQ t)).length<=1073741824)=true:=by simp only[bu,cD,dj]at*;omega
   rw[aiq hs hk];have hce:=azv t hs hk;simp only[aa.ai,hce,aZ,e',hd,bf,db];rcases hk with hk|hk|hk<;>rw[hk]<;>rfl
  ·rintro ⟨q1,q2,q3,q4,q5,q6,q7,q8,q9⟩
   rw[jg,ax q1,ax q2,ax (by omega),ax (by omega),ax q7,ax (by omega)];have b1:(t.Kind==1)=false:=by simpa using q1
   have b2:(t.Kind==9)=false:=by simpa using q2
   have b3:(t.Kind==11)=false:=by simpa using q3
   have b4:(t.Kind==12)=false:=by simpa using q4
   have b5:(t.Kind==15)=false:=by simpa using q5
   have b6:(t.Kind==16)=false:=by simpa using q6
   have b7:(t.Kind==13)=false:=by simpa using q7
   have b8:(t.Kind==14)=false:=by simpa using q8
   have b9:(t.Kind==17)=false:=by simpa using q9
   simp only[b1,b2,b3,b4,b5,b6,b7,b8,b9,bM]
theorem aiw:∀(n:Nat)(ts:List aa),aB aa.sz ts<n->ts.length<=1048576->aB aa.sz ts<=1048576->(∀x∈ts,eN x=true)->M.qd n ts=some (fm ts)
 |0,ts,h,_,_,_=>absurd h (jy _)
 |n+1,ts,h,hl,hN,hs=>by
  have hsum:=D9 hN;have key:∀f k (a:List Int),k<=ts.length->ts.length-k<f->a.length+2*dB (ts.drop k)<=2097160->M.sn (M.qd n) ts (ts.length:Int) f (k:Int) a=some (a++fm (ts.drop k)):=by
   intro f
   induction f with
   |zero=>intro k a h1 h2;omega
   |succ f ih=>
    intro k a h1 h2 h3;rcases cJ k ts.length with hk|hk
    ·rw[M.sn];have hm:=bK hk;have hz:=pn aa.sz _ _ hm;have hfl:=y8 ts[k];rw[wo hk]at h3;have hf:M.HH (M.qd n) ts[k]=some (fC ts[k]):=aiv n _ (fun ts h1 h2 h3 h4=>aiw n ts h1 h2 h3 h4) ae _ (jb (by omega)) (by omega) (by omega) (hs _ hm);have hd:decide (a.length+(fC ts[k]).length<=1073741824)=true:=by simp only[bu];omega
     simp only[aa.ai,getD_lt hk,hf,bn,bz,bU,hk,bD,aG,bj,aS,bE hk (by omega:ts.length<2^62),aZ,bf,hd];rw[ih (k+1) _ (by omega) (by omega) (by rw[ek];omega),aik hk,mO]
    ·have:k=ts.length:=by omega
     subst this;rw[M.sn];simp[gG,fm]
  show M.HK (M.qd n) ts=_
  unfold M.HK;have e:=key ae 0 [] (cU _) (by have:=bS;omega) (by simp only[fW,dj];omega);have e':M.sn (M.qd n) ts (ts.length:Int) ae 0 []=_:=e;rw[e'];rfl
end M
namespace M
open Go.V (inB cA ae bS)
theorem al.tf{a:al}{N:Nat}(h:a.sz<=N):a.aI.sz<=N:=by rw[al.bL]at h;omega
theorem al.Eu{a:al}{N:Nat}(h:a.sz<=N):a.Name.length<=N:=by rw[al.bL]at h;omega
def lL(p:al):Bool:= !((!dn p.Name|| !gz p.aI)||fZ p.aI)
def jq(f:av):Bool:=((decide (f.Params.length<=6)&&(f.Params.all lL&&nodupB (f.Params.map al.Name)))&&gz f.Result)&& !gP (fun k=>k==21) f.Result
theorem azw(n:Nat):decide ((6:Int)<((n:Nat):Int))= !decide (n<=6):=by
 rw[gj];simp only[fk,bu,ew];omega
theorem axd(f:av)(h:f.sz<=1048576):M.AH f=some (jq f):=by
 rw[av.bL]at h;have hl:f.Params.length<=1048576:=cN (bW al.sz f.Params) (by omega);have key:∀g k,k<=f.Params.length->f.Params.length-k<g->M.rE f.Params f.Params (f.Params.length:Int) g (k:Int) ((f.Params.take k).map al.Name)=some (if(f.Params.drop k).all lL then .inr (f.Params,f.Params.map al.Name)else .inl false):=by
  intro g
  induction g with
  |zero=>intro k h1 h2;omega
  |succ g ih=>
   intro k h1 h2;rcases cJ k f.Params.length with hk|hk
   ·rw[M.rE];have hm:=da al.sz _ _ (bK hk);have hnm:=ru f.Params[k].Name (al.Eu (N:=1048576) (by omega));have hty:=aic f.Params[k].aI (al.tf (N:=1048576) (by omega));have hd:decide ((((f.Params.take k).map al.Name).length+([f.Params[k].Name]:List (List UInt8)).length)<=1073741824)=true:=by
     simp only[bu,dY,iw,cD,dj];omega
    have ht:(f.Params.take k).map al.Name++[f.Params[k].Name]=(f.Params.take (k+1)).map al.Name:=by
     rw[kK,pP,cw hk];rfl
    have hu:(f.Params[k].aI.Kind==1)=fZ f.Params[k].aI:=rfl;simp only[aa.ai,getD_lt hk,hnm,hty,bn,bz,bU,hk,bD,aG,bj,aS,bE hk (by omega:f.Params.length<2^62),aZ,bf,cC,hd,ht,hu];rw[ih (k+1) (by omega) (by omega),eD hk,kD];rw[show lL f.Params[k]= !((!dn f.Params[k].Name|| !gz f.Params[k].aI)||fZ f.Params[k].aI)from rfl];cases (!dn f.Params[k].Name|| !gz f.Params[k].aI)||fZ f.Params[k].aI<;>simp
   ·have:k=f.Params.length:=by omega
    subst this;rw[M.rE];simp
 have e:=key ae 0 (cU _) (by have:=bS;omega);have e':M.rE f.Params f.Params (f.Params.length:Int) ae 0 []=_:=e;have hd:=FC (f.Params.map al.Name) (by rw[dY];exact hl);have e6:decide (((f.Params.length:Nat):Int)<=6)=decide (f.Params.length<=6):=by simp only[fl];omega
 have hp:M.AG f.Params=some (decide (f.Params.length<=6)&&(f.Params.all lL&&nodupB (f.Params.map al.Name))):=by
  unfold M.AG;rw[e',fW];cases f.Params.all lL
  ·simp
  ·simp only[pt,hd,e6,bf,aZ,cC,bj,aG]
 have hr:=aic f.Result (by omega);have e21:gP (fun k=>[(21:Int)].any fun x=>k==x)=gP (fun k=>k==21):=yO fun k=>by simp
 have hh:M.j0 f.Result [21]=some (gP (fun k=>k==21) f.Result):=by
  rw[show M.j0=M.mn ae from rfl,JP [21] (by simp) ae _ (jb (by omega)) (by omega),e21]
 unfold M.AH;simp only[aa.ai,hp,hr,hh,bf,aZ,cC,bj,aG];rfl
theorem axb(f:av)(h:f.sz<=1048576):M.D4 f=some (jq f):=by
 rw[av.bL]at h;have hl:f.Params.length<=1048576:=cN (bW al.sz f.Params) (by omega);have hin:∀i (hi:i<f.Params.length),M.oV (i:Int) ae 0 f f.Params[i]=some (if(List.range i).all (fun k=> !((f.Params.getD k al.zero).Name==f.Params[i].Name))then .inr ((i:Int),f)else .inl false):=fun i hi=>
  lB (p:=fun k=> !((f.Params.getD k al.zero).Name==f.Params[i].Name)) (F:=fun g k=>M.oV (i:Int) g k f f.Params[i]) (e:=((i:Int),f)) (b:=false) i (by omega) (fun g k hk=>by
   show M.oV (i:Int) (g+1) (k:Int) f f.Params[i]=_
   rw[M.oV];have hk':k<f.Params.length:=by omega
   simp only[av.ai,al.ai,getD_lt hk',bn,bz,bU,hk,hk',bD,aG,aS,bE hk (by omega:i<2^62)];cases (f.Params[k].Name==f.Params[i].Name)<;>rfl) (fun g=>by
   show M.oV (i:Int) (g+1) (i:Int) f f.Params[i]=_
   rw[M.oV];simp[av.ai])
 have hout:M.oW ae 0 f=some (if(List.range f.Params.length).all (fun i=>lL (f.Params.getD i al.zero)&&(List.range i).all (fun k=> !((f.Params.getD k al.zero).Name==(f.Params.getD i al.zero).Name)))then .inr ()else .inl false):=
  lB (p:=fun i=>lL (f.Params.getD i al.zero)&&(List.range i).all (fun k=> !((f.Params.getD k al.zero).Name==(f.Params.getD i al.zero).Name))) (F:=fun g k=>M.oW g k f) (e:=()) (b:=false) f.Params.length (by omega) (fun g k hk=>by
   show M.oW (g+1) (k:Int) f=_
   rw[M.oW];have hm:=da al.sz _ _ (bK hk);have hnm:=rq f.Params[k].Name (al.Eu (N:=1048576) (by omega));have hty:=OO f.Params[k].aI (al.tf (N:=1048576) (by omega));have hu:(f.Params[k].aI.Kind==1)=fZ f.Params[k].aI:=rfl;simp only[aa.ai,av.ai,al.ai,getD_lt hk,hnm,hty,hin k hk,bn,bz,bU,hk,bD,aG,bj,aS,aZ,bf,cC,hu];rw[show lL f.Params[k]= !((!dn f.Params[k].Name|| !gz f.Params[k].aI)||fZ f.Params[k].aI)from rfl];cases (!dn f.Params[k].Name|| !gz f.Params[k].aI)||fZ f.Params[k].aI
   ·cases (List.range k).all (fun k_1=> !((f.Params.getD k_1 al.zero).Name==f.Params[k].Name))
    ·simp
    ·simp[bE hk (by omega:f.Params.length<2^62)]
   ·simp) (fun g=>by
   show M.oW (g+1) (f.Params.length:Int) f=_
   rw[M.oW];simp)
 have hsp:(List.range f.Params.length).all (fun i=>lL (f.Params.getD i al.zero)&&(List.range i).all (fun k=> !((f.Params.getD k al.zero).Name==(f.Params.getD i al.zero).Name)))=(f.Params.all lL&&nodupB (f.Params.map al.Name)):=by
  rw[Ec,Ed,<-nodup_range (f.Params.map al.Name),dY];have hg:∀k,(f.Params.map al.Name).getD k []=(f.Params.getD k al.zero).Name:=fun k=>by
   rw[dK,dK,gn];cases f.Params[k]?<;>rfl
  simp only[hg]
 have hr:=OO f.Result (by omega);have hh:M.jC f.Result 21 21=some (gP (fun k=>k==21) f.Result):=by
  rw[show M.jC=M.lK ae from rfl,JO 21 21 ae _ (jb (by omega)) (by omega)];rw[yO (fun k=>b21 k)]
 unfold M.D4;rw[hsp]at hout;simp only[aa.ai,av.ai,hr,hh,hout,azw,bf,aZ,cC,bj,aS,aG];unfold jq;cases decide (f.Params.length<=6)<;>cases gz f.Result<;>cases gP (fun k=>k==21) f.Result<;>cases (f.Params.all lL&&nodupB (f.Params.map al.Name))<;>simp
end M
namespace M
open Go.V (inB cA ae bS)
theorem OR:∀(m:Nat)(t:aa),t.sz<m->t.sz<=1048576->M.rN m t=some t
 |0,t,h,_=>absurd h (jy _)
 |m+1,t,h,hN=>by
  have hl:=aa.ke hN;have hlb:=aa.azj hN;have key:∀f k,k<=t.Kids.length->t.Kids.length-k<f->M.rM (M.rN m) (0:Int) [] t.Kind t.Name [] [] ([]++t.bF) f (k:Int) t (t.Kids.take k)=some ((0:Int),[],t.Kind,t.Name,[],[],t.bF,t.Kids):=by
   intro f
   induction f with
   |zero=>intro k h1 h2;omega
   |succ f ih=>
    intro k h1 h2;rcases cJ k t.Kids.length with hk|hk
    ·rw[M.rM];have hx:=aa.iL (bK hk);have hd:decide (((t.Kids.take k).length+([t.Kids[k]]:List aa).length)<=1073741824)=true:=by
      simp only[bu,iw,cD,dj];omega
     have ht:t.Kids.take k++[t.Kids[k]]=t.Kids.take (k+1):=by
      rw[kK,cw hk];rfl
     simp only[aa.ai,getD_lt hk,OR m t.Kids[k] (by omega) (by omega),bn,bz,bU,hk,bD,aG,bj,aS,bE hk (by omega:t.Kids.length<2^62),aZ,bf,hd,ht];exact ih (k+1) (by omega) (by omega)
    ·have:k=t.Kids.length:=by omega
     subst this;rw[M.rM];simp
  show M.GM (M.rN m) t=_
  unfold M.GM;have e:=key ae 0 (cU _) (by have:=bS;omega);have e':M.rM (M.rN m) (0:Int) [] t.Kind t.Name [] [] ([]++t.bF) ae 0 t []=_:=e;have hd:decide (0+t.bF.length<=1073741824)=true:=by simp only[bu];omega
  simp only[aa.ai,e',hd,db,aG];cases t;rfl
def f7(f:av):List aa:=f.Params.map al.aI
theorem aix{f:av}:aB aa.sz (f7 f)<=aB al.sz f.Params:=by
 unfold f7
 induction f.Params with
 |nil=>exact cr _
 |cons x r ih=>have:=al.bL x;simp only[jo,aB];omega
theorem aiy(l:List al)(k:Nat)(hk:k<l.length):(l.take k).map al.aI++[l[k].aI]=(l.take (k+1)).map al.aI:=by
 rw[kK,pP,cw hk];rfl
theorem azy(f:av)(h:f.sz<=1048576):M.Bn f=some (f7 f):=by
 rw[av.bL]at h;have hl:f.Params.length<=1048576:=cN (bW al.sz f.Params) (by omega);have key:∀g k,k<=f.Params.length->f.Params.length-k<g->M.rP g (k:Int) f ((f.Params.take k).map al.aI)=some (f7 f):=by
  intro g
  induction g with
  |zero=>intro k h1 h2;omega
  |succ g ih=>
   intro k h1 h2;rcases cJ k f.Params.length with hk|hk
   ·rw[M.rP];have hm:=da al.sz _ _ (bK hk);have ho:M.rO f.Params[k].aI=some f.Params[k].aI:=OR ae _ (jb (al.tf (N:=1048576) (by omega))) (al.tf (N:=1048576) (by omega));have hd:decide ((((f.Params.take k).map al.aI).length+([f.Params[k].aI]:List aa).length)<=1073741824)=true:=by
     simp only[bu,dY,iw,cD,dj];omega
    simp only[aa.ai,av.ai,getD_lt hk,ho,bn,bz,bU,hk,bD,aG,bj,aS,bE hk (by omega:f.Params.length<2^62),aZ,bf,hd,aiy _ k hk];exact ih (k+1) (by omega) (by omega)
   ·have:k=f.Params.length:=by omega
    subst this;rw[M.rP];simp[f7]
 have e:=key ae 0 (cU _) (by have:=bS;omega);have e':M.rP ae 0 f []=_:=e;unfold M.Bn;simp only[av.ai,e']
theorem azz(f:av)(h:f.sz<=1048576):M.pW f=some (f7 f):=by
 rw[av.bL]at h;have hl:f.Params.length<=1048576:=cN (bW al.sz f.Params) (by omega);have key:∀g k,k<=f.Params.length->f.Params.length-k<g->M.mW f.Params (f.Params.length:Int) g (k:Int) ((f.Params.take k).map al.aI)=some (f7 f):=by
  intro g
  induction g with
  |zero=>intro k h1 h2;omega
  |succ g ih=>
   intro k h1 h2;rcases cJ k f.Params.length with hk|hk
   ·rw[M.mW];have hd:decide ((((f.Params.take k).map al.aI).length+([f.Params[k].aI]:List aa).length)<=1073741824)=true:=by
     simp only[bu,dY,iw,cD,dj];omega
    simp only[aa.ai,getD_lt hk,bn,bz,bU,hk,bD,aG,bj,aS,bE hk (by omega:f.Params.length<2^62),hd,aiy _ k hk];exact ih (k+1) (by omega) (by omega)
   ·have:k=f.Params.length:=by omega
    subst this;rw[M.mW];simp[f7]
 have e:=key ae 0 (cU _) (by have:=bS;omega);have e':M.mW f.Params (f.Params.length:Int) ae 0 []=_:=e;unfold M.pW;simp only[e']
theorem azA(ts:List aa)(h:aB aa.sz ts<=1048576)(hl:ts.length<=6)(ho:∀x∈ts,gz x=true):M.ya ts=some true:=by
 have e:=mP (p:=gz) (F:=M.uZ ts) (e:=ts) (b:=false) ts (by omega) (fun f k hk=>by
  rw[M.uZ];have hm:=da aa.sz _ _ (bK hk);have gK:decide ((k:Int)<=24)=true:=by simp only[bu];omega
  simp only[aa.ai,getD_lt hk,azp ts[k] (by omega),bn,bz,bU,hk,gK,bD,aG,bj,aS,db,bE hk (by omega:ts.length<2^62),aZ,bf];cases gz ts[k]<;>rfl) (fun f=>by rw[M.uZ];simp)
 have hall:ts.all gz=true:=ee.2 ho;unfold M.ya;rw[e,hall,aF rfl];have:decide (((ts.length:Nat):Int)<=24)=true:=by simp only[bu];omega
 simp only[this]
theorem aiz{f:av}(h:jq f=true):(f7 f).length<=6/\∀x∈f7 f,gz x=true:=by
 unfold jq at h;simp only[bJ,bu]at h;obtain⟨⟨⟨h6,hall,_⟩,_⟩,_⟩:=h;refine⟨by unfold f7;rw[dY];exact h6,?_⟩;intro x hx;obtain⟨p,hp,rfl⟩:=kG.1 hx;have:=ee.1 hall p hp;unfold lL at this;simp only[fk,yI,Bool.not_eq_false']at this;exact this.1.2
theorem aiA{t:aa}(h:gz t=true):eN t=true:=by
 unfold gz at h;rw[bJ]at h;exact h.2
def g9(f:av):Int×Bool×Bool:=
 if jq f=true then((if decide ((8:Int)<((fm (f7 f)).length:Int))=true then 1 else((fm (f7 f)).length:Int)), !(fZ f.Result),true)else(0,false,false)
theorem R7{f:av}(h:f.sz<=1048576)(hok:jq f=true):M.oi f=some ((g9 f).1,(g9 f).2.1):=by
 have hsz:aB aa.sz (f7 f)<=1048576:=by have:=aix (f:=f);rw[av.bL]at h;omega
 obtain⟨h6,ho⟩:=aiz hok;have hfl:M.yj (f7 f)=some (fm (f7 f)):=aiw ae _ (jb hsz) (by omega) hsz fun x hx=>aiA (ho x hx)
 have hc:M.oi f=some ((if decide ((8:Int)<((fm (f7 f)).length:Int))=true then 1 else((fm (f7 f)).length:Int)), !(fZ f.Result)):=by
  unfold M.oi M.HM M.HL;simp only[av.ai,azz f h,aZ,hfl,bf,db,aG];generalize decide ((8:Int)<((fm (f7 f)).length:Int))=q;cases q<;>simp[fZ]
 rw[hc];unfold g9;rw[aF hok]
theorem RV{f:av}(h:f.sz<=1048576)(hok:jq f=true):M.rW f=some ((g9 f).1,(g9 f).2.1):=by
 have hsz:aB aa.sz (f7 f)<=1048576:=by have:=aix (f:=f);rw[av.bL]at h;omega
 obtain⟨h6,ho⟩:=aiz hok;have hfl:M.Bt (f7 f)=some (fm (f7 f)):=aiu ae _ (jb hsz) (by omega) hsz fun x hx=>aiA (ho x hx)
 have h9:=azA (f7 f) hsz h6 ho;have hc:M.rW f=some ((if decide ((8:Int)<((fm (f7 f)).length:Int))=true then 1 else((fm (f7 f)).length:Int)), !(fZ f.Result)):=by
  unfold M.rW M.G6 M.G5;simp only[av.ai,azy f h,aZ,hfl,h9,bf,db,aG,cC,bj,dE,bM,kJ,pO];generalize decide ((8:Int)<((fm (f7 f)).length:Int))=q;cases q<;>simp[fZ]
 rw[hc];unfold g9;rw[aF hok]
end M
