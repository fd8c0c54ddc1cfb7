/-
  NAMES AND TYPES: what is right, in plain Lean.
-/
import Derived.Test.YtalddlopgnfpaaaGreatDoorXIplA
import Derived.Test.YtalddlopgnfpaaaGreatDoorXIGH
set_option linter.unusedVariables false
namespace M
open Go.V (inB bF ai cJ)
def oC(c:UInt8):Bool:=decide ((97:Int)<=((c.toNat:Nat):Int))&&decide (((c.toNat:Nat):Int)<=122)
def Gz(c:UInt8):Bool:=decide ((48:Int)<=((c.toNat:Nat):Int))&&decide (((c.toNat:Nat):Int)<=57)
def qp(c:UInt8):Bool:=((c.toNat:Nat):Int)==45
def oD(s:List UInt8)(k:Nat):Bool:=oC (s.getD k 0)||(decide (0<k)&&((Gz (s.getD k 0)||qp (s.getD k 0))&& !(qp (s.getD k 0)&&qp (s.getD (k-1) 0))))
def fE(s:List UInt8):Bool:=(List.range s.length).all (oD s)&&((decide (1<=s.length)&&decide (s.length<=12))&& !qp (s.getD (s.length-1) 0))
def m4(l:List (List UInt8)):Bool:=(decide (1<=l.length)&&decide (l.length<=16))&&(nodupB l&&l.all fE)
mutual
def eg:aa->Nat
 |.mk _ _ _ kids=>1+fW kids
def fW:List aa->Nat
 |[]=>0
 |x::r=>eg x+fW r
end
mutual
def fF:aa->Nat
 |.mk _ _ _ kids=>1+jn kids
def jn:List aa->Nat
 |[]=>0
 |x::r=>max (fF x) (jn r)
end
mutual
def gU(p:Int->Bool):aa->Bool
 |.mk k _ _ kids=>p k||jJ p kids
def jJ(p:Int->Bool):List aa->Bool
 |[]=>false
 |x::r=>gU p x||jJ p r
end
theorem xZ(t:aa):eg t=1+fW t.Kids:=by cases t;rfl
theorem GF(t:aa):fF t=1+jn t.Kids:=by cases t;rfl
theorem RB(p:Int->Bool)(t:aa):gU p t=(p t.Kind||jJ p t.Kids):=by cases t;rfl
theorem GG(p:Int->Bool):∀l,jJ p l=l.any (gU p)
 |[]=>rfl
 |x::r=>by rw[jJ,List.any_cons,GG p r]
def fX(t:aa):Bool:=t.Kind==1
def GH(t:aa):Bool:=(t.Kind==20)||(t.Kind==21)
def xH(t:aa):Bool:=decide ((16:Int)<=t.Kind)&&decide (t.Kind<=19)
def ql(t:aa):Bool:=
 if t.Kind=12\/t.Kind=13 then(t.Kids.length==1)&& !t.Kids.any fX
 else if t.Kind=14 then t.Kids.length==2
 else if t.Kind=15 then(decide (1<=t.Kids.length)&&decide (t.Kids.length<=6))&& !t.Kids.any fX
 else if t.Kind=16 then(t.Kids.length==t.bm.length)&& !t.Kids.any fX
 else if t.Kind=17 then t.Kids.length==t.bm.length
 else if t.Kind=22\/t.Kind=23 then(t.Kids.length==1)&& !jJ (fun k=>k==21) t.Kids
 else(decide ((1:Int)<=t.Kind)&&decide (t.Kind<=23))&&(t.Kids.length==0)
def iV(t:aa):Bool:=
 ((if xH t then m4 t.bm else t.bm.length==0)&&(if GH t then fE t.Name else t.Name==[]))&&ql t
mutual
def bK:aa->Bool
 |.mk k n l kids=>iV (.mk k n l kids)&&su kids
def su:List aa->Bool
 |[]=>true
 |x::r=>bK x&&su r
end
theorem m3(t:aa):bK t=(iV t&&su t.Kids):=by cases t;rfl
theorem vm:∀l,su l=l.all bK
 |[]=>rfl
 |x::r=>by rw[su,List.all_cons,vm r]
def dE(t:aa):Bool:=(decide (fF t<=4)&&decide (eg t<=24))&&bK t
theorem RD:∀l:List aa,l.length<=fW l
 |[]=>bn _
 |x::r=>by have:=RD r;simp only[fW,bY,xZ x];omega
theorem RE{l:List aa}{k:Nat}(h:k<l.length):fW (l.drop k)=eg l[k]+fW (l.drop (k+1)):=by rw[fe h];rfl
theorem RF{l:List aa}{k:Nat}(h:k<l.length):jn (l.drop k)=max (fF l[k]) (jn (l.drop (k+1))):=by rw[fe h];rfl
theorem RG(t:aa):1<=fF t:=by rw[GF];omega
end M
set_option linter.unusedSimpArgs false
namespace M
open Go.V (inB bF ai cJ)
theorem ia{n:Nat}(h:n<=1048576):n<ai:=by have:=cJ;omega
theorem Br{k n:Nat}(h0:0<k)(h:k<=n)(hn:n<2^62):Go.IntKind.wrap .i64 ((k:Int)-1)=((k-1:Nat):Int):=by
 rw[wrap_i64 (by omega) (by omega)];omega
theorem RH(s:List UInt8)(hs:s.length<=1048576):M.pJ s=some (fE s):=by
 unfold M.pJ;rw[vn (p:=oD s) (F:=M.pI s (s.length:Int)) (e:=s) (b:=false) s.length (by omega) (fun f k hk=>by
  rw[M.pI];simp only[bP,cD,eF,hk,gQ,cE,dy,c9,aQ,cq hk (gJ hs),oD,oC,Gz,qp,jK];generalize decide ((97:Int)<=(((s.getD k 0).toNat:Nat):Int))=a1;generalize decide ((((s.getD k 0).toNat:Nat):Int)<=122)=a2;generalize decide ((48:Int)<=(((s.getD k 0).toNat:Nat):Int))=a3;generalize decide ((((s.getD k 0).toNat:Nat):Int)<=57)=a4;generalize ((((s.getD k 0).toNat:Nat):Int)==45)=a5;rcases iy k with h0|h0
  ·subst h0;cases a1<;>cases a2<;>cases a3<;>cases a4<;>cases a5<;>simp
  ·have e0:((k:Int)==0)=false:=by rw[jj];omega
   have hk1:k-1<s.length:=by omega
   simp only[e0,Br h0 (Nat.le_of_lt hk) (gJ hs),bP,cD,hk1,h0,gQ];generalize ((((s.getD (k-1) 0).toNat:Nat):Int)==45)=a6;cases a1<;>cases a2<;>cases a3<;>cases a4<;>cases a5<;>cases a6<;>simp) (fun f=>by rw[M.pI];simp)]
 unfold fE;cases hall:(List.range s.length).all (oD s)
 ·simp
 ·simp only[sc,jK,c9];rcases iy s.length with h0|h0
  ·simp[h0]
  ·have h1:s.length-1<s.length:=by omega
   have e1:decide ((1:Int)<=((s.length:Nat):Int))=decide (1<=s.length):=by simp only[fG];omega
   have e2:decide (((s.length:Nat):Int)<=12)=decide (s.length<=12):=by simp only[fG];omega
   simp only[Br h0 (bn _) (gJ hs),bP,cD,h1,gQ,dy,aQ,cE,e1,e2,qp]
theorem RI(s:List UInt8)(hs:s.length<=1048576):M.py s=some (fE s):=by
 unfold M.py;rcases iy s.length with h0|h0
 ·have:s=[]:=cA h0;subst this;rfl
 have h1:s.length-1<s.length:=by omega
 simp only[Br h0 (bn _) (gJ hs),bP,cD,h1,Int.toNat_zero,gQ,dy,aQ,cE];have hz:inB (0:Int) s.length=true:=by
  show inB ((0:Nat):Int) s.length=true
  rw[cD];simpa using h0
 simp only[hz,dy,aQ,cE];have e1:decide (((s.length:Nat):Int)<1)= !decide (1<=s.length):=by rw[<-nc];simp only[fG];omega
 have e2:decide ((12:Int)<((s.length:Nat):Int))= !decide (s.length<=12):=by rw[<-nc];simp only[fG];omega
 have e3:decide ((((s.getD 0 0).toNat:Nat):Int)<97)= !decide ((97:Int)<=(((s.getD 0 0).toNat:Nat):Int)):=by rw[<-nc];simp only[fG];omega
 have e4:decide ((122:Int)<(((s.getD 0 0).toNat:Nat):Int))= !decide ((((s.getD 0 0).toNat:Nat):Int)<=122):=by rw[<-nc];simp only[fG];omega
 rw[e1,e2,e3,e4];by_cases hlow:oC (s.getD 0 0)=true
 ·have hl:=hlow;simp only[oC,aU]at hl;rw[vn (p:=oD s) (F:=M.rk s) (e:=()) (b:=false) s.length (by omega) (fun f k hk=>by
   rw[M.rk];have f1:decide ((((s.getD k 0).toNat:Nat):Int)<97)= !decide ((97:Int)<=(((s.getD k 0).toNat:Nat):Int)):=by rw[<-nc];simp only[fG];omega
   have f2:decide ((122:Int)<(((s.getD k 0).toNat:Nat):Int))= !decide ((((s.getD k 0).toNat:Nat):Int)<=122):=by rw[<-nc];simp only[fG];omega
   have f3:decide ((((s.getD k 0).toNat:Nat):Int)<48)= !decide ((48:Int)<=(((s.getD k 0).toNat:Nat):Int)):=by rw[<-nc];simp only[fG];omega
   have f4:decide ((57:Int)<(((s.getD k 0).toNat:Nat):Int))= !decide ((((s.getD k 0).toNat:Nat):Int)<=57):=by rw[<-nc];simp only[fG];omega
   simp only[bP,cD,eF,hk,gQ,cE,dy,c9,aQ,cq hk (gJ hs),oD,oC,Gz,qp,jK,f1,f2,f3,f4];have dash:oC (s.getD k 0)=true->((((s.getD k 0).toNat:Nat):Int)==45)=false:=fun h=>by
    simp only[oC,aU,aZ]at h;rw[jj];omega
   simp only[oC]at dash;rcases iy k with k0|k0
   ·subst k0;rw[hl.1,hl.2]at*;simp only[mR]at dash;rw[dash trivial];simp
   ·have hk1:k-1<s.length:=by omega
    simp only[Br k0 (Nat.le_of_lt hk) (gJ hs),bP,cD,hk1,k0,gQ];generalize ((((s.getD (k-1) 0).toNat:Nat):Int)==45)=a6
    revert dash
    generalize decide ((97:Int)<=(((s.getD k 0).toNat:Nat):Int))=a1;generalize decide ((((s.getD k 0).toNat:Nat):Int)<=122)=a2;generalize decide ((48:Int)<=(((s.getD k 0).toNat:Nat):Int))=a3;generalize decide ((((s.getD k 0).toNat:Nat):Int)<=57)=a4;generalize ((((s.getD k 0).toNat:Nat):Int)==45)=a5;intro dash;cases a1<;>cases a2<;>cases a3<;>cases a4<;>cases a5<;>cases a6<;>simp at dash⊢) (fun f=>by rw[M.rk];simp)]
  rw[hl.1,hl.2];unfold fE qp;cases (List.range s.length).all (oD s)<;>cases decide (1<=s.length)<;>cases decide (s.length<=12)<;>cases ((((s.getD (s.length-1) 0).toNat:Nat):Int)==45)<;>rfl
 ·have hno:fE s=false:=by
   unfold fE;have:(List.range s.length).all (oD s)=false:=by
    rw[List.all_eq_false];refine⟨0,by simpa using h0,?_⟩;simp only[sw]at hlow;simp only[oD,hlow];intro h;cases h
   rw[this];rfl
  rw[hno];simp only[sw]at hlow;simp only[oC]at hlow;cases h3:decide ((97:Int)<=(((s.getD 0 0).toNat:Nat):Int))<;>cases h4:decide ((((s.getD 0 0).toNat:Nat):Int)<=122)<;>rw[h3,h4]at hlow<;>simp at hlow⊢
end M
namespace M
open Go.V (inB bF ai cJ)
theorem nodup_range(l:List (List UInt8)):(List.range l.length).all (fun i=>(List.range i).all fun k=> !(l.getD k []==l.getD i []))=nodupB l:=by
 rw[qq,GI,List.Nodup,x6];simp only[di,so,gq,jj];constructor
 ·intro h i j hi hj hij e;have:=h j hj i hij;rw[getD_lt hi,getD_lt hj]at this;exact this e
 ·intro h i hi k hk e;rw[getD_lt hi,getD_lt (by omega)]at e;exact h k i (by omega) hi hk e
theorem aep{α:Type}(p:α->Bool)(l:List α)(d:α):(List.range l.length).all (fun i=>p (l.getD i d))=l.all p:=by
 rw[qq];simp only[di,so];constructor
 ·intro h x hx;obtain⟨i,hi,rfl⟩:=m7 hx;have:=h i hi
  rwa [getD_lt hi]at this
 ·intro h i hi;rw[getD_lt hi];exact h _ (an hi)
theorem aeq{α:Type}(p q:α->Bool)(l:List α):l.all (fun x=>p x&&q x)=(l.all p&&l.all q):=by
 induction l with
 |nil=>rfl
 |cons x r ih=>simp only[List.all_cons,ih];cases p x<;>cases q x<;>cases r.all p<;>cases r.all q<;>rfl
theorem aer(l:List (List UInt8))(h:bc List.length l<=1048576):M.tA l=some (m4 l):=by
 have hl:=lG (eR List.length l) h;unfold M.tA;have e1:decide (((l.length:Nat):Int)<1)= !decide (1<=l.length):=by rw[<-nc];simp only[fG];omega
 have e2:decide ((16:Int)<((l.length:Nat):Int))= !decide (l.length<=16):=by rw[<-nc];simp only[fG];omega
 rw[e1,e2,vn (p:=fun i=>fE (l.getD i [])&&(List.range i).all fun k=> !(l.getD k []==l.getD i [])) (F:=fun f i=>M.nF f l i) (e:=()) (b:=false) l.length (by omega) (fun f k hk=>by
  show M.nF (f+1) l (k:Int)=_
  rw[M.nF];have hn:(l.getD k []).length<=1048576:=by rw[getD_lt hk];exact lG (jg List.length _ _ (an hk)) h
  have inner:M.pz l (k:Int) ai 0=some (if(List.range k).all (fun j=> !(l.getD j []==l.getD k []))then .inr (l,(k:Int))else .inl false):=
   vn (p:=fun j=> !(l.getD j []==l.getD k [])) (F:=M.pz l (k:Int)) (e:=(l,(k:Int))) (b:=false) k (by omega) (fun f j hj=>by
    rw[M.pz];have hj':j<l.length:=by omega
    simp only[bP,cD,eF,hj,hk,hj',gQ,cE,dy,c9,aQ,cq hj (by omega:k<2^62)];cases l.getD j []==l.getD k []<;>rfl) (fun f=>by rw[M.pz];simp)
  simp only[bP,cD,eF,hk,gQ,cE,dy,c9,aQ,cq hk (by omega:l.length<2^62),RI _ hn,inner,aC,aR];cases fE (l.getD k [])<;>cases (List.range k).all (fun j=> !(l.getD j []==l.getD k []))<;>simp[cq hk (by omega:l.length<2^62)]) (fun f=>by
  show M.nF (f+1) l (l.length:Int)=_
  rw[M.nF];simp)]
 unfold m4;rw[aeq,aep,nodup_range];cases decide (1<=l.length)<;>cases decide (l.length<=16)<;>cases l.all fE<;>cases nodupB l<;>rfl
theorem aes(l:List (List UInt8))(h:bc List.length l<=1048576):M.tO l=some (m4 l):=by
 have hl:=lG (eR List.length l) h;have c1:∀s:List UInt8,s.length<=1048576->M.tM s=some (!fE s):=fun s hs=>by
  unfold M.tM;rw[RH s hs];rfl
 have cf:M.tN l=some (l.any fun s=> !fE s):=by
  have e:=qs (p:=fun s=> !fE s) (F:=M.rn l (l.length:Int)) (e:=()) (fun k=>k) l (by omega) (fun f k hk=>by
   rw[M.rn];have hn:l[k].length<=1048576:=lG (jg List.length _ _ (an hk)) h;simp only[getD_lt hk,bP,cD,eF,hk,gQ,cE,dy,c9,aQ,cq hk (by omega:l.length<2^62),c1 _ hn,aC,aR]) (fun f=>by rw[M.rn];simp)
  unfold M.tN M.wK;rw[e,qt];cases l.findIdx? (fun s=> !fE s)<;>simp
 unfold M.tO;rw[cf,aet l hl];have e1:decide ((1:Int)<=((l.length:Nat):Int))=decide (1<=l.length):=by simp only[fG];omega
 have e2:decide (((l.length:Nat):Int)<=16)=decide (l.length<=16):=by simp only[fG];omega
 have e3:(l.any fun s=> !fE s)= !l.all fE:=by rw[A7]
 unfold m4;simp only[aR,dy,aQ,cE,aC,e1,e2,e3,Bool.not_not];cases decide (1<=l.length)<;>cases decide (l.length<=16)<;>cases l.all fE<;>cases nodupB l<;>rfl
end M
namespace M
open Go.V (inB bF ai cJ)
theorem aa.Bq{a:aa}{N:Nat}(h:a.sz<=N):bc List.length a.bm<=N:=by rw[aa.dL]at h;omega
theorem aa.RJ{a:aa}{N:Nat}(h:a.sz<=N):a.Name.length<=N:=by rw[aa.dL]at h;omega
theorem aa.mZ{a:aa}{N:Nat}(h:a.sz<=N):bc aa.sz a.Kids<=N:=by rw[aa.dL]at h;omega
theorem aa.fg{a:aa}{N:Nat}(h:a.sz<=N):a.Kids.length<=N:=lG (eR _ _) (aa.mZ h)
theorem aa.aeu{a:aa}{N:Nat}(h:a.sz<=N):a.bm.length<=N:=lG (eR _ _) (aa.Bq h)
theorem aa.dw{a x:aa}(h:x∈a.Kids):x.sz<a.sz:=by
 rw[aa.dL a];have:=om aa.sz _ _ h;omega
theorem aev(t:aa)(h:t.sz<=1048576):M.pA t=some (t.Kids.any fX):=by
 have hl:=aa.fg h;have e:=qs (p:=fX) (F:=fun f i=>M.l9 f i t) (e:=()) (fun _=>true) t.Kids (by omega) (fun f k hk=>by
  show M.l9 (f+1) (k:Int) t=_
  rw[M.l9];simp only[aa.aG,getD_lt hk,bP,cD,eF,hk,gQ,cE,dy,c9,aQ,cq hk (by omega:t.Kids.length<2^62),fX]) (fun f=>by
  show M.l9 (f+1) _ t=_
  rw[M.l9];simp)
 unfold M.pA;rw[aa.aG,qt];have e':M.l9 ai 0 t=_:=e;rw[e'];cases t.Kids.findIdx? fX<;>simp
theorem GK(lo hi:Int):∀(m:Nat)(t:aa),t.sz<m->t.sz<=1048576->M.k7 m t lo hi=some (gU (fun k=>decide (lo<=k)&&decide (k<=hi)) t)
 |0,t,h,_=>absurd h (jD _)
 |m+1,t,h,hN=>by
  have hl:=aa.fg hN;have e:=qs (p:=gU (fun k=>decide (lo<=k)&&decide (k<=hi))) (F:=fun f i=>M.ma (M.k7 m) lo hi f i t) (e:=()) (fun _=>true) t.Kids (by omega) (fun f k hk=>by
   show M.ma (M.k7 m) lo hi (f+1) (k:Int) t=_
   rw[M.ma];have hx:=aa.dw (an hk);simp only[aa.aG,getD_lt hk,GK lo hi m t.Kids[k] (by omega) (by omega),bP,cD,eF,hk,gQ,cE,dy,c9,aQ,cq hk (by omega:t.Kids.length<2^62),aC,aR]) (fun f=>by
   show M.ma (M.k7 m) lo hi (f+1) _ t=_
   rw[M.ma];simp)
  show M.wF (M.k7 m) t lo hi=_
  unfold M.wF;have e':M.ma (M.k7 m) lo hi ai 0 t=_:=e;rw[aa.aG,e',RB,GG,qt];cases (decide (lo<=t.Kind)&&decide (t.Kind<=hi))<;>cases t.Kids.findIdx? (gU fun k=>decide (lo<=k)&&decide (k<=hi))<;>simp
theorem aew(l:List Int)(v:Int)(hl:l.length<2^62):M.tQ l v=some (l.any fun x=>v==x):=by
 have e:=qs (p:=fun x=>v==x) (F:=M.ru l v (l.length:Int)) (e:=()) (fun k=>k) l hl (fun f k hk=>by
  rw[M.ru];simp only[getD_lt hk,bP,cD,eF,hk,gQ,cE,dy,c9,aQ,cq hk hl]) (fun f=>by rw[M.ru];simp)
 unfold M.tQ M.wO;rw[e,qt];cases l.findIdx? (fun x=>v==x)<;>simp
theorem GL(ks:List Int)(hk:ks.length<2^62):∀(m:Nat)(t:aa),t.sz<m->t.sz<=1048576->M.md m t ks=some (gU (fun k=>ks.any fun x=>k==x) t)
 |0,t,h,_=>absurd h (jD _)
 |m+1,t,h,hN=>by
  have hl:=aa.fg hN;have e:=qs (p:=gU (fun k=>ks.any fun x=>k==x)) (F:=M.rx (M.md m) t.Kids ks (t.Kids.length:Int)) (e:=()) (fun k=>k) t.Kids (by omega) (fun f k hk'=>by
   rw[M.rx];have hx:=aa.dw (an hk');have c:M.tR (M.md m) t.Kids[k] ks=some (gU (fun k=>ks.any fun x=>k==x) t.Kids[k]):=by
    unfold M.tR;simp only[aa.aG,GL ks hk m t.Kids[k] (by omega) (by omega)];rfl
   simp only[aa.aG,getD_lt hk',c,bP,cD,eF,hk',gQ,cE,dy,c9,aQ,cq hk' (by omega:t.Kids.length<2^62),aC,aR]) (fun f=>by
   rw[M.rx];simp)
  have e2:M.tU (M.md m) t.Kids ks=some (t.Kids.any (gU (fun k=>ks.any fun x=>k==x))):=by
   unfold M.tU M.wP;rw[e,qt];cases t.Kids.findIdx? (gU (fun k=>ks.any fun x=>k==x))<;>simp
  show M.wQ (M.md m) t ks=_
  unfold M.wQ;rw[e2,aew ks _ hk,RB,GG];simp
theorem GM:∀(l:List aa),(∀x∈l,eg x<=x.sz+1)->fW l<=bc aa.sz l
 |[],_=>bn _
 |x::r,h=>by
  have:=GM r fun y hy=>h y (jF _ hy)
  have:=h x (jo ..);simp only[fW,bc];omega
theorem RL:∀(n:Nat)(t:aa),t.sz<n->eg t<=t.sz+1
 |0,t,h=>absurd h (jD _)
 |n+1,t,h=>by
  have:=GM t.Kids fun x hx=>RL n x (by have:=aa.dw hx;omega)
  rw[xZ,aa.dL];omega
theorem aex(t:aa):eg t<=t.sz+1:=RL _ t (FN _)
theorem aey{l:List aa}{N:Nat}(h:bc aa.sz l<=N):fW l<=N:=lG (GM l fun x _=>aex x) h
theorem RN:∀(m:Nat)(t:aa),t.sz<m->t.sz<=1048576->M.pF m t=some ((eg t:Nat):Int)
 |0,t,h,_=>absurd h (jD _)
 |m+1,t,h,hN=>by
  have hl:=aa.fg hN;have hs:=aey (aa.mZ hN);have key:∀f k (a:Nat),k<=t.Kids.length->t.Kids.length-k<f->a+fW (t.Kids.drop k)<=1048577->M.pE (M.pF m) t.Kids (t.Kids.length:Int) f (a:Int) (k:Int)=some (((a+fW (t.Kids.drop k):Nat)):Int):=by
   intro f
   induction f with
   |zero=>intro k a h1 h2;omega
   |succ f ih=>
    intro k a h1 h2 h3;rcases du k t.Kids.length with hk|hk
    ·rw[M.pE];have hx:=aa.dw (an hk);rw[RE hk]at h3⊢;have hw:Go.IntKind.wrap .i64 ((a:Int)+((eg t.Kids[k]:Nat):Int))=((a+eg t.Kids[k]:Nat):Int):=by rw[wrap_i64 (by omega) (by omega)];omega
     simp only[aa.aG,getD_lt hk,RN m t.Kids[k] (by omega) (by omega),bP,cD,eF,hk,gQ,cE,c9,aQ,cq hk (by omega:t.Kids.length<2^62),aC,aR,hw];rw[ih (k+1) _ (by omega) (by omega) (by omega)];congr 1;omega
    ·have:k=t.Kids.length:=by omega
     subst this;rw[M.pE];simp[j9,fW]
  show M.wI (M.pF m) t=_
  unfold M.wI;have e:=key ai 0 1 (dM _) (by have:=cJ;omega) (by simp only[fN];omega);have e':M.pE (M.pF m) t.Kids (t.Kids.length:Int) ai 1 0=_:=e;rw[e',xZ];rfl
theorem RO:∀(m:Nat)(t:aa)(L:Nat),L<m->L<=100->t.sz<=1048576->M.pD m t (L:Int)=some ((min (fF t) (L+1):Nat):Int)
 |0,t,L,h,_,_=>absurd h (jD _)
 |m+1,t,L,h,hL,hN=>by
  have hl:=aa.fg hN
  show M.wH (M.pD m) t (L:Int)=_
  unfold M.wH;cases L with
  |zero=>
   have:=RG t;rw[show min (fF t) (0+1)=1 by omega];rfl
  |succ L=>
   have hw0:Go.IntKind.wrap .i64 (((L+1:Nat):Int)-1)=(L:Int):=by rw[wrap_i64 (by omega) (by omega)];omega
   have key:∀f k (a:Nat),k<=t.Kids.length->t.Kids.length-k<f->M.pC (M.pD m) ((L+1:Nat):Int) t.Kids (t.Kids.length:Int) f (a:Int) (k:Int)=some ((max a (min (jn (t.Kids.drop k)) (L+1)):Nat):Int):=by
    intro f
    induction f with
    |zero=>intro k a h1 h2;omega
    |succ f ih=>
     intro k a h1 h2;rcases du k t.Kids.length with hk|hk
     ·rw[M.pC];have hx:=aa.dw (an hk);simp only[aa.aG,getD_lt hk,hw0,RO m t.Kids[k] L (by omega) (by omega) (by omega),bP,cD,eF,hk,gQ,cE,c9,aQ,cq hk (by omega:t.Kids.length<2^62),aC,aR];have hm:(bif decide (a<min (fF t.Kids[k]) (L+1))then((min (fF t.Kids[k]) (L+1):Nat):Int)else(a:Int))=((max a (min (fF t.Kids[k]) (L+1)):Nat):Int):=by
       by_cases hc:a<min (fF t.Kids[k]) (L+1)
       ·simp only[hc,gQ,cE];omega
       ·simp only[hc,Bt,aW];omega
      rw[hm,ih (k+1) _ (by omega) (by omega),RF hk];congr 1;omega
     ·have:k=t.Kids.length:=by omega
      subst this;rw[M.pC];simp[j9,jn]
   have e:=key ai 0 0 (dM _) (by have:=cJ;omega);have e':M.pC (M.pD m) ((L+1:Nat):Int) t.Kids (t.Kids.length:Int) ai 0 0=_:=e;have d:(((L+1:Nat):Int)==0)=false:=by rw[jj];omega
   rw[d,e',GF];simp only[aW,fN];rw[wrap_i64 (by omega) (by omega)];congr 1;omega
end M
namespace M
open Go.V (inB bF ai cJ)
def oG(d:Nat)(t:aa):Int×Int:=if d+fF t<=5/\eg t<=24 then(((fF t:Nat):Int),((eg t:Nat):Int))else(5,25)
theorem RP:∀(m d:Nat)(t:aa),d<=5->6<=m+d->t.sz<=1048576->M.pv m t (d:Int)=some (oG d t)
 |0,d,t,h1,h2,_=>by omega
 |m+1,d,t,h1,h2,hN=>by
  have hl:=aa.fg hN;have hdp:=RG t
  show M.wE (M.pv m) t (d:Int)=_
  unfold M.wE;by_cases h5:d=5
  ·subst h5;have:oG 5 t=(5,25):=by unfold oG;rw[bH (by omega)]
   rw[this];rfl
  have d4:decide ((4:Int)<(d:Int))=false:=by rw[gP];omega
  by_cases h24:24<t.Kids.length
  ·have:oG d t=(5,25):=by
    unfold oG;have:=RD t.Kids;rw[bH (by rw[xZ];omega)]
   rw[this,d4];have:decide ((24:Int)<((t.Kids.length:Nat):Int))=true:=by rw[aZ];omega
   rw[this];rfl
  have d24:decide ((24:Int)<((t.Kids.length:Nat):Int))=false:=by rw[gP];omega
  have hw:Go.IntKind.wrap .i64 ((d:Int)+1)=((d+1:Nat):Int):=by rw[wrap_i64 (by omega) (by omega)];omega
  have mx:∀a b:Nat,M.jc (a:Int) (b:Int)=some ((max a b:Nat):Int):=fun a b=>by
   unfold M.jc;by_cases hc:b<a
   ·have:decide ((b:Int)<(a:Int))=true:=by rw[aZ];omega
    rw[this];simp only[cE];congr 1;omega
   ·have:decide ((b:Int)<(a:Int))=false:=by rw[gP];omega
    rw[this];simp only[aW];congr 1;omega
  have key:∀f k (a p:Nat),k<=t.Kids.length->t.Kids.length-k<f->p<=24->M.pt (M.pv m) (d:Int) f (a:Int) (p:Int) (k:Int) t=
   some (if d+1+jn (t.Kids.drop k)<=5/\p+fW (t.Kids.drop k)<=24 then .inr (((max a (jn (t.Kids.drop k)):Nat):Int),((p+fW (t.Kids.drop k):Nat):Int))else .inl (5,25)):=by
   intro f
   induction f with
   |zero=>intro k a p h1 h2;omega
   |succ f ih=>
    intro k a p h1 h2 h3;rcases du k t.Kids.length with hk|hk
    ·rw[M.pt];have hx:=aa.dw (an hk);have hc:=RP m (d+1) t.Kids[k] (by omega) (by omega) (by omega);rw[RF hk,RE hk];simp only[aa.aG,getD_lt hk,hw,hc,bP,cD,eF,hk,gQ,cE,c9,aQ,cq hk (by omega:t.Kids.length<2^62),aC,aR];unfold oG;by_cases hv:d+1+fF t.Kids[k]<=5/\eg t.Kids[k]<=24
     ·rw[bG hv];have hw2:Go.IntKind.wrap .i64 ((p:Int)+((eg t.Kids[k]:Nat):Int))=((p+eg t.Kids[k]:Nat):Int):=by rw[wrap_i64 (by omega) (by omega)];omega
      dsimp only;rw[hw2,mx];by_cases hp:24<p+eg t.Kids[k]
      ·have:decide ((24:Int)<((p+eg t.Kids[k]:Nat):Int))=true:=by rw[aZ];omega
       rw[this,bH (by omega)];simp
      ·have:decide ((24:Int)<((p+eg t.Kids[k]:Nat):Int))=false:=by rw[gP];omega
       rw[this];simp only[aW,aR,c9,cE,aC];rw[ih (k+1) _ _ (by omega) (by omega) (by omega)];have e1:(d+1+jn (t.Kids.drop (k+1))<=5/\p+eg t.Kids[k]+fW (t.Kids.drop (k+1))<=24)↔(d+1+max (fF t.Kids[k]) (jn (t.Kids.drop (k+1)))<=5/\p+(eg t.Kids[k]+fW (t.Kids.drop (k+1)))<=24):=by omega
       by_cases hq:d+1+jn (t.Kids.drop (k+1))<=5/\p+eg t.Kids[k]+fW (t.Kids.drop (k+1))<=24
       ·rw[bG hq,bG (e1.1 hq)];congr 3
        ·omega
        ·omega
       ·rw[bH hq,bH (fun h=>hq (e1.2 h))]
     ·rw[bH hv,bH (by omega)];have hw2:Go.IntKind.wrap .i64 ((p:Int)+25)=(p:Int)+25:=wrap_i64 (by omega) (by omega);have mx5:M.jc (a:Int) 5=some ((max a 5:Nat):Int):=mx a 5;dsimp only;rw[hw2,mx5];have:decide ((24:Int)<(p:Int)+25)=true:=by rw[aZ];omega
      rw[this];simp
    ·have:k=t.Kids.length:=by omega
     subst this;rw[M.pt,j9];have hq:d+1+jn []<=5/\p+fW []<=24:=⟨by show d+1+0<=5;omega,by show p+0<=24;omega⟩;rw[bG hq];simp[jn,fW]
  have e:=key ai 0 0 1 (dM _) (by have:=cJ;omega) (by omega);have e':M.pt (M.pv m) (d:Int) ai 0 1 0 t=_:=e;rw[aa.aG,d4,d24,e'];simp only[fN,gj,aW];unfold oG;rw[GF,xZ];by_cases hq:d+1+jn t.Kids<=5/\1+fW t.Kids<=24
  ·rw[bG hq,bG (by omega)];simp only;congr 2;rw[wrap_i64 (by omega) (by omega)];omega
  ·rw[bH hq,bH (by omega)]
theorem RQ{p:Int->Bool}{l:List aa}(h:l.length=1):gU p (l.getD 0 aa.zero)=jJ p l:=by
 match l,h with
 |[x],_=>simp[jJ]
theorem GN{p q:Int->Bool}(h:∀k,p k=q k):gU p=gU q:=by
 have:p=q:=funext h;rw[this]
theorem b21(k:Int):(decide ((21:Int)<=k)&&decide (k<=21))=(k==21):=by
 rw[qq];simp only[aU,aZ,jI];omega
theorem vo(n m:Nat):(((n:Nat):Int)==((m:Nat):Int))=(n==m):=by
 rw[qq];simp only[jI];omega
theorem RR(n:Nat):(((n:Nat):Int)==1)=(n==1):=vo n 1
theorem RS(n:Nat):(((n:Nat):Int)==2)=(n==2):=vo n 2
theorem RU(n:Nat):(((n:Nat):Int)==0)=(n==0):=vo n 0
theorem GO(n:Nat):inB (0:Int) n=decide (0<n):=cD 0 n
theorem aeC(t:aa)(h:t.sz<=1048576):M.tC t=some (iV t):=by
 have hn:=RI t.Name (aa.RJ h);have hb:=aer t.bm (aa.Bq h);have hu:=aev t h;have hh:t.Kids.length=1->M.pB (M.aa.re (List.getD t.Kids 0 aa.zero)) 21 21=some (jJ (fun k=>k==21) t.Kids):=fun h1=>by
  have hx:(t.Kids.getD 0 aa.zero).sz<t.sz:=by
   rw[getD_lt (by omega)];exact aa.dw (an _)
  rw[aa.aG,show M.pB=M.k7 ai from rfl,GK 21 21 ai _ (ia (by omega)) (by omega),GN b21,RQ h1]
 unfold M.tC;simp only[aa.aG,hn,hb,hu,aC,aR,dy,aQ,c9,cE,RR,RS,RU,vo,GO,Int.toNat_zero];unfold iV ql;have e0:decide ((0:Int)<((t.bm.length:Nat):Int))= !(t.bm.length==0):=by
  rw[qq];simp only[aZ,gq,jj];omega
 have e1:decide ((1:Int)<=((t.Kids.length:Nat):Int))=decide (1<=t.Kids.length):=by simp only[fG];omega
 have e2:decide (((t.Kids.length:Nat):Int)<=6)=decide (t.Kids.length<=6):=by simp only[fG];omega
 rw[e0,e1,e2];have eH:m4 t.bm=true->(t.bm.length==0)=false:=fun h=>by
  simp only[m4,aU,aZ]at h;rw[jj];omega
 have eI:fE t.Name=true->(t.Name==[])=false:=fun h=>by
  simp only[fE,aU,aZ]at h;rw[jj];intro e;rw[e]at h;simp at h
 unfold GH xH;have hz:t.Kids.length=1->decide (0<t.Kids.length)=true:=fun h1=>by rw[h1];rfl
 have hl1:(t.Kids.length==1)=true->t.Kids.length=1:=fun h1=>by simpa using h1
 have hbr:(t.Kids.length==1)=true->M.pB (M.aa.re (List.getD t.Kids 0 aa.zero)) 21 21=some (jJ (fun k=>k==21) t.Kids)/\decide (0<t.Kids.length)=true:=fun h1=>⟨hh (hl1 h1),hz (hl1 h1)⟩
 clear hn hb hu hh hz hl1;simp only[aa.aG]at hbr⊢;generalize hK:t.Kind=K;generalize (t.Name==[])=nn at eI⊢;generalize fE t.Name=no at eI⊢;generalize m4 t.bm=lo at eH⊢;generalize (t.bm.length==0)=ll at eH⊢;generalize M.pB (List.getD t.Kids 0 aa.zero) 21 21=o at hbr⊢;generalize decide (0<t.Kids.length)=z at hbr⊢;generalize (t.Kids.length==1)=l1 at hbr⊢;generalize jJ (fun k=>k==21) t.Kids=kh at hbr⊢;generalize t.Kids.any fX=au;generalize (t.Kids.length==2)=l2;generalize (t.Kids.length==0)=l0;generalize (t.Kids.length==t.bm.length)=lk;generalize decide (1<=t.Kids.length)=ge;generalize decide (t.Kids.length<=6)=le;clear hK h e0 e1 e2;by_cases h12:K=12
 ·subst h12;cases l1
  ·cases no<;>cases nn<;>simp at eI<;>cases lo<;>cases ll<;>simp at eH<;>simp
  ·obtain⟨rfl,rfl⟩:=hbr rfl;cases no<;>cases nn<;>simp at eI<;>cases lo<;>cases ll<;>simp at eH<;>simp
 by_cases h13:K=13
 ·subst h13;cases l1
  ·cases no<;>cases nn<;>simp at eI<;>cases lo<;>cases ll<;>simp at eH<;>simp
  ·obtain⟨rfl,rfl⟩:=hbr rfl;cases no<;>cases nn<;>simp at eI<;>cases lo<;>cases ll<;>simp at eH<;>simp
 by_cases ig:K=14
 ·subst ig;cases l1
  ·cases no<;>cases nn<;>simp at eI<;>cases lo<;>cases ll<;>simp at eH<;>simp
  ·obtain⟨rfl,rfl⟩:=hbr rfl;cases no<;>cases nn<;>simp at eI<;>cases lo<;>cases ll<;>simp at eH<;>simp
 by_cases h15:K=15
 ·subst h15;cases l1
  ·cases no<;>cases nn<;>simp at eI<;>cases lo<;>cases ll<;>simp at eH<;>simp
  ·obtain⟨rfl,rfl⟩:=hbr rfl;cases no<;>cases nn<;>simp at eI<;>cases lo<;>cases ll<;>simp at eH<;>simp
 by_cases h16:K=16
 ·subst h16;cases l1
  ·cases no<;>cases nn<;>simp at eI<;>cases lo<;>cases ll<;>simp at eH<;>simp
  ·obtain⟨rfl,rfl⟩:=hbr rfl;cases no<;>cases nn<;>simp at eI<;>cases lo<;>cases ll<;>simp at eH<;>simp
 by_cases h17:K=17
 ·subst h17;cases l1
  ·cases no<;>cases nn<;>simp at eI<;>cases lo<;>cases ll<;>simp at eH<;>simp
  ·obtain⟨rfl,rfl⟩:=hbr rfl;cases no<;>cases nn<;>simp at eI<;>cases lo<;>cases ll<;>simp at eH<;>simp
 by_cases h18:K=18
 ·subst h18;cases l1
  ·cases no<;>cases nn<;>simp at eI<;>cases lo<;>cases ll<;>simp at eH<;>simp
  ·obtain⟨rfl,rfl⟩:=hbr rfl;cases no<;>cases nn<;>simp at eI<;>cases lo<;>cases ll<;>simp at eH<;>simp
 by_cases h19:K=19
 ·subst h19;cases l1
  ·cases no<;>cases nn<;>simp at eI<;>cases lo<;>cases ll<;>simp at eH<;>simp
  ·obtain⟨rfl,rfl⟩:=hbr rfl;cases no<;>cases nn<;>simp at eI<;>cases lo<;>cases ll<;>simp at eH<;>simp
 by_cases h20:K=20
 ·subst h20;cases l1
  ·cases no<;>cases nn<;>simp at eI<;>cases lo<;>cases ll<;>simp at eH<;>simp
  ·obtain⟨rfl,rfl⟩:=hbr rfl;cases no<;>cases nn<;>simp at eI<;>cases lo<;>cases ll<;>simp at eH<;>simp
 by_cases h21:K=21
 ·subst h21;cases l1
  ·cases no<;>cases nn<;>simp at eI<;>cases lo<;>cases ll<;>simp at eH<;>simp
  ·obtain⟨rfl,rfl⟩:=hbr rfl;cases no<;>cases nn<;>simp at eI<;>cases lo<;>cases ll<;>simp at eH<;>simp
 by_cases h22:K=22
 ·subst h22;cases l1
  ·cases no<;>cases nn<;>simp at eI<;>cases lo<;>cases ll<;>simp at eH<;>simp
  ·obtain⟨rfl,rfl⟩:=hbr rfl;cases no<;>cases nn<;>simp at eI<;>cases lo<;>cases ll<;>simp at eH<;>simp
 by_cases h23:K=23
 ·subst h23;cases l1
  ·cases no<;>cases nn<;>simp at eI<;>cases lo<;>cases ll<;>simp at eH<;>simp
  ·obtain⟨rfl,rfl⟩:=hbr rfl;cases no<;>cases nn<;>simp at eI<;>cases lo<;>cases ll<;>simp at eH<;>simp
 have q1:(K==20)=false:=by simpa using h20
 have q2:(K==21)=false:=by simpa using h21
 have q3:(decide ((16:Int)<=K)&&decide (K<=19))=false:=by
  rw[yd];simp only[ne_eq,aU,aZ];omega
 have q4:(K==12)=false:=by simpa using h12
 have q5:(K==13)=false:=by simpa using h13
 have q6:(K==14)=false:=by simpa using ig
 have q7:(K==15)=false:=by simpa using h15
 have q8:(K==16)=false:=by simpa using h16
 have q9:(K==17)=false:=by simpa using h17
 have q10:(K==22)=false:=by simpa using h22
 have q11:(K==23)=false:=by simpa using h23
 simp only[q1,q2,q3,q4,q5,q6,q7,q8,q9,q10,q11,h12,h13,ig,h15,h16,h17,h22,h23,or_self,ei];cases nn<;>cases ll<;>simp
end M
namespace M
open Go.V (inB bF ai cJ)
theorem RV:∀(m:Nat)(t:aa),t.sz<m->t.sz<=1048576->M.mc m t=some (bK t)
 |0,t,h,_=>absurd h (jD _)
 |m+1,t,h,hN=>by
  have hl:=aa.fg hN;have e:=GQ (p:=bK) (F:=fun f i=>M.mb (M.mc m) f i t) (e:=()) (b:=false) t.Kids (by omega) (fun f k hk=>by
   show M.mb (M.mc m) (f+1) (k:Int) t=_
   rw[M.mb];have hx:=aa.dw (an hk);simp only[aa.aG,getD_lt hk,RV m t.Kids[k] (by omega) (by omega),bP,cD,eF,hk,gQ,cE,dy,c9,aQ,cq hk (by omega:t.Kids.length<2^62),aC,aR];cases bK t.Kids[k]<;>rfl) (fun f=>by
   show M.mb (M.mc m) (f+1) _ t=_
   rw[M.mb];simp)
  show M.wG (M.mc m) t=_
  unfold M.wG;have e':M.mb (M.mc m) ai 0 t=_:=e;rw[aa.aG,aeC t hN,e',m3,vm];cases iV t<;>cases t.Kids.all bK<;>simp
theorem RX(t:aa)(h:t.sz<=1048576):M.tW t=some (dE t):=by
 unfold M.tW;have e1:M.zf t=some (bK t):=RV ai t (ia h) h;have e2:M.y9 t 1=some (oG 1 t):=RP ai 1 t (by omega) (by have:=cJ;omega) h;simp only[aa.aG,e1,e2,aC,aR,dy,aQ,cE];unfold dE oG;by_cases hq:1+fF t<=5/\eg t<=24
 ·rw[bG hq];have a1:decide (((fF t:Nat):Int)<=4)=decide (fF t<=4):=by simp only[fG];omega
  have a2:decide (((eg t:Nat):Int)<=24)=decide (eg t<=24):=by simp only[fG];omega
  dsimp only;rw[a1,a2]
 ·rw[bH hq];have:(decide (fF t<=4)&&decide (eg t<=24))=false:=by
   rw[yd];simp only[ne_eq,aU,aZ];omega
  rw[this];rfl
theorem Rl(t:aa)(h:t.sz<=1048576):M.tX t=some (dE t):=by
 unfold M.tX;simp only[aa.aG,RX t h];rfl
end M
namespace M
open Go.V (inB bF ai cJ)
theorem aeD(l:List aa)(hl:l.length<=1048576):M.tP l=some (l.any fX):=by
 have e:=qs (p:=fX) (F:=M.rq l (l.length:Int)) (e:=()) (fun k=>k) l (by omega) (fun f k hk=>by
  rw[M.rq];simp only[getD_lt hk,bP,cD,eF,hk,gQ,cE,dy,c9,aQ,cq hk (by omega:l.length<2^62)];rfl) (fun f=>by rw[M.rq];simp)
 unfold M.tP M.wN;rw[e,qt];cases l.findIdx? fX<;>simp
theorem aeE(t:aa)(h:t.sz<=1048576)(n:Nat):M.nK t (n:Int)=some ((t.Kids.length==n)&& !t.Kids.any fX):=by
 unfold M.nK;rw[aeD t.Kids (aa.fg h)];simp only[aR,dy,aQ,cE,aC,vo]
theorem aeF(t:aa)(h:t.sz<=1048576)(rec:aa->Option Bool)(b:Bool)(hb:M.rm rec t.Kids=some (!b)):M.tV rec t=some (b&&iV t):=by
 have hn:=RH t.Name (aa.RJ h);have hlab:=aes t.bm (aa.Bq h);have hk:=aeE t h;have hk1:M.nK t 1=some ((t.Kids.length==1)&& !t.Kids.any fX):=hk 1;have hh:t.Kids.length=1->M.pL (M.aa.re (List.getD t.Kids 0 aa.zero)) [21]=some (jJ (fun k=>k==21) t.Kids):=fun h1=>by
  have hx:(t.Kids.getD 0 aa.zero).sz<t.sz:=by
   rw[getD_lt (by omega)];exact aa.dw (an _)
  have e:gU (fun k=>[(21:Int)].any fun x=>k==x)=gU (fun k=>k==21):=GN fun k=>by simp
  rw[aa.aG,show M.pL=M.md ai from rfl,GL [21] (by simp) ai _ (ia (by omega)) (by omega),e,RQ h1]
 unfold M.tV;simp only[aa.aG,hb,hn,hlab,hk,hk1,aC,aR,dy,aQ,c9,cE,RR,RS,RU,vo,GO,Int.toNat_zero];unfold iV ql;have e0:decide ((0:Int)<((t.bm.length:Nat):Int))= !(t.bm.length==0):=by
  rw[qq];simp only[aZ,gq,jj];omega
 have e1:decide ((1:Int)<=((t.Kids.length:Nat):Int))=decide (1<=t.Kids.length):=by simp only[fG];omega
 have e2:decide (((t.Kids.length:Nat):Int)<=6)=decide (t.Kids.length<=6):=by simp only[fG];omega
 rw[e0,e1,e2];unfold GH xH;have hz:t.Kids.length=1->decide (0<t.Kids.length)=true:=fun h1=>by rw[h1];rfl
 have hl1:(t.Kids.length==1)=true->t.Kids.length=1:=fun h1=>by simpa using h1
 have hbr:(t.Kids.length==1)=true->M.pL (M.aa.re (List.getD t.Kids 0 aa.zero)) [21]=some (jJ (fun k=>k==21) t.Kids)/\decide (0<t.Kids.length)=true:=fun h1=>⟨hh (hl1 h1),hz (hl1 h1)⟩
 clear hn hlab hk hk1 hh hz hl1 hb;simp only[aa.aG]at hbr⊢;generalize hK:t.Kind=K;generalize (t.Name==[])=nn;generalize fE t.Name=no;generalize m4 t.bm=lo;generalize (t.bm.length==0)=ll;generalize M.pL (List.getD t.Kids 0 aa.zero) [21]=o at hbr⊢;generalize decide (0<t.Kids.length)=z at hbr⊢;generalize (t.Kids.length==1)=l1 at hbr⊢;generalize jJ (fun k=>k==21) t.Kids=kh at hbr⊢;generalize t.Kids.any fX=au;generalize (t.Kids.length==2)=l2;generalize (t.Kids.length==0)=l0;have RY:(t.Kids.length==t.Kids.length)=true:=by simp
 rw[RY];generalize (t.Kids.length==t.bm.length)=lk;generalize decide (1<=t.Kids.length)=ge;generalize decide (t.Kids.length<=6)=le;clear hK h e0 e1 e2 RY;cases b
 ·simp
 by_cases h12:K=12
 ·subst h12;cases l1
  ·cases no<;>cases nn<;>cases lo<;>cases ll<;>simp
  ·obtain⟨rfl,rfl⟩:=hbr rfl;cases no<;>cases nn<;>cases lo<;>cases ll<;>simp
 by_cases h13:K=13
 ·subst h13;cases l1
  ·cases no<;>cases nn<;>cases lo<;>cases ll<;>simp
  ·obtain⟨rfl,rfl⟩:=hbr rfl;cases no<;>cases nn<;>cases lo<;>cases ll<;>simp
 by_cases ig:K=14
 ·subst ig;cases l1
  ·cases no<;>cases nn<;>cases lo<;>cases ll<;>simp
  ·obtain⟨rfl,rfl⟩:=hbr rfl;cases no<;>cases nn<;>cases lo<;>cases ll<;>simp
 by_cases h15:K=15
 ·subst h15;cases l1
  ·cases no<;>cases nn<;>cases lo<;>cases ll<;>simp
  ·obtain⟨rfl,rfl⟩:=hbr rfl;cases no<;>cases nn<;>cases lo<;>cases ll<;>simp
 by_cases h16:K=16
 ·subst h16;cases l1
  ·cases no<;>cases nn<;>cases lo<;>cases ll<;>simp
  ·obtain⟨rfl,rfl⟩:=hbr rfl;cases no<;>cases nn<;>cases lo<;>cases ll<;>simp
 by_cases h17:K=17
 ·subst h17;cases l1
  ·cases no<;>cases nn<;>cases lo<;>cases ll<;>simp
  ·obtain⟨rfl,rfl⟩:=hbr rfl;cases no<;>cases nn<;>cases lo<;>cases ll<;>simp
 by_cases h18:K=18
 ·subst h18;cases l1
  ·cases no<;>cases nn<;>cases lo<;>cases ll<;>simp
  ·obtain⟨rfl,rfl⟩:=hbr rfl;cases no<;>cases nn<;>cases lo<;>cases ll<;>simp
 by_cases h19:K=19
 ·subst h19;cases l1
  ·cases no<;>cases nn<;>cases lo<;>cases ll<;>simp
  ·obtain⟨rfl,rfl⟩:=hbr rfl;cases no<;>cases nn<;>cases lo<;>cases ll<;>simp
 by_cases h20:K=20
 ·subst h20;cases l1
  ·cases no<;>cases nn<;>cases lo<;>cases ll<;>simp
  ·obtain⟨rfl,rfl⟩:=hbr rfl;cases no<;>cases nn<;>cases lo<;>cases ll<;>simp
 by_cases h21:K=21
 ·subst h21;cases l1
  ·cases no<;>cases nn<;>cases lo<;>cases ll<;>simp
  ·obtain⟨rfl,rfl⟩:=hbr rfl;cases no<;>cases nn<;>cases lo<;>cases ll<;>simp
 by_cases h22:K=22
 ·subst h22;cases l1
  ·cases no<;>cases nn<;>cases lo<;>cases ll<;>simp
  ·obtain⟨rfl,rfl⟩:=hbr rfl;cases no<;>cases nn<;>cases lo<;>cases ll<;>simp
 by_cases h23:K=23
 ·subst h23;cases l1
  ·cases no<;>cases nn<;>cases lo<;>cases ll<;>simp
  ·obtain⟨rfl,rfl⟩:=hbr rfl;cases no<;>cases nn<;>cases lo<;>cases ll<;>simp
 have q1:(K==20)=false:=by simpa using h20
 have q2:(K==21)=false:=by simpa using h21
 have q3:(decide ((16:Int)<=K)&&decide (K<=19))=false:=by
  rw[yd];simp only[ne_eq,aU,aZ];omega
 have q4:(K==12)=false:=by simpa using h12
 have q5:(K==13)=false:=by simpa using h13
 have q6:(K==14)=false:=by simpa using ig
 have q7:(K==15)=false:=by simpa using h15
 have q8:(K==16)=false:=by simpa using h16
 have q9:(K==17)=false:=by simpa using h17
 have q10:(K==22)=false:=by simpa using h22
 have q11:(K==23)=false:=by simpa using h23
 simp only[q1,q2,q3,q4,q5,q6,q7,q8,q9,q10,q11,h12,h13,ig,h15,h16,h17,h22,h23,or_self,ei];cases nn<;>cases ll<;>simp
theorem RZ:∀(m:Nat)(t:aa),t.sz<m->t.sz<=1048576->M.nL m t=some (bK t)
 |0,t,h,_=>absurd h (jD _)
 |m+1,t,h,hN=>by
  have hl:=aa.fg hN;have e:=qs (p:=fun x=> !bK x) (F:=M.rl (M.nL m) t.Kids (t.Kids.length:Int)) (e:=()) (fun k=>k) t.Kids (by omega) (fun f k hk=>by
   rw[M.rl];have hx:=aa.dw (an hk);have c:M.tI (M.nL m) t.Kids[k]=some (!bK t.Kids[k]):=by
    unfold M.tI;simp only[aa.aG,RZ m t.Kids[k] (by omega) (by omega)];rfl
   simp only[aa.aG,getD_lt hk,c,bP,cD,eF,hk,gQ,cE,dy,c9,aQ,cq hk (by omega:t.Kids.length<2^62),aC,aR]) (fun f=>by
   rw[M.rl];simp)
  have e2:M.rm (M.nL m) t.Kids=some (!su t.Kids):=by
   unfold M.rm M.wJ;have e3:(!su t.Kids)=t.Kids.any fun x=> !bK x:=by rw[vm,A7]
   rw[e,e3,qt];cases t.Kids.findIdx? (fun x=> !bK x)<;>simp
  show M.tV (M.nL m) t=_
  rw[aeF t hN _ _ e2,m3,Bool.and_comm]
theorem Rm(t:aa)(h:t.sz<=1048576):M.ub t=some (dE t):=by
 unfold M.ub;have e1:M.zw t=some (bK t):=RZ ai t (ia h) h;have e2:M.zh t 4=some ((min (fF t) 5:Nat):Int):=RO ai t 4 (by have:=cJ;omega) (by omega) h;have e3:M.zj t=some ((eg t:Nat):Int):=RN ai t (ia h) h;simp only[aa.aG,e1,e2,e3,aC,aR,dy,aQ,cE];have a1:decide (((min (fF t) 5:Nat):Int)<=4)=decide (fF t<=4):=by simp only[fG];omega
 have a2:decide (((eg t:Nat):Int)<=24)=decide (eg t<=24):=by simp only[fG];omega
 rw[a1,a2];rfl
end M
namespace M
open Go.V (inB bF ai cJ)
def cH(t:aa):List aa:=if t.Kind=13 then[.mk 1 [] [] [],t.Kids.getD 0 aa.zero]else t.Kids
theorem xE{t:aa}(h:bK t=true)(hk:t.Kind=13):0<t.Kids.length:=by
 rw[m3]at h;have h1:iV t=true:=by rw[aU]at h;exact h.1
 unfold iV ql at h1;rw[bG (.inr hk:t.Kind=12\/t.Kind=13)]at h1;simp only[aU,jI]at h1;omega
theorem hZ{t:aa}(h:bK t=true):∀x∈t.Kids,bK x=true:=by
 rw[m3,aU,vm,di]at h;exact h.2
theorem AU(t:aa)(h:bK t=true)(hk:t.Kind=13\/t.Kind=14\/t.Kind=17):M.mq t=some (cH t):=by
 unfold M.mq cH;by_cases h13:t.Kind=13
 ·have hp:=xE h h13;rw[bG h13];simp only[aa.aG,h13,GO,hp,gQ,aQ,cE,Int.toNat_zero,kD]
 ·rw[bH h13];rcases hk with hk|hk|hk
  ·exact absurd hk h13
  ·rw[hk];rfl
  ·rw[hk];rfl
theorem xN(t:aa)(h:bK t=true)(hk:t.Kind=13\/t.Kind=14\/t.Kind=17):M.mG t=some (cH t):=AU t h hk
theorem qj{t:aa}(h:bK t=true)(hk:t.Kind=13\/t.Kind=14\/t.Kind=17):∀x∈cH t,bK x=true:=by
 unfold cH;by_cases h13:t.Kind=13
 ·have hp:=xE h h13;rw[bG h13,getD_lt hp];intro x hx;rcases dP.1 hx with rfl|hx
  ·decide
  ·rcases dP.1 hx with rfl|hx
   ·exact hZ h _ (an _)
   ·simp at hx
 ·rw[bH h13];exact hZ h
theorem ox{t:aa}(h:bK t=true)(hk:t.Kind=13\/t.Kind=14\/t.Kind=17):∀x∈cH t,x.sz<t.sz:=by
 unfold cH;by_cases h13:t.Kind=13
 ·have hp:=xE h h13;rw[bG h13,getD_lt hp];have hg:(t.Kids[0]).sz<t.sz:=aa.dw (an _);intro x hx;rcases dP.1 hx with rfl|hx
  ·have:(aa.mk 1 [] [] []).sz=0:=by rw[aa.dL];rfl
   omega
  ·rcases dP.1 hx with rfl|hx
   ·exact hg
   ·simp at hx
 ·rw[bH h13];exact fun x hx=>aa.dw hx
end M
