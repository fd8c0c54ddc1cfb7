/-
  NAMES AND TYPES: what is right, in plain Lean.
-/
import Derived.Test.YtjgokmknlclpgaaGreatDoorXEpl4
import Derived.Test.YtjgokmknlclpgaaGreatDoorXEFH
set_option linter.unusedVariables false
namespace M
open Go.V (inB yx az bU)
def avh(c:UInt8):Bool:=decide ((97:Int)<=((c.toNat:Nat):Int))&&decide (((c.toNat:Nat):Int)<=122)
def aH4(c:UInt8):Bool:=decide ((48:Int)<=((c.toNat:Nat):Int))&&decide (((c.toNat:Nat):Int)<=57)
def amE(c:UInt8):Bool:=((c.toNat:Nat):Int)==45
def GL(s:List UInt8)(k:Nat):Bool:=avh (s.getD k 0)||(decide (0<k)&&((aH4 (s.getD k 0)||amE (s.getD k 0))&& !(amE (s.getD k 0)&&amE (s.getD (k-1) 0))))
def gJ(s:List UInt8):Bool:=(List.range s.length).all (GL s)&&((decide (1<=s.length)&&decide (s.length<=12))&& !amE (s.getD (s.length-1) 0))
def ai8(l:List (List UInt8)):Bool:=(decide (1<=l.length)&&decide (l.length<=16))&&(nodupB l&&l.all gJ)
mutual
def je:ae->Nat
 |.mk _ _ _ kids=>1+qU kids
def qU:List ae->Nat
 |[]=>0
 |x::r=>je x+qU r
end
mutual
def uT:ae->Nat
 |.mk _ _ _ kids=>1+agP kids
def agP:List ae->Nat
 |[]=>0
 |x::r=>max (uT x) (agP r)
end
mutual
def PO(p:Int->Bool):ae->Bool
 |.mk k _ _ kids=>p k||ai9 p kids
def ai9(p:Int->Bool):List ae->Bool
 |[]=>false
 |x::r=>PO p x||ai9 p r
end
theorem CJ(t:ae):je t=1+qU t.Kids:=by cases t;rfl
theorem alg(t:ae):uT t=1+agP t.Kids:=by cases t;rfl
theorem az7(p:Int->Bool)(t:ae):PO p t=(p t.Kind||ai9 p t.Kids):=by cases t;rfl
theorem aqi(p:Int->Bool):∀l,ai9 p l=l.any (PO p)
 |[]=>rfl
 |x::r=>by rw[ai9,List.any_cons,aqi p r]
def yP(t:ae):Bool:=t.Kind==1
def ab7(t:ae):Bool:=(t.Kind==20)||(t.Kind==21)
def aH5(t:ae):Bool:=decide ((16:Int)<=t.Kind)&&decide (t.Kind<=19)
def az8(t:ae):Bool:=
 if t.Kind=12\/t.Kind=13 then(t.Kids.length==1)&& !t.Kids.any yP
 else if t.Kind=14 then t.Kids.length==2
 else if t.Kind=15 then(decide (1<=t.Kids.length)&&decide (t.Kids.length<=6))&& !t.Kids.any yP
 else if t.Kind=16 then(t.Kids.length==t.dP.length)&& !t.Kids.any yP
 else if t.Kind=17 then t.Kids.length==t.dP.length
 else if t.Kind=22\/t.Kind=23 then(t.Kids.length==1)&& !ai9 (fun k=>k==21) t.Kids
 else(decide ((1:Int)<=t.Kind)&&decide (t.Kind<=23))&&(t.Kids.length==0)
def SA(t:ae):Bool:=
 ((if aH5 t then ai8 t.dP else t.dP.length==0)&&(if ab7 t then gJ t.Name else t.Name==[]))&&az8 t
mutual
def ku:ae->Bool
 |.mk k n l kids=>SA (.mk k n l kids)&&agQ kids
def agQ:List ae->Bool
 |[]=>true
 |x::r=>ku x&&agQ r
end
theorem NL(t:ae):ku t=(SA t&&agQ t.Kids):=by cases t;rfl
theorem PM:∀l,agQ l=l.all ku
 |[]=>rfl
 |x::r=>by rw[agQ,P8,PM r]
def tOk(t:ae):Bool:=(decide (uT t<=4)&&decide (je t<=24))&&ku t
theorem apT:∀(l:List ae)(x:ae),x∈l->je x<=qU l
 |y::r,x,h=>by
  rcases AB.1 h with rfl|h
  ·simp only[qU];omega
  ·have:=apT r x h;simp only[qU];omega
theorem aw1:∀l:List ae,l.length<=qU l
 |[]=>iM _
 |x::r=>by have:=aw1 r;simp only[qU,jA,CJ x];omega
theorem Ii{l:List ae}{k:Nat}(h:k<l.length):qU (l.drop k)=je l[k]+qU (l.drop (k+1)):=by rw[jb h];rfl
theorem aty{l:List ae}{k:Nat}(h:k<l.length):agP (l.drop k)=max (uT l[k]) (agP (l.drop (k+1))):=by rw[jb h];rfl
theorem aqj(t:ae):1<=uT t:=by rw[alg];omega
end M
set_option linter.unusedSimpArgs false
namespace M
open Go.V (inB yx az bU)
theorem uz{n:Nat}(h:n<=1048576):n<az:=by have:=bU;omega
theorem amy{k n:Nat}(h0:0<k)(h:k<=n)(hn:n<2^62):Go.IntKind.wrap .i64 ((k:Int)-1)=((k-1:Nat):Int):=by
 rw[wrap_i64 (by omega) (by omega)];omega
theorem Jn(s:List UInt8)(hs:s.length<=1048576):M.qO s=some (gJ s):=by
 unfold M.qO;rw[xG (p:=GL s) (F:=M.yM s (s.length:Int)) (e:=s) (b:=false) s.length (by omega) (fun f k hk=>by
  rw[M.yM];simp only[kE,bn,gZ,hk,eG,bQ,jc,dY,jg,dB hk (dO hs),GL,avh,aH4,amE,uY];generalize decide ((97:Int)<=(((s.getD k 0).toNat:Nat):Int))=a1;generalize decide ((((s.getD k 0).toNat:Nat):Int)<=122)=a2;generalize decide ((48:Int)<=(((s.getD k 0).toNat:Nat):Int))=a3;generalize decide ((((s.getD k 0).toNat:Nat):Int)<=57)=a4;generalize ((((s.getD k 0).toNat:Nat):Int)==45)=a5;rcases agM k with h0|h0
  ·subst h0;cases a1<;>cases a2<;>cases a3<;>cases a4<;>cases a5<;>simp
  ·have e0:((k:Int)==0)=false:=by rw[AP];omega
   have hk1:k-1<s.length:=by omega
   simp only[e0,amy h0 (amz hk) (dO hs),kE,bn,hk1,h0,eG];generalize ((((s.getD (k-1) 0).toNat:Nat):Int)==45)=a6;cases a1<;>cases a2<;>cases a3<;>cases a4<;>cases a5<;>cases a6<;>simp) (fun f=>by rw[M.yM];simp)]
 unfold gJ;cases hall:(List.range s.length).all (GL s)
 ·simp
 ·simp only[Fh,uY,dY];rcases agM s.length with h0|h0
  ·simp[h0]
  ·have h1:s.length-1<s.length:=by omega
   have e1:decide ((1:Int)<=((s.length:Nat):Int))=decide (1<=s.length):=by simp only[EZ];omega
   have e2:decide (((s.length:Nat):Int)<=12)=decide (s.length<=12):=by simp only[EZ];omega
   simp only[amy h0 (iM _) (dO hs),kE,bn,h1,eG,jc,jg,bQ,e1,e2,amE]
theorem Jm(s:List UInt8)(hs:s.length<=1048576):M.nH s=some (gJ s):=by
 unfold M.nH;rcases agM s.length with h0|h0
 ·have:s=[]:=aob h0;subst this;rfl
 have h1:s.length-1<s.length:=by omega
 simp only[amy h0 (iM _) (dO hs),kE,bn,h1,Int.toNat_zero,eG,jc,jg,bQ];have hz:inB (0:Int) s.length=true:=by
  show inB ((0:Nat):Int) s.length=true
  rw[bn];simpa using h0
 simp only[hz,jc,jg,bQ];have e1:decide (((s.length:Nat):Int)<1)= !decide (1<=s.length):=by rw[<-alL];simp only[EZ];omega
 have e2:decide ((12:Int)<((s.length:Nat):Int))= !decide (s.length<=12):=by rw[<-alL];simp only[EZ];omega
 have e3:decide ((((s.getD 0 0).toNat:Nat):Int)<97)= !decide ((97:Int)<=(((s.getD 0 0).toNat:Nat):Int)):=by rw[<-alL];simp only[EZ];omega
 have e4:decide ((122:Int)<(((s.getD 0 0).toNat:Nat):Int))= !decide ((((s.getD 0 0).toNat:Nat):Int)<=122):=by rw[<-alL];simp only[EZ];omega
 rw[e1,e2,e3,e4];by_cases hlow:avh (s.getD 0 0)=true
 ·have hl:=hlow;simp only[avh,lS]at hl;rw[xG (p:=GL s) (F:=M.zt s) (e:=()) (b:=false) s.length (by omega) (fun f k hk=>by
   rw[M.zt];have f1:decide ((((s.getD k 0).toNat:Nat):Int)<97)= !decide ((97:Int)<=(((s.getD k 0).toNat:Nat):Int)):=by rw[<-alL];simp only[EZ];omega
   have f2:decide ((122:Int)<(((s.getD k 0).toNat:Nat):Int))= !decide ((((s.getD k 0).toNat:Nat):Int)<=122):=by rw[<-alL];simp only[EZ];omega
   have f3:decide ((((s.getD k 0).toNat:Nat):Int)<48)= !decide ((48:Int)<=(((s.getD k 0).toNat:Nat):Int)):=by rw[<-alL];simp only[EZ];omega
   have f4:decide ((57:Int)<(((s.getD k 0).toNat:Nat):Int))= !decide ((((s.getD k 0).toNat:Nat):Int)<=57):=by rw[<-alL];simp only[EZ];omega
   simp only[kE,bn,gZ,hk,eG,bQ,jc,dY,jg,dB hk (dO hs),GL,avh,aH4,amE,uY,f1,f2,f3,f4];have dash:avh (s.getD k 0)=true->((((s.getD k 0).toNat:Nat):Int)==45)=false:=fun h=>by
    simp only[avh,lS,jX]at h;rw[AP];omega
   simp only[avh]at dash;rcases agM k with k0|k0
   ·subst k0;rw[hl.1,hl.2]at*;simp only[pq]at dash;rw[dash trivial];simp
   ·have hk1:k-1<s.length:=by omega
    simp only[amy k0 (amz hk) (dO hs),kE,bn,hk1,k0,eG];generalize ((((s.getD (k-1) 0).toNat:Nat):Int)==45)=a6
    revert dash
    generalize decide ((97:Int)<=(((s.getD k 0).toNat:Nat):Int))=a1;generalize decide ((((s.getD k 0).toNat:Nat):Int)<=122)=a2;generalize decide ((48:Int)<=(((s.getD k 0).toNat:Nat):Int))=a3;generalize decide ((((s.getD k 0).toNat:Nat):Int)<=57)=a4;generalize ((((s.getD k 0).toNat:Nat):Int)==45)=a5;intro dash;cases a1<;>cases a2<;>cases a3<;>cases a4<;>cases a5<;>cases a6<;>simp at dash⊢) (fun f=>by rw[M.zt];simp)]
  rw[hl.1,hl.2];unfold gJ amE;cases (List.range s.length).all (GL s)<;>cases decide (1<=s.length)<;>cases decide (s.length<=12)<;>cases ((((s.getD (s.length-1) 0).toNat:Nat):Int)==45)<;>rfl
 ·have hno:gJ s=false:=by
   unfold gJ;have:(List.range s.length).all (GL s)=false:=by
    rw[List.all_eq_false];refine⟨0,by simpa using h0,?_⟩;simp only[RF]at hlow;simp only[GL,hlow];intro h;cases h
   rw[this];rfl
  rw[hno];simp only[RF]at hlow;simp only[avh]at hlow;cases h3:decide ((97:Int)<=(((s.getD 0 0).toNat:Nat):Int))<;>cases h4:decide ((((s.getD 0 0).toNat:Nat):Int)<=122)<;>rw[h3,h4]at hlow<;>simp at hlow⊢
end M
namespace M
open Go.V (inB yx az bU)
theorem nodup_range(l:List (List UInt8)):(List.range l.length).all (fun i=>(List.range i).all fun k=> !(l.getD k []==l.getD i []))=nodupB l:=by
 rw[KA,HY,List.Nodup,ayD];simp only[zG,atA,EY,AP];constructor
 ·intro h i j hi hj hij e;have:=h j hj i hij;rw[getD_lt hi,getD_lt hj]at this;exact this e
 ·intro h i hi k hk e;rw[getD_lt hi,getD_lt (by omega)]at e;exact h k i (by omega) hi hk e
theorem VF{α:Type}(p:α->Bool)(l:List α)(d:α):(List.range l.length).all (fun i=>p (l.getD i d))=l.all p:=by
 rw[KA];simp only[zG,atA];constructor
 ·intro h x hx;obtain⟨i,hi,rfl⟩:=asX hx;have:=h i hi
  rwa [getD_lt hi]at this
 ·intro h i hi;rw[getD_lt hi];exact h _ (gp hi)
theorem ai0{α:Type}(p q:α->Bool)(l:List α):l.all (fun x=>p x&&q x)=(l.all p&&l.all q):=by
 induction l with
 |nil=>rfl
 |cons x r ih=>simp only[P8,ih];cases p x<;>cases q x<;>cases r.all p<;>cases r.all q<;>rfl
theorem aC4(l:List (List UInt8))(h:eF List.length l<=1048576):M.J3 l=some (ai8 l):=by
 have hl:=lH (dh List.length l) h;unfold M.J3;have e1:decide (((l.length:Nat):Int)<1)= !decide (1<=l.length):=by rw[<-alL];simp only[EZ];omega
 have e2:decide ((16:Int)<((l.length:Nat):Int))= !decide (l.length<=16):=by rw[<-alL];simp only[EZ];omega
 rw[e1,e2,xG (p:=fun i=>gJ (l.getD i [])&&(List.range i).all fun k=> !(l.getD k []==l.getD i [])) (F:=fun f i=>M.ni f l i) (e:=()) (b:=false) l.length (by omega) (fun f k hk=>by
  show M.ni (f+1) l (k:Int)=_
  rw[M.ni];have hn:(l.getD k []).length<=1048576:=by rw[getD_lt hk];exact lH (eY List.length _ _ (gp hk)) h
  have inner:M.lQ l (k:Int) az 0=some (if(List.range k).all (fun j=> !(l.getD j []==l.getD k []))then .inr (l,(k:Int))else .inl false):=
   xG (p:=fun j=> !(l.getD j []==l.getD k [])) (F:=M.lQ l (k:Int)) (e:=(l,(k:Int))) (b:=false) k (by omega) (fun f j hj=>by
    rw[M.lQ];have hj':j<l.length:=by omega
    simp only[kE,bn,gZ,hj,hk,hj',eG,bQ,jc,dY,jg,dB hj (by omega:k<2^62)];cases l.getD j []==l.getD k []<;>rfl) (fun f=>by rw[M.lQ];simp)
  simp only[kE,bn,gZ,hk,eG,bQ,jc,dY,jg,dB hk (by omega:l.length<2^62),Jm _ hn,inner,jR,jY];cases gJ (l.getD k [])<;>cases (List.range k).all (fun j=> !(l.getD j []==l.getD k []))<;>simp[dB hk (by omega:l.length<2^62)]) (fun f=>by
  show M.ni (f+1) l (l.length:Int)=_
  rw[M.ni];simp)]
 unfold ai8;rw[ai0,VF,nodup_range];cases decide (1<=l.length)<;>cases decide (l.length<=16)<;>cases l.all gJ<;>cases nodupB l<;>rfl
theorem aC5(l:List (List UInt8))(h:eF List.length l<=1048576):M.PE l=some (ai8 l):=by
 have hl:=lH (dh List.length l) h;have c1:∀s:List UInt8,s.length<=1048576->M.Dx s=some (!gJ s):=fun s hs=>by
  unfold M.Dx;rw[Jn s hs];rfl
 have cf:M.iK l=some (l.any fun s=> !gJ s):=by
  have e:=iL (p:=fun s=> !gJ s) (F:=M.fF l (l.length:Int)) (e:=()) (fun k=>k) l (by omega) (fun f k hk=>by
   rw[M.fF];have hn:l[k].length<=1048576:=lH (eY List.length _ _ (gp hk)) h;simp only[getD_lt hk,kE,bn,gZ,hk,eG,bQ,jc,dY,jg,dB hk (by omega:l.length<2^62),c1 _ hn,jR,jY]) (fun f=>by rw[M.fF];simp)
  unfold M.iK M.kJ;rw[e,jJ];cases l.findIdx? (fun s=> !gJ s)<;>simp
 unfold M.PE;rw[cf,IB l hl];have e1:decide ((1:Int)<=((l.length:Nat):Int))=decide (1<=l.length):=by simp only[EZ];omega
 have e2:decide (((l.length:Nat):Int)<=16)=decide (l.length<=16):=by simp only[EZ];omega
 have e3:(l.any fun s=> !gJ s)= !l.all gJ:=by rw[aym]
 unfold ai8;simp only[jY,jc,jg,bQ,jR,e1,e2,e3,aqc];cases decide (1<=l.length)<;>cases decide (l.length<=16)<;>cases l.all gJ<;>cases nodupB l<;>rfl
end M
namespace M
open Go.V (inB yx az bU)
theorem ae.alh{a:ae}{N:Nat}(h:a.sz<=N):eF List.length a.dP<=N:=by rw[ae.dN]at h;omega
theorem ae.aja{a:ae}{N:Nat}(h:a.sz<=N):a.Name.length<=N:=by rw[ae.dN]at h;omega
theorem ae.acX{a:ae}{N:Nat}(h:a.sz<=N):eF ae.sz a.Kids<=N:=by rw[ae.dN]at h;omega
theorem ae.uj{a:ae}{N:Nat}(h:a.sz<=N):a.Kids.length<=N:=lH (dh _ _) (ae.acX h)
theorem ae.ayI{a:ae}{N:Nat}(h:a.sz<=N):a.dP.length<=N:=lH (dh _ _) (ae.alh h)
theorem ae.zA{a x:ae}(h:x∈a.Kids):x.sz<a.sz:=by
 rw[ae.dN a];have:=WG ae.sz _ _ h;omega
theorem aE8(t:ae)(h:t.sz<=1048576):M.Eo t=some (t.Kids.any yP):=by
 have hl:=ae.uj h;have e:=iL (p:=yP) (F:=fun f i=>M.mr f i t) (e:=()) (fun _=>true) t.Kids (by omega) (fun f k hk=>by
  show M.mr (f+1) (k:Int) t=_
  rw[M.mr];simp only[ae.aF,getD_lt hk,kE,bn,gZ,hk,eG,bQ,jc,dY,jg,dB hk (by omega:t.Kids.length<2^62),yP]) (fun f=>by
  show M.mr (f+1) _ t=_
  rw[M.mr];simp)
 unfold M.Eo;rw[ae.aF,jJ];have e':M.mr az 0 t=_:=e;rw[e'];cases t.Kids.findIdx? yP<;>simp
theorem azS(lo hi:Int):∀(m:Nat)(t:ae),t.sz<m->t.sz<=1048576->M.oh m t lo hi=some (PO (fun k=>decide (lo<=k)&&decide (k<=hi)) t)
 |0,t,h,_=>absurd h (ach _)
 |m+1,t,h,hN=>by
  have hl:=ae.uj hN;have e:=iL (p:=PO (fun k=>decide (lo<=k)&&decide (k<=hi))) (F:=fun f i=>M.rJ (M.oh m) lo hi f i t) (e:=()) (fun _=>true) t.Kids (by omega) (fun f k hk=>by
   show M.rJ (M.oh m) lo hi (f+1) (k:Int) t=_
   rw[M.rJ];have hx:=ae.zA (gp hk);simp only[ae.aF,getD_lt hk,azS lo hi m t.Kids[k] (by omega) (by omega),kE,bn,gZ,hk,eG,bQ,jc,dY,jg,dB hk (by omega:t.Kids.length<2^62),jR,jY]) (fun f=>by
   show M.rJ (M.oh m) lo hi (f+1) _ t=_
   rw[M.rJ];simp)
  show M.Wv (M.oh m) t lo hi=_
  unfold M.Wv;have e':M.rJ (M.oh m) lo hi az 0 t=_:=e;rw[ae.aF,e',az7,aqi,jJ];cases (decide (lo<=t.Kind)&&decide (t.Kind<=hi))<;>cases t.Kids.findIdx? (PO fun k=>decide (lo<=k)&&decide (k<=hi))<;>simp
theorem ayJ(l:List Int)(v:Int)(hl:l.length<2^62):M.jP l v=some (l.any fun x=>v==x):=by
 have e:=iL (p:=fun x=>v==x) (F:=M.ik l v (l.length:Int)) (e:=()) (fun k=>k) l hl (fun f k hk=>by
  rw[M.ik];simp only[getD_lt hk,kE,bn,gZ,hk,eG,bQ,jc,dY,jg,dB hk hl]) (fun f=>by rw[M.ik];simp)
 unfold M.jP M.oP;rw[e,jJ];cases l.findIdx? (fun x=>v==x)<;>simp
theorem azT(ks:List Int)(hk:ks.length<2^62):∀(m:Nat)(t:ae),t.sz<m->t.sz<=1048576->M.nP m t ks=some (PO (fun k=>ks.any fun x=>k==x) t)
 |0,t,h,_=>absurd h (ach _)
 |m+1,t,h,hN=>by
  have hl:=ae.uj hN;have e:=iL (p:=PO (fun k=>ks.any fun x=>k==x)) (F:=M.fO (M.nP m) t.Kids ks (t.Kids.length:Int)) (e:=()) (fun k=>k) t.Kids (by omega) (fun f k hk'=>by
   rw[M.fO];have hx:=ae.zA (gp hk');have c:M.GH (M.nP m) t.Kids[k] ks=some (PO (fun k=>ks.any fun x=>k==x) t.Kids[k]):=by
    unfold M.GH;simp only[ae.aF,azT ks hk m t.Kids[k] (by omega) (by omega)];rfl
   simp only[ae.aF,getD_lt hk',c,kE,bn,gZ,hk',eG,bQ,jc,dY,jg,dB hk' (by omega:t.Kids.length<2^62),jR,jY]) (fun f=>by
   rw[M.fO];simp)
  have e2:M.iV (M.nP m) t.Kids ks=some (t.Kids.any (PO (fun k=>ks.any fun x=>k==x))):=by
   unfold M.iV M.lq;rw[e,jJ];cases t.Kids.findIdx? (PO (fun k=>ks.any fun x=>k==x))<;>simp
  show M.Rq (M.nP m) t ks=_
  unfold M.Rq;rw[e2,ayJ ks _ hk,az7,aqi];simp
theorem avi:∀(l:List ae),(∀x∈l,je x<=x.sz+1)->qU l<=eF ae.sz l
 |[],_=>iM _
 |x::r,h=>by
  have:=avi r fun y hy=>h y (asY _ hy)
  have:=h x (avj ..);simp only[qU,eF];omega
theorem aqk:∀(n:Nat)(t:ae),t.sz<n->je t<=t.sz+1
 |0,t,h=>absurd h (ach _)
 |n+1,t,h=>by
  have:=avi t.Kids fun x hx=>aqk n x (by have:=ae.zA hx;omega)
  rw[CJ,ae.dN];omega
theorem VD(t:ae):je t<=t.sz+1:=aqk _ t (awE _)
theorem aiZ{l:List ae}{N:Nat}(h:eF ae.sz l<=N):qU l<=N:=lH (avi l fun x _=>VD x) h
theorem au7(l:List ae)(k:Nat):qU (l.take k)<=qU l:=by
 have:∀(a b:List ae),qU (a++b)=qU a+qU b:=fun a b=>by
  induction a with
  |nil=>simp[qU]
  |cons x r ih=>simp only[Hw,qU,ih];omega
 have h:=this (l.take k) (l.drop k);rw[List.take_append_drop]at h;omega
theorem az9:∀(m:Nat)(t:ae),t.sz<m->t.sz<=1048576->M.EJ m t=some ((je t:Nat):Int)
 |0,t,h,_=>absurd h (ach _)
 |m+1,t,h,hN=>by
  have hl:=ae.uj hN;have hs:=aiZ (ae.acX hN);have key:∀f k (a:Nat),k<=t.Kids.length->t.Kids.length-k<f->a+qU (t.Kids.drop k)<=1048577->M.BH (M.EJ m) t.Kids (t.Kids.length:Int) f (a:Int) (k:Int)=some (((a+qU (t.Kids.drop k):Nat)):Int):=by
   intro f
   induction f with
   |zero=>intro k a h1 h2;omega
   |succ f ih=>
    intro k a h1 h2 h3;rcases kF k t.Kids.length with hk|hk
    ·rw[M.BH];have hx:=ae.zA (gp hk);rw[Ii hk]at h3⊢;have hw:Go.IntKind.wrap .i64 ((a:Int)+((je t.Kids[k]:Nat):Int))=((a+je t.Kids[k]:Nat):Int):=by rw[wrap_i64 (by omega) (by omega)];omega
     simp only[ae.aF,getD_lt hk,az9 m t.Kids[k] (by omega) (by omega),kE,bn,gZ,hk,eG,bQ,dY,jg,dB hk (by omega:t.Kids.length<2^62),jR,jY,hw];rw[ih (k+1) _ (by omega) (by omega) (by omega)];congr 1;omega
    ·have:k=t.Kids.length:=by omega
     subst this;rw[M.BH];simp[Sl,qU]
  show M.acW (M.EJ m) t=_
  unfold M.acW;have e:=key az 0 1 (oG _) (by have:=bU;omega) (by simp only[Nk];omega);have e':M.BH (M.EJ m) t.Kids (t.Kids.length:Int) az 1 0=_:=e;rw[e',CJ];rfl
theorem aC6:∀(m:Nat)(t:ae)(L:Nat),L<m->L<=100->t.sz<=1048576->M.J4 m t (L:Int)=some ((min (uT t) (L+1):Nat):Int)
 |0,t,L,h,_,_=>absurd h (ach _)
 |m+1,t,L,h,hL,hN=>by
  have hl:=ae.uj hN
  show M.aiD (M.J4 m) t (L:Int)=_
  unfold M.aiD;cases L with
  |zero=>
   have:=aqj t;rw[show min (uT t) (0+1)=1 by omega];rfl
  |succ L=>
   have hw0:Go.IntKind.wrap .i64 (((L+1:Nat):Int)-1)=(L:Int):=by rw[wrap_i64 (by omega) (by omega)];omega
   have key:∀f k (a:Nat),k<=t.Kids.length->t.Kids.length-k<f->M.EH (M.J4 m) ((L+1:Nat):Int) t.Kids (t.Kids.length:Int) f (a:Int) (k:Int)=some ((max a (min (agP (t.Kids.drop k)) (L+1)):Nat):Int):=by
    intro f
    induction f with
    |zero=>intro k a h1 h2;omega
    |succ f ih=>
     intro k a h1 h2;rcases kF k t.Kids.length with hk|hk
     ·rw[M.EH];have hx:=ae.zA (gp hk);simp only[ae.aF,getD_lt hk,hw0,aC6 m t.Kids[k] L (by omega) (by omega) (by omega),kE,bn,gZ,hk,eG,bQ,dY,jg,dB hk (by omega:t.Kids.length<2^62),jR,jY];have hm:(bif decide (a<min (uT t.Kids[k]) (L+1))then((min (uT t.Kids[k]) (L+1):Nat):Int)else(a:Int))=((max a (min (uT t.Kids[k]) (L+1)):Nat):Int):=by
       by_cases hc:a<min (uT t.Kids[k]) (L+1)
       ·simp only[hc,eG,bQ];omega
       ·simp only[hc,ad4,gG];omega
      rw[hm,ih (k+1) _ (by omega) (by omega),aty hk];congr 1;omega
     ·have:k=t.Kids.length:=by omega
      subst this;rw[M.EH];simp[Sl,agP]
   have e:=key az 0 0 (oG _) (by have:=bU;omega);have e':M.EH (M.J4 m) ((L+1:Nat):Int) t.Kids (t.Kids.length:Int) az 0 0=_:=e;have d:(((L+1:Nat):Int)==0)=false:=by rw[AP];omega
   rw[d,e',alg];simp only[gG,Nk];rw[wrap_i64 (by omega) (by omega)];congr 1;omega
end M
namespace M
open Go.V (inB yx az bU)
def ajb(d:Nat)(t:ae):Int×Int:=if d+uT t<=5/\je t<=24 then(((uT t:Nat):Int),((je t:Nat):Int))else(5,25)
theorem aC7:∀(m d:Nat)(t:ae),d<=5->6<=m+d->t.sz<=1048576->M.yL m t (d:Int)=some (ajb d t)
 |0,d,t,h1,h2,_=>by omega
 |m+1,d,t,h1,h2,hN=>by
  have hl:=ae.uj hN;have hdp:=aqj t
  show M.Rk (M.yL m) t (d:Int)=_
  unfold M.Rk;by_cases h5:d=5
  ·subst h5;have:ajb 5 t=(5,25):=by unfold ajb;rw[bu (by omega)]
   rw[this];rfl
  have d4:decide ((4:Int)<(d:Int))=false:=by rw[AO];omega
  by_cases h24:24<t.Kids.length
  ·have:ajb d t=(5,25):=by
    unfold ajb;have:=aw1 t.Kids;rw[bu (by rw[CJ];omega)]
   rw[this,d4];have:decide ((24:Int)<((t.Kids.length:Nat):Int))=true:=by rw[jX];omega
   rw[this];rfl
  have d24:decide ((24:Int)<((t.Kids.length:Nat):Int))=false:=by rw[AO];omega
  have hw:Go.IntKind.wrap .i64 ((d:Int)+1)=((d+1:Nat):Int):=by rw[wrap_i64 (by omega) (by omega)];omega
  have mx:∀a b:Nat,M.Bg (a:Int) (b:Int)=some ((max a b:Nat):Int):=fun a b=>by
   unfold M.Bg;by_cases hc:b<a
   ·have:decide ((b:Int)<(a:Int))=true:=by rw[jX];omega
    rw[this];simp only[bQ];congr 1;omega
   ·have:decide ((b:Int)<(a:Int))=false:=by rw[AO];omega
    rw[this];simp only[gG];congr 1;omega
  have key:∀f k (a p:Nat),k<=t.Kids.length->t.Kids.length-k<f->p<=24->M.vX (M.yL m) (d:Int) f (a:Int) (p:Int) (k:Int) t=
   some (if d+1+agP (t.Kids.drop k)<=5/\p+qU (t.Kids.drop k)<=24 then .inr (((max a (agP (t.Kids.drop k)):Nat):Int),((p+qU (t.Kids.drop k):Nat):Int))else .inl (5,25)):=by
   intro f
   induction f with
   |zero=>intro k a p h1 h2;omega
   |succ f ih=>
    intro k a p h1 h2 h3;rcases kF k t.Kids.length with hk|hk
    ·rw[M.vX];have hx:=ae.zA (gp hk);have hc:=aC7 m (d+1) t.Kids[k] (by omega) (by omega) (by omega);rw[aty hk,Ii hk];simp only[ae.aF,getD_lt hk,hw,hc,kE,bn,gZ,hk,eG,bQ,dY,jg,dB hk (by omega:t.Kids.length<2^62),jR,jY];unfold ajb;by_cases hv:d+1+uT t.Kids[k]<=5/\je t.Kids[k]<=24
     ·rw[bI hv];have hw2:Go.IntKind.wrap .i64 ((p:Int)+((je t.Kids[k]:Nat):Int))=((p+je t.Kids[k]:Nat):Int):=by rw[wrap_i64 (by omega) (by omega)];omega
      dsimp only;rw[hw2,mx];by_cases hp:24<p+je t.Kids[k]
      ·have:decide ((24:Int)<((p+je t.Kids[k]:Nat):Int))=true:=by rw[jX];omega
       rw[this,bu (by omega)];simp
      ·have:decide ((24:Int)<((p+je t.Kids[k]:Nat):Int))=false:=by rw[AO];omega
       rw[this];simp only[gG,jY,dY,bQ,jR];rw[ih (k+1) _ _ (by omega) (by omega) (by omega)];have e1:(d+1+agP (t.Kids.drop (k+1))<=5/\p+je t.Kids[k]+qU (t.Kids.drop (k+1))<=24)↔(d+1+max (uT t.Kids[k]) (agP (t.Kids.drop (k+1)))<=5/\p+(je t.Kids[k]+qU (t.Kids.drop (k+1)))<=24):=by omega
       by_cases hq:d+1+agP (t.Kids.drop (k+1))<=5/\p+je t.Kids[k]+qU (t.Kids.drop (k+1))<=24
       ·rw[bI hq,bI (e1.1 hq)];congr 3
        ·omega
        ·omega
       ·rw[bu hq,bu (fun h=>hq (e1.2 h))]
     ·rw[bu hv,bu (by omega)];have hw2:Go.IntKind.wrap .i64 ((p:Int)+25)=(p:Int)+25:=wrap_i64 (by omega) (by omega);have mx5:M.Bg (a:Int) 5=some ((max a 5:Nat):Int):=mx a 5;dsimp only;rw[hw2,mx5];have:decide ((24:Int)<(p:Int)+25)=true:=by rw[jX];omega
      rw[this];simp
    ·have:k=t.Kids.length:=by omega
     subst this;rw[M.vX,Sl];have hq:d+1+agP []<=5/\p+qU []<=24:=⟨by show d+1+0<=5;omega,by show p+0<=24;omega⟩;rw[bI hq];simp[agP,qU]
  have e:=key az 0 0 1 (oG _) (by have:=bU;omega) (by omega);have e':M.vX (M.yL m) (d:Int) az 0 1 0 t=_:=e;rw[ae.aF,d4,d24,e'];simp only[Nk,apW,gG];unfold ajb;rw[alg,CJ];by_cases hq:d+1+agP t.Kids<=5/\1+qU t.Kids<=24
  ·rw[bI hq,bI (by omega)];simp only;congr 2;rw[wrap_i64 (by omega) (by omega)];omega
  ·rw[bu hq,bu (by omega)]
theorem aql{p:Int->Bool}{l:List ae}(h:l.length=1):PO p (l.getD 0 ae.zero)=ai9 p l:=by
 match l,h with
 |[x],_=>simp[ai9]
theorem NM{p q:Int->Bool}(h:∀k,p k=q k):PO p=PO q:=by
 have:p=q:=funext h;rw[this]
theorem b21(k:Int):(decide ((21:Int)<=k)&&decide (k<=21))=(k==21):=by
 rw[KA];simp only[lS,jX,sD];omega
theorem acY(n m:Nat):(((n:Nat):Int)==((m:Nat):Int))=(n==m):=by
 rw[KA];simp only[sD];omega
theorem aw2(n:Nat):(((n:Nat):Int)==1)=(n==1):=acY n 1
theorem aw3(n:Nat):(((n:Nat):Int)==2)=(n==2):=acY n 2
theorem aw4(n:Nat):(((n:Nat):Int)==0)=(n==0):=acY n 0
theorem aH6(n:Nat):inB (0:Int) n=decide (0<n):=bn 0 n
theorem aE9(t:ae)(h:t.sz<=1048576):M.PD t=some (SA t):=by
 have hn:=Jm t.Name (ae.aja h);have hb:=aC4 t.dP (ae.alh h);have hu:=aE8 t h;have hh:t.Kids.length=1->M.qM (M.ae.re (List.getD t.Kids 0 ae.zero)) 21 21=some (ai9 (fun k=>k==21) t.Kids):=fun h1=>by
  have hx:(t.Kids.getD 0 ae.zero).sz<t.sz:=by
   rw[getD_lt (by omega)];exact ae.zA (gp _)
  rw[ae.aF,show M.qM=M.oh az from rfl,azS 21 21 az _ (uz (by omega)) (by omega),NM b21,aql h1]
 unfold M.PD;simp only[ae.aF,hn,hb,hu,jR,jY,jc,jg,dY,bQ,aw2,aw3,aw4,acY,aH6,Int.toNat_zero];unfold SA az8;have e0:decide ((0:Int)<((t.dP.length:Nat):Int))= !(t.dP.length==0):=by
  rw[KA];simp only[jX,EY,AP];omega
 have e1:decide ((1:Int)<=((t.Kids.length:Nat):Int))=decide (1<=t.Kids.length):=by simp only[EZ];omega
 have e2:decide (((t.Kids.length:Nat):Int)<=6)=decide (t.Kids.length<=6):=by simp only[EZ];omega
 rw[e0,e1,e2];have Ko:ai8 t.dP=true->(t.dP.length==0)=false:=fun h=>by
  simp only[ai8,lS,jX]at h;rw[AP];omega
 have Kq:gJ t.Name=true->(t.Name==[])=false:=fun h=>by
  simp only[gJ,lS,jX]at h;rw[AP];intro e;rw[e]at h;simp at h
 unfold ab7 aH5;have hz:t.Kids.length=1->decide (0<t.Kids.length)=true:=fun h1=>by rw[h1];rfl
 have hl1:(t.Kids.length==1)=true->t.Kids.length=1:=fun h1=>by simpa using h1
 have hbr:(t.Kids.length==1)=true->M.qM (M.ae.re (List.getD t.Kids 0 ae.zero)) 21 21=some (ai9 (fun k=>k==21) t.Kids)/\decide (0<t.Kids.length)=true:=fun h1=>⟨hh (hl1 h1),hz (hl1 h1)⟩
 clear hn hb hu hh hz hl1;simp only[ae.aF]at hbr⊢;generalize hK:t.Kind=K;generalize (t.Name==[])=nn at Kq⊢;generalize gJ t.Name=no at Kq⊢;generalize ai8 t.dP=lo at Ko⊢;generalize (t.dP.length==0)=ll at Ko⊢;generalize M.qM (List.getD t.Kids 0 ae.zero) 21 21=o at hbr⊢;generalize decide (0<t.Kids.length)=z at hbr⊢;generalize (t.Kids.length==1)=l1 at hbr⊢;generalize ai9 (fun k=>k==21) t.Kids=kh at hbr⊢;generalize t.Kids.any yP=au;generalize (t.Kids.length==2)=l2;generalize (t.Kids.length==0)=l0;generalize (t.Kids.length==t.dP.length)=lk;generalize decide (1<=t.Kids.length)=ge;generalize decide (t.Kids.length<=6)=le;clear hK h e0 e1 e2;by_cases h12:K=12
 ·subst h12;cases l1
  ·cases no<;>cases nn<;>simp at Kq<;>cases lo<;>cases ll<;>simp at Ko<;>simp
  ·obtain⟨rfl,rfl⟩:=hbr rfl;cases no<;>cases nn<;>simp at Kq<;>cases lo<;>cases ll<;>simp at Ko<;>simp
 by_cases h13:K=13
 ·subst h13;cases l1
  ·cases no<;>cases nn<;>simp at Kq<;>cases lo<;>cases ll<;>simp at Ko<;>simp
  ·obtain⟨rfl,rfl⟩:=hbr rfl;cases no<;>cases nn<;>simp at Kq<;>cases lo<;>cases ll<;>simp at Ko<;>simp
 by_cases h14:K=14
 ·subst h14;cases l1
  ·cases no<;>cases nn<;>simp at Kq<;>cases lo<;>cases ll<;>simp at Ko<;>simp
  ·obtain⟨rfl,rfl⟩:=hbr rfl;cases no<;>cases nn<;>simp at Kq<;>cases lo<;>cases ll<;>simp at Ko<;>simp
 by_cases h15:K=15
 ·subst h15;cases l1
  ·cases no<;>cases nn<;>simp at Kq<;>cases lo<;>cases ll<;>simp at Ko<;>simp
  ·obtain⟨rfl,rfl⟩:=hbr rfl;cases no<;>cases nn<;>simp at Kq<;>cases lo<;>cases ll<;>simp at Ko<;>simp
 by_cases h16:K=16
 ·subst h16;cases l1
  ·cases no<;>cases nn<;>simp at Kq<;>cases lo<;>cases ll<;>simp at Ko<;>simp
  ·obtain⟨rfl,rfl⟩:=hbr rfl;cases no<;>cases nn<;>simp at Kq<;>cases lo<;>cases ll<;>simp at Ko<;>simp
 by_cases h17:K=17
 ·subst h17;cases l1
  ·cases no<;>cases nn<;>simp at Kq<;>cases lo<;>cases ll<;>simp at Ko<;>simp
  ·obtain⟨rfl,rfl⟩:=hbr rfl;cases no<;>cases nn<;>simp at Kq<;>cases lo<;>cases ll<;>simp at Ko<;>simp
 by_cases h18:K=18
 ·subst h18;cases l1
  ·cases no<;>cases nn<;>simp at Kq<;>cases lo<;>cases ll<;>simp at Ko<;>simp
  ·obtain⟨rfl,rfl⟩:=hbr rfl;cases no<;>cases nn<;>simp at Kq<;>cases lo<;>cases ll<;>simp at Ko<;>simp
 by_cases h19:K=19
 ·subst h19;cases l1
  ·cases no<;>cases nn<;>simp at Kq<;>cases lo<;>cases ll<;>simp at Ko<;>simp
  ·obtain⟨rfl,rfl⟩:=hbr rfl;cases no<;>cases nn<;>simp at Kq<;>cases lo<;>cases ll<;>simp at Ko<;>simp
 by_cases h20:K=20
 ·subst h20;cases l1
  ·cases no<;>cases nn<;>simp at Kq<;>cases lo<;>cases ll<;>simp at Ko<;>simp
  ·obtain⟨rfl,rfl⟩:=hbr rfl;cases no<;>cases nn<;>simp at Kq<;>cases lo<;>cases ll<;>simp at Ko<;>simp
 by_cases h21:K=21
 ·subst h21;cases l1
  ·cases no<;>cases nn<;>simp at Kq<;>cases lo<;>cases ll<;>simp at Ko<;>simp
  ·obtain⟨rfl,rfl⟩:=hbr rfl;cases no<;>cases nn<;>simp at Kq<;>cases lo<;>cases ll<;>simp at Ko<;>simp
 by_cases h22:K=22
 ·subst h22;cases l1
  ·cases no<;>cases nn<;>simp at Kq<;>cases lo<;>cases ll<;>simp at Ko<;>simp
  ·obtain⟨rfl,rfl⟩:=hbr rfl;cases no<;>cases nn<;>simp at Kq<;>cases lo<;>cases ll<;>simp at Ko<;>simp
 by_cases h23:K=23
 ·subst h23;cases l1
  ·cases no<;>cases nn<;>simp at Kq<;>cases lo<;>cases ll<;>simp at Ko<;>simp
  ·obtain⟨rfl,rfl⟩:=hbr rfl;cases no<;>cases nn<;>simp at Kq<;>cases lo<;>cases ll<;>simp at Ko<;>simp
 have q1:(K==20)=false:=by simpa using h20
 have q2:(K==21)=false:=by simpa using h21
 have q3:(decide ((16:Int)<=K)&&decide (K<=19))=false:=by
  rw[agN];simp only[ne_eq,lS,jX];omega
 have q4:(K==12)=false:=by simpa using h12
 have q5:(K==13)=false:=by simpa using h13
 have q6:(K==14)=false:=by simpa using h14
 have q7:(K==15)=false:=by simpa using h15
 have q8:(K==16)=false:=by simpa using h16
 have q9:(K==17)=false:=by simpa using h17
 have q10:(K==22)=false:=by simpa using h22
 have q11:(K==23)=false:=by simpa using h23
 simp only[q1,q2,q3,q4,q5,q6,q7,q8,q9,q10,q11,h12,h13,h14,h15,h16,h17,h22,h23,or_self,Nl];cases nn<;>cases ll<;>simp
end M
namespace M
open Go.V (inB yx az bU)
theorem aw5:∀(m:Nat)(t:ae),t.sz<m->t.sz<=1048576->M.oO m t=some (ku t)
 |0,t,h,_=>absurd h (ach _)
 |m+1,t,h,hN=>by
  have hl:=ae.uj hN;have e:=AQ (p:=ku) (F:=fun f i=>M.mD (M.oO m) f i t) (e:=()) (b:=false) t.Kids (by omega) (fun f k hk=>by
   show M.mD (M.oO m) (f+1) (k:Int) t=_
   rw[M.mD];have hx:=ae.zA (gp hk);simp only[ae.aF,getD_lt hk,aw5 m t.Kids[k] (by omega) (by omega),kE,bn,gZ,hk,eG,bQ,jc,dY,jg,dB hk (by omega:t.Kids.length<2^62),jR,jY];cases ku t.Kids[k]<;>rfl) (fun f=>by
   show M.mD (M.oO m) (f+1) _ t=_
   rw[M.mD];simp)
  show M.Nb (M.oO m) t=_
  unfold M.Nb;have e':M.mD (M.oO m) az 0 t=_:=e;rw[ae.aF,aE9 t hN,e',NL,PM];cases SA t<;>cases t.Kids.all ku<;>simp
theorem aH8(t:ae)(h:t.sz<=1048576):M.Qq t=some (tOk t):=by
 unfold M.Qq;have e1:M.Wx t=some (ku t):=aw5 az t (uz h) h;have e2:M.acU t 1=some (ajb 1 t):=aC7 az 1 t (by omega) (by have:=bU;omega) h;simp only[ae.aF,e1,e2,jR,jY,jc,jg,bQ];unfold tOk ajb;by_cases hq:1+uT t<=5/\je t<=24
 ·rw[bI hq];have a1:decide (((uT t:Nat):Int)<=4)=decide (uT t<=4):=by simp only[EZ];omega
  have a2:decide (((je t:Nat):Int)<=24)=decide (je t<=24):=by simp only[EZ];omega
  dsimp only;rw[a1,a2]
 ·rw[bu hq];have:(decide (uT t<=4)&&decide (je t<=24))=false:=by
   rw[agN];simp only[ne_eq,lS,jX];omega
  rw[this];rfl
theorem aC8(t:ae)(h:t.sz<=1048576):M.ZE t=some (tOk t):=by
 unfold M.ZE;simp only[ae.aF,aH8 t h];rfl
end M
namespace M
open Go.V (inB yx az bU)
theorem aFa(l:List ae)(hl:l.length<=1048576):M.iU l=some (l.any yP):=by
 have e:=iL (p:=yP) (F:=M.fM l (l.length:Int)) (e:=()) (fun k=>k) l (by omega) (fun f k hk=>by
  rw[M.fM];simp only[getD_lt hk,kE,bn,gZ,hk,eG,bQ,jc,dY,jg,dB hk (by omega:l.length<2^62)];rfl) (fun f=>by rw[M.fM];simp)
 unfold M.iU M.lh;rw[e,jJ];cases l.findIdx? yP<;>simp
theorem aC9(t:ae)(h:t.sz<=1048576)(n:Nat):M.J6 t (n:Int)=some ((t.Kids.length==n)&& !t.Kids.any yP):=by
 unfold M.J6;rw[aFa t.Kids (ae.uj h)];simp only[jY,jc,jg,bQ,jR,acY]
theorem aFb(t:ae)(h:t.sz<=1048576)(rec:ae->Option Bool)(b:Bool)(hb:M.iI rec t.Kids=some (!b)):M.J7 rec t=some (b&&SA t):=by
 have hn:=Jn t.Name (ae.aja h);have hlab:=aC5 t.dP (ae.alh h);have hk:=aC9 t h;have hk1:M.J6 t 1=some ((t.Kids.length==1)&& !t.Kids.any yP):=hk 1;have hh:t.Kids.length=1->M.nV (M.ae.re (List.getD t.Kids 0 ae.zero)) [21]=some (ai9 (fun k=>k==21) t.Kids):=fun h1=>by
  have hx:(t.Kids.getD 0 ae.zero).sz<t.sz:=by
   rw[getD_lt (by omega)];exact ae.zA (gp _)
  have e:PO (fun k=>[(21:Int)].any fun x=>k==x)=PO (fun k=>k==21):=NM fun k=>by simp
  rw[ae.aF,show M.nV=M.nP az from rfl,azT [21] (by simp) az _ (uz (by omega)) (by omega),e,aql h1]
 unfold M.J7;simp only[ae.aF,hb,hn,hlab,hk,hk1,jR,jY,jc,jg,dY,bQ,aw2,aw3,aw4,acY,aH6,Int.toNat_zero];unfold SA az8;have e0:decide ((0:Int)<((t.dP.length:Nat):Int))= !(t.dP.length==0):=by
  rw[KA];simp only[jX,EY,AP];omega
 have e1:decide ((1:Int)<=((t.Kids.length:Nat):Int))=decide (1<=t.Kids.length):=by simp only[EZ];omega
 have e2:decide (((t.Kids.length:Nat):Int)<=6)=decide (t.Kids.length<=6):=by simp only[EZ];omega
 rw[e0,e1,e2];unfold ab7 aH5;have hz:t.Kids.length=1->decide (0<t.Kids.length)=true:=fun h1=>by rw[h1];rfl
 have hl1:(t.Kids.length==1)=true->t.Kids.length=1:=fun h1=>by simpa using h1
 have hbr:(t.Kids.length==1)=true->M.nV (M.ae.re (List.getD t.Kids 0 ae.zero)) [21]=some (ai9 (fun k=>k==21) t.Kids)/\decide (0<t.Kids.length)=true:=fun h1=>⟨hh (hl1 h1),hz (hl1 h1)⟩
 clear hn hlab hk hk1 hh hz hl1 hb;simp only[ae.aF]at hbr⊢;generalize hK:t.Kind=K;generalize (t.Name==[])=nn;generalize gJ t.Name=no;generalize ai8 t.dP=lo;generalize (t.dP.length==0)=ll;generalize M.nV (List.getD t.Kids 0 ae.zero) [21]=o at hbr⊢;generalize decide (0<t.Kids.length)=z at hbr⊢;generalize (t.Kids.length==1)=l1 at hbr⊢;generalize ai9 (fun k=>k==21) t.Kids=kh at hbr⊢;generalize t.Kids.any yP=au;generalize (t.Kids.length==2)=l2;generalize (t.Kids.length==0)=l0;have aHa:(t.Kids.length==t.Kids.length)=true:=by simp
 rw[aHa];generalize (t.Kids.length==t.dP.length)=lk;generalize decide (1<=t.Kids.length)=ge;generalize decide (t.Kids.length<=6)=le;clear hK h e0 e1 e2 aHa;cases b
 ·simp
 by_cases h12:K=12
 ·subst h12;cases l1
  ·cases no<;>cases nn<;>cases lo<;>cases ll<;>simp
  ·obtain⟨rfl,rfl⟩:=hbr rfl;cases no<;>cases nn<;>cases lo<;>cases ll<;>simp
 by_cases h13:K=13
 ·subst h13;cases l1
  ·cases no<;>cases nn<;>cases lo<;>cases ll<;>simp
  ·obtain⟨rfl,rfl⟩:=hbr rfl;cases no<;>cases nn<;>cases lo<;>cases ll<;>simp
 by_cases h14:K=14
 ·subst h14;cases l1
  ·cases no<;>cases nn<;>cases lo<;>cases ll<;>simp
  ·obtain⟨rfl,rfl⟩:=hbr rfl;cases no<;>cases nn<;>cases lo<;>cases ll<;>simp
 by_cases h15:K=15
 ·subst h15;cases l1
  ·cases no<;>cases nn<;>cases lo<;>cases ll<;>simp
  ·obtain⟨rfl,rfl⟩:=hbr rfl;cases no<;>cases nn<;>cases lo<;>cases ll<;>simp
 by_cases h16:K=16
 ·subst h16;cases l1
  ·cases no<;>cases nn<;>cases lo<;>cases ll<;>simp
  ·obtain⟨rfl,rfl⟩:=hbr rfl;cases no<;>cases nn<;>cases lo<;>cases ll<;>simp
 by_cases h17:K=17
 ·subst h17;cases l1
  ·cases no<;>cases nn<;>cases lo<;>cases ll<;>simp
  ·obtain⟨rfl,rfl⟩:=hbr rfl;cases no<;>cases nn<;>cases lo<;>cases ll<;>simp
 by_cases h18:K=18
 ·subst h18;cases l1
  ·cases no<;>cases nn<;>cases lo<;>cases ll<;>simp
  ·obtain⟨rfl,rfl⟩:=hbr rfl;cases no<;>cases nn<;>cases lo<;>cases ll<;>simp
 by_cases h19:K=19
 ·subst h19;cases l1
  ·cases no<;>cases nn<;>cases lo<;>cases ll<;>simp
  ·obtain⟨rfl,rfl⟩:=hbr rfl;cases no<;>cases nn<;>cases lo<;>cases ll<;>simp
 by_cases h20:K=20
 ·subst h20;cases l1
  ·cases no<;>cases nn<;>cases lo<;>cases ll<;>simp
  ·obtain⟨rfl,rfl⟩:=hbr rfl;cases no<;>cases nn<;>cases lo<;>cases ll<;>simp
 by_cases h21:K=21
 ·subst h21;cases l1
  ·cases no<;>cases nn<;>cases lo<;>cases ll<;>simp
  ·obtain⟨rfl,rfl⟩:=hbr rfl;cases no<;>cases nn<;>cases lo<;>cases ll<;>simp
 by_cases h22:K=22
 ·subst h22;cases l1
  ·cases no<;>cases nn<;>cases lo<;>cases ll<;>simp
  ·obtain⟨rfl,rfl⟩:=hbr rfl;cases no<;>cases nn<;>cases lo<;>cases ll<;>simp
 by_cases h23:K=23
 ·subst h23;cases l1
  ·cases no<;>cases nn<;>cases lo<;>cases ll<;>simp
  ·obtain⟨rfl,rfl⟩:=hbr rfl;cases no<;>cases nn<;>cases lo<;>cases ll<;>simp
 have q1:(K==20)=false:=by simpa using h20
 have q2:(K==21)=false:=by simpa using h21
 have q3:(decide ((16:Int)<=K)&&decide (K<=19))=false:=by
  rw[agN];simp only[ne_eq,lS,jX];omega
 have q4:(K==12)=false:=by simpa using h12
 have q5:(K==13)=false:=by simpa using h13
 have q6:(K==14)=false:=by simpa using h14
 have q7:(K==15)=false:=by simpa using h15
 have q8:(K==16)=false:=by simpa using h16
 have q9:(K==17)=false:=by simpa using h17
 have q10:(K==22)=false:=by simpa using h22
 have q11:(K==23)=false:=by simpa using h23
 simp only[q1,q2,q3,q4,q5,q6,q7,q8,q9,q10,q11,h12,h13,h14,h15,h16,h17,h22,h23,or_self,Nl];cases nn<;>cases ll<;>simp
theorem aw6:∀(m:Nat)(t:ae),t.sz<m->t.sz<=1048576->M.wu m t=some (ku t)
 |0,t,h,_=>absurd h (ach _)
 |m+1,t,h,hN=>by
  have hl:=ae.uj hN;have e:=iL (p:=fun x=> !ku x) (F:=M.gV (M.wu m) t.Kids (t.Kids.length:Int)) (e:=()) (fun k=>k) t.Kids (by omega) (fun f k hk=>by
   rw[M.gV];have hx:=ae.zA (gp hk);have c:M.Gx (M.wu m) t.Kids[k]=some (!ku t.Kids[k]):=by
    unfold M.Gx;simp only[ae.aF,aw6 m t.Kids[k] (by omega) (by omega)];rfl
   simp only[ae.aF,getD_lt hk,c,kE,bn,gZ,hk,eG,bQ,jc,dY,jg,dB hk (by omega:t.Kids.length<2^62),jR,jY]) (fun f=>by
   rw[M.gV];simp)
  have e2:M.iI (M.wu m) t.Kids=some (!agQ t.Kids):=by
   unfold M.iI M.ny;have e3:(!agQ t.Kids)=t.Kids.any fun x=> !ku x:=by rw[PM,aym]
   rw[e,e3,jJ];cases t.Kids.findIdx? (fun x=> !ku x)<;>simp
  show M.J7 (M.wu m) t=_
  rw[aFb t hN _ _ e2,NL,Bool.and_comm]
theorem aw7(t:ae)(h:t.sz<=1048576):M.Oa t=some (tOk t):=by
 unfold M.Oa;have e1:M.acQ t=some (ku t):=aw6 az t (uz h) h;have e2:M.aum t 4=some ((min (uT t) 5:Nat):Int):=aC6 az t 4 (by have:=bU;omega) (by omega) h;have e3:M.aop t=some ((je t:Nat):Int):=az9 az t (uz h) h;simp only[ae.aF,e1,e2,e3,jR,jY,jc,jg,bQ];have a1:decide (((min (uT t) 5:Nat):Int)<=4)=decide (uT t<=4):=by simp only[EZ];omega
 have a2:decide (((je t:Nat):Int)<=24)=decide (je t<=24):=by simp only[EZ];omega
 rw[a1,a2];rfl
end M
namespace M
open Go.V (inB yx az bU)
def DD:List Int->List Int->List Int
 |[],b=>b
 |x::a,[]=>x::a
 |x::a,y::b=>max x y::DD a b
theorem acZ(a:List Int):DD a []=a:=by cases a<;>rfl
theorem ac0:∀a b:List Int,(DD a b).length=max a.length b.length
 |[],b=>by simp[DD]
 |x::a,[]=>by simp[DD]
 |x::a,y::b=>by simp only[DD,jA,ac0 a b];omega
def ones(l:List Int):Prop:=∀x∈l,x=1\/x=2
theorem agR:∀a b:List Int,ones a->ones b->ones (DD a b)
 |[],b,_,h=>h
 |x::a,[],h,_=>h
 |x::a,y::b,ha,hb=>by
  intro z hz;rcases AB.1 hz with rfl|hz
  ·have:=ha x (avj ..);have:=hb y (avj ..);omega
  ·exact agR a b (fun w hw=>ha w (asY _ hw)) (fun w hw=>hb w (asY _ hw)) z hz
theorem aqm{a b:List Int}(ha:ones a)(hb:ones b):ones (a++b):=fun x hx=>(qC.1 hx).elim (ha x) (hb x)
mutual
def xy:ae->List Int
 |.mk k n l kids=>
   if k=1 then[]else if k=9 then[2]else if k=11\/k=12 then[1,1]
   else if k=15\/k=16 then uP kids
   else if k=13 then 1::aw8 kids
   else if k=14\/k=17 then 1::Hy [] kids else[1]
def uP:List ae->List Int
 |[]=>[]
 |x::r=>xy x++uP r
def aw8:List ae->List Int
 |[]=>[]
 |x::_=>xy x
def Hy(a:List Int):List ae->List Int
 |[]=>a
 |x::r=>Hy (DD a (xy x)) r
end
theorem nS(t:ae):xy t=(if t.Kind=1 then[]else if t.Kind=9 then[2]else if t.Kind=11\/t.Kind=12 then[1,1]
 else if t.Kind=15\/t.Kind=16 then uP t.Kids
 else if t.Kind=13 then 1::aw8 t.Kids
 else if t.Kind=14\/t.Kind=17 then 1::Hy [] t.Kids else[1]):=by cases t;rw[xy];rfl
theorem aqn:∀l:List ae,(∀x∈l,ones (xy x))->ones (uP l)
 |[],_=>fun x hx=>by simp[uP]at hx
 |x::r,h=>by
  rw[uP];exact aqm (h x (avj ..)) (aqn r fun y hy=>h y (asY _ hy))
theorem aqo:∀(l:List ae)(a:List Int),ones a->(∀x∈l,ones (xy x))->ones (Hy a l)
 |[],a,ha,_=>ha
 |x::r,a,ha,h=>aqo r _ (agR _ _ ha (h x (avj ..))) fun y hy=>h y (asY _ hy)
theorem amF:∀(n:Nat)(t:ae),t.sz<n->ones (xy t)
 |0,t,h=>absurd h (ach _)
 |n+1,t,h=>by
  have hk:∀x∈t.Kids,ones (xy x):=fun x hx=>amF n x (by have:=ae.zA hx;omega)
  have h0:ones []:=fun x hx=>by simp at hx
  have h1:ones [1]:=fun x hx=>by simp at hx;exact .inl hx
  rw[nS];by_cases q1:t.Kind=1
  ·rw[bI q1];exact h0
  rw[bu q1];by_cases q2:t.Kind=9
  ·rw[bI q2];intro x hx;simp at hx;exact .inr hx
  rw[bu q2];by_cases q3:t.Kind=11\/t.Kind=12
  ·rw[bI q3];intro x hx;simp at hx;exact .inl hx
  rw[bu q3];by_cases q4:t.Kind=15\/t.Kind=16
  ·rw[bI q4];exact aqn _ hk
  rw[bu q4];by_cases q5:t.Kind=13
  ·rw[bI q5];refine aqm h1 (b:=aw8 t.Kids) ?_;cases hks:t.Kids with
   |nil=>exact h0
   |cons x r=>exact hk x (by rw[hks];exact avj ..)
  rw[bu q5];by_cases q6:t.Kind=14\/t.Kind=17
  ·rw[bI q6];exact aqm h1 (aqo _ _ h0 hk)
  rw[bu q6];exact h1
theorem aqp(t:ae):ones (xy t):=amF _ t (awE _)
theorem atB:∀l:List ae,(∀x∈l,(xy x).length<=2*je x)->(uP l).length<=2*qU l
 |[],_=>iM _
 |x::r,h=>by
  have:=atB r fun y hy=>h y (asY _ hy)
  have:=h x (avj ..);simp only[uP,qU,zH];omega
theorem ac1:∀(l:List ae)(a:List Int),(∀x∈l,(xy x).length<=2*je x)->(Hy a l).length<=a.length+2*qU l
 |[],a,_=>by simp[Hy]
 |x::r,a,h=>by
  have h1:=ac1 r (DD a (xy x)) fun y hy=>h y (asY _ hy)
  have:=h x (avj ..);rw[ac0]at h1;simp only[Hy,qU];omega
theorem aqr:∀(n:Nat)(t:ae),t.sz<n->(xy t).length<=2*je t
 |0,t,h=>absurd h (ach _)
 |n+1,t,h=>by
  have hk:∀x∈t.Kids,(xy x).length<=2*je x:=fun x hx=>aqr n x (by have:=ae.zA hx;omega)
  have a1:=atB _ hk;have a2:=ac1 _ [] hk;have a3:(aw8 t.Kids).length<=2*qU t.Kids:=by
   cases hks:t.Kids with
   |nil=>simp[aw8]
   |cons x r=>
    have:=hk x (by rw[hks];exact avj ..);simp only[aw8,qU];omega
  rw[nS,CJ]
  repeat' split
  all_goals simp only[jA,qh]at*
  all_goals omega
theorem NQ(t:ae):(xy t).length<=2*je t:=aqr _ t (awE _)
theorem aqs{l:List ae}{k:Nat}(h:k<l.length):uP (l.drop k)=xy l[k]++uP (l.drop (k+1)):=by rw[jb h];rfl
theorem aqt{l:List ae}{k:Nat}(a:List Int)(h:k<l.length):Hy a (l.drop k)=Hy (DD a (xy l[k])) (l.drop (k+1)):=by rw[jb h];rfl
theorem aqu{a b:List Int}{k:Nat}(ha:k<a.length)(hb:k<b.length):DD (a.drop k) (b.drop k)=max a[k] b[k]::DD (a.drop (k+1)) (b.drop (k+1)):=by rw[jb ha,jb hb];rfl
theorem aH9(a b:List Int)(ha:a.length<=4194304)(hb:b.length<=4194304):M.TS a b=some (DD a b):=by
 have key:∀f k (o:List Int),k<=max a.length b.length->max a.length b.length-k<f->o.length=k->M.oK a b f (k:Int) o=some (o++DD (a.drop k) (b.drop k)):=by
  intro f
  induction f with
  |zero=>intro k o h1 h2;omega
  |succ f ih=>
   intro k o h1 h2 h3;rcases kF k (max a.length b.length)with hk|hk
   ·rw[M.oK];have hw:Go.IntKind.wrap .i64 ((k:Int)+1)=((k+1:Nat):Int):=dB hk (by omega);rcases kF k b.length with hkb|hkb
    ·have c1:decide (((b.length:Nat):Int)<=(k:Int))=false:=by simp only[AO];omega
     rcases kF k a.length with hka|hka
     ·have c2:decide (((a.length:Nat):Int)<=(k:Int))=false:=by simp only[AO];omega
      have hm:M.Bg a[k] b[k]=some (max a[k] b[k]):=by
       unfold M.Bg;rcases Int.lt_or_le b[k] a[k]with h|h
       ·rw[ahb h,bQ];congr 1;omega
       ·rw[ajQ (by omega),gG];congr 1;omega
      simp only[c1,c2,getD_lt hka,getD_lt hkb,hm,kE,bn,gZ,hka,hkb,eG,jc,bQ,gG,dY,jg,jR,jY,hw,h3,jA,qh];rw[show decide (k+(0+1)<=1073741824)=true by simp only[jX];omega,bQ,ih (k+1) _ (by omega) (by omega) (by simp[h3]),aqu hka hkb];simp
     ·have c2:decide (((a.length:Nat):Int)<=(k:Int))=true:=by simp only[jX];omega
      simp only[c1,c2,getD_lt hkb,kE,bn,gZ,hkb,eG,alR,bQ,gG,dY,jg,hw,h3,jA,qh];rw[show decide (k+(0+1)<=1073741824)=true by simp only[jX];omega,bQ,ih (k+1) _ (by omega) (by omega) (by simp[h3]),ali hka,ali (by omega:a.length<=k+1),jb hkb];simp[DD]
    ·have c1:decide (((b.length:Nat):Int)<=(k:Int))=true:=by simp only[jX];omega
     have hka:k<a.length:=by omega
     simp only[c1,getD_lt hka,kE,bn,gZ,hka,eG,jc,bQ,gG,dY,jg,hw,h3,jA,qh];rw[show decide (k+(0+1)<=1073741824)=true by simp only[jX];omega,bQ,ih (k+1) _ (by omega) (by omega) (by simp[h3]),ali hkb,ali (by omega:b.length<=k+1),jb hka,acZ,acZ];simp
   ·rw[M.oK];have n1:¬(k:Int)<((a.length:Nat):Int):=by omega
    have n2:¬(k:Int)<((b.length:Nat):Int):=by omega
    simp only[n1,n2,ad4,apW,gG];rw[ali (by omega:a.length<=k),ali (by omega:b.length<=k)];simp[DD]
 unfold M.TS;have e:=key az 0 [] (oG _) (by have:=bU;omega) rfl;have e':M.oK a b az 0 []=_:=e;rw[e'];rfl
theorem aDa(a b:List Int)(ha:a.length<=4194304)(hb:b.length<=4194304)(oa:ones a)(ob:ones b):M.aam a b=some (DD a b):=by
 have key:∀f k (o:List Int),k<=max a.length b.length->max a.length b.length-k<f->o.length=k->M.yI a b ((max a.length b.length:Nat):Int) f (k:Int) o=some (o++DD (a.drop k) (b.drop k)):=by
  intro f
  induction f with
  |zero=>intro k o h1 h2;omega
  |succ f ih=>
   intro k o h1 h2 h3;rcases kF k (max a.length b.length)with hk|hk
   ·rw[M.yI];have hw:Go.IntKind.wrap .i64 ((k:Int)+1)=((k+1:Nat):Int):=dB hk (by omega);have c0:decide ((k:Int)<((max a.length b.length:Nat):Int))=true:=by simp only[jX];omega
    rw[c0,bQ];have hd:decide (o.length+([(1:Int)]:List Int).length<=1073741824)=true:=by simp only[jX,jA,qh];omega
    rcases kF k b.length with hkb|hkb
    ·have vb:=ob b[k] (gp hkb);rcases kF k a.length with hka|hka
     ·have va:=oa a[k] (gp hka);simp only[getD_lt hka,getD_lt hkb,kE,bn,gZ,hka,hkb,eG,jc,dY,jg,hw,jA,qh];simp only[jA,qh]at hd;rw[hd];have hm:(bif(a[k]==2)||(b[k]==2)then(2:Int)else 1)=max a[k] b[k]:=by
       rcases va with va|va<;>rcases vb with vb|vb<;>rw[va,vb]<;>decide
      rw[hm];have hg:((true|| !((a[k]==(2:Int))||(b[k]==2)))&&(true||((a[k]==(2:Int))||(b[k]==2))))=true:=by simp
      simp only[jc,pq,bQ];rw[ih (k+1) _ (by omega) (by omega) (by simp[h3]),aqu hka hkb];simp
     ·have na:¬(k<a.length):=by omega
      simp only[getD_lt hkb,kE,bn,gZ,hkb,na,eG,ad4,jc,dY,jg,ati,NT,alR,am9,hw,jA,qh];simp only[jA,qh]at hd;rw[hd];have hm:(bif(b[k]==2)then(2:Int)else 1)=b[k]:=by
       rcases vb with vb|vb<;>rw[vb]<;>decide
      rw[hm];simp;rw[show((k:Nat):Int)+1=((k+1:Nat):Int)from rfl,ih (k+1) _ (by omega) (by omega) (by simp[h3]),ali hka,ali (by omega:a.length<=k+1),jb hkb];simp[DD]
    ·have hka:k<a.length:=by omega
     have va:=oa a[k] (gp hka);have nb:¬(k<b.length):=by omega
     simp only[getD_lt hka,kE,bn,gZ,hka,nb,eG,ad4,jc,dY,jg,ati,Bool.and_false,NT,aoH,alR,am9,hw,jA,qh];simp only[jA,qh]at hd;rw[hd];have hm:(bif(a[k]==2)then(2:Int)else 1)=a[k]:=by
      rcases va with va|va<;>rw[va]<;>decide
     rw[hm];simp;rw[show((k:Nat):Int)+1=((k+1:Nat):Int)from rfl,ih (k+1) _ (by omega) (by omega) (by simp[h3]),ali hkb,ali (by omega:b.length<=k+1),jb hka,acZ,acZ];simp
   ·rw[M.yI];have n1:decide ((k:Int)<((max a.length b.length:Nat):Int))=false:=by simp only[AO];omega
    rw[n1,gG,ali (by omega:a.length<=k),ali (by omega:b.length<=k)];simp[DD]
 unfold M.aam;have hmx:(bif decide (((a.length:Nat):Int)<((b.length:Nat):Int))then((b.length:Nat):Int)else((a.length:Nat):Int))=((max a.length b.length:Nat):Int):=by
  rcases kF a.length b.length with h|h
  ·rw[ahb (by omega),bQ];omega
  ·rw[ajQ (by omega),gG];omega
 rw[hmx];have e:=key az 0 [] (oG _) (by have:=bU;omega) rfl;have e':M.yI a b ((max a.length b.length:Nat):Int) az 0 []=_:=e;rw[e'];rfl
end M
namespace M
open Go.V (inB yx az bU)
def S9(t:ae):List ae:=if t.Kind=13 then[.mk 1 [] [] [],t.Kids.getD 0 ae.zero]else t.Kids
theorem VI{t:ae}(h:ku t=true)(hk:t.Kind=13):0<t.Kids.length:=by
 rw[NL]at h;have h1:SA t=true:=by rw[lS]at h;exact h.1
 unfold SA az8 at h1;rw[bI (.inr hk:t.Kind=12\/t.Kind=13)]at h1;simp only[lS,sD]at h1;omega
theorem RG{t:ae}(h:ku t=true):∀x∈t.Kids,ku x=true:=by
 rw[NL,lS,PM,zG]at h;exact h.2
theorem aAa(t:ae)(h:ku t=true)(hk:t.Kind=13\/t.Kind=14\/t.Kind=17):M.Ot t=some (S9 t):=by
 unfold M.Ot S9;by_cases h13:t.Kind=13
 ·have hp:=VI h h13;rw[bI h13];simp only[ae.aF,h13,aH6,hp,eG,jg,bQ,Int.toNat_zero,aoD]
 ·rw[bu h13];rcases hk with hk|hk|hk
  ·exact absurd hk h13
  ·rw[hk];rfl
  ·rw[hk];rfl
theorem aFc(t:ae)(h:ku t=true)(hk:t.Kind=13\/t.Kind=14\/t.Kind=17):M.aoq t=some (S9 t):=aAa t h hk
theorem atC{t:ae}(h:ku t=true)(hk:t.Kind=13\/t.Kind=14\/t.Kind=17):∀x∈S9 t,ku x=true:=by
 unfold S9;by_cases h13:t.Kind=13
 ·have hp:=VI h h13;rw[bI h13,getD_lt hp];intro x hx;rcases AB.1 hx with rfl|hx
  ·decide
  ·rcases AB.1 hx with rfl|hx
   ·exact RG h _ (gp _)
   ·simp at hx
 ·rw[bu h13];exact RG h
theorem aDb{t:ae}(h:ku t=true)(hk:t.Kind=13\/t.Kind=14\/t.Kind=17):∀x∈S9 t,x.sz<t.sz:=by
 unfold S9;by_cases h13:t.Kind=13
 ·have hp:=VI h h13;rw[bI h13,getD_lt hp];have hg:(t.Kids[0]).sz<t.sz:=ae.zA (gp _);intro x hx;rcases AB.1 hx with rfl|hx
  ·have:(ae.mk 1 [] [] []).sz=0:=by rw[ae.dN];rfl
   omega
  ·rcases AB.1 hx with rfl|hx
   ·exact hg
   ·simp at hx
 ·rw[bu h13];exact fun x hx=>ae.zA hx
theorem aw9{t:ae}(h:ku t=true)(hk:t.Kind=13\/t.Kind=14\/t.Kind=17):xy t=1::Hy [] (S9 t):=by
 unfold S9;rw[nS];by_cases h13:t.Kind=13
 ·have hp:=VI h h13;rw[bI h13,getD_lt hp];have q1:¬t.Kind=1:=by omega
  have q2:¬t.Kind=9:=by omega
  have q3:¬(t.Kind=11\/t.Kind=12):=by omega
  have q4:¬(t.Kind=15\/t.Kind=16):=by omega
  rw[bu q1,bu q2,bu q3,bu q4,bI h13];have hu:xy (.mk 1 [] [] [])=[]:=by rw[nS];rfl
  have:∀(l:List ae)(hl:0<l.length),aw8 l=Hy [] [.mk 1 [] [] [],l[0]]:=fun l hl=>by
   cases l with
   |nil=>simp at hl
   |cons x r=>simp only[aw8,Hy,hu,List.getElem_cons_zero,DD]
  rw[this _ hp]
 ·rw[bu h13];have hk':t.Kind=14\/t.Kind=17:=by omega
  have q1:¬t.Kind=1:=by omega
  have q2:¬t.Kind=9:=by omega
  have q3:¬(t.Kind=11\/t.Kind=12):=by omega
  have q4:¬(t.Kind=15\/t.Kind=16):=by omega
  rw[bu q1,bu q2,bu q3,bu q4,bu h13,bI hk']
theorem aAb{t:ae}(h:ku t=true)(hk:t.Kind=13\/t.Kind=14\/t.Kind=17)(hN:t.sz<=1048576):qU (S9 t)<=1048580/\(S9 t).length<=1048576+2:=by
 have h1:=aiZ (ae.acX hN);have h2:=ae.uj hN;unfold S9;by_cases h13:t.Kind=13
 ·have hp:=VI h h13;rw[bI h13,getD_lt hp];have h3:=apT t.Kids t.Kids[0] (gp _);have:je (.mk 1 [] [] [])=1:=by rw[CJ];rfl
  simp only[qU,this,jA,qh];omega
 ·rw[bu h13];omega
theorem aqv(K:Int){P:Prop}(h1:K=1->P)(h9:K=9->P)(h11:K=11->P)(h12:K=12->P)(h15:K=15->P)(h16:K=16->P)
 (hc:(K=13\/K=14\/K=17)->P) (he:(K≠1/\K≠9/\K≠11/\K≠12/\K≠15/\K≠16/\K≠13/\K≠14/\K≠17)->P):P:=by
 by_cases q1:K=1
 ·exact h1 q1
 by_cases q2:K=9
 ·exact h9 q2
 by_cases q3:K=11
 ·exact h11 q3
 by_cases q4:K=12
 ·exact h12 q4
 by_cases q5:K=15
 ·exact h15 q5
 by_cases q6:K=16
 ·exact h16 q6
 by_cases q7:K=13\/K=14\/K=17
 ·exact hc q7
 ·exact he ⟨q1,q2,q3,q4,q5,q6,by omega,by omega,by omega⟩
theorem aDc(n:Nat)(rec:List ae->Option (List Int))(hr:∀ts,eF ae.sz ts<n->ts.length<=1048576->eF ae.sz ts<=1048576->(∀x∈ts,ku x=true)->rec ts=some (uP ts)):
 ∀(m:Nat)(t:ae),t.sz<m->t.sz<n->t.sz<=1048576->ku t=true->M.yE rec m t=some (xy t)
 |0,t,h,_,_,_=>absurd h (ach _)
 |m+1,t,h,hn,hN,hs=>by
  have hka:rec t.Kids=some (uP t.Kids):=hr _ (by rw[ae.dN]at hn;omega) (ae.uj hN) (ae.acX hN) (RG hs)
  show M.Qr rec (M.yE rec m) t=_
  unfold M.Qr;refine aqv t.Kind ?_ ?_ ?_ ?_ ?_ ?_ ?_ ?_
  ·intro hk;rw[nS];simp only[hk];rfl
  ·intro hk;rw[nS];simp only[hk];rfl
  ·intro hk;rw[nS];simp only[hk];rfl
  ·intro hk;rw[nS];simp only[hk];rfl
  ·intro hk;rw[nS];simp only[hk,hka];rfl
  ·intro hk;rw[nS];simp only[hk,hka];rfl
  ·intro hk;obtain⟨hsum,hlen⟩:=aAb hs hk hN;have hcs:=atC hs hk;have hcz:=aDb hs hk;have key:∀f k (a:List Int),k<=(S9 t).length->(S9 t).length-k<f->a.length+2*qU ((S9 t).drop k)<=2097160->M.vJ (M.yE rec m) (S9 t) f (k:Int) a=some (Hy a ((S9 t).drop k)):=by
    intro f
    induction f with
    |zero=>intro k a h1 h2;omega
    |succ f ih=>
     intro k a h1 h2 h3;rcases kF k (S9 t).length with hk'|hk'
     ·rw[M.vJ];have hm:=gp hk';have hz:=hcz _ hm;have hfl:=NQ (S9 t)[k];rw[Ii hk']at h3;have hj:=aH9 a (xy (S9 t)[k]) (by omega) (by omega);simp only[ae.aF,getD_lt hk',aDc n rec hr m (S9 t)[k] (by omega) (by omega) (by omega) (hcs _ hm),kE,bn,gZ,hk',eG,bQ,dY,jg,dB hk' (by omega:(S9 t).length<2^62),jR,jY,hj];rw[ih (k+1) _ (by omega) (by omega) (by rw[ac0];omega),aqt a hk']
     ·have:k=(S9 t).length:=by omega
      subst this;rw[M.vJ];simp[Sl,Hy]
   have e:=key az 0 [] (oG _) (by have:=bU;omega) (by simp only[Nk,qh];omega);have e':M.vJ (M.yE rec m) (S9 t) az 0 []=_:=e;rw[Nk]at e';have hjl:=ac1 (S9 t) [] (fun x _=>NQ x);have hd:decide (([(1:Int)]:List Int).length+(Hy [] (S9 t)).length<=1073741824)=true:=by simp only[jX,jA,qh]at*;omega
   rw[aw9 hs hk];have hce:=aAa t hs hk;simp only[ae.aF,hce,jR,e',hd,jY,pq];rcases hk with hk|hk|hk<;>rw[hk]<;>rfl
  ·rintro ⟨q1,q2,q3,q4,q5,q6,q7,q8,q9⟩
   rw[nS,bu q1,bu q2,bu (by omega),bu (by omega),bu q7,bu (by omega)];have b1:(t.Kind==1)=false:=by simpa using q1
   have b2:(t.Kind==9)=false:=by simpa using q2
   have b3:(t.Kind==11)=false:=by simpa using q3
   have b4:(t.Kind==12)=false:=by simpa using q4
   have b5:(t.Kind==15)=false:=by simpa using q5
   have b6:(t.Kind==16)=false:=by simpa using q6
   have b7:(t.Kind==13)=false:=by simpa using q7
   have b8:(t.Kind==14)=false:=by simpa using q8
   have b9:(t.Kind==17)=false:=by simpa using q9
   simp only[b1,b2,b3,b4,b5,b6,b7,b8,b9,gG]
theorem aHb:∀(n:Nat)(ts:List ae),eF ae.sz ts<n->ts.length<=1048576->eF ae.sz ts<=1048576->(∀x∈ts,ku x=true)->M.zh n ts=some (uP ts)
 |0,ts,h,_,_,_=>absurd h (ach _)
 |n+1,ts,h,hl,hN,hs=>by
  have hsum:=aiZ hN;have key:∀f k (a:List Int),k<=ts.length->ts.length-k<f->a.length+2*qU (ts.drop k)<=2097160->M.yF (M.zh n) ts f (k:Int) a=some (a++uP (ts.drop k)):=by
   intro f
   induction f with
   |zero=>intro k a h1 h2;omega
   |succ f ih=>
    intro k a h1 h2 h3;rcases kF k ts.length with hk|hk
    ·rw[M.yF];have hm:=gp hk;have hz:=WG ae.sz _ _ hm;have hfl:=NQ ts[k];rw[Ii hk]at h3;have hf:M.acT (M.zh n) ts[k]=some (xy ts[k]):=aDc n _ (fun ts h1 h2 h3 h4=>aHb n ts h1 h2 h3 h4) az _ (uz (by omega)) (by omega) (by omega) (hs _ hm);have hd:decide (a.length+(xy ts[k]).length<=1073741824)=true:=by simp only[jX];omega
     simp only[ae.aF,getD_lt hk,hf,kE,bn,gZ,hk,eG,bQ,dY,jg,dB hk (by omega:ts.length<2^62),jR,jY,hd];rw[ih (k+1) _ (by omega) (by omega) (by rw[zH];omega),aqs hk,aoI]
    ·have:k=ts.length:=by omega
     subst this;rw[M.yF];simp[Sl,uP]
  show M.We (M.zh n) ts=_
  unfold M.We;have e:=key az 0 [] (oG _) (by have:=bU;omega) (by simp only[Nk,qh];omega);have e':M.yF (M.zh n) ts az 0 []=_:=e;rw[e'];rfl
theorem aDd(n:Nat)(rec:List ae->Option (List Int))(hr:∀ts,eF ae.sz ts<n->ts.length<=1048576->eF ae.sz ts<=1048576->(∀x∈ts,ku x=true)->rec ts=some (uP ts)):
 ∀(m:Nat)(t:ae),t.sz<m->t.sz<n->t.sz<=1048576->ku t=true->M.Bo rec m t=some (xy t)
 |0,t,h,_,_,_=>absurd h (ach _)
 |m+1,t,h,hn,hN,hs=>by
  have hka:rec t.Kids=some (uP t.Kids):=hr _ (by rw[ae.dN]at hn;omega) (ae.uj hN) (ae.acX hN) (RG hs)
  show M.Wh rec (M.Bo rec m) t=_
  unfold M.Wh;refine aqv t.Kind ?_ ?_ ?_ ?_ ?_ ?_ ?_ ?_
  ·intro hk;rw[nS];simp only[hk];rfl
  ·intro hk;rw[nS];simp only[hk];rfl
  ·intro hk;rw[nS];simp only[hk];rfl
  ·intro hk;rw[nS];simp only[hk];rfl
  ·intro hk;rw[nS];simp only[hk,hka];rfl
  ·intro hk;rw[nS];simp only[hk,hka];rfl
  ·intro hk;obtain⟨hsum,hlen⟩:=aAb hs hk hN;have hcs:=atC hs hk;have hcz:=aDb hs hk;have key:∀f k (a:List Int),k<=(S9 t).length->(S9 t).length-k<f->a.length+2*qU ((S9 t).drop k)<=2097160->ones a->M.yJ (M.Bo rec m) (S9 t) ((S9 t).length:Int) f (k:Int) a=some (Hy a ((S9 t).drop k)):=by
    intro f
    induction f with
    |zero=>intro k a h1 h2;omega
    |succ f ih=>
     intro k a h1 h2 h3 h4;rcases kF k (S9 t).length with hk'|hk'
     ·rw[M.yJ];have hm:=gp hk';have hz:=hcz _ hm;have hfl:=NQ (S9 t)[k];rw[Ii hk']at h3;have hj:=aDa a (xy (S9 t)[k]) (by omega) (by omega) h4 (aqp _);simp only[ae.aF,getD_lt hk',aDd n rec hr m (S9 t)[k] (by omega) (by omega) (by omega) (hcs _ hm),kE,bn,gZ,hk',eG,bQ,dY,jg,dB hk' (by omega:(S9 t).length<2^62),jR,jY,hj];rw[ih (k+1) _ (by omega) (by omega) (by rw[ac0];omega) (agR _ _ h4 (aqp _)),aqt a hk']
     ·have:k=(S9 t).length:=by omega
      subst this;rw[M.yJ];simp[Sl,Hy]
   have e:=key az 0 [] (oG _) (by have:=bU;omega) (by simp only[Nk,qh];omega) (fun x hx=>by simp at hx);have e':M.yJ (M.Bo rec m) (S9 t) ((S9 t).length:Int) az 0 []=_:=e;rw[Nk]at e';have hjl:=ac1 (S9 t) [] (fun x _=>NQ x);have hd:decide (([(1:Int)]:List Int).length+(Hy [] (S9 t)).length<=1073741824)=true:=by simp only[jX,jA,qh]at*;omega
   rw[aw9 hs hk];have hce:=aFc t hs hk;simp only[ae.aF,hce,jR,e',hd,jY,pq];rcases hk with hk|hk|hk<;>rw[hk]<;>rfl
  ·rintro ⟨q1,q2,q3,q4,q5,q6,q7,q8,q9⟩
   rw[nS,bu q1,bu q2,bu (by omega),bu (by omega),bu q7,bu (by omega)];have b1:(t.Kind==1)=false:=by simpa using q1
   have b2:(t.Kind==9)=false:=by simpa using q2
   have b3:(t.Kind==11)=false:=by simpa using q3
   have b4:(t.Kind==12)=false:=by simpa using q4
   have b5:(t.Kind==15)=false:=by simpa using q5
   have b6:(t.Kind==16)=false:=by simpa using q6
   have b7:(t.Kind==13)=false:=by simpa using q7
   have b8:(t.Kind==14)=false:=by simpa using q8
   have b9:(t.Kind==17)=false:=by simpa using q9
   simp only[b1,b2,b3,b4,b5,b6,b7,b8,b9,gG]
theorem aHc:∀(n:Nat)(ts:List ae),eF ae.sz ts<n->ts.length<=1048576->eF ae.sz ts<=1048576->(∀x∈ts,ku x=true)->M.oN n ts=some (uP ts)
 |0,ts,h,_,_,_=>absurd h (ach _)
 |n+1,ts,h,hl,hN,hs=>by
  have hsum:=aiZ hN;have key:∀f k (a:List Int),k<=ts.length->ts.length-k<f->a.length+2*qU (ts.drop k)<=2097160->M.pO (M.oN n) ts (ts.length:Int) f (k:Int) a=some (a++uP (ts.drop k)):=by
   intro f
   induction f with
   |zero=>intro k a h1 h2;omega
   |succ f ih=>
    intro k a h1 h2 h3;rcases kF k ts.length with hk|hk
    ·rw[M.pO];have hm:=gp hk;have hz:=WG ae.sz _ _ hm;have hfl:=NQ ts[k];rw[Ii hk]at h3;have hf:M.ahX (M.oN n) ts[k]=some (xy ts[k]):=aDd n _ (fun ts h1 h2 h3 h4=>aHc n ts h1 h2 h3 h4) az _ (uz (by omega)) (by omega) (by omega) (hs _ hm);have hd:decide (a.length+(xy ts[k]).length<=1073741824)=true:=by simp only[jX];omega
     simp only[ae.aF,getD_lt hk,hf,kE,bn,gZ,hk,eG,bQ,dY,jg,dB hk (by omega:ts.length<2^62),jR,jY,hd];rw[ih (k+1) _ (by omega) (by omega) (by rw[zH];omega),aqs hk,aoI]
    ·have:k=ts.length:=by omega
     subst this;rw[M.pO];simp[Sl,uP]
  show M.IQ (M.oN n) ts=_
  unfold M.IQ;have e:=key az 0 [] (oG _) (by have:=bU;omega) (by simp only[Nk,qh];omega);have e':M.pO (M.oN n) ts (ts.length:Int) az 0 []=_:=e;rw[e'];rfl
end M
namespace M
open Go.V (inB yx az bU)
theorem ay.Ry{a:ay}{N:Nat}(h:a.sz<=N):a.aZ.sz<=N:=by rw[ay.dN]at h;omega
theorem ay.aja{a:ay}{N:Nat}(h:a.sz<=N):a.Name.length<=N:=by rw[ay.dN]at h;omega
def VE(p:ay):Bool:= !((!gJ p.Name|| !tOk p.aZ)||yP p.aZ)
def fOk(f:ah):Bool:=((decide (f.Params.length<=6)&&(f.Params.all VE&&nodupB (f.Params.map ay.Name)))&&tOk f.Result)&& !PO (fun k=>k==21) f.Result
theorem aFd(n:Nat):decide ((6:Int)<((n:Nat):Int))= !decide (n<=6):=by
 rw[KA];simp only[EY,jX,AO];omega
theorem aCk(f:ah)(h:f.sz<=1048576):M.Y9 f=some (fOk f):=by
 rw[ah.dN]at h;have hl:f.Params.length<=1048576:=lH (dh ay.sz f.Params) (by omega);have key:∀g k,k<=f.Params.length->f.Params.length-k<g->M.rq f.Params f.Params (f.Params.length:Int) g (k:Int) ((f.Params.take k).map ay.Name)=some (if(f.Params.drop k).all VE then .inr (f.Params,f.Params.map ay.Name)else .inl false):=by
  intro g
  induction g with
  |zero=>intro k h1 h2;omega
  |succ g ih=>
   intro k h1 h2;rcases kF k f.Params.length with hk|hk
   ·rw[M.rq];have hm:=eY ay.sz _ _ (gp hk);have hnm:=Jn f.Params[k].Name (ay.aja (N:=1048576) (by omega));have hty:=aw7 f.Params[k].aZ (ay.Ry (N:=1048576) (by omega));have hd:decide ((((f.Params.take k).map ay.Name).length+([f.Params[k].Name]:List (List UInt8)).length)<=1073741824)=true:=by
     simp only[jX,xE,VB,jA,qh];omega
    have ht:(f.Params.take k).map ay.Name++[f.Params[k].Name]=(f.Params.take (k+1)).map ay.Name:=by
     rw[ajP,auj,wH hk];rfl
    have hu:(f.Params[k].aZ.Kind==1)=yP f.Params[k].aZ:=rfl;simp only[ae.aF,getD_lt hk,hnm,hty,kE,bn,gZ,hk,eG,bQ,dY,jg,dB hk (by omega:f.Params.length<2^62),jR,jY,jc,hd,ht,hu];rw[ih (k+1) (by omega) (by omega),jb hk,P8];rw[show VE f.Params[k]= !((!gJ f.Params[k].Name|| !tOk f.Params[k].aZ)||yP f.Params[k].aZ)from rfl];cases (!gJ f.Params[k].Name|| !tOk f.Params[k].aZ)||yP f.Params[k].aZ<;>simp
   ·have:k=f.Params.length:=by omega
    subst this;rw[M.rq];simp
 have e:=key az 0 (oG _) (by have:=bU;omega);have e':M.rq f.Params f.Params (f.Params.length:Int) az 0 []=_:=e;have hd:=IB (f.Params.map ay.Name) (by rw[xE];exact hl);have e6:decide (((f.Params.length:Nat):Int)<=6)=decide (f.Params.length<=6):=by simp only[EZ];omega
 have hp:M.Oc f.Params=some (decide (f.Params.length<=6)&&(f.Params.all VE&&nodupB (f.Params.map ay.Name))):=by
  unfold M.Oc;rw[e',Nk];cases f.Params.all VE
  ·simp
  ·simp only[Fh,hd,e6,jY,jR,jc,dY,bQ]
 have hr:=aw7 f.Result (by omega);have e21:PO (fun k=>[(21:Int)].any fun x=>k==x)=PO (fun k=>k==21):=NM fun k=>by simp
 have hh:M.nV f.Result [21]=some (PO (fun k=>k==21) f.Result):=by
  rw[show M.nV=M.nP az from rfl,azT [21] (by simp) az _ (uz (by omega)) (by omega),e21]
 unfold M.Y9;simp only[ae.aF,hp,hr,hh,jY,jR,jc,dY,bQ];rfl
theorem aHK(f:ah)(h:f.sz<=1048576):M.Vz f=some (fOk f):=by
 rw[ah.dN]at h;have hl:f.Params.length<=1048576:=lH (dh ay.sz f.Params) (by omega);have hin:∀i (hi:i<f.Params.length),M.kX (i:Int) az 0 f f.Params[i]=some (if(List.range i).all (fun k=> !((f.Params.getD k ay.zero).Name==f.Params[i].Name))then .inr ((i:Int),f)else .inl false):=fun i hi=>
  xG (p:=fun k=> !((f.Params.getD k ay.zero).Name==f.Params[i].Name)) (F:=fun g k=>M.kX (i:Int) g k f f.Params[i]) (e:=((i:Int),f)) (b:=false) i (by omega) (fun g k hk=>by
   show M.kX (i:Int) (g+1) (k:Int) f f.Params[i]=_
   rw[M.kX];have hk':k<f.Params.length:=by omega
   simp only[ah.aF,ay.aF,getD_lt hk',kE,bn,gZ,hk,hk',eG,bQ,jg,dB hk (by omega:i<2^62)];cases (f.Params[k].Name==f.Params[i].Name)<;>rfl) (fun g=>by
   show M.kX (i:Int) (g+1) (i:Int) f f.Params[i]=_
   rw[M.kX];simp[ah.aF])
 have hout:M.oU az 0 f=some (if(List.range f.Params.length).all (fun i=>VE (f.Params.getD i ay.zero)&&(List.range i).all (fun k=> !((f.Params.getD k ay.zero).Name==(f.Params.getD i ay.zero).Name)))then .inr ()else .inl false):=
  xG (p:=fun i=>VE (f.Params.getD i ay.zero)&&(List.range i).all (fun k=> !((f.Params.getD k ay.zero).Name==(f.Params.getD i ay.zero).Name))) (F:=fun g k=>M.oU g k f) (e:=()) (b:=false) f.Params.length (by omega) (fun g k hk=>by
   show M.oU (g+1) (k:Int) f=_
   rw[M.oU];have hm:=eY ay.sz _ _ (gp hk);have hnm:=Jm f.Params[k].Name (ay.aja (N:=1048576) (by omega));have hty:=aH8 f.Params[k].aZ (ay.Ry (N:=1048576) (by omega));have hu:(f.Params[k].aZ.Kind==1)=yP f.Params[k].aZ:=rfl;simp only[ae.aF,ah.aF,ay.aF,getD_lt hk,hnm,hty,hin k hk,kE,bn,gZ,hk,eG,bQ,dY,jg,jR,jY,jc,hu];rw[show VE f.Params[k]= !((!gJ f.Params[k].Name|| !tOk f.Params[k].aZ)||yP f.Params[k].aZ)from rfl];cases (!gJ f.Params[k].Name|| !tOk f.Params[k].aZ)||yP f.Params[k].aZ
   ·cases (List.range k).all (fun k_1=> !((f.Params.getD k_1 ay.zero).Name==f.Params[k].Name))
    ·simp
    ·simp[dB hk (by omega:f.Params.length<2^62)]
   ·simp) (fun g=>by
   show M.oU (g+1) (f.Params.length:Int) f=_
   rw[M.oU];simp)
 have hsp:(List.range f.Params.length).all (fun i=>VE (f.Params.getD i ay.zero)&&(List.range i).all (fun k=> !((f.Params.getD k ay.zero).Name==(f.Params.getD i ay.zero).Name)))=(f.Params.all VE&&nodupB (f.Params.map ay.Name)):=by
  rw[ai0,VF,<-nodup_range (f.Params.map ay.Name),xE];have hg:∀k,(f.Params.map ay.Name).getD k []=(f.Params.getD k ay.zero).Name:=fun k=>by
   rw[xA,xA,Np];cases f.Params[k]?<;>rfl
  simp only[hg]
 have hr:=aH8 f.Result (by omega);have hh:M.qM f.Result 21 21=some (PO (fun k=>k==21) f.Result):=by
  rw[show M.qM=M.oh az from rfl,azS 21 21 az _ (uz (by omega)) (by omega)];rw[NM (fun k=>b21 k)]
 unfold M.Vz;rw[hsp]at hout;simp only[ae.aF,ah.aF,hr,hh,hout,aFd,jY,jR,jc,dY,jg,bQ];unfold fOk;cases decide (f.Params.length<=6)<;>cases tOk f.Result<;>cases PO (fun k=>k==21) f.Result<;>cases (f.Params.all VE&&nodupB (f.Params.map ay.Name))<;>simp
end M
namespace M
open Go.V (inB yx az bU)
theorem aHd:∀(m:Nat)(t:ae),t.sz<m->t.sz<=1048576->M.Be m t=some t
 |0,t,h,_=>absurd h (ach _)
 |m+1,t,h,hN=>by
  have hl:=ae.uj hN;have hlb:=ae.ayI hN;have key:∀f k,k<=t.Kids.length->t.Kids.length-k<f->M.yD (M.Be m) (0:Int) [] t.Kind t.Name [] [] ([]++t.dP) f (k:Int) t (t.Kids.take k)=some ((0:Int),[],t.Kind,t.Name,[],[],t.dP,t.Kids):=by
   intro f
   induction f with
   |zero=>intro k h1 h2;omega
   |succ f ih=>
    intro k h1 h2;rcases kF k t.Kids.length with hk|hk
    ·rw[M.yD];have hx:=ae.zA (gp hk);have hd:decide (((t.Kids.take k).length+([t.Kids[k]]:List ae).length)<=1073741824)=true:=by
      simp only[jX,VB,jA,qh];omega
     have ht:t.Kids.take k++[t.Kids[k]]=t.Kids.take (k+1):=by
      rw[ajP,wH hk];rfl
     simp only[ae.aF,getD_lt hk,aHd m t.Kids[k] (by omega) (by omega),kE,bn,gZ,hk,eG,bQ,dY,jg,dB hk (by omega:t.Kids.length<2^62),jR,jY,hd,ht];exact ih (k+1) (by omega) (by omega)
    ·have:k=t.Kids.length:=by omega
     subst this;rw[M.yD];simp
  show M.V7 (M.Be m) t=_
  unfold M.V7;have e:=key az 0 (oG _) (by have:=bU;omega);have e':M.yD (M.Be m) (0:Int) [] t.Kind t.Name [] [] ([]++t.dP) az 0 t []=_:=e;have hd:decide (0+t.dP.length<=1073741824)=true:=by simp only[jX];omega
  simp only[ae.aF,e',hd,pq,bQ];cases t;rfl
def pX(f:ah):List ae:=f.Params.map ay.aZ
theorem atD{f:ah}:eF ae.sz (pX f)<=eF ay.sz f.Params:=by
 unfold pX
 induction f.Params with
 |nil=>exact iM _
 |cons x r ih=>have:=ay.dN x;simp only[YY,eF];omega
theorem aqw(l:List ay)(k:Nat)(hk:k<l.length):(l.take k).map ay.aZ++[l[k].aZ]=(l.take (k+1)).map ay.aZ:=by
 rw[ajP,auj,wH hk];rfl
theorem aDe(f:ah)(h:f.sz<=1048576):M.JD f=some (pX f):=by
 rw[ah.dN]at h;have hl:f.Params.length<=1048576:=lH (dh ay.sz f.Params) (by omega);have key:∀g k,k<=f.Params.length->f.Params.length-k<g->M.pK g (k:Int) f ((f.Params.take k).map ay.aZ)=some (pX f):=by
  intro g
  induction g with
  |zero=>intro k h1 h2;omega
  |succ g ih=>
   intro k h1 h2;rcases kF k f.Params.length with hk|hk
   ·rw[M.pK];have hm:=eY ay.sz _ _ (gp hk);have ho:M.ahD f.Params[k].aZ=some f.Params[k].aZ:=aHd az _ (uz (ay.Ry (N:=1048576) (by omega))) (ay.Ry (N:=1048576) (by omega));have hd:decide ((((f.Params.take k).map ay.aZ).length+([f.Params[k].aZ]:List ae).length)<=1073741824)=true:=by
     simp only[jX,xE,VB,jA,qh];omega
    simp only[ae.aF,ah.aF,getD_lt hk,ho,kE,bn,gZ,hk,eG,bQ,dY,jg,dB hk (by omega:f.Params.length<2^62),jR,jY,hd,aqw _ k hk];exact ih (k+1) (by omega) (by omega)
   ·have:k=f.Params.length:=by omega
    subst this;rw[M.pK];simp[pX]
 have e:=key az 0 (oG _) (by have:=bU;omega);have e':M.pK az 0 f []=_:=e;unfold M.JD;simp only[ah.aF,e']
theorem aDf(f:ah)(h:f.sz<=1048576):M.FD f=some (pX f):=by
 rw[ah.dN]at h;have hl:f.Params.length<=1048576:=lH (dh ay.sz f.Params) (by omega);have key:∀g k,k<=f.Params.length->f.Params.length-k<g->M.pG f.Params (f.Params.length:Int) g (k:Int) ((f.Params.take k).map ay.aZ)=some (pX f):=by
  intro g
  induction g with
  |zero=>intro k h1 h2;omega
  |succ g ih=>
   intro k h1 h2;rcases kF k f.Params.length with hk|hk
   ·rw[M.pG];have hd:decide ((((f.Params.take k).map ay.aZ).length+([f.Params[k].aZ]:List ae).length)<=1073741824)=true:=by
     simp only[jX,xE,VB,jA,qh];omega
    simp only[ae.aF,getD_lt hk,kE,bn,gZ,hk,eG,bQ,dY,jg,dB hk (by omega:f.Params.length<2^62),hd,aqw _ k hk];exact ih (k+1) (by omega) (by omega)
   ·have:k=f.Params.length:=by omega
    subst this;rw[M.pG];simp[pX]
 have e:=key az 0 (oG _) (by have:=bU;omega);have e':M.pG f.Params (f.Params.length:Int) az 0 []=_:=e;unfold M.FD;simp only[e']
theorem aJv(ts:List ae)(h:eF ae.sz ts<=1048576)(hl:ts.length<=6)(ho:∀x∈ts,tOk x=true):M.acS ts=some true:=by
 have e:=AQ (p:=tOk) (F:=M.Eg ts) (e:=ts) (b:=false) ts (by omega) (fun f k hk=>by
  rw[M.Eg];have hm:=eY ae.sz _ _ (gp hk);have h24:decide ((k:Int)<=24)=true:=by simp only[jX];omega
  simp only[ae.aF,getD_lt hk,aC8 ts[k] (by omega),kE,bn,gZ,hk,h24,eG,bQ,dY,jg,pq,dB hk (by omega:ts.length<2^62),jR,jY];cases tOk ts[k]<;>rfl) (fun f=>by rw[M.Eg];simp)
 have hall:ts.all tOk=true:=zG.2 ho;unfold M.acS;rw[e,hall,bI rfl];have:decide (((ts.length:Nat):Int)<=24)=true:=by simp only[jX];omega
 simp only[this]
theorem atE{f:ah}(h:fOk f=true):(pX f).length<=6/\∀x∈pX f,tOk x=true:=by
 unfold fOk at h;simp only[lS,jX]at h;obtain⟨⟨⟨h6,hall,_⟩,_⟩,_⟩:=h;refine⟨by unfold pX;rw[xE];exact h6,?_⟩;intro x hx;obtain⟨p,hp,rfl⟩:=ajM.1 hx;have:=zG.1 hall p hp;unfold VE at this;simp only[EY,alf,Bool.not_eq_false']at this;exact this.1.2
theorem atF{t:ae}(h:tOk t=true):ku t=true:=by
 unfold tOk at h;rw[lS]at h;exact h.2
def P7(f:ah):Int×Bool×Bool:=
 if fOk f=true then((if decide ((8:Int)<((uP (pX f)).length:Int))=true then 1 else((uP (pX f)).length:Int)), !(yP f.Result),true)else(0,false,false)
theorem alS{f:ah}(h:f.sz<=1048576)(hok:fOk f=true):M.qZ f=some ((P7 f).1,(P7 f).2.1):=by
 have hsz:eF ae.sz (pX f)<=1048576:=by have:=atD (f:=f);rw[ah.dN]at h;omega
 obtain⟨h6,ho⟩:=atE hok;have hfl:M.EC (pX f)=some (uP (pX f)):=aHc az _ (uz hsz) (by omega) hsz fun x hx=>atF (ho x hx)
 have hc:M.qZ f=some ((if decide ((8:Int)<((uP (pX f)).length:Int))=true then 1 else((uP (pX f)).length:Int)), !(yP f.Result)):=by
  unfold M.qZ M.MG M.QM;simp only[ah.aF,aDf f h,jR,hfl,jY,pq,bQ];generalize decide ((8:Int)<((uP (pX f)).length:Int))=q;cases q<;>simp[yP]
 rw[hc];unfold P7;rw[bI hok]
theorem alQ{f:ah}(h:f.sz<=1048576)(hok:fOk f=true):M.Bh f=some ((P7 f).1,(P7 f).2.1):=by
 have hsz:eF ae.sz (pX f)<=1048576:=by have:=atD (f:=f);rw[ah.dN]at h;omega
 obtain⟨h6,ho⟩:=atE hok;have hfl:M.ZL (pX f)=some (uP (pX f)):=aHb az _ (uz hsz) (by omega) hsz fun x hx=>atF (ho x hx)
 have h9:=aJv (pX f) hsz h6 ho;have hc:M.Bh f=some ((if decide ((8:Int)<((uP (pX f)).length:Int))=true then 1 else((uP (pX f)).length:Int)), !(yP f.Result)):=by
  unfold M.Bh M.Qv M.Qu;simp only[ah.aF,aDe f h,jR,hfl,h9,jY,pq,bQ,jc,dY,Ad,gG,uY,alR];generalize decide ((8:Int)<((uP (pX f)).length:Int))=q;cases q<;>simp[yP]
 rw[hc];unfold P7;rw[bI hok]
end M
