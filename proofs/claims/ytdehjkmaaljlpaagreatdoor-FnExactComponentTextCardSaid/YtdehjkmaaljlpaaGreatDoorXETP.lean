/-
  NAMES AND TYPES: what is right, in plain Lean.
-/
import Derived.Test.YtdehjkmaaljlpaaGreatDoorXEplA
import Derived.Test.YtdehjkmaaljlpaaGreatDoorXEFH
set_option linter.unusedVariables false
namespace M
open Go.V (inB cF af bV)
def qV(c:UInt8):Bool:=decide ((97:Int)<=((c.toNat:Nat):Int))&&decide (((c.toNat:Nat):Int)<=122)
def PH(c:UInt8):Bool:=decide ((48:Int)<=((c.toNat:Nat):Int))&&decide (((c.toNat:Nat):Int)<=57)
def ud(c:UInt8):Bool:=((c.toNat:Nat):Int)==45
def qW(s:List UInt8)(k:Nat):Bool:=qV (s.getD k 0)||(decide (0<k)&&((PH (s.getD k 0)||ud (s.getD k 0))&& !(ud (s.getD k 0)&&ud (s.getD (k-1) 0))))
def cY(s:List UInt8):Bool:=(List.range s.length).all (qW s)&&((decide (1<=s.length)&&decide (s.length<=12))&& !ud (s.getD (s.length-1) 0))
def lX(l:List (List UInt8)):Bool:=(decide (1<=l.length)&&decide (l.length<=16))&&(nodupB l&&l.all cY)
mutual
def dM:aa->Nat
 |.mk _ _ _ kids=>1+dm kids
def dm:List aa->Nat
 |[]=>0
 |x::r=>dM x+dm r
end
mutual
def gZ:aa->Nat
 |.mk _ _ _ kids=>1+ky kids
def ky:List aa->Nat
 |[]=>0
 |x::r=>max (gZ x) (ky r)
end
mutual
def gC(p:Int->Bool):aa->Bool
 |.mk k _ _ kids=>p k||lv p kids
def lv(p:Int->Bool):List aa->Bool
 |[]=>false
 |x::r=>gC p x||lv p r
end
theorem pE(t:aa):dM t=1+dm t.Kids:=by cases t;rfl
theorem PI(t:aa):gZ t=1+ky t.Kids:=by cases t;rfl
theorem aiT(p:Int->Bool)(t:aa):gC p t=(p t.Kind||lv p t.Kids):=by cases t;rfl
theorem PK(p:Int->Bool):∀l,lv p l=l.any (gC p)
 |[]=>rfl
 |x::r=>by rw[lv,List.any_cons,PK p r]
def fa(t:aa):Bool:=t.Kind==1
def qI(t:aa):Bool:=(t.Kind==20)||(t.Kind==21)
def KY(t:aa):Bool:=decide ((16:Int)<=t.Kind)&&decide (t.Kind<=19)
def E4(t:aa):Bool:=
 if t.Kind=12\/t.Kind=13 then(t.Kids.length==1)&& !t.Kids.any fa
 else if t.Kind=14 then t.Kids.length==2
 else if t.Kind=15 then(decide (1<=t.Kids.length)&&decide (t.Kids.length<=6))&& !t.Kids.any fa
 else if t.Kind=16 then(t.Kids.length==t.bR.length)&& !t.Kids.any fa
 else if t.Kind=17 then t.Kids.length==t.bR.length
 else if t.Kind=22\/t.Kind=23 then(t.Kids.length==1)&& !lv (fun k=>k==21) t.Kids
 else(decide ((1:Int)<=t.Kind)&&decide (t.Kind<=23))&&(t.Kids.length==0)
def mZ(t:aa):Bool:=
 ((if KY t then lX t.bR else t.bR.length==0)&&(if qI t then cY t.Name else t.Name==[]))&&E4 t
mutual
def dF:aa->Bool
 |.mk k n l kids=>mZ (.mk k n l kids)&&xd kids
def xd:List aa->Bool
 |[]=>true
 |x::r=>dF x&&xd r
end
theorem wI(t:aa):dF t=(mZ t&&xd t.Kids):=by cases t;rfl
theorem zm:∀l,xd l=l.all dF
 |[]=>rfl
 |x::r=>by rw[xd,kK,zm r]
def eH(t:aa):Bool:=(decide (gZ t<=4)&&decide (dM t<=24))&&dF t
theorem OC:∀(l:List aa)(x:aa),x∈l->dM x<=dm l
 |y::r,x,h=>by
  rcases fi.1 h with rfl|h
  ·simp only[dm];omega
  ·have:=OC r x h;simp only[dm];omega
theorem aiU:∀l:List aa,l.length<=dm l
 |[]=>bY _
 |x::r=>by have:=aiU r;simp only[dm,aO,pE x];omega
theorem wJ{l:List aa}{k:Nat}(h:k<l.length):dm (l.drop k)=dM l[k]+dm (l.drop (k+1)):=by rw[fu h];rfl
theorem aiV{l:List aa}{k:Nat}(h:k<l.length):ky (l.drop k)=max (gZ l[k]) (ky (l.drop (k+1))):=by rw[fu h];rfl
theorem aiW(t:aa):1<=gZ t:=by rw[PI];omega
end M
set_option linter.unusedSimpArgs false
namespace M
open Go.V (inB cF af bV)
theorem ahL{n:Nat}(h:n<=1048576):n<af:=by have:=bV;omega
theorem tO{k n:Nat}(h0:0<k)(h:k<=n)(hn:n<2^62):Go.IntKind.wrap .i64 ((k:Int)-1)=((k-1:Nat):Int):=by
 rw[wrap_i64 (by omega) (by omega)];omega
theorem rN(s:List UInt8)(hs:s.length<=1048576):M.jF s=some (cY s):=by
 unfold M.jF;rw[lJ (p:=qW s) (F:=M.tz s (s.length:Int)) (e:=s) (b:=false) s.length (by omega) (fun f k hk=>by
  rw[M.tz];simp only[bz,bp,bJ,hk,bg,aA,bZ,aZ,aR,bw hk (cC hs),qW,qV,PH,ud,jD];generalize decide ((97:Int)<=(((s.getD k 0).toNat:Nat):Int))=a1;generalize decide ((((s.getD k 0).toNat:Nat):Int)<=122)=a2;generalize decide ((48:Int)<=(((s.getD k 0).toNat:Nat):Int))=a3;generalize decide ((((s.getD k 0).toNat:Nat):Int)<=57)=a4;generalize ((((s.getD k 0).toNat:Nat):Int)==45)=a5;rcases lg k with h0|h0
  ·subst h0;cases a1<;>cases a2<;>cases a3<;>cases a4<;>cases a5<;>simp
  ·have e0:((k:Int)==0)=false:=by rw[dS];omega
   have hk1:k-1<s.length:=by omega
   simp only[e0,tO h0 (tP hk) (cC hs),bz,bp,hk1,h0,bg];generalize ((((s.getD (k-1) 0).toNat:Nat):Int)==45)=a6;cases a1<;>cases a2<;>cases a3<;>cases a4<;>cases a5<;>cases a6<;>simp) (fun f=>by rw[M.tz];simp)]
 unfold cY;cases hall:(List.range s.length).all (qW s)
 ·simp
 ·simp only[eY,jD,aZ];rcases lg s.length with h0|h0
  ·simp[h0]
  ·have h1:s.length-1<s.length:=by omega
   have e1:decide ((1:Int)<=((s.length:Nat):Int))=decide (1<=s.length):=by simp only[eZ];omega
   have e2:decide (((s.length:Nat):Int)<=12)=decide (s.length<=12):=by simp only[eZ];omega
   simp only[tO h0 (bY _) (cC hs),bz,bp,h1,bg,bZ,aR,aA,e1,e2,ud]
theorem rM(s:List UInt8)(hs:s.length<=1048576):M.jE s=some (cY s):=by
 unfold M.jE;rcases lg s.length with h0|h0
 ·have:s=[]:=ja h0;subst this;rfl
 have h1:s.length-1<s.length:=by omega
 simp only[tO h0 (bY _) (cC hs),bz,bp,h1,Int.toNat_zero,bg,bZ,aR,aA];have hz:inB (0:Int) s.length=true:=by
  show inB ((0:Nat):Int) s.length=true
  rw[bp];simpa using h0
 simp only[hz,bZ,aR,aA];have e1:decide (((s.length:Nat):Int)<1)= !decide (1<=s.length):=by rw[<-lW];simp only[eZ];omega
 have e2:decide ((12:Int)<((s.length:Nat):Int))= !decide (s.length<=12):=by rw[<-lW];simp only[eZ];omega
 have e3:decide ((((s.getD 0 0).toNat:Nat):Int)<97)= !decide ((97:Int)<=(((s.getD 0 0).toNat:Nat):Int)):=by rw[<-lW];simp only[eZ];omega
 have e4:decide ((122:Int)<(((s.getD 0 0).toNat:Nat):Int))= !decide ((((s.getD 0 0).toNat:Nat):Int)<=122):=by rw[<-lW];simp only[eZ];omega
 rw[e1,e2,e3,e4];by_cases hlow:qV (s.getD 0 0)=true
 ·have hl:=hlow;simp only[qV,bC]at hl;rw[lJ (p:=qW s) (F:=M.v7 s) (e:=()) (b:=false) s.length (by omega) (fun f k hk=>by
   rw[M.v7];have f1:decide ((((s.getD k 0).toNat:Nat):Int)<97)= !decide ((97:Int)<=(((s.getD k 0).toNat:Nat):Int)):=by rw[<-lW];simp only[eZ];omega
   have f2:decide ((122:Int)<(((s.getD k 0).toNat:Nat):Int))= !decide ((((s.getD k 0).toNat:Nat):Int)<=122):=by rw[<-lW];simp only[eZ];omega
   have f3:decide ((((s.getD k 0).toNat:Nat):Int)<48)= !decide ((48:Int)<=(((s.getD k 0).toNat:Nat):Int)):=by rw[<-lW];simp only[eZ];omega
   have f4:decide ((57:Int)<(((s.getD k 0).toNat:Nat):Int))= !decide ((((s.getD k 0).toNat:Nat):Int)<=57):=by rw[<-lW];simp only[eZ];omega
   simp only[bz,bp,bJ,hk,bg,aA,bZ,aZ,aR,bw hk (cC hs),qW,qV,PH,ud,jD,f1,f2,f3,f4];have dash:qV (s.getD k 0)=true->((((s.getD k 0).toNat:Nat):Int)==45)=false:=fun h=>by
    simp only[qV,bC,bq]at h;rw[dS];omega
   simp only[qV]at dash;rcases lg k with k0|k0
   ·subst k0;rw[hl.1,hl.2]at*;simp only[cK]at dash;rw[dash trivial];simp
   ·have hk1:k-1<s.length:=by omega
    simp only[tO k0 (tP hk) (cC hs),bz,bp,hk1,k0,bg];generalize ((((s.getD (k-1) 0).toNat:Nat):Int)==45)=a6
    revert dash
    generalize decide ((97:Int)<=(((s.getD k 0).toNat:Nat):Int))=a1;generalize decide ((((s.getD k 0).toNat:Nat):Int)<=122)=a2;generalize decide ((48:Int)<=(((s.getD k 0).toNat:Nat):Int))=a3;generalize decide ((((s.getD k 0).toNat:Nat):Int)<=57)=a4;generalize ((((s.getD k 0).toNat:Nat):Int)==45)=a5;intro dash;cases a1<;>cases a2<;>cases a3<;>cases a4<;>cases a5<;>cases a6<;>simp at dash⊢) (fun f=>by rw[M.v7];simp)]
  rw[hl.1,hl.2];unfold cY ud;cases (List.range s.length).all (qW s)<;>cases decide (1<=s.length)<;>cases decide (s.length<=12)<;>cases ((((s.getD (s.length-1) 0).toNat:Nat):Int)==45)<;>rfl
 ·have hno:cY s=false:=by
   unfold cY;have:(List.range s.length).all (qW s)=false:=by
    rw[List.all_eq_false];refine⟨0,by simpa using h0,?_⟩;simp only[wS]at hlow;simp only[qW,hlow];intro h;cases h
   rw[this];rfl
  rw[hno];simp only[wS]at hlow;simp only[qV]at hlow;cases h3:decide ((97:Int)<=(((s.getD 0 0).toNat:Nat):Int))<;>cases h4:decide ((((s.getD 0 0).toNat:Nat):Int)<=122)<;>rw[h3,h4]at hlow<;>simp at hlow⊢
end M
namespace M
open Go.V (inB cF af bV)
theorem nodup_range(l:List (List UInt8)):(List.range l.length).all (fun i=>(List.range i).all fun k=> !(l.getD k []==l.getD i []))=nodupB l:=by
 rw[fW,xO,List.Nodup,wU];simp only[dz,zN,eL,dS];constructor
 ·intro h i j hi hj hij e;have:=h j hj i hij;rw[getD_lt hi,getD_lt hj]at this;exact this e
 ·intro h i hi k hk e;rw[getD_lt hi,getD_lt (by omega)]at e;exact h k i (by omega) hi hk e
theorem EO{α:Type}(p:α->Bool)(l:List α)(d:α):(List.range l.length).all (fun i=>p (l.getD i d))=l.all p:=by
 rw[fW];simp only[dz,zN];constructor
 ·intro h x hx;obtain⟨i,hi,rfl⟩:=pK hx;have:=h i hi
  rwa [getD_lt hi]at this
 ·intro h i hi;rw[getD_lt hi];exact h _ (bG hi)
theorem EN{α:Type}(p q:α->Bool)(l:List α):l.all (fun x=>p x&&q x)=(l.all p&&l.all q):=by
 induction l with
 |nil=>rfl
 |cons x r ih=>simp only[kK,ih];cases p x<;>cases q x<;>cases r.all p<;>cases r.all q<;>rfl
theorem aBy(l:List (List UInt8))(h:az List.length l<=1048576):M.DY l=some (lX l):=by
 have hl:=cD (cm List.length l) h;unfold M.DY;have e1:decide (((l.length:Nat):Int)<1)= !decide (1<=l.length):=by rw[<-lW];simp only[eZ];omega
 have e2:decide ((16:Int)<((l.length:Nat):Int))= !decide (l.length<=16):=by rw[<-lW];simp only[eZ];omega
 rw[e1,e2,lJ (p:=fun i=>cY (l.getD i [])&&(List.range i).all fun k=> !(l.getD k []==l.getD i [])) (F:=fun f i=>M.qz f l i) (e:=()) (b:=false) l.length (by omega) (fun f k hk=>by
  show M.qz (f+1) l (k:Int)=_
  rw[M.qz];have hn:(l.getD k []).length<=1048576:=by rw[getD_lt hk];exact cD (dr List.length _ _ (bG hk)) h
  have inner:M.ti l (k:Int) af 0=some (if(List.range k).all (fun j=> !(l.getD j []==l.getD k []))then .inr (l,(k:Int))else .inl false):=
   lJ (p:=fun j=> !(l.getD j []==l.getD k [])) (F:=M.ti l (k:Int)) (e:=(l,(k:Int))) (b:=false) k (by omega) (fun f j hj=>by
    rw[M.ti];have hj':j<l.length:=by omega
    simp only[bz,bp,bJ,hj,hk,hj',bg,aA,bZ,aZ,aR,bw hj (by omega:k<2^62)];cases l.getD j []==l.getD k []<;>rfl) (fun f=>by rw[M.ti];simp)
  simp only[bz,bp,bJ,hk,bg,aA,bZ,aZ,aR,bw hk (by omega:l.length<2^62),rM _ hn,inner,aV,aX];cases cY (l.getD k [])<;>cases (List.range k).all (fun j=> !(l.getD j []==l.getD k []))<;>simp[bw hk (by omega:l.length<2^62)]) (fun f=>by
  show M.qz (f+1) l (l.length:Int)=_
  rw[M.qz];simp)]
 unfold lX;rw[EN,EO,nodup_range];cases decide (1<=l.length)<;>cases decide (l.length<=16)<;>cases l.all cY<;>cases nodupB l<;>rfl
theorem aBz(l:List (List UInt8))(h:az List.length l<=1048576):M.D4 l=some (lX l):=by
 have hl:=cD (cm List.length l) h;have c1:∀s:List UInt8,s.length<=1048576->M.D2 s=some (!cY s):=fun s hs=>by
  unfold M.D2;rw[rN s hs];rfl
 have cf:M.D3 l=some (l.any fun s=> !cY s):=by
  have e:=fY (p:=fun s=> !cY s) (F:=M.wb l (l.length:Int)) (e:=()) (fun k=>k) l (by omega) (fun f k hk=>by
   rw[M.wb];have hn:l[k].length<=1048576:=cD (dr List.length _ _ (bG hk)) h;simp only[getD_lt hk,bz,bp,bJ,hk,bg,aA,bZ,aZ,aR,bw hk (by omega:l.length<2^62),c1 _ hn,aV,aX]) (fun f=>by rw[M.wb];simp)
  unfold M.D3 M.JF;rw[e,jJ];cases l.findIdx? (fun s=> !cY s)<;>simp
 unfold M.D4;rw[cf,Gt l hl];have e1:decide ((1:Int)<=((l.length:Nat):Int))=decide (1<=l.length):=by simp only[eZ];omega
 have e2:decide (((l.length:Nat):Int)<=16)=decide (l.length<=16):=by simp only[eZ];omega
 have e3:(l.any fun s=> !cY s)= !l.all cY:=by rw[wK]
 unfold lX;simp only[aX,bZ,aR,aA,aV,e1,e2,e3,wX];cases decide (1<=l.length)<;>cases decide (l.length<=16)<;>cases l.all cY<;>cases nodupB l<;>rfl
end M
namespace M
open Go.V (inB cF af bV)
theorem uc{α:Type}{f:α->Nat}{l:List α}{N:Nat}(h:az f l<=N){x:α}(hx:x∈l):f x<=N:=cD (dr f l x hx) h
theorem aa.PL{a:aa}{N:Nat}(h:a.sz<=N):az List.length a.bR<=N:=by rw[aa.bQ]at h;omega
theorem aa.E5{a:aa}{N:Nat}(h:a.sz<=N):a.Name.length<=N:=by rw[aa.bQ]at h;omega
theorem aa.zn{a:aa}{N:Nat}(h:a.sz<=N):az aa.sz a.Kids<=N:=by rw[aa.bQ]at h;omega
theorem aa.ki{a:aa}{N:Nat}(h:a.sz<=N):a.Kids.length<=N:=cD (cm _ _) (aa.zn h)
theorem aa.aBA{a:aa}{N:Nat}(h:a.sz<=N):a.bR.length<=N:=cD (cm _ _) (aa.PL h)
theorem aa.fj{a x:aa}(h:x∈a.Kids):x.sz<a.sz:=by
 rw[aa.bQ a];have:=wL aa.sz _ _ h;omega
theorem aBB(t:aa)(h:t.sz<=1048576):M.v8 t=some (t.Kids.any fa):=by
 have hl:=aa.ki h;have e:=fY (p:=fa) (F:=fun f i=>M.pf f i t) (e:=()) (fun _=>true) t.Kids (by omega) (fun f k hk=>by
  show M.pf (f+1) (k:Int) t=_
  rw[M.pf];simp only[aa.ai,getD_lt hk,bz,bp,bJ,hk,bg,aA,bZ,aZ,aR,bw hk (by omega:t.Kids.length<2^62),fa]) (fun f=>by
  show M.pf (f+1) _ t=_
  rw[M.pf];simp)
 unfold M.v8;rw[aa.ai,jJ];have e':M.pf af 0 t=_:=e;rw[e'];cases t.Kids.findIdx? fa<;>simp
theorem Kx(lo hi:Int):∀(m:Nat)(t:aa),t.sz<m->t.sz<=1048576->M.lO m t lo hi=some (gC (fun k=>decide (lo<=k)&&decide (k<=hi)) t)
 |0,t,h,_=>absurd h (jQ _)
 |m+1,t,h,hN=>by
  have hl:=aa.ki hN;have e:=fY (p:=gC (fun k=>decide (lo<=k)&&decide (k<=hi))) (F:=fun f i=>M.pn (M.lO m) lo hi f i t) (e:=()) (fun _=>true) t.Kids (by omega) (fun f k hk=>by
   show M.pn (M.lO m) lo hi (f+1) (k:Int) t=_
   rw[M.pn];have hx:=aa.fj (bG hk);simp only[aa.ai,getD_lt hk,Kx lo hi m t.Kids[k] (by omega) (by omega),bz,bp,bJ,hk,bg,aA,bZ,aZ,aR,bw hk (by omega:t.Kids.length<2^62),aV,aX]) (fun f=>by
   show M.pn (M.lO m) lo hi (f+1) _ t=_
   rw[M.pn];simp)
  show M.Jq (M.lO m) t lo hi=_
  unfold M.Jq;have e':M.pn (M.lO m) lo hi af 0 t=_:=e;rw[aa.ai,e',aiT,PK,jJ];cases (decide (lo<=t.Kind)&&decide (t.Kind<=hi))<;>cases t.Kids.findIdx? (gC fun k=>decide (lo<=k)&&decide (k<=hi))<;>simp
theorem aBC(l:List Int)(v:Int)(hl:l.length<2^62):M.D6 l v=some (l.any fun x=>v==x):=by
 have e:=fY (p:=fun x=>v==x) (F:=M.wd l v (l.length:Int)) (e:=()) (fun k=>k) l hl (fun f k hk=>by
  rw[M.wd];simp only[getD_lt hk,bz,bp,bJ,hk,bg,aA,bZ,aZ,aR,bw hk hl]) (fun f=>by rw[M.wd];simp)
 unfold M.D6 M.JJ;rw[e,jJ];cases l.findIdx? (fun x=>v==x)<;>simp
theorem Ky(ks:List Int)(hk:ks.length<2^62):∀(m:Nat)(t:aa),t.sz<m->t.sz<=1048576->M.mg m t ks=some (gC (fun k=>ks.any fun x=>k==x) t)
 |0,t,h,_=>absurd h (jQ _)
 |m+1,t,h,hN=>by
  have hl:=aa.ki hN;have e:=fY (p:=gC (fun k=>ks.any fun x=>k==x)) (F:=M.we (M.mg m) t.Kids ks (t.Kids.length:Int)) (e:=()) (fun k=>k) t.Kids (by omega) (fun f k hk'=>by
   rw[M.we];have hx:=aa.fj (bG hk');have c:M.D7 (M.mg m) t.Kids[k] ks=some (gC (fun k=>ks.any fun x=>k==x) t.Kids[k]):=by
    unfold M.D7;simp only[aa.ai,Ky ks hk m t.Kids[k] (by omega) (by omega)];rfl
   simp only[aa.ai,getD_lt hk',c,bz,bp,bJ,hk',bg,aA,bZ,aZ,aR,bw hk' (by omega:t.Kids.length<2^62),aV,aX]) (fun f=>by
   rw[M.we];simp)
  have e2:M.D8 (M.mg m) t.Kids ks=some (t.Kids.any (gC (fun k=>ks.any fun x=>k==x))):=by
   unfold M.D8 M.JL;rw[e,jJ];cases t.Kids.findIdx? (gC (fun k=>ks.any fun x=>k==x))<;>simp
  show M.JM (M.mg m) t ks=_
  unfold M.JM;rw[e2,aBC ks _ hk,aiT,PK];simp
theorem PM:∀(l:List aa),(∀x∈l,dM x<=x.sz+1)->dm l<=az aa.sz l
 |[],_=>bY _
 |x::r,h=>by
  have:=PM r fun y hy=>h y (ml _ hy)
  have:=h x (nq ..);simp only[dm,az];omega
theorem aiX:∀(n:Nat)(t:aa),t.sz<n->dM t<=t.sz+1
 |0,t,h=>absurd h (jQ _)
 |n+1,t,h=>by
  have:=PM t.Kids fun x hx=>aiX n x (by have:=aa.fj hx;omega)
  rw[pE,aa.bQ];omega
theorem EL(t:aa):dM t<=t.sz+1:=aiX _ t (mY _)
theorem EK{l:List aa}{N:Nat}(h:az aa.sz l<=N):dm l<=N:=cD (PM l fun x _=>EL x) h
theorem axY(l:List aa)(k:Nat):dm (l.take k)<=dm l:=by
 have:∀(a b:List aa),dm (a++b)=dm a+dm b:=fun a b=>by
  induction a with
  |nil=>simp[dm]
  |cons x r ih=>simp only[kJ,dm,ih];omega
 have h:=this (l.take k) (l.drop k);rw[List.take_append_drop]at h;omega
theorem aiY:∀(m:Nat)(t:aa),t.sz<m->t.sz<=1048576->M.tw m t=some ((dM t:Nat):Int)
 |0,t,h,_=>absurd h (jQ _)
 |m+1,t,h,hN=>by
  have hl:=aa.ki hN;have hs:=EK (aa.zn hN);have key:∀f k (a:Nat),k<=t.Kids.length->t.Kids.length-k<f->a+dm (t.Kids.drop k)<=1048577->M.tu (M.tw m) t.Kids (t.Kids.length:Int) f (a:Int) (k:Int)=some (((a+dm (t.Kids.drop k):Nat)):Int):=by
   intro f
   induction f with
   |zero=>intro k a h1 h2;omega
   |succ f ih=>
    intro k a h1 h2 h3;rcases cA k t.Kids.length with hk|hk
    ·rw[M.tu];have hx:=aa.fj (bG hk);rw[wJ hk]at h3⊢;have hw:Go.IntKind.wrap .i64 ((a:Int)+((dM t.Kids[k]:Nat):Int))=((a+dM t.Kids[k]:Nat):Int):=by rw[wrap_i64 (by omega) (by omega)];omega
     simp only[aa.ai,getD_lt hk,aiY m t.Kids[k] (by omega) (by omega),bz,bp,bJ,hk,bg,aA,aZ,aR,bw hk (by omega:t.Kids.length<2^62),aV,aX,hw];rw[ih (k+1) _ (by omega) (by omega) (by omega)];congr 1;omega
    ·have:k=t.Kids.length:=by omega
     subst this;rw[M.tu];simp[gP,dm]
  show M.Jz (M.tw m) t=_
  unfold M.Jz;have e:=key af 0 1 (abo _) (by have:=bV;omega) (by simp only[gm];omega);have e':M.tu (M.tw m) t.Kids (t.Kids.length:Int) af 1 0=_:=e;rw[e',pE];rfl
theorem aiZ:∀(m:Nat)(t:aa)(L:Nat),L<m->L<=100->t.sz<=1048576->M.tp m t (L:Int)=some ((min (gZ t) (L+1):Nat):Int)
 |0,t,L,h,_,_=>absurd h (jQ _)
 |m+1,t,L,h,hL,hN=>by
  have hl:=aa.ki hN
  show M.Jv (M.tp m) t (L:Int)=_
  unfold M.Jv;cases L with
  |zero=>
   have:=aiW t;rw[show min (gZ t) (0+1)=1 by omega];rfl
  |succ L=>
   have hw0:Go.IntKind.wrap .i64 (((L+1:Nat):Int)-1)=(L:Int):=by rw[wrap_i64 (by omega) (by omega)];omega
   have key:∀f k (a:Nat),k<=t.Kids.length->t.Kids.length-k<f->M.tn (M.tp m) ((L+1:Nat):Int) t.Kids (t.Kids.length:Int) f (a:Int) (k:Int)=some ((max a (min (ky (t.Kids.drop k)) (L+1)):Nat):Int):=by
    intro f
    induction f with
    |zero=>intro k a h1 h2;omega
    |succ f ih=>
     intro k a h1 h2;rcases cA k t.Kids.length with hk|hk
     ·rw[M.tn];have hx:=aa.fj (bG hk);simp only[aa.ai,getD_lt hk,hw0,aiZ m t.Kids[k] L (by omega) (by omega) (by omega),bz,bp,bJ,hk,bg,aA,aZ,aR,bw hk (by omega:t.Kids.length<2^62),aV,aX];have hm:(bif decide (a<min (gZ t.Kids[k]) (L+1))then((min (gZ t.Kids[k]) (L+1):Nat):Int)else(a:Int))=((max a (min (gZ t.Kids[k]) (L+1)):Nat):Int):=by
       by_cases hc:a<min (gZ t.Kids[k]) (L+1)
       ·simp only[hc,bg,aA];omega
       ·simp only[hc,j0,bN];omega
      rw[hm,ih (k+1) _ (by omega) (by omega),aiV hk];congr 1;omega
     ·have:k=t.Kids.length:=by omega
      subst this;rw[M.tn];simp[gP,ky]
   have e:=key af 0 0 (abo _) (by have:=bV;omega);have e':M.tn (M.tp m) ((L+1:Nat):Int) t.Kids (t.Kids.length:Int) af 0 0=_:=e;have d:(((L+1:Nat):Int)==0)=false:=by rw[dS];omega
   rw[d,e',PI];simp only[bN,gm];rw[wrap_i64 (by omega) (by omega)];congr 1;omega
end M
namespace M
open Go.V (inB cF af bV)
def qX(d:Nat)(t:aa):Int×Int:=if d+gZ t<=5/\dM t<=24 then(((gZ t:Nat):Int),((dM t:Nat):Int))else(5,25)
theorem ai0:∀(m d:Nat)(t:aa),d<=5->6<=m+d->t.sz<=1048576->M.tg m t (d:Int)=some (qX d t)
 |0,d,t,h1,h2,_=>by omega
 |m+1,d,t,h1,h2,hN=>by
  have hl:=aa.ki hN;have hdp:=aiW t
  show M.Jl (M.tg m) t (d:Int)=_
  unfold M.Jl;by_cases h5:d=5
  ·subst h5;have:qX 5 t=(5,25):=by unfold qX;rw[av (by omega)]
   rw[this];rfl
  have d4:decide ((4:Int)<(d:Int))=false:=by rw[dR];omega
  by_cases gB:24<t.Kids.length
  ·have:qX d t=(5,25):=by
    unfold qX;have:=aiU t.Kids;rw[av (by rw[pE];omega)]
   rw[this,d4];have:decide ((24:Int)<((t.Kids.length:Nat):Int))=true:=by rw[bq];omega
   rw[this];rfl
  have d24:decide ((24:Int)<((t.Kids.length:Nat):Int))=false:=by rw[dR];omega
  have hw:Go.IntKind.wrap .i64 ((d:Int)+1)=((d+1:Nat):Int):=by rw[wrap_i64 (by omega) (by omega)];omega
  have mx:∀a b:Nat,M.mO (a:Int) (b:Int)=some ((max a b:Nat):Int):=fun a b=>by
   unfold M.mO;by_cases hc:b<a
   ·have:decide ((b:Int)<(a:Int))=true:=by rw[bq];omega
    rw[this];simp only[aA];congr 1;omega
   ·have:decide ((b:Int)<(a:Int))=false:=by rw[dR];omega
    rw[this];simp only[bN];congr 1;omega
  have key:∀f k (a p:Nat),k<=t.Kids.length->t.Kids.length-k<f->p<=24->M.tf (M.tg m) (d:Int) f (a:Int) (p:Int) (k:Int) t=
   some (if d+1+ky (t.Kids.drop k)<=5/\p+dm (t.Kids.drop k)<=24 then .inr (((max a (ky (t.Kids.drop k)):Nat):Int),((p+dm (t.Kids.drop k):Nat):Int))else .inl (5,25)):=by
   intro f
   induction f with
   |zero=>intro k a p h1 h2;omega
   |succ f ih=>
    intro k a p h1 h2 h3;rcases cA k t.Kids.length with hk|hk
    ·rw[M.tf];have hx:=aa.fj (bG hk);have hc:=ai0 m (d+1) t.Kids[k] (by omega) (by omega) (by omega);rw[aiV hk,wJ hk];simp only[aa.ai,getD_lt hk,hw,hc,bz,bp,bJ,hk,bg,aA,aZ,aR,bw hk (by omega:t.Kids.length<2^62),aV,aX];unfold qX;by_cases hv:d+1+gZ t.Kids[k]<=5/\dM t.Kids[k]<=24
     ·rw[aE hv];have hw2:Go.IntKind.wrap .i64 ((p:Int)+((dM t.Kids[k]:Nat):Int))=((p+dM t.Kids[k]:Nat):Int):=by rw[wrap_i64 (by omega) (by omega)];omega
      dsimp only;rw[hw2,mx];by_cases hp:24<p+dM t.Kids[k]
      ·have:decide ((24:Int)<((p+dM t.Kids[k]:Nat):Int))=true:=by rw[bq];omega
       rw[this,av (by omega)];simp
      ·have:decide ((24:Int)<((p+dM t.Kids[k]:Nat):Int))=false:=by rw[dR];omega
       rw[this];simp only[bN,aX,aZ,aA,aV];rw[ih (k+1) _ _ (by omega) (by omega) (by omega)];have e1:(d+1+ky (t.Kids.drop (k+1))<=5/\p+dM t.Kids[k]+dm (t.Kids.drop (k+1))<=24)↔(d+1+max (gZ t.Kids[k]) (ky (t.Kids.drop (k+1)))<=5/\p+(dM t.Kids[k]+dm (t.Kids.drop (k+1)))<=24):=by omega
       by_cases hq:d+1+ky (t.Kids.drop (k+1))<=5/\p+dM t.Kids[k]+dm (t.Kids.drop (k+1))<=24
       ·rw[aE hq,aE (e1.1 hq)];congr 3
        ·omega
        ·omega
       ·rw[av hq,av (fun h=>hq (e1.2 h))]
     ·rw[av hv,av (by omega)];have hw2:Go.IntKind.wrap .i64 ((p:Int)+25)=(p:Int)+25:=wrap_i64 (by omega) (by omega);have mx5:M.mO (a:Int) 5=some ((max a 5:Nat):Int):=mx a 5;dsimp only;rw[hw2,mx5];have:decide ((24:Int)<(p:Int)+25)=true:=by rw[bq];omega
      rw[this];simp
    ·have:k=t.Kids.length:=by omega
     subst this;rw[M.tf,gP];have hq:d+1+ky []<=5/\p+dm []<=24:=⟨by show d+1+0<=5;omega,by show p+0<=24;omega⟩;rw[aE hq];simp[ky,dm]
  have e:=key af 0 0 1 (abo _) (by have:=bV;omega) (by omega);have e':M.tf (M.tg m) (d:Int) af 0 1 0 t=_:=e;rw[aa.ai,d4,d24,e'];simp only[gm,tQ,bN];unfold qX;rw[PI,pE];by_cases hq:d+1+ky t.Kids<=5/\1+dm t.Kids<=24
  ·rw[aE hq,aE (by omega)];simp only;congr 2;rw[wrap_i64 (by omega) (by omega)];omega
  ·rw[av hq,av (by omega)]
theorem ai1{p:Int->Bool}{l:List aa}(h:l.length=1):gC p (l.getD 0 aa.zero)=lv p l:=by
 match l,h with
 |[x],_=>simp[lv]
theorem zq{p q:Int->Bool}(h:∀k,p k=q k):gC p=gC q:=by
 have:p=q:=funext h;rw[this]
theorem b21(k:Int):(decide ((21:Int)<=k)&&decide (k<=21))=(k==21):=by
 rw[fW];simp only[bC,bq,de];omega
theorem zO(n m:Nat):(((n:Nat):Int)==((m:Nat):Int))=(n==m):=by
 rw[fW];simp only[de];omega
theorem ai3(n:Nat):(((n:Nat):Int)==1)=(n==1):=zO n 1
theorem ai4(n:Nat):(((n:Nat):Int)==2)=(n==2):=zO n 2
theorem ai5(n:Nat):(((n:Nat):Int)==0)=(n==0):=zO n 0
theorem PN(n:Nat):inB (0:Int) n=decide (0<n):=bp 0 n
theorem aBF(t:aa)(h:t.sz<=1048576):M.DZ t=some (mZ t):=by
 have hn:=rM t.Name (aa.E5 h);have hb:=aBy t.bR (aa.PL h);have hu:=aBB t h;have hh:t.Kids.length=1->M.jH (M.aa.re (List.getD t.Kids 0 aa.zero)) 21 21=some (lv (fun k=>k==21) t.Kids):=fun h1=>by
  have hx:(t.Kids.getD 0 aa.zero).sz<t.sz:=by
   rw[getD_lt (by omega)];exact aa.fj (bG _)
  rw[aa.ai,show M.jH=M.lO af from rfl,Kx 21 21 af _ (ahL (by omega)) (by omega),zq b21,ai1 h1]
 unfold M.DZ;simp only[aa.ai,hn,hb,hu,aV,aX,bZ,aR,aZ,aA,ai3,ai4,ai5,zO,PN,Int.toNat_zero];unfold mZ E4;have e0:decide ((0:Int)<((t.bR.length:Nat):Int))= !(t.bR.length==0):=by
  rw[fW];simp only[bq,eL,dS];omega
 have e1:decide ((1:Int)<=((t.Kids.length:Nat):Int))=decide (1<=t.Kids.length):=by simp only[eZ];omega
 have e2:decide (((t.Kids.length:Nat):Int)<=6)=decide (t.Kids.length<=6):=by simp only[eZ];omega
 rw[e0,e1,e2];have fS:lX t.bR=true->(t.bR.length==0)=false:=fun h=>by
  simp only[lX,bC,bq]at h;rw[dS];omega
 have fU:cY t.Name=true->(t.Name==[])=false:=fun h=>by
  simp only[cY,bC,bq]at h;rw[dS];intro e;rw[e]at h;simp at h
 unfold qI KY;have hz:t.Kids.length=1->decide (0<t.Kids.length)=true:=fun h1=>by rw[h1];rfl
 have hl1:(t.Kids.length==1)=true->t.Kids.length=1:=fun h1=>by simpa using h1
 have hbr:(t.Kids.length==1)=true->M.jH (M.aa.re (List.getD t.Kids 0 aa.zero)) 21 21=some (lv (fun k=>k==21) t.Kids)/\decide (0<t.Kids.length)=true:=fun h1=>⟨hh (hl1 h1),hz (hl1 h1)⟩
 clear hn hb hu hh hz hl1;simp only[aa.ai]at hbr⊢;generalize hK:t.Kind=K;generalize (t.Name==[])=nn at fU⊢;generalize cY t.Name=no at fU⊢;generalize lX t.bR=lo at fS⊢;generalize (t.bR.length==0)=ll at fS⊢;generalize M.jH (List.getD t.Kids 0 aa.zero) 21 21=o at hbr⊢;generalize decide (0<t.Kids.length)=z at hbr⊢;generalize (t.Kids.length==1)=l1 at hbr⊢;generalize lv (fun k=>k==21) t.Kids=kh at hbr⊢;generalize t.Kids.any fa=au;generalize (t.Kids.length==2)=l2;generalize (t.Kids.length==0)=l0;generalize (t.Kids.length==t.bR.length)=lk;generalize decide (1<=t.Kids.length)=ge;generalize decide (t.Kids.length<=6)=le;clear hK h e0 e1 e2;by_cases h12:K=12
 ·subst h12;cases l1
  ·cases no<;>cases nn<;>simp at fU<;>cases lo<;>cases ll<;>simp at fS<;>simp
  ·obtain⟨rfl,rfl⟩:=hbr rfl;cases no<;>cases nn<;>simp at fU<;>cases lo<;>cases ll<;>simp at fS<;>simp
 by_cases h13:K=13
 ·subst h13;cases l1
  ·cases no<;>cases nn<;>simp at fU<;>cases lo<;>cases ll<;>simp at fS<;>simp
  ·obtain⟨rfl,rfl⟩:=hbr rfl;cases no<;>cases nn<;>simp at fU<;>cases lo<;>cases ll<;>simp at fS<;>simp
 by_cases xe:K=14
 ·subst xe;cases l1
  ·cases no<;>cases nn<;>simp at fU<;>cases lo<;>cases ll<;>simp at fS<;>simp
  ·obtain⟨rfl,rfl⟩:=hbr rfl;cases no<;>cases nn<;>simp at fU<;>cases lo<;>cases ll<;>simp at fS<;>simp
 by_cases h15:K=15
 ·subst h15;cases l1
  ·cases no<;>cases nn<;>simp at fU<;>cases lo<;>cases ll<;>simp at fS<;>simp
  ·obtain⟨rfl,rfl⟩:=hbr rfl;cases no<;>cases nn<;>simp at fU<;>cases lo<;>cases ll<;>simp at fS<;>simp
 by_cases h16:K=16
 ·subst h16;cases l1
  ·cases no<;>cases nn<;>simp at fU<;>cases lo<;>cases ll<;>simp at fS<;>simp
  ·obtain⟨rfl,rfl⟩:=hbr rfl;cases no<;>cases nn<;>simp at fU<;>cases lo<;>cases ll<;>simp at fS<;>simp
 by_cases h17:K=17
 ·subst h17;cases l1
  ·cases no<;>cases nn<;>simp at fU<;>cases lo<;>cases ll<;>simp at fS<;>simp
  ·obtain⟨rfl,rfl⟩:=hbr rfl;cases no<;>cases nn<;>simp at fU<;>cases lo<;>cases ll<;>simp at fS<;>simp
 by_cases h18:K=18
 ·subst h18;cases l1
  ·cases no<;>cases nn<;>simp at fU<;>cases lo<;>cases ll<;>simp at fS<;>simp
  ·obtain⟨rfl,rfl⟩:=hbr rfl;cases no<;>cases nn<;>simp at fU<;>cases lo<;>cases ll<;>simp at fS<;>simp
 by_cases h19:K=19
 ·subst h19;cases l1
  ·cases no<;>cases nn<;>simp at fU<;>cases lo<;>cases ll<;>simp at fS<;>simp
  ·obtain⟨rfl,rfl⟩:=hbr rfl;cases no<;>cases nn<;>simp at fU<;>cases lo<;>cases ll<;>simp at fS<;>simp
 by_cases h20:K=20
 ·subst h20;cases l1
  ·cases no<;>cases nn<;>simp at fU<;>cases lo<;>cases ll<;>simp at fS<;>simp
  ·obtain⟨rfl,rfl⟩:=hbr rfl;cases no<;>cases nn<;>simp at fU<;>cases lo<;>cases ll<;>simp at fS<;>simp
 by_cases h21:K=21
 ·subst h21;cases l1
  ·cases no<;>cases nn<;>simp at fU<;>cases lo<;>cases ll<;>simp at fS<;>simp
  ·obtain⟨rfl,rfl⟩:=hbr rfl;cases no<;>cases nn<;>simp at fU<;>cases lo<;>cases ll<;>simp at fS<;>simp
 by_cases h22:K=22
 ·subst h22;cases l1
  ·cases no<;>cases nn<;>simp at fU<;>cases lo<;>cases ll<;>simp at fS<;>simp
  ·obtain⟨rfl,rfl⟩:=hbr rfl;cases no<;>cases nn<;>simp at fU<;>cases lo<;>cases ll<;>simp at fS<;>simp
 by_cases h23:K=23
 ·subst h23;cases l1
  ·cases no<;>cases nn<;>simp at fU<;>cases lo<;>cases ll<;>simp at fS<;>simp
  ·obtain⟨rfl,rfl⟩:=hbr rfl;cases no<;>cases nn<;>simp at fU<;>cases lo<;>cases ll<;>simp at fS<;>simp
 have q1:(K==20)=false:=by simpa using h20
 have q2:(K==21)=false:=by simpa using h21
 have q3:(decide ((16:Int)<=K)&&decide (K<=19))=false:=by
  rw[kq];simp only[ne_eq,bC,bq];omega
 have q4:(K==12)=false:=by simpa using h12
 have q5:(K==13)=false:=by simpa using h13
 have q6:(K==14)=false:=by simpa using xe
 have q7:(K==15)=false:=by simpa using h15
 have q8:(K==16)=false:=by simpa using h16
 have q9:(K==17)=false:=by simpa using h17
 have q10:(K==22)=false:=by simpa using h22
 have q11:(K==23)=false:=by simpa using h23
 simp only[q1,q2,q3,q4,q5,q6,q7,q8,q9,q10,q11,h12,h13,xe,h15,h16,h17,h22,h23,or_self,fZ];cases nn<;>cases ll<;>simp
end M
namespace M
open Go.V (inB cF af bV)
theorem ai6:∀(m:Nat)(t:aa),t.sz<m->t.sz<=1048576->M.pq m t=some (dF t)
 |0,t,h,_=>absurd h (jQ _)
 |m+1,t,h,hN=>by
  have hl:=aa.ki hN;have e:=mJ (p:=dF) (F:=fun f i=>M.po (M.pq m) f i t) (e:=()) (b:=false) t.Kids (by omega) (fun f k hk=>by
   show M.po (M.pq m) (f+1) (k:Int) t=_
   rw[M.po];have hx:=aa.fj (bG hk);simp only[aa.ai,getD_lt hk,ai6 m t.Kids[k] (by omega) (by omega),bz,bp,bJ,hk,bg,aA,bZ,aZ,aR,bw hk (by omega:t.Kids.length<2^62),aV,aX];cases dF t.Kids[k]<;>rfl) (fun f=>by
   show M.po (M.pq m) (f+1) _ t=_
   rw[M.po];simp)
  show M.Js (M.pq m) t=_
  unfold M.Js;have e':M.po (M.pq m) af 0 t=_:=e;rw[aa.ai,aBF t hN,e',wI,zm];cases mZ t<;>cases t.Kids.all dF<;>simp
theorem PO(t:aa)(h:t.sz<=1048576):M.rX t=some (eH t):=by
 unfold M.rX;have e1:M.Jt t=some (dF t):=ai6 af t (ahL h) h;have e2:M.Jm t 1=some (qX 1 t):=ai0 af 1 t (by omega) (by have:=bV;omega) h;simp only[aa.ai,e1,e2,aV,aX,bZ,aR,aA];unfold eH qX;by_cases hq:1+gZ t<=5/\dM t<=24
 ·rw[aE hq];have a1:decide (((gZ t:Nat):Int)<=4)=decide (gZ t<=4):=by simp only[eZ];omega
  have a2:decide (((dM t:Nat):Int)<=24)=decide (dM t<=24):=by simp only[eZ];omega
  dsimp only;rw[a1,a2]
 ·rw[av hq];have:(decide (gZ t<=4)&&decide (dM t<=24))=false:=by
   rw[kq];simp only[ne_eq,bC,bq];omega
  rw[this];rfl
theorem aBG(t:aa)(h:t.sz<=1048576):M.BC t=some (eH t):=by
 unfold M.BC;simp only[aa.ai,PO t h];rfl
end M
namespace M
open Go.V (inB cF af bV)
theorem aBH(l:List aa)(hl:l.length<=1048576):M.D5 l=some (l.any fa):=by
 have e:=fY (p:=fa) (F:=M.wc l (l.length:Int)) (e:=()) (fun k=>k) l (by omega) (fun f k hk=>by
  rw[M.wc];simp only[getD_lt hk,bz,bp,bJ,hk,bg,aA,bZ,aZ,aR,bw hk (by omega:l.length<2^62)];rfl) (fun f=>by rw[M.wc];simp)
 unfold M.D5 M.JH;rw[e,jJ];cases l.findIdx? fa<;>simp
theorem aBI(t:aa)(h:t.sz<=1048576)(n:Nat):M.tA t (n:Int)=some ((t.Kids.length==n)&& !t.Kids.any fa):=by
 unfold M.tA;rw[aBH t.Kids (aa.ki h)];simp only[aX,bZ,aR,aA,aV,zO]
theorem aBJ(t:aa)(h:t.sz<=1048576)(rec:aa->Option Bool)(b:Bool)(hb:M.zc rec t.Kids=some (!b)):M.D9 rec t=some (b&&mZ t):=by
 have hn:=rN t.Name (aa.E5 h);have hlab:=aBz t.bR (aa.PL h);have hk:=aBI t h;have hk1:M.tA t 1=some ((t.Kids.length==1)&& !t.Kids.any fa):=hk 1;have hh:t.Kids.length=1->M.kf (M.aa.re (List.getD t.Kids 0 aa.zero)) [21]=some (lv (fun k=>k==21) t.Kids):=fun h1=>by
  have hx:(t.Kids.getD 0 aa.zero).sz<t.sz:=by
   rw[getD_lt (by omega)];exact aa.fj (bG _)
  have e:gC (fun k=>[(21:Int)].any fun x=>k==x)=gC (fun k=>k==21):=zq fun k=>by simp
  rw[aa.ai,show M.kf=M.mg af from rfl,Ky [21] (by simp) af _ (ahL (by omega)) (by omega),e,ai1 h1]
 unfold M.D9;simp only[aa.ai,hb,hn,hlab,hk,hk1,aV,aX,bZ,aR,aZ,aA,ai3,ai4,ai5,zO,PN,Int.toNat_zero];unfold mZ E4;have e0:decide ((0:Int)<((t.bR.length:Nat):Int))= !(t.bR.length==0):=by
  rw[fW];simp only[bq,eL,dS];omega
 have e1:decide ((1:Int)<=((t.Kids.length:Nat):Int))=decide (1<=t.Kids.length):=by simp only[eZ];omega
 have e2:decide (((t.Kids.length:Nat):Int)<=6)=decide (t.Kids.length<=6):=by simp only[eZ];omega
 rw[e0,e1,e2];unfold qI KY;have hz:t.Kids.length=1->decide (0<t.Kids.length)=true:=fun h1=>by rw[h1];rfl
 have hl1:(t.Kids.length==1)=true->t.Kids.length=1:=fun h1=>by simpa using h1
 have hbr:(t.Kids.length==1)=true->M.kf (M.aa.re (List.getD t.Kids 0 aa.zero)) [21]=some (lv (fun k=>k==21) t.Kids)/\decide (0<t.Kids.length)=true:=fun h1=>⟨hh (hl1 h1),hz (hl1 h1)⟩
 clear hn hlab hk hk1 hh hz hl1 hb;simp only[aa.ai]at hbr⊢;generalize hK:t.Kind=K;generalize (t.Name==[])=nn;generalize cY t.Name=no;generalize lX t.bR=lo;generalize (t.bR.length==0)=ll;generalize M.kf (List.getD t.Kids 0 aa.zero) [21]=o at hbr⊢;generalize decide (0<t.Kids.length)=z at hbr⊢;generalize (t.Kids.length==1)=l1 at hbr⊢;generalize lv (fun k=>k==21) t.Kids=kh at hbr⊢;generalize t.Kids.any fa=au;generalize (t.Kids.length==2)=l2;generalize (t.Kids.length==0)=l0;have ai7:(t.Kids.length==t.Kids.length)=true:=by simp
 rw[ai7];generalize (t.Kids.length==t.bR.length)=lk;generalize decide (1<=t.Kids.length)=ge;generalize decide (t.Kids.length<=6)=le;clear hK h e0 e1 e2 ai7;cases b
 ·simp
 by_cases h12:K=12
 ·subst h12;cases l1
  ·cases no<;>cases nn<;>cases lo<;>cases ll<;>simp
  ·obtain⟨rfl,rfl⟩:=hbr rfl;cases no<;>cases nn<;>cases lo<;>cases ll<;>simp
 by_cases h13:K=13
 ·subst h13;cases l1
  ·cases no<;>cases nn<;>cases lo<;>cases ll<;>simp
  ·obtain⟨rfl,rfl⟩:=hbr rfl;cases no<;>cases nn<;>cases lo<;>cases ll<;>simp
 by_cases xe:K=14
 ·subst xe;cases l1
  ·cases no<;>cases nn<;>cases lo<;>cases ll<;>simp
  ·obtain⟨rfl,rfl⟩:=hbr rfl;cases no<;>cases nn<;>cases lo<;>cases ll<;>simp
 by_cases h15:K=15
 ·subst h15;cases l1
  ·cases no<;>cases nn<;>cases lo<;>cases ll<;>simp
  ·obtain⟨rfl,rfl⟩:=hbr rfl;cases no<;>cases nn<;>cases lo<;>cases ll<;>simp
 by_cases h16:K=16
 ·subst h16;cases l1
  ·cases no<;>cases nn<;>cases lo<;>cases ll<;>simp
  ·obtain⟨rfl,rfl⟩:=hbr rfl;cases no<;>cases nn<;>cases lo<;>cases ll<;>simp
 by_cases h17:K=17
 ·subst h17;cases l1
  ·cases no<;>cases nn<;>cases lo<;>cases ll<;>simp
  ·obtain⟨rfl,rfl⟩:=hbr rfl;cases no<;>cases nn<;>cases lo<;>cases ll<;>simp
 by_cases h18:K=18
 ·subst h18;cases l1
  ·cases no<;>cases nn<;>cases lo<;>cases ll<;>simp
  ·obtain⟨rfl,rfl⟩:=hbr rfl;cases no<;>cases nn<;>cases lo<;>cases ll<;>simp
 by_cases h19:K=19
 ·subst h19;cases l1
  ·cases no<;>cases nn<;>cases lo<;>cases ll<;>simp
  ·obtain⟨rfl,rfl⟩:=hbr rfl;cases no<;>cases nn<;>cases lo<;>cases ll<;>simp
 by_cases h20:K=20
 ·subst h20;cases l1
  ·cases no<;>cases nn<;>cases lo<;>cases ll<;>simp
  ·obtain⟨rfl,rfl⟩:=hbr rfl;cases no<;>cases nn<;>cases lo<;>cases ll<;>simp
 by_cases h21:K=21
 ·subst h21;cases l1
  ·cases no<;>cases nn<;>cases lo<;>cases ll<;>simp
  ·obtain⟨rfl,rfl⟩:=hbr rfl;cases no<;>cases nn<;>cases lo<;>cases ll<;>simp
 by_cases h22:K=22
 ·subst h22;cases l1
  ·cases no<;>cases nn<;>cases lo<;>cases ll<;>simp
  ·obtain⟨rfl,rfl⟩:=hbr rfl;cases no<;>cases nn<;>cases lo<;>cases ll<;>simp
 by_cases h23:K=23
 ·subst h23;cases l1
  ·cases no<;>cases nn<;>cases lo<;>cases ll<;>simp
  ·obtain⟨rfl,rfl⟩:=hbr rfl;cases no<;>cases nn<;>cases lo<;>cases ll<;>simp
 have q1:(K==20)=false:=by simpa using h20
 have q2:(K==21)=false:=by simpa using h21
 have q3:(decide ((16:Int)<=K)&&decide (K<=19))=false:=by
  rw[kq];simp only[ne_eq,bC,bq];omega
 have q4:(K==12)=false:=by simpa using h12
 have q5:(K==13)=false:=by simpa using h13
 have q6:(K==14)=false:=by simpa using xe
 have q7:(K==15)=false:=by simpa using h15
 have q8:(K==16)=false:=by simpa using h16
 have q9:(K==17)=false:=by simpa using h17
 have q10:(K==22)=false:=by simpa using h22
 have q11:(K==23)=false:=by simpa using h23
 simp only[q1,q2,q3,q4,q5,q6,q7,q8,q9,q10,q11,h12,h13,xe,h15,h16,h17,h22,h23,or_self,fZ];cases nn<;>cases ll<;>simp
theorem ai8:∀(m:Nat)(t:aa),t.sz<m->t.sz<=1048576->M.qA m t=some (dF t)
 |0,t,h,_=>absurd h (jQ _)
 |m+1,t,h,hN=>by
  have hl:=aa.ki hN;have e:=fY (p:=fun x=> !dF x) (F:=M.wa (M.qA m) t.Kids (t.Kids.length:Int)) (e:=()) (fun k=>k) t.Kids (by omega) (fun f k hk=>by
   rw[M.wa];have hx:=aa.fj (bG hk);have c:M.D1 (M.qA m) t.Kids[k]=some (!dF t.Kids[k]):=by
    unfold M.D1;simp only[aa.ai,ai8 m t.Kids[k] (by omega) (by omega)];rfl
   simp only[aa.ai,getD_lt hk,c,bz,bp,bJ,hk,bg,aA,bZ,aZ,aR,bw hk (by omega:t.Kids.length<2^62),aV,aX]) (fun f=>by
   rw[M.wa];simp)
  have e2:M.zc (M.qA m) t.Kids=some (!xd t.Kids):=by
   unfold M.zc M.JC;have e3:(!xd t.Kids)=t.Kids.any fun x=> !dF x:=by rw[zm,wK]
   rw[e,e3,jJ];cases t.Kids.findIdx? (fun x=> !dF x)<;>simp
  show M.D9 (M.qA m) t=_
  rw[aBJ t hN _ _ e2,wI,Bool.and_comm]
theorem ai9(t:aa)(h:t.sz<=1048576):M.wq t=some (eH t):=by
 unfold M.wq;have e1:M.JO t=some (dF t):=ai8 af t (ahL h) h;have e2:M.Jw t 4=some ((min (gZ t) 5:Nat):Int):=aiZ af t 4 (by have:=bV;omega) (by omega) h;have e3:M.JA t=some ((dM t:Nat):Int):=aiY af t (ahL h) h;simp only[aa.ai,e1,e2,e3,aV,aX,bZ,aR,aA];have a1:decide (((min (gZ t) 5:Nat):Int)<=4)=decide (gZ t<=4):=by simp only[eZ];omega
 have a2:decide (((dM t:Nat):Int)<=24)=decide (dM t<=24):=by simp only[eZ];omega
 rw[a1,a2];rfl
end M
namespace M
open Go.V (inB cF af bV)
def ie:List Int->List Int->List Int
 |[],b=>b
 |x::a,[]=>x::a
 |x::a,y::b=>max x y::ie a b
theorem KZ(a:List Int):ie a []=a:=by cases a<;>rfl
theorem K0:∀a b:List Int,(ie a b).length=max a.length b.length
 |[],b=>by simp[ie]
 |x::a,[]=>by simp[ie]
 |x::a,y::b=>by simp only[ie,aO,K0 a b];omega
def ones(l:List Int):Prop:=∀x∈l,x=1\/x=2
theorem PQ:∀a b:List Int,ones a->ones b->ones (ie a b)
 |[],b,_,h=>h
 |x::a,[],h,_=>h
 |x::a,y::b,ha,hb=>by
  intro z hz;rcases fi.1 hz with rfl|hz
  ·have:=ha x (nq ..);have:=hb y (nq ..);omega
  ·exact PQ a b (fun w hw=>ha w (ml _ hw)) (fun w hw=>hb w (ml _ hw)) z hz
theorem PR{a b:List Int}(ha:ones a)(hb:ones b):ones (a++b):=fun x hx=>(dx.1 hx).elim (ha x) (hb x)
mutual
def ft:aa->List Int
 |.mk k n l kids=>
   if k=1 then[]else if k=9 then[2]else if k=11\/k=12 then[1,1]
   else if k=15\/k=16 then fb kids
   else if k=13 then 1::ue kids
   else if k=14\/k=17 then 1::jf [] kids else[1]
def fb:List aa->List Int
 |[]=>[]
 |x::r=>ft x++fb r
def ue:List aa->List Int
 |[]=>[]
 |x::_=>ft x
def jf(a:List Int):List aa->List Int
 |[]=>a
 |x::r=>jf (ie a (ft x)) r
end
theorem jg(t:aa):ft t=(if t.Kind=1 then[]else if t.Kind=9 then[2]else if t.Kind=11\/t.Kind=12 then[1,1]
 else if t.Kind=15\/t.Kind=16 then fb t.Kids
 else if t.Kind=13 then 1::ue t.Kids
 else if t.Kind=14\/t.Kind=17 then 1::jf [] t.Kids else[1]):=by cases t;rw[ft];rfl
theorem aja:∀l:List aa,(∀x∈l,ones (ft x))->ones (fb l)
 |[],_=>fun x hx=>by simp[fb]at hx
 |x::r,h=>by
  rw[fb];exact PR (h x (nq ..)) (aja r fun y hy=>h y (ml _ hy))
theorem ajb:∀(l:List aa)(a:List Int),ones a->(∀x∈l,ones (ft x))->ones (jf a l)
 |[],a,ha,_=>ha
 |x::r,a,ha,h=>ajb r _ (PQ _ _ ha (h x (nq ..))) fun y hy=>h y (ml _ hy)
theorem ajc:∀(n:Nat)(t:aa),t.sz<n->ones (ft t)
 |0,t,h=>absurd h (jQ _)
 |n+1,t,h=>by
  have hk:∀x∈t.Kids,ones (ft x):=fun x hx=>ajc n x (by have:=aa.fj hx;omega)
  have h0:ones []:=fun x hx=>by simp at hx
  have h1:ones [1]:=fun x hx=>by simp at hx;exact .inl hx
  rw[jg];by_cases q1:t.Kind=1
  ·rw[aE q1];exact h0
  rw[av q1];by_cases q2:t.Kind=9
  ·rw[aE q2];intro x hx;simp at hx;exact .inr hx
  rw[av q2];by_cases q3:t.Kind=11\/t.Kind=12
  ·rw[aE q3];intro x hx;simp at hx;exact .inl hx
  rw[av q3];by_cases q4:t.Kind=15\/t.Kind=16
  ·rw[aE q4];exact aja _ hk
  rw[av q4];by_cases q5:t.Kind=13
  ·rw[aE q5];refine PR h1 (b:=ue t.Kids) ?_;cases hks:t.Kids with
   |nil=>exact h0
   |cons x r=>exact hk x (by rw[hks];exact nq ..)
  rw[av q5];by_cases q6:t.Kind=14\/t.Kind=17
  ·rw[aE q6];exact PR h1 (ajb _ _ h0 hk)
  rw[av q6];exact h1
theorem ajd(t:aa):ones (ft t):=ajc _ t (mY _)
theorem aje:∀l:List aa,(∀x∈l,(ft x).length<=2*dM x)->(fb l).length<=2*dm l
 |[],_=>bY _
 |x::r,h=>by
  have:=aje r fun y hy=>h y (ml _ hy)
  have:=h x (nq ..);simp only[fb,dm,bA];omega
theorem K1:∀(l:List aa)(a:List Int),(∀x∈l,(ft x).length<=2*dM x)->(jf a l).length<=a.length+2*dm l
 |[],a,_=>by simp[jf]
 |x::r,a,h=>by
  have h1:=K1 r (ie a (ft x)) fun y hy=>h y (ml _ hy)
  have:=h x (nq ..);rw[K0]at h1;simp only[jf,dm];omega
theorem ajf:∀(n:Nat)(t:aa),t.sz<n->(ft t).length<=2*dM t
 |0,t,h=>absurd h (jQ _)
 |n+1,t,h=>by
  have hk:∀x∈t.Kids,(ft x).length<=2*dM x:=fun x hx=>ajf n x (by have:=aa.fj hx;omega)
  have a1:=aje _ hk;have a2:=K1 _ [] hk;have a3:(ue t.Kids).length<=2*dm t.Kids:=by
   cases hks:t.Kids with
   |nil=>simp[ue]
   |cons x r=>
    have:=hk x (by rw[hks];exact nq ..);simp only[ue,dm];omega
  rw[jg,pE]
  repeat' split
  all_goals simp only[aO,aU]at*
  all_goals omega
theorem zP(t:aa):(ft t).length<=2*dM t:=ajf _ t (mY _)
theorem ajg{l:List aa}{k:Nat}(h:k<l.length):fb (l.drop k)=ft l[k]++fb (l.drop (k+1)):=by rw[fu h];rfl
theorem ajh{l:List aa}{k:Nat}(a:List Int)(h:k<l.length):jf a (l.drop k)=jf (ie a (ft l[k])) (l.drop (k+1)):=by rw[fu h];rfl
theorem aji{a b:List Int}{k:Nat}(ha:k<a.length)(hb:k<b.length):ie (a.drop k) (b.drop k)=max a[k] b[k]::ie (a.drop (k+1)) (b.drop (k+1)):=by rw[fu ha,fu hb];rfl
theorem aBK(a b:List Int)(ha:a.length<=4194304)(hb:b.length<=4194304):M.BE a b=some (ie a b):=by
 have key:∀f k (o:List Int),k<=max a.length b.length->max a.length b.length-k<f->o.length=k->M.oj a b f (k:Int) o=some (o++ie (a.drop k) (b.drop k)):=by
  intro f
  induction f with
  |zero=>intro k o h1 h2;omega
  |succ f ih=>
   intro k o h1 h2 h3;rcases cA k (max a.length b.length)with hk|hk
   ·rw[M.oj];have hw:Go.IntKind.wrap .i64 ((k:Int)+1)=((k+1:Nat):Int):=bw hk (by omega);rcases cA k b.length with hkb|hkb
    ·have c1:decide (((b.length:Nat):Int)<=(k:Int))=false:=by simp only[dR];omega
     rcases cA k a.length with hka|hka
     ·have c2:decide (((a.length:Nat):Int)<=(k:Int))=false:=by simp only[dR];omega
      have hm:M.mO a[k] b[k]=some (max a[k] b[k]):=by
       unfold M.mO;rcases Int.lt_or_le b[k] a[k]with h|h
       ·rw[fK h,aA];congr 1;omega
       ·rw[iS (by omega),bN];congr 1;omega
      simp only[c1,c2,getD_lt hka,getD_lt hkb,hm,bz,bp,bJ,hka,hkb,bg,bZ,aA,bN,aZ,aR,aV,aX,hw,h3,aO,aU];rw[show decide (k+(0+1)<=1073741824)=true by simp only[bq];omega,aA,ih (k+1) _ (by omega) (by omega) (by simp[h3]),aji hka hkb];simp
     ·have c2:decide (((a.length:Nat):Int)<=(k:Int))=true:=by simp only[bq];omega
      simp only[c1,c2,getD_lt hkb,bz,bp,bJ,hkb,bg,kN,aA,bN,aZ,aR,hw,h3,aO,aU];rw[show decide (k+(0+1)<=1073741824)=true by simp only[bq];omega,aA,ih (k+1) _ (by omega) (by omega) (by simp[h3]),lY hka,lY (by omega:a.length<=k+1),fu hkb];simp[ie]
    ·have c1:decide (((b.length:Nat):Int)<=(k:Int))=true:=by simp only[bq];omega
     have hka:k<a.length:=by omega
     simp only[c1,getD_lt hka,bz,bp,bJ,hka,bg,bZ,aA,bN,aZ,aR,hw,h3,aO,aU];rw[show decide (k+(0+1)<=1073741824)=true by simp only[bq];omega,aA,ih (k+1) _ (by omega) (by omega) (by simp[h3]),lY hkb,lY (by omega:b.length<=k+1),fu hka,KZ,KZ];simp
   ·rw[M.oj];have n1:¬(k:Int)<((a.length:Nat):Int):=by omega
    have n2:¬(k:Int)<((b.length:Nat):Int):=by omega
    simp only[n1,n2,j0,tQ,bN];rw[lY (by omega:a.length<=k),lY (by omega:b.length<=k)];simp[ie]
 unfold M.BE;have e:=key af 0 [] (abo _) (by have:=bV;omega) rfl;have e':M.oj a b af 0 []=_:=e;rw[e'];rfl
theorem aBL(a b:List Int)(ha:a.length<=4194304)(hb:b.length<=4194304)(oa:ones a)(ob:ones b):M.Cc a b=some (ie a b):=by
 have key:∀f k (o:List Int),k<=max a.length b.length->max a.length b.length-k<f->o.length=k->M.sr a b ((max a.length b.length:Nat):Int) f (k:Int) o=some (o++ie (a.drop k) (b.drop k)):=by
  intro f
  induction f with
  |zero=>intro k o h1 h2;omega
  |succ f ih=>
   intro k o h1 h2 h3;rcases cA k (max a.length b.length)with hk|hk
   ·rw[M.sr];have hw:Go.IntKind.wrap .i64 ((k:Int)+1)=((k+1:Nat):Int):=bw hk (by omega);have c0:decide ((k:Int)<((max a.length b.length:Nat):Int))=true:=by simp only[bq];omega
    rw[c0,aA];have hd:decide (o.length+([(1:Int)]:List Int).length<=1073741824)=true:=by simp only[bq,aO,aU];omega
    rcases cA k b.length with hkb|hkb
    ·have vb:=ob b[k] (bG hkb);rcases cA k a.length with hka|hka
     ·have va:=oa a[k] (bG hka);simp only[getD_lt hka,getD_lt hkb,bz,bp,bJ,hka,hkb,bg,bZ,aZ,aR,hw,aO,aU];simp only[aO,aU]at hd;rw[hd];have hm:(bif(a[k]==2)||(b[k]==2)then(2:Int)else 1)=max a[k] b[k]:=by
       rcases va with va|va<;>rcases vb with vb|vb<;>rw[va,vb]<;>decide
      rw[hm];have hg:((true|| !((a[k]==(2:Int))||(b[k]==2)))&&(true||((a[k]==(2:Int))||(b[k]==2))))=true:=by simp
      simp only[bZ,cK,aA];rw[ih (k+1) _ (by omega) (by omega) (by simp[h3]),aji hka hkb];simp
     ·have na:¬(k<a.length):=by omega
      simp only[getD_lt hkb,bz,bp,bJ,hkb,na,bg,j0,bZ,aZ,aR,mE,gq,kN,iP,hw,aO,aU];simp only[aO,aU]at hd;rw[hd];have hm:(bif(b[k]==2)then(2:Int)else 1)=b[k]:=by
       rcases vb with vb|vb<;>rw[vb]<;>decide
      rw[hm];simp;rw[show((k:Nat):Int)+1=((k+1:Nat):Int)from rfl,ih (k+1) _ (by omega) (by omega) (by simp[h3]),lY hka,lY (by omega:a.length<=k+1),fu hkb];simp[ie]
    ·have hka:k<a.length:=by omega
     have va:=oa a[k] (bG hka);have nb:¬(k<b.length):=by omega
     simp only[getD_lt hka,bz,bp,bJ,hka,nb,bg,j0,bZ,aZ,aR,mE,Bool.and_false,gq,jC,kN,iP,hw,aO,aU];simp only[aO,aU]at hd;rw[hd];have hm:(bif(a[k]==2)then(2:Int)else 1)=a[k]:=by
      rcases va with va|va<;>rw[va]<;>decide
     rw[hm];simp;rw[show((k:Nat):Int)+1=((k+1:Nat):Int)from rfl,ih (k+1) _ (by omega) (by omega) (by simp[h3]),lY hkb,lY (by omega:b.length<=k+1),fu hka,KZ,KZ];simp
   ·rw[M.sr];have n1:decide ((k:Int)<((max a.length b.length:Nat):Int))=false:=by simp only[dR];omega
    rw[n1,bN,lY (by omega:a.length<=k),lY (by omega:b.length<=k)];simp[ie]
 unfold M.Cc;have hmx:(bif decide (((a.length:Nat):Int)<((b.length:Nat):Int))then((b.length:Nat):Int)else((a.length:Nat):Int))=((max a.length b.length:Nat):Int):=by
  rcases cA a.length b.length with h|h
  ·rw[fK (by omega),aA];omega
  ·rw[iS (by omega),bN];omega
 rw[hmx];have e:=key af 0 [] (abo _) (by have:=bV;omega) rfl;have e':M.sr a b ((max a.length b.length:Nat):Int) af 0 []=_:=e;rw[e'];rfl
end M
namespace M
open Go.V (inB cF af bV)
def dN(t:aa):List aa:=if t.Kind=13 then[.mk 1 [] [] [],t.Kids.getD 0 aa.zero]else t.Kids
theorem E6{t:aa}(h:dF t=true)(hk:t.Kind=13):0<t.Kids.length:=by
 rw[wI]at h;have h1:mZ t=true:=by rw[bC]at h;exact h.1
 unfold mZ E4 at h1;rw[aE (.inr hk:t.Kind=12\/t.Kind=13)]at h1;simp only[bC,de]at h1;omega
theorem K2{t:aa}(h:dF t=true):∀x∈t.Kids,dF x=true:=by
 rw[wI,bC,zm,dz]at h;exact h.2
theorem ajj(t:aa)(h:dF t=true)(hk:t.Kind=13\/t.Kind=14\/t.Kind=17):M.BD t=some (dN t):=by
 unfold M.BD dN;by_cases h13:t.Kind=13
 ·have hp:=E6 h h13;rw[aE h13];simp only[aa.ai,h13,PN,hp,bg,aR,aA,Int.toNat_zero,lF]
 ·rw[av h13];rcases hk with hk|hk|hk
  ·exact absurd hk h13
  ·rw[hk];rfl
  ·rw[hk];rfl
theorem aBM(t:aa)(h:dF t=true)(hk:t.Kind=13\/t.Kind=14\/t.Kind=17):M.HO t=some (dN t):=ajj t h hk
theorem ajk{t:aa}(h:dF t=true)(hk:t.Kind=13\/t.Kind=14\/t.Kind=17):∀x∈dN t,dF x=true:=by
 unfold dN;by_cases h13:t.Kind=13
 ·have hp:=E6 h h13;rw[aE h13,getD_lt hp];intro x hx;rcases fi.1 hx with rfl|hx
  ·decide
  ·rcases fi.1 hx with rfl|hx
   ·exact K2 h _ (bG _)
   ·simp at hx
 ·rw[av h13];exact K2 h
theorem ajl{t:aa}(h:dF t=true)(hk:t.Kind=13\/t.Kind=14\/t.Kind=17):∀x∈dN t,x.sz<t.sz:=by
 unfold dN;by_cases h13:t.Kind=13
 ·have hp:=E6 h h13;rw[aE h13,getD_lt hp];have hg:(t.Kids[0]).sz<t.sz:=aa.fj (bG _);intro x hx;rcases fi.1 hx with rfl|hx
  ·have:(aa.mk 1 [] [] []).sz=0:=by rw[aa.bQ];rfl
   omega
  ·rcases fi.1 hx with rfl|hx
   ·exact hg
   ·simp at hx
 ·rw[av h13];exact fun x hx=>aa.fj hx
theorem ajm{t:aa}(h:dF t=true)(hk:t.Kind=13\/t.Kind=14\/t.Kind=17):ft t=1::jf [] (dN t):=by
 unfold dN;rw[jg];by_cases h13:t.Kind=13
 ·have hp:=E6 h h13;rw[aE h13,getD_lt hp];have q1:¬t.Kind=1:=by omega
  have q2:¬t.Kind=9:=by omega
  have q3:¬(t.Kind=11\/t.Kind=12):=by omega
  have q4:¬(t.Kind=15\/t.Kind=16):=by omega
  rw[av q1,av q2,av q3,av q4,aE h13];have hu:ft (.mk 1 [] [] [])=[]:=by rw[jg];rfl
  have:∀(l:List aa)(hl:0<l.length),ue l=jf [] [.mk 1 [] [] [],l[0]]:=fun l hl=>by
   cases l with
   |nil=>simp at hl
   |cons x r=>simp only[ue,jf,hu,List.getElem_cons_zero,ie]
  rw[this _ hp]
 ·rw[av h13];have hk':t.Kind=14\/t.Kind=17:=by omega
  have q1:¬t.Kind=1:=by omega
  have q2:¬t.Kind=9:=by omega
  have q3:¬(t.Kind=11\/t.Kind=12):=by omega
  have q4:¬(t.Kind=15\/t.Kind=16):=by omega
  rw[av q1,av q2,av q3,av q4,av h13,aE hk']
theorem ajn{t:aa}(h:dF t=true)(hk:t.Kind=13\/t.Kind=14\/t.Kind=17)(hN:t.sz<=1048576):dm (dN t)<=1048580/\(dN t).length<=1048576+2:=by
 have h1:=EK (aa.zn hN);have h2:=aa.ki hN;unfold dN;by_cases h13:t.Kind=13
 ·have hp:=E6 h h13;rw[aE h13,getD_lt hp];have h3:=OC t.Kids t.Kids[0] (bG _);have:dM (.mk 1 [] [] [])=1:=by rw[pE];rfl
  simp only[dm,this,aO,aU];omega
 ·rw[av h13];omega
theorem ajo(K:Int){P:Prop}(h1:K=1->P)(h9:K=9->P)(h11:K=11->P)(h12:K=12->P)(h15:K=15->P)(h16:K=16->P)
 (hc:(K=13\/K=14\/K=17)->P) (he:(K≠1/\K≠9/\K≠11/\K≠12/\K≠15/\K≠16/\K≠13/\K≠14/\K≠17)->P):P:=by
 by_cases q1:K=1
 ·exact h1 q1
 by_cases q2:K=9
 ·exact h9 q2
 by_cases q3:K=11
 ·exact h11 q3
 by_cases q4:K=12
 ·exact h12 q4
 by_cases q5:K=15
 ·exact h15 q5
 by_cases q6:K=16
 ·exact h16 q6
 by_cases q7:K=13\/K=14\/K=17
 ·exact hc q7
 ·exact he ⟨q1,q2,q3,q4,q5,q6,by omega,by omega,by omega⟩
theorem ajp(n:Nat)(rec:List aa->Option (List Int))(hr:∀ts,az aa.sz ts<n->ts.length<=1048576->az aa.sz ts<=1048576->(∀x∈ts,dF x=true)->rec ts=some (fb ts)):
 ∀(m:Nat)(t:aa),t.sz<m->t.sz<n->t.sz<=1048576->dF t=true->M.sd rec m t=some (ft t)
 |0,t,h,_,_,_=>absurd h (jQ _)
 |m+1,t,h,hn,hN,hs=>by
  have hka:rec t.Kids=some (fb t.Kids):=hr _ (by rw[aa.bQ]at hn;omega) (aa.ki hN) (aa.zn hN) (K2 hs)
  show M.G6 rec (M.sd rec m) t=_
  unfold M.G6;refine ajo t.Kind ?_ ?_ ?_ ?_ ?_ ?_ ?_ ?_
  ·intro hk;rw[jg];simp only[hk];rfl
  ·intro hk;rw[jg];simp only[hk];rfl
  ·intro hk;rw[jg];simp only[hk];rfl
  ·intro hk;rw[jg];simp only[hk];rfl
  ·intro hk;rw[jg];simp only[hk,hka];rfl
  ·intro hk;rw[jg];simp only[hk,hka];rfl
  ·intro hk;obtain⟨hsum,hlen⟩:=ajn hs hk hN;have hcs:=ajk hs hk;have hcz:=ajl hs hk;have key:∀f k (a:List Int),k<=(dN t).length->(dN t).length-k<f->a.length+2*dm ((dN t).drop k)<=2097160->M.rZ (M.sd rec m) (dN t) f (k:Int) a=some (jf a ((dN t).drop k)):=by
    intro f
    induction f with
    |zero=>intro k a h1 h2;omega
    |succ f ih=>
     intro k a h1 h2 h3;rcases cA k (dN t).length with hk'|hk'
     ·rw[M.rZ];have hm:=bG hk';have hz:=hcz _ hm;have hfl:=zP (dN t)[k];rw[wJ hk']at h3;have hj:=aBK a (ft (dN t)[k]) (by omega) (by omega);simp only[aa.ai,getD_lt hk',ajp n rec hr m (dN t)[k] (by omega) (by omega) (by omega) (hcs _ hm),bz,bp,bJ,hk',bg,aA,aZ,aR,bw hk' (by omega:(dN t).length<2^62),aV,aX,hj];rw[ih (k+1) _ (by omega) (by omega) (by rw[K0];omega),ajh a hk']
     ·have:k=(dN t).length:=by omega
      subst this;rw[M.rZ];simp[gP,jf]
   have e:=key af 0 [] (abo _) (by have:=bV;omega) (by simp only[gm,aU];omega);have e':M.rZ (M.sd rec m) (dN t) af 0 []=_:=e;rw[gm]at e';have hjl:=K1 (dN t) [] (fun x _=>zP x);have hd:decide (([(1:Int)]:List Int).length+(jf [] (dN t)).length<=1073741824)=true:=by simp only[bq,aO,aU]at*;omega
   rw[ajm hs hk];have hce:=ajj t hs hk;simp only[aa.ai,hce,aV,e',hd,aX,cK];rcases hk with hk|hk|hk<;>rw[hk]<;>rfl
  ·rintro ⟨q1,q2,q3,q4,q5,q6,q7,q8,q9⟩
   rw[jg,av q1,av q2,av (by omega),av (by omega),av q7,av (by omega)];have b1:(t.Kind==1)=false:=by simpa using q1
   have b2:(t.Kind==9)=false:=by simpa using q2
   have b3:(t.Kind==11)=false:=by simpa using q3
   have b4:(t.Kind==12)=false:=by simpa using q4
   have b5:(t.Kind==15)=false:=by simpa using q5
   have b6:(t.Kind==16)=false:=by simpa using q6
   have b7:(t.Kind==13)=false:=by simpa using q7
   have b8:(t.Kind==14)=false:=by simpa using q8
   have b9:(t.Kind==17)=false:=by simpa using q9
   simp only[b1,b2,b3,b4,b5,b6,b7,b8,b9,bN]
theorem ajq:∀(n:Nat)(ts:List aa),az aa.sz ts<n->ts.length<=1048576->az aa.sz ts<=1048576->(∀x∈ts,dF x=true)->M.qk n ts=some (fb ts)
 |0,ts,h,_,_,_=>absurd h (jQ _)
 |n+1,ts,h,hl,hN,hs=>by
  have hsum:=EK hN;have key:∀f k (a:List Int),k<=ts.length->ts.length-k<f->a.length+2*dm (ts.drop k)<=2097160->M.se (M.qk n) ts f (k:Int) a=some (a++fb (ts.drop k)):=by
   intro f
   induction f with
   |zero=>intro k a h1 h2;omega
   |succ f ih=>
    intro k a h1 h2 h3;rcases cA k ts.length with hk|hk
    ·rw[M.se];have hm:=bG hk;have hz:=wL aa.sz _ _ hm;have hfl:=zP ts[k];rw[wJ hk]at h3;have hf:M.G7 (M.qk n) ts[k]=some (ft ts[k]):=ajp n _ (fun ts h1 h2 h3 h4=>ajq n ts h1 h2 h3 h4) af _ (ahL (by omega)) (by omega) (by omega) (hs _ hm);have hd:decide (a.length+(ft ts[k]).length<=1073741824)=true:=by simp only[bq];omega
     simp only[aa.ai,getD_lt hk,hf,bz,bp,bJ,hk,bg,aA,aZ,aR,bw hk (by omega:ts.length<2^62),aV,aX,hd];rw[ih (k+1) _ (by omega) (by omega) (by rw[bA];omega),ajg hk,iR]
    ·have:k=ts.length:=by omega
     subst this;rw[M.se];simp[gP,fb]
  show M.G9 (M.qk n) ts=_
  unfold M.G9;have e:=key af 0 [] (abo _) (by have:=bV;omega) (by simp only[gm,aU];omega);have e':M.se (M.qk n) ts af 0 []=_:=e;rw[e'];rfl
theorem ajr(n:Nat)(rec:List aa->Option (List Int))(hr:∀ts,az aa.sz ts<n->ts.length<=1048576->az aa.sz ts<=1048576->(∀x∈ts,dF x=true)->rec ts=some (fb ts)):
 ∀(m:Nat)(t:aa),t.sz<m->t.sz<n->t.sz<=1048576->dF t=true->M.sw rec m t=some (ft t)
 |0,t,h,_,_,_=>absurd h (jQ _)
 |m+1,t,h,hn,hN,hs=>by
  have hka:rec t.Kids=some (fb t.Kids):=hr _ (by rw[aa.bQ]at hn;omega) (aa.ki hN) (aa.zn hN) (K2 hs)
  show M.HV rec (M.sw rec m) t=_
  unfold M.HV;refine ajo t.Kind ?_ ?_ ?_ ?_ ?_ ?_ ?_ ?_
  ·intro hk;rw[jg];simp only[hk];rfl
  ·intro hk;rw[jg];simp only[hk];rfl
  ·intro hk;rw[jg];simp only[hk];rfl
  ·intro hk;rw[jg];simp only[hk];rfl
  ·intro hk;rw[jg];simp only[hk,hka];rfl
  ·intro hk;rw[jg];simp only[hk,hka];rfl
  ·intro hk;obtain⟨hsum,hlen⟩:=ajn hs hk hN;have hcs:=ajk hs hk;have hcz:=ajl hs hk;have key:∀f k (a:List Int),k<=(dN t).length->(dN t).length-k<f->a.length+2*dm ((dN t).drop k)<=2097160->ones a->M.su (M.sw rec m) (dN t) ((dN t).length:Int) f (k:Int) a=some (jf a ((dN t).drop k)):=by
    intro f
    induction f with
    |zero=>intro k a h1 h2;omega
    |succ f ih=>
     intro k a h1 h2 h3 h4;rcases cA k (dN t).length with hk'|hk'
     ·rw[M.su];have hm:=bG hk';have hz:=hcz _ hm;have hfl:=zP (dN t)[k];rw[wJ hk']at h3;have hj:=aBL a (ft (dN t)[k]) (by omega) (by omega) h4 (ajd _);simp only[aa.ai,getD_lt hk',ajr n rec hr m (dN t)[k] (by omega) (by omega) (by omega) (hcs _ hm),bz,bp,bJ,hk',bg,aA,aZ,aR,bw hk' (by omega:(dN t).length<2^62),aV,aX,hj];rw[ih (k+1) _ (by omega) (by omega) (by rw[K0];omega) (PQ _ _ h4 (ajd _)),ajh a hk']
     ·have:k=(dN t).length:=by omega
      subst this;rw[M.su];simp[gP,jf]
   have e:=key af 0 [] (abo _) (by have:=bV;omega) (by simp only[gm,aU];omega) (fun x hx=>by simp at hx);have e':M.su (M.sw rec m) (dN t) ((dN t).length:Int) af 0 []=_:=e;rw[gm]at e';have hjl:=K1 (dN t) [] (fun x _=>zP x);have hd:decide (([(1:Int)]:List Int).length+(jf [] (dN t)).length<=1073741824)=true:=by simp only[bq,aO,aU]at*;omega
   rw[ajm hs hk];have hce:=aBM t hs hk;simp only[aa.ai,hce,aV,e',hd,aX,cK];rcases hk with hk|hk|hk<;>rw[hk]<;>rfl
  ·rintro ⟨q1,q2,q3,q4,q5,q6,q7,q8,q9⟩
   rw[jg,av q1,av q2,av (by omega),av (by omega),av q7,av (by omega)];have b1:(t.Kind==1)=false:=by simpa using q1
   have b2:(t.Kind==9)=false:=by simpa using q2
   have b3:(t.Kind==11)=false:=by simpa using q3
   have b4:(t.Kind==12)=false:=by simpa using q4
   have b5:(t.Kind==15)=false:=by simpa using q5
   have b6:(t.Kind==16)=false:=by simpa using q6
   have b7:(t.Kind==13)=false:=by simpa using q7
   have b8:(t.Kind==14)=false:=by simpa using q8
   have b9:(t.Kind==17)=false:=by simpa using q9
   simp only[b1,b2,b3,b4,b5,b6,b7,b8,b9,bN]
theorem ajs:∀(n:Nat)(ts:List aa),az aa.sz ts<n->ts.length<=1048576->az aa.sz ts<=1048576->(∀x∈ts,dF x=true)->M.qn n ts=some (fb ts)
 |0,ts,h,_,_,_=>absurd h (jQ _)
 |n+1,ts,h,hl,hN,hs=>by
  have hsum:=EK hN;have key:∀f k (a:List Int),k<=ts.length->ts.length-k<f->a.length+2*dm (ts.drop k)<=2097160->M.sx (M.qn n) ts (ts.length:Int) f (k:Int) a=some (a++fb (ts.drop k)):=by
   intro f
   induction f with
   |zero=>intro k a h1 h2;omega
   |succ f ih=>
    intro k a h1 h2 h3;rcases cA k ts.length with hk|hk
    ·rw[M.sx];have hm:=bG hk;have hz:=wL aa.sz _ _ hm;have hfl:=zP ts[k];rw[wJ hk]at h3;have hf:M.HY (M.qn n) ts[k]=some (ft ts[k]):=ajr n _ (fun ts h1 h2 h3 h4=>ajs n ts h1 h2 h3 h4) af _ (ahL (by omega)) (by omega) (by omega) (hs _ hm);have hd:decide (a.length+(ft ts[k]).length<=1073741824)=true:=by simp only[bq];omega
     simp only[aa.ai,getD_lt hk,hf,bz,bp,bJ,hk,bg,aA,aZ,aR,bw hk (by omega:ts.length<2^62),aV,aX,hd];rw[ih (k+1) _ (by omega) (by omega) (by rw[bA];omega),ajg hk,iR]
    ·have:k=ts.length:=by omega
     subst this;rw[M.sx];simp[gP,fb]
  show M.H3 (M.qn n) ts=_
  unfold M.H3;have e:=key af 0 [] (abo _) (by have:=bV;omega) (by simp only[gm,aU];omega);have e':M.sx (M.qn n) ts (ts.length:Int) af 0 []=_:=e;rw[e'];rfl
end M
namespace M
open Go.V (inB cF af bV)
theorem aw.tN{a:aw}{N:Nat}(h:a.sz<=N):a.aS.sz<=N:=by rw[aw.bQ]at h;omega
theorem aw.E5{a:aw}{N:Nat}(h:a.sz<=N):a.Name.length<=N:=by rw[aw.bQ]at h;omega
def jv(p:aw):Bool:= !((!cY p.Name|| !eH p.aS)||fa p.aS)
def fJ(f:ay):Bool:=((decide (f.Params.length<=6)&&(f.Params.all jv&&nodupB (f.Params.map aw.Name)))&&eH f.Result)&& !gC (fun k=>k==21) f.Result
theorem aBN(n:Nat):decide ((6:Int)<((n:Nat):Int))= !decide (n<=6):=by
 rw[fW];simp only[eL,bq,dR];omega
theorem ax9(f:ay)(h:f.sz<=1048576):M.Eu f=some (fJ f):=by
 rw[ay.bQ]at h;have hl:f.Params.length<=1048576:=cD (cm aw.sz f.Params) (by omega);have key:∀g k,k<=f.Params.length->f.Params.length-k<g->M.tK f.Params f.Params (f.Params.length:Int) g (k:Int) ((f.Params.take k).map aw.Name)=some (if(f.Params.drop k).all jv then .inr (f.Params,f.Params.map aw.Name)else .inl false):=by
  intro g
  induction g with
  |zero=>intro k h1 h2;omega
  |succ g ih=>
   intro k h1 h2;rcases cA k f.Params.length with hk|hk
   ·rw[M.tK];have hm:=dr aw.sz _ _ (bG hk);have hnm:=rN f.Params[k].Name (aw.E5 (N:=1048576) (by omega));have hty:=ai9 f.Params[k].aS (aw.tN (N:=1048576) (by omega));have hd:decide ((((f.Params.take k).map aw.Name).length+([f.Params[k].Name]:List (List UInt8)).length)<=1073741824)=true:=by
     simp only[bq,cr,ib,aO,aU];omega
    have ht:(f.Params.take k).map aw.Name++[f.Params[k].Name]=(f.Params.take (k+1)).map aw.Name:=by
     rw[ka,wQ,ct hk];rfl
    have hu:(f.Params[k].aS.Kind==1)=fa f.Params[k].aS:=rfl;simp only[aa.ai,getD_lt hk,hnm,hty,bz,bp,bJ,hk,bg,aA,aZ,aR,bw hk (by omega:f.Params.length<2^62),aV,aX,bZ,hd,ht,hu];rw[ih (k+1) (by omega) (by omega),fu hk,kK];rw[show jv f.Params[k]= !((!cY f.Params[k].Name|| !eH f.Params[k].aS)||fa f.Params[k].aS)from rfl];cases (!cY f.Params[k].Name|| !eH f.Params[k].aS)||fa f.Params[k].aS<;>simp
   ·have:k=f.Params.length:=by omega
    subst this;rw[M.tK];simp
 have e:=key af 0 (abo _) (by have:=bV;omega);have e':M.tK f.Params f.Params (f.Params.length:Int) af 0 []=_:=e;have hd:=Gt (f.Params.map aw.Name) (by rw[cr];exact hl);have e6:decide (((f.Params.length:Nat):Int)<=6)=decide (f.Params.length<=6):=by simp only[eZ];omega
 have hp:M.Et f.Params=some (decide (f.Params.length<=6)&&(f.Params.all jv&&nodupB (f.Params.map aw.Name))):=by
  unfold M.Et;rw[e',gm];cases f.Params.all jv
  ·simp
  ·simp only[eY,hd,e6,aX,aV,bZ,aZ,aA]
 have hr:=ai9 f.Result (by omega);have e21:gC (fun k=>[(21:Int)].any fun x=>k==x)=gC (fun k=>k==21):=zq fun k=>by simp
 have hh:M.kf f.Result [21]=some (gC (fun k=>k==21) f.Result):=by
  rw[show M.kf=M.mg af from rfl,Ky [21] (by simp) af _ (ahL (by omega)) (by omega),e21]
 unfold M.Eu;simp only[aa.ai,hp,hr,hh,aX,aV,bZ,aZ,aA];rfl
theorem ax7(f:ay)(h:f.sz<=1048576):M.Ei f=some (fJ f):=by
 rw[ay.bQ]at h;have hl:f.Params.length<=1048576:=cD (cm aw.sz f.Params) (by omega);have hin:∀i (hi:i<f.Params.length),M.pw (i:Int) af 0 f f.Params[i]=some (if(List.range i).all (fun k=> !((f.Params.getD k aw.zero).Name==f.Params[i].Name))then .inr ((i:Int),f)else .inl false):=fun i hi=>
  lJ (p:=fun k=> !((f.Params.getD k aw.zero).Name==f.Params[i].Name)) (F:=fun g k=>M.pw (i:Int) g k f f.Params[i]) (e:=((i:Int),f)) (b:=false) i (by omega) (fun g k hk=>by
   show M.pw (i:Int) (g+1) (k:Int) f f.Params[i]=_
   rw[M.pw];have hk':k<f.Params.length:=by omega
   simp only[ay.ai,aw.ai,getD_lt hk',bz,bp,bJ,hk,hk',bg,aA,aR,bw hk (by omega:i<2^62)];cases (f.Params[k].Name==f.Params[i].Name)<;>rfl) (fun g=>by
   show M.pw (i:Int) (g+1) (i:Int) f f.Params[i]=_
   rw[M.pw];simp[ay.ai])
 have hout:M.px af 0 f=some (if(List.range f.Params.length).all (fun i=>jv (f.Params.getD i aw.zero)&&(List.range i).all (fun k=> !((f.Params.getD k aw.zero).Name==(f.Params.getD i aw.zero).Name)))then .inr ()else .inl false):=
  lJ (p:=fun i=>jv (f.Params.getD i aw.zero)&&(List.range i).all (fun k=> !((f.Params.getD k aw.zero).Name==(f.Params.getD i aw.zero).Name))) (F:=fun g k=>M.px g k f) (e:=()) (b:=false) f.Params.length (by omega) (fun g k hk=>by
   show M.px (g+1) (k:Int) f=_
   rw[M.px];have hm:=dr aw.sz _ _ (bG hk);have hnm:=rM f.Params[k].Name (aw.E5 (N:=1048576) (by omega));have hty:=PO f.Params[k].aS (aw.tN (N:=1048576) (by omega));have hu:(f.Params[k].aS.Kind==1)=fa f.Params[k].aS:=rfl;simp only[aa.ai,ay.ai,aw.ai,getD_lt hk,hnm,hty,hin k hk,bz,bp,bJ,hk,bg,aA,aZ,aR,aV,aX,bZ,hu];rw[show jv f.Params[k]= !((!cY f.Params[k].Name|| !eH f.Params[k].aS)||fa f.Params[k].aS)from rfl];cases (!cY f.Params[k].Name|| !eH f.Params[k].aS)||fa f.Params[k].aS
   ·cases (List.range k).all (fun k_1=> !((f.Params.getD k_1 aw.zero).Name==f.Params[k].Name))
    ·simp
    ·simp[bw hk (by omega:f.Params.length<2^62)]
   ·simp) (fun g=>by
   show M.px (g+1) (f.Params.length:Int) f=_
   rw[M.px];simp)
 have hsp:(List.range f.Params.length).all (fun i=>jv (f.Params.getD i aw.zero)&&(List.range i).all (fun k=> !((f.Params.getD k aw.zero).Name==(f.Params.getD i aw.zero).Name)))=(f.Params.all jv&&nodupB (f.Params.map aw.Name)):=by
  rw[EN,EO,<-nodup_range (f.Params.map aw.Name),cr];have hg:∀k,(f.Params.map aw.Name).getD k []=(f.Params.getD k aw.zero).Name:=fun k=>by
   rw[dG,dG,f5];cases f.Params[k]?<;>rfl
  simp only[hg]
 have hr:=PO f.Result (by omega);have hh:M.jH f.Result 21 21=some (gC (fun k=>k==21) f.Result):=by
  rw[show M.jH=M.lO af from rfl,Kx 21 21 af _ (ahL (by omega)) (by omega)];rw[zq (fun k=>b21 k)]
 unfold M.Ei;rw[hsp]at hout;simp only[aa.ai,ay.ai,hr,hh,hout,aBN,aX,aV,bZ,aZ,aR,aA];unfold fJ;cases decide (f.Params.length<=6)<;>cases eH f.Result<;>cases gC (fun k=>k==21) f.Result<;>cases (f.Params.all jv&&nodupB (f.Params.map aw.Name))<;>simp
end M
namespace M
open Go.V (inB cF af bV)
theorem ajt:∀(m:Nat)(t:aa),t.sz<m->t.sz<=1048576->M.rV m t=some t
 |0,t,h,_=>absurd h (jQ _)
 |m+1,t,h,hN=>by
  have hl:=aa.ki hN;have hlb:=aa.aBA hN;have key:∀f k,k<=t.Kids.length->t.Kids.length-k<f->M.rU (M.rV m) (0:Int) [] t.Kind t.Name [] [] ([]++t.bR) f (k:Int) t (t.Kids.take k)=some ((0:Int),[],t.Kind,t.Name,[],[],t.bR,t.Kids):=by
   intro f
   induction f with
   |zero=>intro k h1 h2;omega
   |succ f ih=>
    intro k h1 h2;rcases cA k t.Kids.length with hk|hk
    ·rw[M.rU];have hx:=aa.fj (bG hk);have hd:decide (((t.Kids.take k).length+([t.Kids[k]]:List aa).length)<=1073741824)=true:=by
      simp only[bq,ib,aO,aU];omega
     have ht:t.Kids.take k++[t.Kids[k]]=t.Kids.take (k+1):=by
      rw[ka,ct hk];rfl
     simp only[aa.ai,getD_lt hk,ajt m t.Kids[k] (by omega) (by omega),bz,bp,bJ,hk,bg,aA,aZ,aR,bw hk (by omega:t.Kids.length<2^62),aV,aX,hd,ht];exact ih (k+1) (by omega) (by omega)
    ·have:k=t.Kids.length:=by omega
     subst this;rw[M.rU];simp
  show M.GN (M.rV m) t=_
  unfold M.GN;have e:=key af 0 (abo _) (by have:=bV;omega);have e':M.rU (M.rV m) (0:Int) [] t.Kind t.Name [] [] ([]++t.bR) af 0 t []=_:=e;have hd:decide (0+t.bR.length<=1073741824)=true:=by simp only[bq];omega
  simp only[aa.ai,e',hd,cK,aA];cases t;rfl
def fV(f:ay):List aa:=f.Params.map aw.aS
theorem aju{f:ay}:az aa.sz (fV f)<=az aw.sz f.Params:=by
 unfold fV
 induction f.Params with
 |nil=>exact bY _
 |cons x r ih=>have:=aw.bQ x;simp only[eu,az];omega
theorem ajv(l:List aw)(k:Nat)(hk:k<l.length):(l.take k).map aw.aS++[l[k].aS]=(l.take (k+1)).map aw.aS:=by
 rw[ka,wQ,ct hk];rfl
theorem aBP(f:ay)(h:f.sz<=1048576):M.BB f=some (fV f):=by
 rw[ay.bQ]at h;have hl:f.Params.length<=1048576:=cD (cm aw.sz f.Params) (by omega);have key:∀g k,k<=f.Params.length->f.Params.length-k<g->M.rW g (k:Int) f ((f.Params.take k).map aw.aS)=some (fV f):=by
  intro g
  induction g with
  |zero=>intro k h1 h2;omega
  |succ g ih=>
   intro k h1 h2;rcases cA k f.Params.length with hk|hk
   ·rw[M.rW];have hm:=dr aw.sz _ _ (bG hk);have ho:M.GO f.Params[k].aS=some f.Params[k].aS:=ajt af _ (ahL (aw.tN (N:=1048576) (by omega))) (aw.tN (N:=1048576) (by omega));have hd:decide ((((f.Params.take k).map aw.aS).length+([f.Params[k].aS]:List aa).length)<=1073741824)=true:=by
     simp only[bq,cr,ib,aO,aU];omega
    simp only[aa.ai,ay.ai,getD_lt hk,ho,bz,bp,bJ,hk,bg,aA,aZ,aR,bw hk (by omega:f.Params.length<2^62),aV,aX,hd,ajv _ k hk];exact ih (k+1) (by omega) (by omega)
   ·have:k=f.Params.length:=by omega
    subst this;rw[M.rW];simp[fV]
 have e:=key af 0 (abo _) (by have:=bV;omega);have e':M.rW af 0 f []=_:=e;unfold M.BB;simp only[ay.ai,e']
theorem aBQ(f:ay)(h:f.sz<=1048576):M.qo f=some (fV f):=by
 rw[ay.bQ]at h;have hl:f.Params.length<=1048576:=cD (cm aw.sz f.Params) (by omega);have key:∀g k,k<=f.Params.length->f.Params.length-k<g->M.mX f.Params (f.Params.length:Int) g (k:Int) ((f.Params.take k).map aw.aS)=some (fV f):=by
  intro g
  induction g with
  |zero=>intro k h1 h2;omega
  |succ g ih=>
   intro k h1 h2;rcases cA k f.Params.length with hk|hk
   ·rw[M.mX];have hd:decide ((((f.Params.take k).map aw.aS).length+([f.Params[k].aS]:List aa).length)<=1073741824)=true:=by
     simp only[bq,cr,ib,aO,aU];omega
    simp only[aa.ai,getD_lt hk,bz,bp,bJ,hk,bg,aA,aZ,aR,bw hk (by omega:f.Params.length<2^62),hd,ajv _ k hk];exact ih (k+1) (by omega) (by omega)
   ·have:k=f.Params.length:=by omega
    subst this;rw[M.mX];simp[fV]
 have e:=key af 0 (abo _) (by have:=bV;omega);have e':M.mX f.Params (f.Params.length:Int) af 0 []=_:=e;unfold M.qo;simp only[e']
theorem aBR(ts:List aa)(h:az aa.sz ts<=1048576)(hl:ts.length<=6)(ho:∀x∈ts,eH x=true):M.yf ts=some true:=by
 have e:=mJ (p:=eH) (F:=M.vk ts) (e:=ts) (b:=false) ts (by omega) (fun f k hk=>by
  rw[M.vk];have hm:=dr aa.sz _ _ (bG hk);have gB:decide ((k:Int)<=24)=true:=by simp only[bq];omega
  simp only[aa.ai,getD_lt hk,aBG ts[k] (by omega),bz,bp,bJ,hk,gB,bg,aA,aZ,aR,cK,bw hk (by omega:ts.length<2^62),aV,aX];cases eH ts[k]<;>rfl) (fun f=>by rw[M.vk];simp)
 have hall:ts.all eH=true:=dz.2 ho;unfold M.yf;rw[e,hall,aE rfl];have:decide (((ts.length:Nat):Int)<=24)=true:=by simp only[bq];omega
 simp only[this]
theorem ajw{f:ay}(h:fJ f=true):(fV f).length<=6/\∀x∈fV f,eH x=true:=by
 unfold fJ at h;simp only[bC,bq]at h;obtain⟨⟨⟨h6,hall,_⟩,_⟩,_⟩:=h;refine⟨by unfold fV;rw[cr];exact h6,?_⟩;intro x hx;obtain⟨p,hp,rfl⟩:=jB.1 hx;have:=dz.1 hall p hp;unfold jv at this;simp only[eL,wO,Bool.not_eq_false']at this;exact this.1.2
theorem ajx{t:aa}(h:eH t=true):dF t=true:=by
 unfold eH at h;rw[bC]at h;exact h.2
def gQ(f:ay):Int×Bool×Bool:=
 if fJ f=true then((if decide ((8:Int)<((fb (fV f)).length:Int))=true then 1 else((fb (fV f)).length:Int)), !(fa f.Result),true)else(0,false,false)
theorem TI{f:ay}(h:f.sz<=1048576)(hok:fJ f=true):M.nZ f=some ((gQ f).1,(gQ f).2.1):=by
 have hsz:az aa.sz (fV f)<=1048576:=by have:=aju (f:=f);rw[ay.bQ]at h;omega
 obtain⟨h6,ho⟩:=ajw hok;have hfl:M.yt (fV f)=some (fb (fV f)):=ajs af _ (ahL hsz) (by omega) hsz fun x hx=>ajx (ho x hx)
 have hc:M.nZ f=some ((if decide ((8:Int)<((fb (fV f)).length:Int))=true then 1 else((fb (fV f)).length:Int)), !(fa f.Result)):=by
  unfold M.nZ M.H5 M.H4;simp only[ay.ai,aBQ f h,aV,hfl,aX,cK,aA];generalize decide ((8:Int)<((fb (fV f)).length:Int))=q;cases q<;>simp[fa]
 rw[hc];unfold gQ;rw[aE hok]
theorem TC{f:ay}(h:f.sz<=1048576)(hok:fJ f=true):M.sf f=some ((gQ f).1,(gQ f).2.1):=by
 have hsz:az aa.sz (fV f)<=1048576:=by have:=aju (f:=f);rw[ay.bQ]at h;omega
 obtain⟨h6,ho⟩:=ajw hok;have hfl:M.BF (fV f)=some (fb (fV f)):=ajq af _ (ahL hsz) (by omega) hsz fun x hx=>ajx (ho x hx)
 have h9:=aBR (fV f) hsz h6 ho;have hc:M.sf f=some ((if decide ((8:Int)<((fb (fV f)).length:Int))=true then 1 else((fb (fV f)).length:Int)), !(fa f.Result)):=by
  unfold M.sf M.He M.Ha;simp only[ay.ai,aBP f h,aV,hfl,h9,aX,cK,aA,bZ,aZ,dE,bN,jD,kN];generalize decide ((8:Int)<((fb (fV f)).length:Int))=q;cases q<;>simp[fa]
 rw[hc];unfold gQ;rw[aE hok]
end M
