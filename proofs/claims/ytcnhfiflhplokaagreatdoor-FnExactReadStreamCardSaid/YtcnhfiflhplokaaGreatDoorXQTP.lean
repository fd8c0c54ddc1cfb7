/-
  NAMES AND TYPES: what is right, in plain Lean.
-/
import Derived.Test.YtcnhfiflhplokaaGreatDoorXQpl4
import Derived.Test.YtcnhfiflhplokaaGreatDoorXLSH
set_option linter.unusedVariables false
namespace M
open Go.V (inB CO aG cZ)
def Zp (c:UInt8):Bool:=decide ((97:Int)<=((c.toNat:Nat):Int))&&decide (((c.toNat:Nat):Int)<=122)
def ahz (c:UInt8):Bool:=decide ((48:Int)<=((c.toNat:Nat):Int))&&decide (((c.toNat:Nat):Int)<=57)
def RN (c:UInt8):Bool:=((c.toNat:Nat):Int)==45
def wQ (s:List UInt8) (k:Nat):Bool:=Zp (s.getD k 0)||(decide (0<k)&&((ahz (s.getD k 0)||RN (s.getD k 0))&& !(RN (s.getD k 0)&&RN (s.getD (k-1) 0))))
def mY (s:List UInt8):Bool:=(List.range s.length).all (wQ s)&&((decide (1<=s.length)&&decide (s.length<=12))&& !RN (s.getD (s.length-1) 0))
def O4 (l:List (List UInt8)):Bool:=(decide (1<=l.length)&&decide (l.length<=16))&&(nodupB l&&l.all mY)
mutual
def iH : ae->Nat
 | .mk _ _ _ kids=>1+qi kids
def qi : List ae->Nat
 | []=>0
 |x::r=>iH x+qi r
end
mutual
def mf : ae->Nat
 | .mk _ _ _ kids=>1+Iz kids
def Iz : List ae->Nat
 | []=>0
 |x::r=>max (mf x) (Iz r)
end
mutual
def Gn (p:Int->Bool):ae->Bool
 | .mk k _ _ kids=>p k||O5 p kids
def O5 (p:Int->Bool):List ae->Bool
 | []=>false
 |x::r=>Gn p x||O5 p r
end
theorem Au (t:ae):iH t=1+qi t.Kids:=by cases t;rfl
theorem Qw (t:ae):mf t=1+Iz t.Kids:=by cases t;rfl
theorem ada (p:Int->Bool) (t:ae):Gn p t=(p t.Kind||O5 p t.Kids):=by cases t;rfl
theorem Vx (p:Int->Bool):∀l,O5 p l=l.any (Gn p)
 | []=>rfl
 |x::r=>by rw[O5,List.any_cons,Vx p r]
def tJ (t:ae):Bool:=t.Kind==1
def ace (t:ae):Bool:=(t.Kind==20)||(t.Kind==21)
def ahA (t:ae):Bool:=decide ((16:Int)<=t.Kind)&&decide (t.Kind<=19)
def adb (t:ae):Bool:=
 if t.Kind=12 \/ t.Kind=13 then (t.Kids.length==1)&& !t.Kids.any tJ
 else if t.Kind=14 then t.Kids.length==2
 else if t.Kind=15 then (decide (1<=t.Kids.length)&&decide (t.Kids.length<=6))&& !t.Kids.any tJ
 else if t.Kind=16 then (t.Kids.length==t.aQ.length)&& !t.Kids.any tJ
 else if t.Kind=17 then t.Kids.length==t.aQ.length
 else if t.Kind=22 \/ t.Kind=23 then (t.Kids.length==1)&& !O5 (fun k=>k==21) t.Kids
 else (decide ((1:Int)<=t.Kind)&&decide (t.Kind<=23))&&(t.Kids.length==0)
def Jw (t:ae):Bool:=
 ((if ahA t then O4 t.aQ else t.aQ.length==0)&&(if ace t then mY t.Name else t.Name==[]))&&adb t
mutual
def jD : ae->Bool
 | .mk k n l kids=>Jw (.mk k n l kids)&&Ns kids
def Ns : List ae->Bool
 | []=>true
 |x::r=>jD x&&Ns r
end
theorem Fp (t:ae):jD t=(Jw t&&Ns t.Kids):=by cases t;rfl
theorem BZ : ∀l,Ns l=l.all jD
 | []=>rfl
 |x::r=>by rw[Ns,List.all_cons,BZ r]
def tOk (t:ae):Bool:=(decide (mf t<=4)&&decide (iH t<=24))&&jD t
theorem afb : ∀(l:List ae) (x:ae),x∈l->iH x<=qi l
 |y::r,x,h=>by
  rcases List.mem_cons.1 h with rfl |h
  ·simp only[qi];omega
  ·have:=afb r x h;simp only[qi];omega
theorem afc : ∀(l:List ae) (x:ae),x∈l->mf x<=Iz l
 |y::r,x,h=>by
  rcases List.mem_cons.1 h with rfl |h
  ·simp only[Iz];omega
  ·have:=afc r x h;simp only[Iz];omega
theorem aaM : ∀l:List ae,l.length<=qi l
 | []=>Nat.le_refl _
 |x::r=>by have:=aaM r;simp only[qi,List.length_cons,Au x];omega
theorem Ym {l:List ae} {k:Nat} (h:k<l.length):qi (l.drop k)=iH l[k]+qi (l.drop (k+1)):=by rw[iy h];rfl
theorem Yn {l:List ae} {k:Nat} (h:k<l.length):Iz (l.drop k)=max (mf l[k]) (Iz (l.drop (k+1))):=by rw[iy h];rfl
theorem Vy (t:ae):1<=mf t:=by rw[Qw];omega
theorem ahB (t:ae):1<=iH t:=by rw[Au];omega
end M
set_option linter.unusedSimpArgs false
namespace M
open Go.V (inB CO aG cZ)
theorem wR {n:Nat} (h:n<=1048576):n<aG:=by have:=cZ;omega
theorem ade {k n:Nat} (h0:0<k) (h:k<=n) (hn:n<2^62):Go.IntKind.wrap .i64 ((k:Int)-1)=((k-1:Nat):Int):=by
 rw[wrap_i64 (by omega) (by omega)];omega
theorem aaN (s:List UInt8) (hs:s.length<=1048576):M.yX s=some (mY s):=by
 unfold M.yX;rw[Fq (p:=wQ s) (F:=M.pF s (s.length:Int)) (e:=s) (b:=false) s.length (by omega) (fun f k hk=>by
  rw[M.pF];simp only[Int.toNat_natCast,dS,Int.ofNat_lt,hk,decide_true,cond_true,Bool.true_or,Bool.true_and,Bool.and_true,gW hk (kQ hs),wQ,Zp,ahz,RN,nR]
  generalize decide ((97:Int)<=(((s.getD k 0).toNat:Nat):Int))=a1
  generalize decide ((((s.getD k 0).toNat:Nat):Int)<=122)=a2
  generalize decide ((48:Int)<=(((s.getD k 0).toNat:Nat):Int))=a3
  generalize decide ((((s.getD k 0).toNat:Nat):Int)<=57)=a4
  generalize ((((s.getD k 0).toNat:Nat):Int)==45)=a5
  rcases Nat.eq_zero_or_pos k with h0 |h0
  ·subst h0
   cases a1<;>cases a2<;>cases a3<;>cases a4<;>cases a5<;>simp
  ·have e0:((k:Int)==0)=false:=by rw[beq_eq_false_iff_ne];omega
   have hk1:k-1<s.length:=by omega
   simp only[e0,ade h0 (Nat.le_of_lt hk) (kQ hs),Int.toNat_natCast,dS,hk1,h0,decide_true]
   generalize ((((s.getD (k-1) 0).toNat:Nat):Int)==45)=a6
   cases a1<;>cases a2<;>cases a3<;>cases a4<;>cases a5<;>cases a6<;>simp) (fun f=>by rw[M.pF];simp)]
 unfold mY
 cases hall:(List.range s.length).all (wQ s)
 ·simp
 ·simp only[if_true,nR,Bool.true_and]
  rcases Nat.eq_zero_or_pos s.length with h0 |h0
  ·simp[h0]
  ·have h1:s.length-1<s.length:=by omega
   have e1:decide ((1:Int)<=((s.length:Nat):Int))=decide (1<=s.length):=by simp only[decide_eq_decide];omega
   have e2:decide (((s.length:Nat):Int)<=12)=decide (s.length<=12):=by simp only[decide_eq_decide];omega
   simp only[ade h0 (Nat.le_refl _) (kQ hs),Int.toNat_natCast,dS,h1,decide_true,Bool.true_or,Bool.and_true,cond_true,e1,e2,RN]
theorem aaO (s:List UInt8) (hs:s.length<=1048576):M.uO s=some (mY s):=by
 unfold M.uO
 rcases Nat.eq_zero_or_pos s.length with h0 |h0
 ·have:s=[]:=List.eq_nil_of_length_eq_zero h0
  subst this;rfl
 have h1:s.length-1<s.length:=by omega
 simp only[ade h0 (Nat.le_refl _) (kQ hs),Int.toNat_natCast,dS,h1,Int.toNat_zero,decide_true,Bool.true_or,Bool.and_true,cond_true];have hz:inB (0:Int) s.length=true:=by
  show inB ((0:Nat):Int) s.length=true
  rw[dS];simpa using h0
 simp only[hz,Bool.true_or,Bool.and_true,cond_true];have e1:decide (((s.length:Nat):Int)<1)= !decide (1<=s.length):=by rw[<-decide_not];simp only[decide_eq_decide];omega
 have e2:decide ((12:Int)<((s.length:Nat):Int))= !decide (s.length<=12):=by rw[<-decide_not];simp only[decide_eq_decide];omega
 have e3:decide ((((s.getD 0 0).toNat:Nat):Int)<97)= !decide ((97:Int)<=(((s.getD 0 0).toNat:Nat):Int)):=by rw[<-decide_not];simp only[decide_eq_decide];omega
 have e4:decide ((122:Int)<(((s.getD 0 0).toNat:Nat):Int))= !decide ((((s.getD 0 0).toNat:Nat):Int)<=122):=by rw[<-decide_not];simp only[decide_eq_decide];omega
 rw[e1,e2,e3,e4]
 by_cases hlow:Zp (s.getD 0 0)=true
 ·have hl:=hlow
  simp only[Zp,Bool.and_eq_true] at hl;rw[Fq (p:=wQ s) (F:=M.pW s) (e:=()) (b:=false) s.length (by omega) (fun f k hk=>by
   rw[M.pW];have f1:decide ((((s.getD k 0).toNat:Nat):Int)<97)= !decide ((97:Int)<=(((s.getD k 0).toNat:Nat):Int)):=by rw[<-decide_not];simp only[decide_eq_decide];omega
   have f2:decide ((122:Int)<(((s.getD k 0).toNat:Nat):Int))= !decide ((((s.getD k 0).toNat:Nat):Int)<=122):=by rw[<-decide_not];simp only[decide_eq_decide];omega
   have f3:decide ((((s.getD k 0).toNat:Nat):Int)<48)= !decide ((48:Int)<=(((s.getD k 0).toNat:Nat):Int)):=by rw[<-decide_not];simp only[decide_eq_decide];omega
   have f4:decide ((57:Int)<(((s.getD k 0).toNat:Nat):Int))= !decide ((((s.getD k 0).toNat:Nat):Int)<=57):=by rw[<-decide_not];simp only[decide_eq_decide];omega
   simp only[Int.toNat_natCast,dS,Int.ofNat_lt,hk,decide_true,cond_true,Bool.true_or,Bool.true_and,Bool.and_true,gW hk (kQ hs),wQ,Zp,ahz,RN,nR,f1,f2,f3,f4];have dash:Zp (s.getD k 0)=true->((((s.getD k 0).toNat:Nat):Int)==45)=false:=fun h=>by
    simp only[Zp,Bool.and_eq_true,decide_eq_true_eq] at h;rw[beq_eq_false_iff_ne];omega
   simp only[Zp] at dash
   rcases Nat.eq_zero_or_pos k with k0 |k0
   ·subst k0
    rw[hl.1,hl.2] at*;simp only[Bool.and_self] at dash;rw[dash trivial];simp
   ·have hk1:k-1<s.length:=by omega
    simp only[ade k0 (Nat.le_of_lt hk) (kQ hs),Int.toNat_natCast,dS,hk1,k0,decide_true]
    generalize ((((s.getD (k-1) 0).toNat:Nat):Int)==45)=a6
    revert dash
    generalize decide ((97:Int)<=(((s.getD k 0).toNat:Nat):Int))=a1
    generalize decide ((((s.getD k 0).toNat:Nat):Int)<=122)=a2
    generalize decide ((48:Int)<=(((s.getD k 0).toNat:Nat):Int))=a3
    generalize decide ((((s.getD k 0).toNat:Nat):Int)<=57)=a4
    generalize ((((s.getD k 0).toNat:Nat):Int)==45)=a5
    intro dash
    cases a1<;>cases a2<;>cases a3<;>cases a4<;>cases a5<;>cases a6<;>simp at dash ⊢) (fun f=>by rw[M.pW];simp)]
  rw[hl.1,hl.2];unfold mY RN
  cases (List.range s.length).all (wQ s)<;>cases decide (1<=s.length)<;>cases decide (s.length<=12)<;>cases ((((s.getD (s.length-1) 0).toNat:Nat):Int)==45)<;>rfl
 ·have hno:mY s=false:=by
   unfold mY;have:(List.range s.length).all (wQ s)=false:=by
    rw[List.all_eq_false];refine ⟨0,by simpa using h0, ?_⟩
    simp only[Bool.not_eq_true] at hlow;simp only[wQ,hlow];intro h;cases h
   rw[this];rfl
  rw[hno];simp only[Bool.not_eq_true] at hlow;simp only[Zp] at hlow
  cases h3:decide ((97:Int)<=(((s.getD 0 0).toNat:Nat):Int))<;>cases h4:decide ((((s.getD 0 0).toNat:Nat):Int)<=122)<;>rw[h3,h4] at hlow<;>simp at hlow ⊢
end M
namespace M
open Go.V (inB CO aG cZ)
theorem nodup_range (l:List (List UInt8)):(List.range l.length).all (fun i=>(List.range i).all fun k=> !(l.getD k []==l.getD i []))=nodupB l:=by
 rw[Bool.eq_iff_iff,Nu,List.Nodup,List.pairwise_iff_getElem];simp only[List.all_eq_true,List.mem_range,Bool.not_eq_true',beq_eq_false_iff_ne];constructor
 ·intro h i j hi hj hij e
  have:=h j hj i hij;rw[getD_lt hi,getD_lt hj] at this;exact this e
 ·intro h i hi k hk e
  rw[getD_lt hi,getD_lt (by omega)] at e
  exact h k i (by omega) hi hk e
theorem ad9 {α:Type} (p:α->Bool) (l:List α) (d:α):(List.range l.length).all (fun i=>p (l.getD i d))=l.all p:=by
 rw[Bool.eq_iff_iff];simp only[List.all_eq_true,List.mem_range];constructor
 ·intro h x hx
  obtain ⟨i,hi,rfl⟩:=List.getElem_of_mem hx;have:=h i hi
  rwa [getD_lt hi] at this
 ·intro h i hi
  rw[getD_lt hi];exact h _ (List.getElem_mem hi)
theorem agC {α:Type} (p q:α->Bool) (l:List α):l.all (fun x=>p x&&q x)=(l.all p&&l.all q):=by
 induction l with
 |nil=>rfl
 |cons x r ih=>simp only[List.all_cons,ih];cases p x<;>cases q x<;>cases r.all p<;>cases r.all q<;>rfl
theorem afd (l:List (List UInt8)) (h:jv List.length l<=1048576):M.uP l=some (O4 l):=by
 have hl:=Nat.le_trans (dV List.length l) h;unfold M.uP;have e1:decide (((l.length:Nat):Int)<1)= !decide (1<=l.length):=by rw[<-decide_not];simp only[decide_eq_decide];omega
 have e2:decide ((16:Int)<((l.length:Nat):Int))= !decide (l.length<=16):=by rw[<-decide_not];simp only[decide_eq_decide];omega
 rw[e1,e2,Fq (p:=fun i=>mY (l.getD i [])&&(List.range i).all fun k=> !(l.getD k []==l.getD i [])) (F:=fun f i=>M.jd f l i) (e:=()) (b:=false) l.length (by omega) (fun f k hk=>by
  show M.jd (f+1) l (k:Int)=_
  rw[M.jd];have hn:(l.getD k []).length<=1048576:=by rw[getD_lt hk];exact Nat.le_trans (gK List.length _ _ (List.getElem_mem hk)) h
  have inner:M.iI l (k:Int) aG 0=some (if (List.range k).all (fun j=> !(l.getD j []==l.getD k [])) then .inr (l,(k:Int)) else .inl false):=
   Fq (p:=fun j=> !(l.getD j []==l.getD k [])) (F:=M.iI l (k:Int)) (e:=(l,(k:Int))) (b:=false) k (by omega) (fun f j hj=>by
    rw[M.iI];have hj':j<l.length:=by omega
    simp only[Int.toNat_natCast,dS,Int.ofNat_lt,hj,hk,hj',decide_true,cond_true,Bool.true_or,Bool.true_and,Bool.and_true,gW hj (by omega:k<2^62)]
    cases l.getD j []==l.getD k []<;>rfl) (fun f=>by rw[M.iI];simp)
  simp only[Int.toNat_natCast,dS,Int.ofNat_lt,hk,decide_true,cond_true,Bool.true_or,Bool.true_and,Bool.and_true,gW hk (by omega:l.length<2^62),aaO _ hn,inner,Option.getD_some,Option.isSome_some]
  cases mY (l.getD k [])<;>cases (List.range k).all (fun j=> !(l.getD j []==l.getD k []))<;>simp[gW hk (by omega:l.length<2^62)]) (fun f=>by
  show M.jd (f+1) l (l.length:Int)=_
  rw[M.jd];simp)]
 unfold O4;rw[agC,ad9,nodup_range]
 cases decide (1<=l.length)<;>cases decide (l.length<=16)<;>cases l.all mY<;>cases nodupB l<;>rfl
theorem afe (l:List (List UInt8)) (h:jv List.length l<=1048576):M.xJ l=some (O4 l):=by
 have hl:=Nat.le_trans (dV List.length l) h;have c1:∀s:List UInt8,s.length<=1048576->M.qy s=some (!mY s):=fun s hs=>by
  unfold M.qy;rw[aaN s hs];rfl
 have cf:M.dI l=some (l.any fun s=> !mY s):=by
  have e:=vC (p:=fun s=> !mY s) (F:=M.di l (l.length:Int)) (e:=()) (fun k=>k) l (by omega) (fun f k hk=>by
   rw[M.di];have hn:l[k].length<=1048576:=Nat.le_trans (gK List.length _ _ (List.getElem_mem hk)) h;simp only[getD_lt hk,Int.toNat_natCast,dS,Int.ofNat_lt,hk,decide_true,cond_true,Bool.true_or,Bool.true_and,Bool.and_true,gW hk (by omega:l.length<2^62),c1 _ hn,Option.getD_some,Option.isSome_some]) (fun f=>by rw[M.di];simp)
  unfold M.dI M.eX;rw[e,nS]
  cases l.findIdx? (fun s=> !mY s)<;>simp
 unfold M.xJ;rw[cf,XW l hl];have e1:decide ((1:Int)<=((l.length:Nat):Int))=decide (1<=l.length):=by simp only[decide_eq_decide];omega
 have e2:decide (((l.length:Nat):Int)<=16)=decide (l.length<=16):=by simp only[decide_eq_decide];omega
 have e3:(l.any fun s=> !mY s)= !l.all mY:=by rw[List.not_all_eq_any_not]
 unfold O4;simp only[Option.isSome_some,Bool.true_or,Bool.and_true,cond_true,Option.getD_some,e1,e2,e3,Bool.not_not]
 cases decide (1<=l.length)<;>cases decide (l.length<=16)<;>cases l.all mY<;>cases nodupB l<;>rfl
end M
namespace M
open Go.V (inB CO aG cZ)
theorem aaP {α:Type} {f:α->Nat} {l:List α} {N:Nat} (h:jv f l<=N) {x:α} (hx:x∈l):f x<=N:=Nat.le_trans (gK f l x hx) h
theorem ae.Qx {a:ae} {N:Nat} (h:a.sz<=N):jv List.length a.aQ<=N:=by rw[ae.jP] at h;omega
theorem ae.adf {a:ae} {N:Nat} (h:a.sz<=N):a.Name.length<=N:=by rw[ae.jP] at h;omega
theorem ae.Ul {a:ae} {N:Nat} (h:a.sz<=N):jv ae.sz a.Kids<=N:=by rw[ae.jP] at h;omega
theorem ae.kJ {a:ae} {N:Nat} (h:a.sz<=N):a.Kids.length<=N:=Nat.le_trans (dV _ _) (ae.Ul h)
theorem ae.Vr {a:ae} {N:Nat} (h:a.sz<=N):a.aQ.length<=N:=Nat.le_trans (dV _ _) (ae.Qx h)
theorem ae.sQ {a x:ae} (h:x∈a.Kids):x.sz<a.sz:=by
 rw[ae.jP a];have:=qL ae.sz _ _ h;omega
theorem agD (t:ae) (h:t.sz<=1048576):M.qU t=some (t.Kids.any tJ):=by
 have hl:=ae.kJ h;have e:=vC (p:=tJ) (F:=fun f i=>M.iV f i t) (e:=()) (fun _=>true) t.Kids (by omega) (fun f k hk=>by
  show M.iV (f+1) (k:Int) t=_
  rw[M.iV];simp only[ae.aU,getD_lt hk,Int.toNat_natCast,dS,Int.ofNat_lt,hk,decide_true,cond_true,Bool.true_or,Bool.true_and,Bool.and_true,gW hk (by omega:t.Kids.length<2^62),tJ]) (fun f=>by
  show M.iV (f+1) _ t=_
  rw[M.iV];simp)
 unfold M.qU;rw[ae.aU,nS];have e':M.iV aG 0 t=_:=e;rw[e']
 cases t.Kids.findIdx? tJ<;>simp
theorem aff (lo hi:Int):∀(m:Nat) (t:ae),t.sz<m->t.sz<=1048576->M.lQ m t lo hi=some (Gn (fun k=>decide (lo<=k)&&decide (k<=hi)) t)
 |0,t,h,_=>absurd h (Nat.not_lt_zero _)
 |m+1,t,h,hN=>by
  have hl:=ae.kJ hN;have e:=vC (p:=Gn (fun k=>decide (lo<=k)&&decide (k<=hi))) (F:=fun f i=>M.kU (M.lQ m) lo hi f i t) (e:=()) (fun _=>true) t.Kids (by omega) (fun f k hk=>by
   show M.kU (M.lQ m) lo hi (f+1) (k:Int) t=_
   rw[M.kU];have hx:=ae.sQ (List.getElem_mem hk);simp only[ae.aU,getD_lt hk,aff lo hi m t.Kids[k] (by omega) (by omega),Int.toNat_natCast,dS,Int.ofNat_lt,hk,decide_true,cond_true,Bool.true_or,Bool.true_and,Bool.and_true,gW hk (by omega:t.Kids.length<2^62),Option.getD_some,Option.isSome_some]) (fun f=>by
   show M.kU (M.lQ m) lo hi (f+1) _ t=_
   rw[M.kU];simp)
  show M.A7 (M.lQ m) t lo hi=_
  unfold M.A7;have e':M.kU (M.lQ m) lo hi aG 0 t=_:=e;rw[ae.aU,e',ada,Vx,nS]
  cases (decide (lo<=t.Kind)&&decide (t.Kind<=hi))<;>cases t.Kids.findIdx? (Gn fun k=>decide (lo<=k)&&decide (k<=hi))<;>simp
theorem acf (l:List Int) (v:Int) (hl:l.length<2^62):M.eH l v=some (l.any fun x=>v==x):=by
 have e:=vC (p:=fun x=>v==x) (F:=M.dR l v (l.length:Int)) (e:=()) (fun k=>k) l hl (fun f k hk=>by
  rw[M.dR];simp only[getD_lt hk,Int.toNat_natCast,dS,Int.ofNat_lt,hk,decide_true,cond_true,Bool.true_or,Bool.true_and,Bool.and_true,gW hk hl]) (fun f=>by rw[M.dR];simp)
 unfold M.eH M.ik;rw[e,nS]
 cases l.findIdx? (fun x=>v==x)<;>simp
theorem afg (ks:List Int) (hk:ks.length<2^62):∀(m:Nat) (t:ae),t.sz<m->t.sz<=1048576->M.kZ m t ks=some (Gn (fun k=>ks.any fun x=>k==x) t)
 |0,t,h,_=>absurd h (Nat.not_lt_zero _)
 |m+1,t,h,hN=>by
  have hl:=ae.kJ hN;have e:=vC (p:=Gn (fun k=>ks.any fun x=>k==x)) (F:=M.dn (M.kZ m) t.Kids ks (t.Kids.length:Int)) (e:=()) (fun k=>k) t.Kids (by omega) (fun f k hk'=>by
   rw[M.dn];have hx:=ae.sQ (List.getElem_mem hk');have c:M.rV (M.kZ m) t.Kids[k] ks=some (Gn (fun k=>ks.any fun x=>k==x) t.Kids[k]):=by
    unfold M.rV;simp only[ae.aU,afg ks hk m t.Kids[k] (by omega) (by omega)];rfl
   simp only[ae.aU,getD_lt hk',c,Int.toNat_natCast,dS,Int.ofNat_lt,hk',decide_true,cond_true,Bool.true_or,Bool.true_and,Bool.and_true,gW hk' (by omega:t.Kids.length<2^62),Option.getD_some,Option.isSome_some]) (fun f=>by
   rw[M.dn];simp)
  have e2:M.dO (M.kZ m) t.Kids ks=some (t.Kids.any (Gn (fun k=>ks.any fun x=>k==x))):=by
   unfold M.dO M.fE;rw[e,nS]
   cases t.Kids.findIdx? (Gn (fun k=>ks.any fun x=>k==x))<;>simp
  show M.yZ (M.kZ m) t ks=_
  unfold M.yZ;rw[e2,acf ks _ hk,ada,Vx];simp
theorem Zq : ∀(l:List ae),(∀x∈l,iH x<=x.sz+1)->qi l<=jv ae.sz l
 | [],_=>Nat.le_refl _
 |x::r,h=>by
  have:=Zq r fun y hy=>h y (List.mem_cons_of_mem _ hy)
  have:=h x (List.mem_cons_self ..);simp only[qi,jv];omega
theorem Vz : ∀(n:Nat) (t:ae),t.sz<n->iH t<=t.sz+1
 |0,t,h=>absurd h (Nat.not_lt_zero _)
 |n+1,t,h=>by
  have:=Zq t.Kids fun x hx=>Vz n x (by have:=ae.sQ hx;omega)
  rw[Au,ae.jP];omega
theorem aea (t:ae):iH t<=t.sz+1:=Vz _ t (Nat.lt_succ_self _)
theorem agE {l:List ae} {N:Nat} (h:jv ae.sz l<=N):qi l<=N:=Nat.le_trans (Zq l fun x _=>aea x) h
theorem ail (l:List ae) (k:Nat) (h:k<l.length):qi (l.take (k+1))=qi (l.take k)+iH l[k]:=by
 have:∀(a b:List ae),qi (a++b)=qi a+qi b:=fun a b=>by
  induction a with
  |nil=>simp[qi]
  |cons x r ih=>simp only[List.cons_append,qi,ih];omega
 rw[List.take_add_one,List.getElem?_eq_getElem h,this];simp[qi]
theorem agF (l:List ae) (k:Nat):qi (l.take k)<=qi l:=by
 have:∀(a b:List ae),qi (a++b)=qi a+qi b:=fun a b=>by
  induction a with
  |nil=>simp[qi]
  |cons x r ih=>simp only[List.cons_append,qi,ih];omega
 have h:=this (l.take k) (l.drop k);rw[List.take_append_drop] at h;omega
theorem adg : ∀(m:Nat) (t:ae),t.sz<m->t.sz<=1048576->M.uT m t=some ((iH t:Nat):Int)
 |0,t,h,_=>absurd h (Nat.not_lt_zero _)
 |m+1,t,h,hN=>by
  have hl:=ae.kJ hN;have hs:=agE (ae.Ul hN);have key:∀f k (a:Nat),k<=t.Kids.length->t.Kids.length-k<f->a+qi (t.Kids.drop k)<=1048577->M.qV (M.uT m) t.Kids (t.Kids.length:Int) f (a:Int) (k:Int)=some (((a+qi (t.Kids.drop k):Nat)):Int):=by
   intro f
   induction f with
   |zero=>intro k a h1 h2;omega
   |succ f ih=>
    intro k a h1 h2 h3
    rcases Nat.lt_or_ge k t.Kids.length with hk |hk
    ·rw[M.qV]
     have hx:=ae.sQ (List.getElem_mem hk);rw[Ym hk] at h3 ⊢;have hw:Go.IntKind.wrap .i64 ((a:Int)+((iH t.Kids[k]:Nat):Int))=((a+iH t.Kids[k]:Nat):Int):=by rw[wrap_i64 (by omega) (by omega)];omega
     simp only[ae.aU,getD_lt hk,adg m t.Kids[k] (by omega) (by omega),Int.toNat_natCast,dS,Int.ofNat_lt,hk,decide_true,cond_true,Bool.true_and,Bool.and_true,gW hk (by omega:t.Kids.length<2^62),Option.getD_some,Option.isSome_some,hw]
     rw[ih (k+1) _ (by omega) (by omega) (by omega)]
     congr 1;omega
    ·have:k=t.Kids.length:=by omega
     subst this;rw[M.qV];simp[List.drop_length,qi]
  show M.Ez (M.uT m) t=_
  unfold M.Ez;have e:=key aG 0 1 (Nat.zero_le _) (by have:=cZ;omega) (by simp only[List.drop_zero];omega)
  have e':M.qV (M.uT m) t.Kids (t.Kids.length:Int) aG 1 0=_:=e;rw[e',Au];rfl
theorem afh : ∀(m:Nat) (t:ae) (L:Nat),L<m->L<=100->t.sz<=1048576->M.yT m t (L:Int)=some ((min (mf t) (L+1):Nat):Int)
 |0,t,L,h,_,_=>absurd h (Nat.not_lt_zero _)
 |m+1,t,L,h,hL,hN=>by
  have hl:=ae.kJ hN
  show M.I9 (M.yT m) t (L:Int)=_
  unfold M.I9
  cases L with
  |zero=>
   have:=Vy t;rw[show min (mf t) (0+1)=1 by omega];rfl
  |succ L=>
   have hw0:Go.IntKind.wrap .i64 (((L+1:Nat):Int)-1)=(L:Int):=by rw[wrap_i64 (by omega) (by omega)];omega
   have key:∀f k (a:Nat),k<=t.Kids.length->t.Kids.length-k<f->M.uQ (M.yT m) ((L+1:Nat):Int) t.Kids (t.Kids.length:Int) f (a:Int) (k:Int)=some ((max a (min (Iz (t.Kids.drop k)) (L+1)):Nat):Int):=by
    intro f
    induction f with
    |zero=>intro k a h1 h2;omega
    |succ f ih=>
     intro k a h1 h2
     rcases Nat.lt_or_ge k t.Kids.length with hk |hk
     ·rw[M.uQ]
      have hx:=ae.sQ (List.getElem_mem hk);simp only[ae.aU,getD_lt hk,hw0,afh m t.Kids[k] L (by omega) (by omega) (by omega),Int.toNat_natCast,dS,Int.ofNat_lt,hk,decide_true,cond_true,Bool.true_and,Bool.and_true,gW hk (by omega:t.Kids.length<2^62),Option.getD_some,Option.isSome_some]
      have hm:(bif decide (a<min (mf t.Kids[k]) (L+1)) then ((min (mf t.Kids[k]) (L+1):Nat):Int) else (a:Int))=((max a (min (mf t.Kids[k]) (L+1)):Nat):Int):=by
       by_cases hc:a<min (mf t.Kids[k]) (L+1)
       ·simp only[hc,decide_true,cond_true];omega
       ·simp only[hc,decide_false,cond_false];omega
      rw[hm,ih (k+1) _ (by omega) (by omega),Yn hk]
      congr 1;omega
     ·have:k=t.Kids.length:=by omega
      subst this;rw[M.uQ];simp[List.drop_length,Iz]
   have e:=key aG 0 0 (Nat.zero_le _) (by have:=cZ;omega)
   have e':M.uQ (M.yT m) ((L+1:Nat):Int) t.Kids (t.Kids.length:Int) aG 0 0=_:=e;have d:(((L+1:Nat):Int)==0)=false:=by rw[beq_eq_false_iff_ne];omega
   rw[d,e',Qw];simp only[cond_false,List.drop_zero];rw[wrap_i64 (by omega) (by omega)]
   congr 1;omega
end M
namespace M
open Go.V (inB CO aG cZ)
def O6 (d:Nat) (t:ae):Int×Int:=if d+mf t<=5 /\ iH t<=24 then (((mf t:Nat):Int),((iH t:Nat):Int)) else (5,25)
theorem afi : ∀(m d:Nat) (t:ae),d<=5->6<=m+d->t.sz<=1048576->M.pz m t (d:Int)=some (O6 d t)
 |0,d,t,h1,h2,_=>by omega
 |m+1,d,t,h1,h2,hN=>by
  have hl:=ae.kJ hN;have hdp:=Vy t
  show M.yR (M.pz m) t (d:Int)=_
  unfold M.yR
  by_cases h5:d=5
  ·subst h5
   have:O6 5 t=(5,25):=by unfold O6;rw[if_neg (by omega)]
   rw[this];rfl
  have d4:decide ((4:Int)<(d:Int))=false:=by rw[decide_eq_false_iff_not];omega
  by_cases h24:24<t.Kids.length
  ·have:O6 d t=(5,25):=by
    unfold O6;have:=aaM t.Kids;rw[if_neg (by rw[Au];omega)]
   rw[this,d4];have:decide ((24:Int)<((t.Kids.length:Nat):Int))=true:=by rw[decide_eq_true_eq];omega
   rw[this];rfl
  have d24:decide ((24:Int)<((t.Kids.length:Nat):Int))=false:=by rw[decide_eq_false_iff_not];omega
  have hw:Go.IntKind.wrap .i64 ((d:Int)+1)=((d+1:Nat):Int):=by rw[wrap_i64 (by omega) (by omega)];omega
  have mx:∀a b:Nat,M.yQ (a:Int) (b:Int)=some ((max a b:Nat):Int):=fun a b=>by
   unfold M.yQ
   by_cases hc:b<a
   ·have:decide ((b:Int)<(a:Int))=true:=by rw[decide_eq_true_eq];omega
    rw[this];simp only[cond_true];congr 1;omega
   ·have:decide ((b:Int)<(a:Int))=false:=by rw[decide_eq_false_iff_not];omega
    rw[this];simp only[cond_false];congr 1;omega
  have key:∀f k (a p:Nat),k<=t.Kids.length->t.Kids.length-k<f->p<=24->M.nC (M.pz m) (d:Int) f (a:Int) (p:Int) (k:Int) t=
   some (if d+1+Iz (t.Kids.drop k)<=5 /\ p+qi (t.Kids.drop k)<=24 then .inr (((max a (Iz (t.Kids.drop k)):Nat):Int),((p+qi (t.Kids.drop k):Nat):Int)) else .inl (5,25)):=by
   intro f
   induction f with
   |zero=>intro k a p h1 h2;omega
   |succ f ih=>
    intro k a p h1 h2 h3
    rcases Nat.lt_or_ge k t.Kids.length with hk |hk
    ·rw[M.nC]
     have hx:=ae.sQ (List.getElem_mem hk);have hc:=afi m (d+1) t.Kids[k] (by omega) (by omega) (by omega)
     rw[Yn hk,Ym hk];simp only[ae.aU,getD_lt hk,hw,hc,Int.toNat_natCast,dS,Int.ofNat_lt,hk,decide_true,cond_true,Bool.true_and,Bool.and_true,gW hk (by omega:t.Kids.length<2^62),Option.getD_some,Option.isSome_some]
     unfold O6
     by_cases hv:d+1+mf t.Kids[k]<=5 /\ iH t.Kids[k]<=24
     ·rw[if_pos hv]
      have hw2:Go.IntKind.wrap .i64 ((p:Int)+((iH t.Kids[k]:Nat):Int))=((p+iH t.Kids[k]:Nat):Int):=by rw[wrap_i64 (by omega) (by omega)];omega
      dsimp only;rw[hw2,mx]
      by_cases hp:24<p+iH t.Kids[k]
      ·have:decide ((24:Int)<((p+iH t.Kids[k]:Nat):Int))=true:=by rw[decide_eq_true_eq];omega
       rw[this,if_neg (by omega)]
       simp
      ·have:decide ((24:Int)<((p+iH t.Kids[k]:Nat):Int))=false:=by rw[decide_eq_false_iff_not];omega
       rw[this];simp only[cond_false,Option.isSome_some,Bool.true_and,cond_true,Option.getD_some];rw[ih (k+1) _ _ (by omega) (by omega) (by omega)]
       have e1:(d+1+Iz (t.Kids.drop (k+1))<=5 /\ p+iH t.Kids[k]+qi (t.Kids.drop (k+1))<=24)↔(d+1+max (mf t.Kids[k]) (Iz (t.Kids.drop (k+1)))<=5 /\ p+(iH t.Kids[k]+qi (t.Kids.drop (k+1)))<=24):=by omega
       by_cases hq:d+1+Iz (t.Kids.drop (k+1))<=5 /\ p+iH t.Kids[k]+qi (t.Kids.drop (k+1))<=24
       ·rw[if_pos hq,if_pos (e1.1 hq)]
        congr 3
        ·omega
        ·omega
       ·rw[if_neg hq,if_neg (fun h=>hq (e1.2 h))]
     ·rw[if_neg hv,if_neg (by omega)]
      have hw2:Go.IntKind.wrap .i64 ((p:Int)+25)=(p:Int)+25:=wrap_i64 (by omega) (by omega)
      have mx5:M.yQ (a:Int) 5=some ((max a 5:Nat):Int):=mx a 5;dsimp only;rw[hw2,mx5];have:decide ((24:Int)<(p:Int)+25)=true:=by rw[decide_eq_true_eq];omega
      rw[this];simp
    ·have:k=t.Kids.length:=by omega
     subst this;rw[M.nC,List.drop_length];have hq:d+1+Iz []<=5 /\ p+qi []<=24:=⟨by show d+1+0<=5;omega,by show p+0<=24;omega⟩
     rw[if_pos hq];simp[Iz,qi]
  have e:=key aG 0 0 1 (Nat.zero_le _) (by have:=cZ;omega) (by omega)
  have e':M.nC (M.pz m) (d:Int) aG 0 1 0 t=_:=e;rw[ae.aU,d4,d24,e'];simp only[List.drop_zero,Bool.or_self,cond_false];unfold O6;rw[Qw,Au]
  by_cases hq:d+1+Iz t.Kids<=5 /\ 1+qi t.Kids<=24
  ·rw[if_pos hq,if_pos (by omega)]
   simp only
   congr 2
   rw[wrap_i64 (by omega) (by omega)];omega
  ·rw[if_neg hq,if_neg (by omega)]
theorem VA {p:Int->Bool} {l:List ae} (h:l.length=1):Gn p (l.getD 0 ae.zero)=O5 p l:=by
 match l,h with
 | [x],_=>simp[O5]
theorem Qy {p q:Int->Bool} (h:∀k,p k=q k):Gn p=Gn q:=by
 have:p=q:=funext h;rw[this]
theorem b21 (k:Int):(decide ((21:Int)<=k)&&decide (k<=21))=(k==21):=by
 rw[Bool.eq_iff_iff];simp only[Bool.and_eq_true,decide_eq_true_eq,beq_iff_eq];omega
theorem Kt (n m:Nat):(((n:Nat):Int)==((m:Nat):Int))=(n==m):=by
 rw[Bool.eq_iff_iff];simp only[beq_iff_eq];omega
theorem aaQ (n:Nat):(((n:Nat):Int)==1)=(n==1):=Kt n 1
theorem aaR (n:Nat):(((n:Nat):Int)==2)=(n==2):=Kt n 2
theorem aaS (n:Nat):(((n:Nat):Int)==0)=(n==0):=Kt n 0
theorem aiR (n:Nat):inB (0:Int) n=decide (0<n):=dS 0 n
theorem agG (t:ae) (h:t.sz<=1048576):M.xG t=some (Jw t):=by
 have hn:=aaO t.Name (ae.adf h);have hb:=afd t.aQ (ae.Qx h);have hu:=agD t h;have hh:t.Kids.length=1->M.sS (M.ae.re (List.getD t.Kids 0 ae.zero)) 21 21=some (O5 (fun k=>k==21) t.Kids):=fun h1=>by
  have hx:(t.Kids.getD 0 ae.zero).sz<t.sz:=by
   rw[getD_lt (by omega)];exact ae.sQ (List.getElem_mem _)
  rw[ae.aU,show M.sS=M.lQ aG from rfl,aff 21 21 aG _ (wR (by omega)) (by omega),Qy b21,VA h1]
 unfold M.xG;simp only[ae.aU,hn,hb,hu,Option.getD_some,Option.isSome_some,Bool.true_or,Bool.and_true,Bool.true_and,cond_true,aaQ,aaR,aaS,Kt,aiR,Int.toNat_zero];unfold Jw adb;have e0:decide ((0:Int)<((t.aQ.length:Nat):Int))= !(t.aQ.length==0):=by
  rw[Bool.eq_iff_iff];simp only[decide_eq_true_eq,Bool.not_eq_true',beq_eq_false_iff_ne];omega
 have e1:decide ((1:Int)<=((t.Kids.length:Nat):Int))=decide (1<=t.Kids.length):=by simp only[decide_eq_decide];omega
 have e2:decide (((t.Kids.length:Nat):Int)<=6)=decide (t.Kids.length<=6):=by simp only[decide_eq_decide];omega
 rw[e0,e1,e2];have zh:O4 t.aQ=true->(t.aQ.length==0)=false:=fun h=>by
  simp only[O4,Bool.and_eq_true,decide_eq_true_eq] at h;rw[beq_eq_false_iff_ne];omega
 have zi:mY t.Name=true->(t.Name==[])=false:=fun h=>by
  simp only[mY,Bool.and_eq_true,decide_eq_true_eq] at h;rw[beq_eq_false_iff_ne];intro e;rw[e] at h;simp at h
 unfold ace ahA;have hz:t.Kids.length=1->decide (0<t.Kids.length)=true:=fun h1=>by rw[h1];rfl
 have hl1:(t.Kids.length==1)=true->t.Kids.length=1:=fun h1=>by simpa using h1
 have hbr:(t.Kids.length==1)=true->M.sS (M.ae.re (List.getD t.Kids 0 ae.zero)) 21 21=some (O5 (fun k=>k==21) t.Kids) /\ decide (0<t.Kids.length)=true:=fun h1=>⟨hh (hl1 h1),hz (hl1 h1)⟩
 clear hn hb hu hh hz hl1;simp only[ae.aU] at hbr ⊢
 generalize hK:t.Kind=K
 generalize (t.Name==[])=nn at zi ⊢
 generalize mY t.Name=no at zi ⊢
 generalize O4 t.aQ=lo at zh ⊢
 generalize (t.aQ.length==0)=ll at zh ⊢
 generalize M.sS (List.getD t.Kids 0 ae.zero) 21 21=o at hbr ⊢
 generalize decide (0<t.Kids.length)=z at hbr ⊢
 generalize (t.Kids.length==1)=l1 at hbr ⊢
 generalize O5 (fun k=>k==21) t.Kids=kh at hbr ⊢
 generalize t.Kids.any tJ=au
 generalize (t.Kids.length==2)=l2
 generalize (t.Kids.length==0)=l0
 generalize (t.Kids.length==t.aQ.length)=lk
 generalize decide (1<=t.Kids.length)=ge
 generalize decide (t.Kids.length<=6)=le
 clear hK h e0 e1 e2
 by_cases h12:K=12
 ·subst h12
  cases l1
  ·cases no<;>cases nn<;>simp at zi<;>cases lo<;>cases ll<;>simp at zh<;>simp
  ·obtain ⟨rfl,rfl⟩:=hbr rfl
   cases no<;>cases nn<;>simp at zi<;>cases lo<;>cases ll<;>simp at zh<;>simp
 by_cases h13:K=13
 ·subst h13
  cases l1
  ·cases no<;>cases nn<;>simp at zi<;>cases lo<;>cases ll<;>simp at zh<;>simp
  ·obtain ⟨rfl,rfl⟩:=hbr rfl
   cases no<;>cases nn<;>simp at zi<;>cases lo<;>cases ll<;>simp at zh<;>simp
 by_cases Z5:K=14
 ·subst Z5
  cases l1
  ·cases no<;>cases nn<;>simp at zi<;>cases lo<;>cases ll<;>simp at zh<;>simp
  ·obtain ⟨rfl,rfl⟩:=hbr rfl
   cases no<;>cases nn<;>simp at zi<;>cases lo<;>cases ll<;>simp at zh<;>simp
 by_cases h15:K=15
 ·subst h15
  cases l1
  ·cases no<;>cases nn<;>simp at zi<;>cases lo<;>cases ll<;>simp at zh<;>simp
  ·obtain ⟨rfl,rfl⟩:=hbr rfl
   cases no<;>cases nn<;>simp at zi<;>cases lo<;>cases ll<;>simp at zh<;>simp
 by_cases h16:K=16
 ·subst h16
  cases l1
  ·cases no<;>cases nn<;>simp at zi<;>cases lo<;>cases ll<;>simp at zh<;>simp
  ·obtain ⟨rfl,rfl⟩:=hbr rfl
   cases no<;>cases nn<;>simp at zi<;>cases lo<;>cases ll<;>simp at zh<;>simp
 by_cases h17:K=17
 ·subst h17
  cases l1
  ·cases no<;>cases nn<;>simp at zi<;>cases lo<;>cases ll<;>simp at zh<;>simp
  ·obtain ⟨rfl,rfl⟩:=hbr rfl
   cases no<;>cases nn<;>simp at zi<;>cases lo<;>cases ll<;>simp at zh<;>simp
 by_cases h18:K=18
 ·subst h18
  cases l1
  ·cases no<;>cases nn<;>simp at zi<;>cases lo<;>cases ll<;>simp at zh<;>simp
  ·obtain ⟨rfl,rfl⟩:=hbr rfl
   cases no<;>cases nn<;>simp at zi<;>cases lo<;>cases ll<;>simp at zh<;>simp
 by_cases h19:K=19
 ·subst h19
  cases l1
  ·cases no<;>cases nn<;>simp at zi<;>cases lo<;>cases ll<;>simp at zh<;>simp
  ·obtain ⟨rfl,rfl⟩:=hbr rfl
   cases no<;>cases nn<;>simp at zi<;>cases lo<;>cases ll<;>simp at zh<;>simp
 by_cases h20:K=20
 ·subst h20
  cases l1
  ·cases no<;>cases nn<;>simp at zi<;>cases lo<;>cases ll<;>simp at zh<;>simp
  ·obtain ⟨rfl,rfl⟩:=hbr rfl
   cases no<;>cases nn<;>simp at zi<;>cases lo<;>cases ll<;>simp at zh<;>simp
 by_cases h21:K=21
 ·subst h21
  cases l1
  ·cases no<;>cases nn<;>simp at zi<;>cases lo<;>cases ll<;>simp at zh<;>simp
  ·obtain ⟨rfl,rfl⟩:=hbr rfl
   cases no<;>cases nn<;>simp at zi<;>cases lo<;>cases ll<;>simp at zh<;>simp
 by_cases h22:K=22
 ·subst h22
  cases l1
  ·cases no<;>cases nn<;>simp at zi<;>cases lo<;>cases ll<;>simp at zh<;>simp
  ·obtain ⟨rfl,rfl⟩:=hbr rfl
   cases no<;>cases nn<;>simp at zi<;>cases lo<;>cases ll<;>simp at zh<;>simp
 by_cases h23:K=23
 ·subst h23
  cases l1
  ·cases no<;>cases nn<;>simp at zi<;>cases lo<;>cases ll<;>simp at zh<;>simp
  ·obtain ⟨rfl,rfl⟩:=hbr rfl
   cases no<;>cases nn<;>simp at zi<;>cases lo<;>cases ll<;>simp at zh<;>simp
 have q1:(K==20)=false:=by simpa using h20
 have q2:(K==21)=false:=by simpa using h21
 have q3:(decide ((16:Int)<=K)&&decide (K<=19))=false:=by
  rw[Bool.eq_false_iff];simp only[ne_eq,Bool.and_eq_true,decide_eq_true_eq];omega
 have q4:(K==12)=false:=by simpa using h12
 have q5:(K==13)=false:=by simpa using h13
 have q6:(K==14)=false:=by simpa using Z5
 have q7:(K==15)=false:=by simpa using h15
 have q8:(K==16)=false:=by simpa using h16
 have q9:(K==17)=false:=by simpa using h17
 have q10:(K==22)=false:=by simpa using h22
 have q11:(K==23)=false:=by simpa using h23
 simp only[q1,q2,q3,q4,q5,q6,q7,q8,q9,q10,q11,h12,h13,Z5,h15,h16,h17,h22,h23,or_self,if_false]
 cases nn<;>cases ll<;>simp
end M
namespace M
open Go.V (inB CO aG cZ)
theorem aaT : ∀(m:Nat) (t:ae),t.sz<m->t.sz<=1048576->M.jG m t=some (jD t)
 |0,t,h,_=>absurd h (Nat.not_lt_zero _)
 |m+1,t,h,hN=>by
  have hl:=ae.kJ hN;have e:=VB (p:=jD) (F:=fun f i=>M.iW (M.jG m) f i t) (e:=()) (b:=false) t.Kids (by omega) (fun f k hk=>by
   show M.iW (M.jG m) (f+1) (k:Int) t=_
   rw[M.iW];have hx:=ae.sQ (List.getElem_mem hk);simp only[ae.aU,getD_lt hk,aaT m t.Kids[k] (by omega) (by omega),Int.toNat_natCast,dS,Int.ofNat_lt,hk,decide_true,cond_true,Bool.true_or,Bool.true_and,Bool.and_true,gW hk (by omega:t.Kids.length<2^62),Option.getD_some,Option.isSome_some]
   cases jD t.Kids[k]<;>rfl) (fun f=>by
   show M.iW (M.jG m) (f+1) _ t=_
   rw[M.iW];simp)
  show M.vX (M.jG m) t=_
  unfold M.vX;have e':M.iW (M.jG m) aG 0 t=_:=e;rw[ae.aU,agG t hN,e',Fp,BZ]
  cases Jw t<;>cases t.Kids.all jD<;>simp
theorem aiS (t:ae) (h:t.sz<=1048576):M.Dc t=some (tOk t):=by
 unfold M.Dc;have e1:M.FT t=some (jD t):=aaT aG t (wR h) h;have e2:M.J5 t 1=some (O6 1 t):=afi aG 1 t (by omega) (by have:=cZ;omega) h
 simp only[ae.aU,e1,e2,Option.getD_some,Option.isSome_some,Bool.true_or,Bool.and_true,cond_true];unfold tOk O6
 by_cases hq:1+mf t<=5 /\ iH t<=24
 ·rw[if_pos hq]
  have a1:decide (((mf t:Nat):Int)<=4)=decide (mf t<=4):=by simp only[decide_eq_decide];omega
  have a2:decide (((iH t:Nat):Int)<=24)=decide (iH t<=24):=by simp only[decide_eq_decide];omega
  dsimp only;rw[a1,a2]
 ·rw[if_neg hq]
  have:(decide (mf t<=4)&&decide (iH t<=24))=false:=by
   rw[Bool.eq_false_iff];simp only[ne_eq,Bool.and_eq_true,decide_eq_true_eq];omega
  rw[this];rfl
theorem afj (t:ae) (h:t.sz<=1048576):M.EH t=some (tOk t):=by
 unfold M.EH;simp only[ae.aU,aiS t h];rfl
end M
namespace M
open Go.V (inB CO aG cZ)
theorem agH (l:List ae) (hl:l.length<=1048576):M.dN l=some (l.any tJ):=by
 have e:=vC (p:=tJ) (F:=M.dm l (l.length:Int)) (e:=()) (fun k=>k) l (by omega) (fun f k hk=>by
  rw[M.dm];simp only[getD_lt hk,Int.toNat_natCast,dS,Int.ofNat_lt,hk,decide_true,cond_true,Bool.true_or,Bool.true_and,Bool.and_true,gW hk (by omega:l.length<2^62)]
  rfl) (fun f=>by rw[M.dm];simp)
 unfold M.dN M.fD;rw[e,nS]
 cases l.findIdx? tJ<;>simp
theorem afk (t:ae) (h:t.sz<=1048576) (n:Nat):M.wz t (n:Int)=some ((t.Kids.length==n)&& !t.Kids.any tJ):=by
 unfold M.wz;rw[agH t.Kids (ae.kJ h)];simp only[Option.isSome_some,Bool.true_or,Bool.and_true,cond_true,Option.getD_some,Kt]
theorem agI (t:ae) (h:t.sz<=1048576) (rec:ae->Option Bool) (b:Bool) (hb:M.dK rec t.Kids=some (!b)):M.uV rec t=some (b&&Jw t):=by
 have hn:=aaN t.Name (ae.adf h);have hlab:=afe t.aQ (ae.Qx h);have hk:=afk t h;have hk1:M.wz t 1=some ((t.Kids.length==1)&& !t.Kids.any tJ):=hk 1;have hh:t.Kids.length=1->M.qA (M.ae.re (List.getD t.Kids 0 ae.zero)) [21]=some (O5 (fun k=>k==21) t.Kids):=fun h1=>by
  have hx:(t.Kids.getD 0 ae.zero).sz<t.sz:=by
   rw[getD_lt (by omega)];exact ae.sQ (List.getElem_mem _)
  have e:Gn (fun k=>[(21:Int)].any fun x=>k==x)=Gn (fun k=>k==21):=Qy fun k=>by simp
  rw[ae.aU,show M.qA=M.kZ aG from rfl,afg [21] (by simp) aG _ (wR (by omega)) (by omega),e,VA h1]
 unfold M.uV;simp only[ae.aU,hb,hn,hlab,hk,hk1,Option.getD_some,Option.isSome_some,Bool.true_or,Bool.and_true,Bool.true_and,cond_true,aaQ,aaR,aaS,Kt,aiR,Int.toNat_zero];unfold Jw adb;have e0:decide ((0:Int)<((t.aQ.length:Nat):Int))= !(t.aQ.length==0):=by
  rw[Bool.eq_iff_iff];simp only[decide_eq_true_eq,Bool.not_eq_true',beq_eq_false_iff_ne];omega
 have e1:decide ((1:Int)<=((t.Kids.length:Nat):Int))=decide (1<=t.Kids.length):=by simp only[decide_eq_decide];omega
 have e2:decide (((t.Kids.length:Nat):Int)<=6)=decide (t.Kids.length<=6):=by simp only[decide_eq_decide];omega
 rw[e0,e1,e2];unfold ace ahA;have hz:t.Kids.length=1->decide (0<t.Kids.length)=true:=fun h1=>by rw[h1];rfl
 have hl1:(t.Kids.length==1)=true->t.Kids.length=1:=fun h1=>by simpa using h1
 have hbr:(t.Kids.length==1)=true->M.qA (M.ae.re (List.getD t.Kids 0 ae.zero)) [21]=some (O5 (fun k=>k==21) t.Kids) /\ decide (0<t.Kids.length)=true:=fun h1=>⟨hh (hl1 h1),hz (hl1 h1)⟩
 clear hn hlab hk hk1 hh hz hl1 hb;simp only[ae.aU] at hbr ⊢
 generalize hK:t.Kind=K
 generalize (t.Name==[])=nn
 generalize mY t.Name=no
 generalize O4 t.aQ=lo
 generalize (t.aQ.length==0)=ll
 generalize M.qA (List.getD t.Kids 0 ae.zero) [21]=o at hbr ⊢
 generalize decide (0<t.Kids.length)=z at hbr ⊢
 generalize (t.Kids.length==1)=l1 at hbr ⊢
 generalize O5 (fun k=>k==21) t.Kids=kh at hbr ⊢
 generalize t.Kids.any tJ=au
 generalize (t.Kids.length==2)=l2
 generalize (t.Kids.length==0)=l0
 have ag9:(t.Kids.length==t.Kids.length)=true:=by simp
 rw[ag9]
 generalize (t.Kids.length==t.aQ.length)=lk
 generalize decide (1<=t.Kids.length)=ge
 generalize decide (t.Kids.length<=6)=le
 clear hK h e0 e1 e2 ag9
 cases b
 ·simp
 by_cases h12:K=12
 ·subst h12
  cases l1
  ·cases no<;>cases nn<;>cases lo<;>cases ll<;>simp
  ·obtain ⟨rfl,rfl⟩:=hbr rfl
   cases no<;>cases nn<;>cases lo<;>cases ll<;>simp
 by_cases h13:K=13
 ·subst h13
  cases l1
  ·cases no<;>cases nn<;>cases lo<;>cases ll<;>simp
  ·obtain ⟨rfl,rfl⟩:=hbr rfl
   cases no<;>cases nn<;>cases lo<;>cases ll<;>simp
 by_cases Z5:K=14
 ·subst Z5
  cases l1
  ·cases no<;>cases nn<;>cases lo<;>cases ll<;>simp
  ·obtain ⟨rfl,rfl⟩:=hbr rfl
   cases no<;>cases nn<;>cases lo<;>cases ll<;>simp
 by_cases h15:K=15
 ·subst h15
  cases l1
  ·cases no<;>cases nn<;>cases lo<;>cases ll<;>simp
  ·obtain ⟨rfl,rfl⟩:=hbr rfl
   cases no<;>cases nn<;>cases lo<;>cases ll<;>simp
 by_cases h16:K=16
 ·subst h16
  cases l1
  ·cases no<;>cases nn<;>cases lo<;>cases ll<;>simp
  ·obtain ⟨rfl,rfl⟩:=hbr rfl
   cases no<;>cases nn<;>cases lo<;>cases ll<;>simp
 by_cases h17:K=17
 ·subst h17
  cases l1
  ·cases no<;>cases nn<;>cases lo<;>cases ll<;>simp
  ·obtain ⟨rfl,rfl⟩:=hbr rfl
   cases no<;>cases nn<;>cases lo<;>cases ll<;>simp
 by_cases h18:K=18
 ·subst h18
  cases l1
  ·cases no<;>cases nn<;>cases lo<;>cases ll<;>simp
  ·obtain ⟨rfl,rfl⟩:=hbr rfl
   cases no<;>cases nn<;>cases lo<;>cases ll<;>simp
 by_cases h19:K=19
 ·subst h19
  cases l1
  ·cases no<;>cases nn<;>cases lo<;>cases ll<;>simp
  ·obtain ⟨rfl,rfl⟩:=hbr rfl
   cases no<;>cases nn<;>cases lo<;>cases ll<;>simp
 by_cases h20:K=20
 ·subst h20
  cases l1
  ·cases no<;>cases nn<;>cases lo<;>cases ll<;>simp
  ·obtain ⟨rfl,rfl⟩:=hbr rfl
   cases no<;>cases nn<;>cases lo<;>cases ll<;>simp
 by_cases h21:K=21
 ·subst h21
  cases l1
  ·cases no<;>cases nn<;>cases lo<;>cases ll<;>simp
  ·obtain ⟨rfl,rfl⟩:=hbr rfl
   cases no<;>cases nn<;>cases lo<;>cases ll<;>simp
 by_cases h22:K=22
 ·subst h22
  cases l1
  ·cases no<;>cases nn<;>cases lo<;>cases ll<;>simp
  ·obtain ⟨rfl,rfl⟩:=hbr rfl
   cases no<;>cases nn<;>cases lo<;>cases ll<;>simp
 by_cases h23:K=23
 ·subst h23
  cases l1
  ·cases no<;>cases nn<;>cases lo<;>cases ll<;>simp
  ·obtain ⟨rfl,rfl⟩:=hbr rfl
   cases no<;>cases nn<;>cases lo<;>cases ll<;>simp
 have q1:(K==20)=false:=by simpa using h20
 have q2:(K==21)=false:=by simpa using h21
 have q3:(decide ((16:Int)<=K)&&decide (K<=19))=false:=by
  rw[Bool.eq_false_iff];simp only[ne_eq,Bool.and_eq_true,decide_eq_true_eq];omega
 have q4:(K==12)=false:=by simpa using h12
 have q5:(K==13)=false:=by simpa using h13
 have q6:(K==14)=false:=by simpa using Z5
 have q7:(K==15)=false:=by simpa using h15
 have q8:(K==16)=false:=by simpa using h16
 have q9:(K==17)=false:=by simpa using h17
 have q10:(K==22)=false:=by simpa using h22
 have q11:(K==23)=false:=by simpa using h23
 simp only[q1,q2,q3,q4,q5,q6,q7,q8,q9,q10,q11,h12,h13,Z5,h15,h16,h17,h22,h23,or_self,if_false]
 cases nn<;>cases ll<;>simp
theorem aaU : ∀(m:Nat) (t:ae),t.sz<m->t.sz<=1048576->M.nJ m t=some (jD t)
 |0,t,h,_=>absurd h (Nat.not_lt_zero _)
 |m+1,t,h,hN=>by
  have hl:=ae.kJ hN;have e:=vC (p:=fun x=> !jD x) (F:=M.dJ (M.nJ m) t.Kids (t.Kids.length:Int)) (e:=()) (fun k=>k) t.Kids (by omega) (fun f k hk=>by
   rw[M.dJ];have hx:=ae.sQ (List.getElem_mem hk);have c:M.rQ (M.nJ m) t.Kids[k]=some (!jD t.Kids[k]):=by
    unfold M.rQ;simp only[ae.aU,aaU m t.Kids[k] (by omega) (by omega)];rfl
   simp only[ae.aU,getD_lt hk,c,Int.toNat_natCast,dS,Int.ofNat_lt,hk,decide_true,cond_true,Bool.true_or,Bool.true_and,Bool.and_true,gW hk (by omega:t.Kids.length<2^62),Option.getD_some,Option.isSome_some]) (fun f=>by
   rw[M.dJ];simp)
  have e2:M.dK (M.nJ m) t.Kids=some (!Ns t.Kids):=by
   unfold M.dK M.gm;have e3:(!Ns t.Kids)=t.Kids.any fun x=> !jD x:=by rw[BZ,List.not_all_eq_any_not]
   rw[e,e3,nS]
   cases t.Kids.findIdx? (fun x=> !jD x)<;>simp
  show M.uV (M.nJ m) t=_
  rw[agI t hN _ _ e2,Fp,Bool.and_comm]
theorem afl (t:ae) (h:t.sz<=1048576):M.ER t=some (tOk t):=by
 unfold M.ER;have e1:M.J7 t=some (jD t):=aaU aG t (wR h) h;have e2:M.YV t 4=some ((min (mf t) 5:Nat):Int):=afh aG t 4 (by have:=cZ;omega) (by omega) h
 have e3:M.Uk t=some ((iH t:Nat):Int):=adg aG t (wR h) h;simp only[ae.aU,e1,e2,e3,Option.getD_some,Option.isSome_some,Bool.true_or,Bool.and_true,cond_true];have a1:decide (((min (mf t) 5:Nat):Int)<=4)=decide (mf t<=4):=by simp only[decide_eq_decide];omega
 have a2:decide (((iH t:Nat):Int)<=24)=decide (iH t<=24):=by simp only[decide_eq_decide];omega
 rw[a1,a2];rfl
end M
