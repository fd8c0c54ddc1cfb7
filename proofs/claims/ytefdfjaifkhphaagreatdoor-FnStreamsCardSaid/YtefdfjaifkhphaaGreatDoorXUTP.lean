/-
  NAMES AND TYPES: what is right, in plain Lean.
-/
import Derived.Test.YtefdfjaifkhphaaGreatDoorXUplA
import Derived.Test.YtefdfjaifkhphaaGreatDoorXUQH
set_option linter.unusedVariables false
namespace M
open Go.V (inB qg aP bG)
def Ym (c:UInt8):Bool:=decide ((97:Int)<=((c.toNat:Nat):Int))&&decide (((c.toNat:Nat):Int)<=122)
def age (c:UInt8):Bool:=decide ((48:Int)<=((c.toNat:Nat):Int))&&decide (((c.toNat:Nat):Int)<=57)
def QU (c:UInt8):Bool:=((c.toNat:Nat):Int)==45
def vY (s:List UInt8) (k:Nat):Bool:=Ym (s.getD k 0)||(decide (0<k)&&((age (s.getD k 0)||QU (s.getD k 0))&& !(QU (s.getD k 0)&&QU (s.getD (k-1) 0))))
def lU (s:List UInt8):Bool:=(List.range s.length).all (vY s)&&((decide (1<=s.length)&&decide (s.length<=12))&& !QU (s.getD (s.length-1) 0))
def N7 (l:List (List UInt8)):Bool:=(decide (1<=l.length)&&decide (l.length<=16))&&(nodupB l&&l.all lU)
mutual
def iZ : ae->Nat
 | .mk _ _ _ kids=>1+CW kids
def CW : List ae->Nat
 | []=>0
 |x::r=>iZ x+CW r
end
mutual
def lV : ae->Nat
 | .mk _ _ _ kids=>1+LM kids
def LM : List ae->Nat
 | []=>0
 |x::r=>max (lV x) (LM r)
end
mutual
def FI (p:Int->Bool):ae->Bool
 | .mk k _ _ kids=>p k||N8 p kids
def N8 (p:Int->Bool):List ae->Bool
 | []=>false
 |x::r=>FI p x||N8 p r
end
theorem Ey (t:ae):iZ t=1+CW t.Kids:=by cases t;rfl
theorem PR (t:ae):lV t=1+LM t.Kids:=by cases t;rfl
theorem abV (p:Int->Bool) (t:ae):FI p t=(p t.Kind||N8 p t.Kids):=by cases t;rfl
theorem UN (p:Int->Bool):∀l,N8 p l=l.any (FI p)
 | []=>rfl
 |x::r=>by rw[N8,List.any_cons,UN p r]
def sF (t:ae):Bool:=t.Kind==1
def XW (t:ae):Bool:=(t.Kind==20)||(t.Kind==21)
def afc (t:ae):Bool:=decide ((16:Int)<=t.Kind)&&decide (t.Kind<=19)
def Zc (t:ae):Bool:=
 if t.Kind=12 \/ t.Kind=13 then (t.Kids.length==1)&& !t.Kids.any sF
 else if t.Kind=14 then t.Kids.length==2
 else if t.Kind=15 then (decide (1<=t.Kids.length)&&decide (t.Kids.length<=6))&& !t.Kids.any sF
 else if t.Kind=16 then (t.Kids.length==t.aQ.length)&& !t.Kids.any sF
 else if t.Kind=17 then t.Kids.length==t.aQ.length
 else if t.Kind=22 \/ t.Kind=23 then (t.Kids.length==1)&& !N8 (fun k=>k==21) t.Kids
 else (decide ((1:Int)<=t.Kind)&&decide (t.Kind<=23))&&(t.Kids.length==0)
def EX (t:ae):Bool:=
 ((if afc t then N7 t.aQ else t.aQ.length==0)&&(if XW t then lU t.Name else t.Name==[]))&&Zc t
mutual
def jg : ae->Bool
 | .mk k n l kids=>EX (.mk k n l kids)&&LP kids
def LP : List ae->Bool
 | []=>true
 |x::r=>jg x&&LP r
end
theorem zT (t:ae):jg t=(EX t&&LP t.Kids):=by cases t;rfl
theorem A8 : ∀l,LP l=l.all jg
 | []=>rfl
 |x::r=>by rw[LP,List.all_cons,A8 r]
def tOk (t:ae):Bool:=(decide (lV t<=4)&&decide (iZ t<=24))&&jg t
theorem alq : ∀(l:List ae) (x:ae),x∈l->lV x<=LM l
 |y::r,x,h=>by
  rcases List.mem_cons.1 h with rfl |h
  ·simp only[LM];omega
  ·have:=alq r x h;simp only[LM];omega
theorem Zx : ∀l:List ae,l.length<=CW l
 | []=>Nat.le_refl _
 |x::r=>by have:=Zx r;simp only[CW,List.length_cons,Ey x];omega
theorem Xo {l:List ae} {k:Nat} (h:k<l.length):CW (l.drop k)=iZ l[k]+CW (l.drop (k+1)):=by rw[Dt h];rfl
theorem Xp {l:List ae} {k:Nat} (h:k<l.length):LM (l.drop k)=max (lV l[k]) (LM (l.drop (k+1))):=by rw[Dt h];rfl
theorem UO (t:ae):1<=lV t:=by rw[PR];omega
end M
set_option linter.unusedSimpArgs false
namespace M
open Go.V (inB qg aP bG)
theorem vZ {n:Nat} (h:n<=1048576):n<aP:=by have:=bG;omega
theorem abW {k n:Nat} (h0:0<k) (h:k<=n) (hn:n<2^62):Go.IntKind.wrap .i64 ((k:Int)-1)=((k-1:Nat):Int):=by
 rw[wrap_i64 (by omega) (by omega)];omega
theorem Zy (s:List UInt8) (hs:s.length<=1048576):M.yJ s=some (lU s):=by
 unfold M.yJ;rw[Ez (p:=vY s) (F:=M.oD s (s.length:Int)) (e:=s) (b:=false) s.length (by omega) (fun f k hk=>by
  rw[M.oD];simp only[Int.toNat_natCast,dM,Int.ofNat_lt,hk,decide_true,cond_true,Bool.true_or,Bool.true_and,Bool.and_true,nM hk (Cm hs),vY,Ym,age,QU,mP]
  generalize decide ((97:Int)<=(((s.getD k 0).toNat:Nat):Int))=a1
  generalize decide ((((s.getD k 0).toNat:Nat):Int)<=122)=a2
  generalize decide ((48:Int)<=(((s.getD k 0).toNat:Nat):Int))=a3
  generalize decide ((((s.getD k 0).toNat:Nat):Int)<=57)=a4
  generalize ((((s.getD k 0).toNat:Nat):Int)==45)=a5
  rcases Nat.eq_zero_or_pos k with h0 |h0
  ·subst h0
   cases a1<;>cases a2<;>cases a3<;>cases a4<;>cases a5<;>simp
  ·have e0:((k:Int)==0)=false:=by rw[beq_eq_false_iff_ne];omega
   have hk1:k-1<s.length:=by omega
   simp only[e0,abW h0 (Nat.le_of_lt hk) (Cm hs),Int.toNat_natCast,dM,hk1,h0,decide_true]
   generalize ((((s.getD (k-1) 0).toNat:Nat):Int)==45)=a6
   cases a1<;>cases a2<;>cases a3<;>cases a4<;>cases a5<;>cases a6<;>simp) (fun f=>by rw[M.oD];simp)]
 unfold lU
 cases hall:(List.range s.length).all (vY s)
 ·simp
 ·simp only[if_true,mP,Bool.true_and]
  rcases Nat.eq_zero_or_pos s.length with h0 |h0
  ·simp[h0]
  ·have h1:s.length-1<s.length:=by omega
   have e1:decide ((1:Int)<=((s.length:Nat):Int))=decide (1<=s.length):=by simp only[decide_eq_decide];omega
   have e2:decide (((s.length:Nat):Int)<=12)=decide (s.length<=12):=by simp only[decide_eq_decide];omega
   simp only[abW h0 (Nat.le_refl _) (Cm hs),Int.toNat_natCast,dM,h1,decide_true,Bool.true_or,Bool.and_true,cond_true,e1,e2,QU]
theorem Zz (s:List UInt8) (hs:s.length<=1048576):M.tY s=some (lU s):=by
 unfold M.tY
 rcases Nat.eq_zero_or_pos s.length with h0 |h0
 ·have:s=[]:=List.eq_nil_of_length_eq_zero h0
  subst this;rfl
 have h1:s.length-1<s.length:=by omega
 simp only[abW h0 (Nat.le_refl _) (Cm hs),Int.toNat_natCast,dM,h1,Int.toNat_zero,decide_true,Bool.true_or,Bool.and_true,cond_true];have hz:inB (0:Int) s.length=true:=by
  show inB ((0:Nat):Int) s.length=true
  rw[dM];simpa using h0
 simp only[hz,Bool.true_or,Bool.and_true,cond_true];have e1:decide (((s.length:Nat):Int)<1)= !decide (1<=s.length):=by rw[<-decide_not];simp only[decide_eq_decide];omega
 have e2:decide ((12:Int)<((s.length:Nat):Int))= !decide (s.length<=12):=by rw[<-decide_not];simp only[decide_eq_decide];omega
 have e3:decide ((((s.getD 0 0).toNat:Nat):Int)<97)= !decide ((97:Int)<=(((s.getD 0 0).toNat:Nat):Int)):=by rw[<-decide_not];simp only[decide_eq_decide];omega
 have e4:decide ((122:Int)<(((s.getD 0 0).toNat:Nat):Int))= !decide ((((s.getD 0 0).toNat:Nat):Int)<=122):=by rw[<-decide_not];simp only[decide_eq_decide];omega
 rw[e1,e2,e3,e4]
 by_cases hlow:Ym (s.getD 0 0)=true
 ·have hl:=hlow
  simp only[Ym,Bool.and_eq_true] at hl;rw[Ez (p:=vY s) (F:=M.oP s) (e:=()) (b:=false) s.length (by omega) (fun f k hk=>by
   rw[M.oP];have f1:decide ((((s.getD k 0).toNat:Nat):Int)<97)= !decide ((97:Int)<=(((s.getD k 0).toNat:Nat):Int)):=by rw[<-decide_not];simp only[decide_eq_decide];omega
   have f2:decide ((122:Int)<(((s.getD k 0).toNat:Nat):Int))= !decide ((((s.getD k 0).toNat:Nat):Int)<=122):=by rw[<-decide_not];simp only[decide_eq_decide];omega
   have f3:decide ((((s.getD k 0).toNat:Nat):Int)<48)= !decide ((48:Int)<=(((s.getD k 0).toNat:Nat):Int)):=by rw[<-decide_not];simp only[decide_eq_decide];omega
   have f4:decide ((57:Int)<(((s.getD k 0).toNat:Nat):Int))= !decide ((((s.getD k 0).toNat:Nat):Int)<=57):=by rw[<-decide_not];simp only[decide_eq_decide];omega
   simp only[Int.toNat_natCast,dM,Int.ofNat_lt,hk,decide_true,cond_true,Bool.true_or,Bool.true_and,Bool.and_true,nM hk (Cm hs),vY,Ym,age,QU,mP,f1,f2,f3,f4];have dash:Ym (s.getD k 0)=true->((((s.getD k 0).toNat:Nat):Int)==45)=false:=fun h=>by
    simp only[Ym,Bool.and_eq_true,decide_eq_true_eq] at h;rw[beq_eq_false_iff_ne];omega
   simp only[Ym] at dash
   rcases Nat.eq_zero_or_pos k with k0 |k0
   ·subst k0
    rw[hl.1,hl.2] at*;simp only[Bool.and_self] at dash;rw[dash trivial];simp
   ·have hk1:k-1<s.length:=by omega
    simp only[abW k0 (Nat.le_of_lt hk) (Cm hs),Int.toNat_natCast,dM,hk1,k0,decide_true]
    generalize ((((s.getD (k-1) 0).toNat:Nat):Int)==45)=a6
    revert dash
    generalize decide ((97:Int)<=(((s.getD k 0).toNat:Nat):Int))=a1
    generalize decide ((((s.getD k 0).toNat:Nat):Int)<=122)=a2
    generalize decide ((48:Int)<=(((s.getD k 0).toNat:Nat):Int))=a3
    generalize decide ((((s.getD k 0).toNat:Nat):Int)<=57)=a4
    generalize ((((s.getD k 0).toNat:Nat):Int)==45)=a5
    intro dash
    cases a1<;>cases a2<;>cases a3<;>cases a4<;>cases a5<;>cases a6<;>simp at dash ⊢) (fun f=>by rw[M.oP];simp)]
  rw[hl.1,hl.2];unfold lU QU
  cases (List.range s.length).all (vY s)<;>cases decide (1<=s.length)<;>cases decide (s.length<=12)<;>cases ((((s.getD (s.length-1) 0).toNat:Nat):Int)==45)<;>rfl
 ·have hno:lU s=false:=by
   unfold lU;have:(List.range s.length).all (vY s)=false:=by
    rw[List.all_eq_false];refine ⟨0,by simpa using h0, ?_⟩
    simp only[Bool.not_eq_true] at hlow;simp only[vY,hlow];intro h;cases h
   rw[this];rfl
  rw[hno];simp only[Bool.not_eq_true] at hlow;simp only[Ym] at hlow
  cases h3:decide ((97:Int)<=(((s.getD 0 0).toNat:Nat):Int))<;>cases h4:decide ((((s.getD 0 0).toNat:Nat):Int)<=122)<;>rw[h3,h4] at hlow<;>simp at hlow ⊢
end M
namespace M
open Go.V (inB qg aP bG)
theorem nodup_range (l:List (List UInt8)):(List.range l.length).all (fun i=>(List.range i).all fun k=> !(l.getD k []==l.getD i []))=nodupB l:=by
 rw[Bool.eq_iff_iff,FK,List.Nodup,List.pairwise_iff_getElem];simp only[List.all_eq_true,List.mem_range,Bool.not_eq_true',beq_eq_false_iff_ne];constructor
 ·intro h i j hi hj hij e
  have:=h j hj i hij;rw[getD_lt hi,getD_lt hj] at this;exact this e
 ·intro h i hi k hk e
  rw[getD_lt hi,getD_lt (by omega)] at e
  exact h k i (by omega) hi hk e
theorem acP {α:Type} (p:α->Bool) (l:List α) (d:α):(List.range l.length).all (fun i=>p (l.getD i d))=l.all p:=by
 rw[Bool.eq_iff_iff];simp only[List.all_eq_true,List.mem_range];constructor
 ·intro h x hx
  obtain ⟨i,hi,rfl⟩:=List.getElem_of_mem hx;have:=h i hi
  rwa [getD_lt hi] at this
 ·intro h i hi
  rw[getD_lt hi];exact h _ (List.getElem_mem hi)
theorem aff {α:Type} (p q:α->Bool) (l:List α):l.all (fun x=>p x&&q x)=(l.all p&&l.all q):=by
 induction l with
 |nil=>rfl
 |cons x r ih=>simp only[List.all_cons,ih];cases p x<;>cases q x<;>cases r.all p<;>cases r.all q<;>rfl
theorem adL (l:List (List UInt8)) (h:lI List.length l<=1048576):M.tZ l=some (N7 l):=by
 have hl:=Nat.le_trans (lC List.length l) h;unfold M.tZ;have e1:decide (((l.length:Nat):Int)<1)= !decide (1<=l.length):=by rw[<-decide_not];simp only[decide_eq_decide];omega
 have e2:decide ((16:Int)<((l.length:Nat):Int))= !decide (l.length<=16):=by rw[<-decide_not];simp only[decide_eq_decide];omega
 rw[e1,e2,Ez (p:=fun i=>lU (l.getD i [])&&(List.range i).all fun k=> !(l.getD k []==l.getD i [])) (F:=fun f i=>M.iH f l i) (e:=()) (b:=false) l.length (by omega) (fun f k hk=>by
  show M.iH (f+1) l (k:Int)=_
  rw[M.iH];have hn:(l.getD k []).length<=1048576:=by rw[getD_lt hk];exact Nat.le_trans (zA List.length _ _ (List.getElem_mem hk)) h
  have inner:M.ig l (k:Int) aP 0=some (if (List.range k).all (fun j=> !(l.getD j []==l.getD k [])) then .inr (l,(k:Int)) else .inl false):=
   Ez (p:=fun j=> !(l.getD j []==l.getD k [])) (F:=M.ig l (k:Int)) (e:=(l,(k:Int))) (b:=false) k (by omega) (fun f j hj=>by
    rw[M.ig];have hj':j<l.length:=by omega
    simp only[Int.toNat_natCast,dM,Int.ofNat_lt,hj,hk,hj',decide_true,cond_true,Bool.true_or,Bool.true_and,Bool.and_true,nM hj (by omega:k<2^62)]
    cases l.getD j []==l.getD k []<;>rfl) (fun f=>by rw[M.ig];simp)
  simp only[Int.toNat_natCast,dM,Int.ofNat_lt,hk,decide_true,cond_true,Bool.true_or,Bool.true_and,Bool.and_true,nM hk (by omega:l.length<2^62),Zz _ hn,inner,Option.getD_some,Option.isSome_some]
  cases lU (l.getD k [])<;>cases (List.range k).all (fun j=> !(l.getD j []==l.getD k []))<;>simp[nM hk (by omega:l.length<2^62)]) (fun f=>by
  show M.iH (f+1) l (l.length:Int)=_
  rw[M.iH];simp)]
 unfold N7;rw[aff,acP,nodup_range]
 cases decide (1<=l.length)<;>cases decide (l.length<=16)<;>cases l.all lU<;>cases nodupB l<;>rfl
theorem adM (l:List (List UInt8)) (h:lI List.length l<=1048576):M.xe l=some (N7 l):=by
 have hl:=Nat.le_trans (lC List.length l) h;have c1:∀s:List UInt8,s.length<=1048576->M.pR s=some (!lU s):=fun s hs=>by
  unfold M.pR;rw[Zy s hs];rfl
 have cf:M.dw l=some (l.any fun s=> !lU s):=by
  have e:=uA (p:=fun s=> !lU s) (F:=M.bT l (l.length:Int)) (e:=()) (fun k=>k) l (by omega) (fun f k hk=>by
   rw[M.bT];have hn:l[k].length<=1048576:=Nat.le_trans (zA List.length _ _ (List.getElem_mem hk)) h;simp only[getD_lt hk,Int.toNat_natCast,dM,Int.ofNat_lt,hk,decide_true,cond_true,Bool.true_or,Bool.true_and,Bool.and_true,nM hk (by omega:l.length<2^62),c1 _ hn,Option.getD_some,Option.isSome_some]) (fun f=>by rw[M.bT];simp)
  unfold M.dw M.ed;rw[e,oJ]
  cases l.findIdx? (fun s=> !lU s)<;>simp
 unfold M.xe;rw[cf,W9 l hl];have e1:decide ((1:Int)<=((l.length:Nat):Int))=decide (1<=l.length):=by simp only[decide_eq_decide];omega
 have e2:decide (((l.length:Nat):Int)<=16)=decide (l.length<=16):=by simp only[decide_eq_decide];omega
 have e3:(l.any fun s=> !lU s)= !l.all lU:=by rw[List.not_all_eq_any_not]
 unfold N7;simp only[Option.isSome_some,Bool.true_or,Bool.and_true,cond_true,Option.getD_some,e1,e2,e3,Bool.not_not]
 cases decide (1<=l.length)<;>cases decide (l.length<=16)<;>cases l.all lU<;>cases nodupB l<;>rfl
end M
namespace M
open Go.V (inB qg aP bG)
theorem ZA {α:Type} {f:α->Nat} {l:List α} {N:Nat} (h:lI f l<=N) {x:α} (hx:x∈l):f x<=N:=Nat.le_trans (zA f l x hx) h
theorem ae.PS {a:ae} {N:Nat} (h:a.sz<=N):lI List.length a.aQ<=N:=by rw[ae.jO] at h;omega
theorem ae.abX {a:ae} {N:Nat} (h:a.sz<=N):a.Name.length<=N:=by rw[ae.jO] at h;omega
theorem ae.TD {a:ae} {N:Nat} (h:a.sz<=N):lI ae.sz a.Kids<=N:=by rw[ae.jO] at h;omega
theorem ae.jP {a:ae} {N:Nat} (h:a.sz<=N):a.Kids.length<=N:=Nat.le_trans (lC _ _) (ae.TD h)
theorem ae.TS {a:ae} {N:Nat} (h:a.sz<=N):a.aQ.length<=N:=Nat.le_trans (lC _ _) (ae.PS h)
theorem ae.rD {a x:ae} (h:x∈a.Kids):x.sz<a.sz:=by
 rw[ae.jO a];have:=Jk ae.sz _ _ h;omega
theorem afg (t:ae) (h:t.sz<=1048576):M.qp t=some (t.Kids.any sF):=by
 have hl:=ae.jP h;have e:=uA (p:=sF) (F:=fun f i=>M.iC f i t) (e:=()) (fun _=>true) t.Kids (by omega) (fun f k hk=>by
  show M.iC (f+1) (k:Int) t=_
  rw[M.iC];simp only[ae.bM,getD_lt hk,Int.toNat_natCast,dM,Int.ofNat_lt,hk,decide_true,cond_true,Bool.true_or,Bool.true_and,Bool.and_true,nM hk (by omega:t.Kids.length<2^62),sF]) (fun f=>by
  show M.iC (f+1) _ t=_
  rw[M.iC];simp)
 unfold M.qp;rw[ae.bM,oJ];have e':M.iC aP 0 t=_:=e;rw[e']
 cases t.Kids.findIdx? sF<;>simp
theorem adN (lo hi:Int):∀(m:Nat) (t:ae),t.sz<m->t.sz<=1048576->M.kV m t lo hi=some (FI (fun k=>decide (lo<=k)&&decide (k<=hi)) t)
 |0,t,h,_=>absurd h (Nat.not_lt_zero _)
 |m+1,t,h,hN=>by
  have hl:=ae.jP hN;have e:=uA (p:=FI (fun k=>decide (lo<=k)&&decide (k<=hi))) (F:=fun f i=>M.jY (M.kV m) lo hi f i t) (e:=()) (fun _=>true) t.Kids (by omega) (fun f k hk=>by
   show M.jY (M.kV m) lo hi (f+1) (k:Int) t=_
   rw[M.jY];have hx:=ae.rD (List.getElem_mem hk);simp only[ae.bM,getD_lt hk,adN lo hi m t.Kids[k] (by omega) (by omega),Int.toNat_natCast,dM,Int.ofNat_lt,hk,decide_true,cond_true,Bool.true_or,Bool.true_and,Bool.and_true,nM hk (by omega:t.Kids.length<2^62),Option.getD_some,Option.isSome_some]) (fun f=>by
   show M.jY (M.kV m) lo hi (f+1) _ t=_
   rw[M.jY];simp)
  show M.Ai (M.kV m) t lo hi=_
  unfold M.Ai;have e':M.jY (M.kV m) lo hi aP 0 t=_:=e;rw[ae.bM,e',abV,UN,oJ]
  cases (decide (lo<=t.Kind)&&decide (t.Kind<=hi))<;>cases t.Kids.findIdx? (FI fun k=>decide (lo<=k)&&decide (k<=hi))<;>simp
theorem aaY (l:List Int) (v:Int) (hl:l.length<2^62):M.dW l v=some (l.any fun x=>v==x):=by
 have e:=uA (p:=fun x=>v==x) (F:=M.dI l v (l.length:Int)) (e:=()) (fun k=>k) l hl (fun f k hk=>by
  rw[M.dI];simp only[getD_lt hk,Int.toNat_natCast,dM,Int.ofNat_lt,hk,decide_true,cond_true,Bool.true_or,Bool.true_and,Bool.and_true,nM hk hl]) (fun f=>by rw[M.dI];simp)
 unfold M.dW M.gK;rw[e,oJ]
 cases l.findIdx? (fun x=>v==x)<;>simp
theorem adO (ks:List Int) (hk:ks.length<2^62):∀(m:Nat) (t:ae),t.sz<m->t.sz<=1048576->M.kD m t ks=some (FI (fun k=>ks.any fun x=>k==x) t)
 |0,t,h,_=>absurd h (Nat.not_lt_zero _)
 |m+1,t,h,hN=>by
  have hl:=ae.jP hN;have e:=uA (p:=FI (fun k=>ks.any fun x=>k==x)) (F:=M.bZ (M.kD m) t.Kids ks (t.Kids.length:Int)) (e:=()) (fun k=>k) t.Kids (by omega) (fun f k hk'=>by
   rw[M.bZ];have hx:=ae.rD (List.getElem_mem hk');have c:M.qV (M.kD m) t.Kids[k] ks=some (FI (fun k=>ks.any fun x=>k==x) t.Kids[k]):=by
    unfold M.qV;simp only[ae.bM,adO ks hk m t.Kids[k] (by omega) (by omega)];rfl
   simp only[ae.bM,getD_lt hk',c,Int.toNat_natCast,dM,Int.ofNat_lt,hk',decide_true,cond_true,Bool.true_or,Bool.true_and,Bool.and_true,nM hk' (by omega:t.Kids.length<2^62),Option.getD_some,Option.isSome_some]) (fun f=>by
   rw[M.bZ];simp)
  have e2:M.dG (M.kD m) t.Kids ks=some (t.Kids.any (FI (fun k=>ks.any fun x=>k==x))):=by
   unfold M.dG M.eX;rw[e,oJ]
   cases t.Kids.findIdx? (FI (fun k=>ks.any fun x=>k==x))<;>simp
  show M.yL (M.kD m) t ks=_
  unfold M.yL;rw[e2,aaY ks _ hk,abV,UN];simp
theorem Yn : ∀(l:List ae),(∀x∈l,iZ x<=x.sz+1)->CW l<=lI ae.sz l
 | [],_=>Nat.le_refl _
 |x::r,h=>by
  have:=Yn r fun y hy=>h y (List.mem_cons_of_mem _ hy)
  have:=h x (List.mem_cons_self ..);simp only[CW,lI];omega
theorem UQ : ∀(n:Nat) (t:ae),t.sz<n->iZ t<=t.sz+1
 |0,t,h=>absurd h (Nat.not_lt_zero _)
 |n+1,t,h=>by
  have:=Yn t.Kids fun x hx=>UQ n x (by have:=ae.rD hx;omega)
  rw[Ey,ae.jO];omega
theorem acQ (t:ae):iZ t<=t.sz+1:=UQ _ t (Nat.lt_succ_self _)
theorem afh {l:List ae} {N:Nat} (h:lI ae.sz l<=N):CW l<=N:=Nat.le_trans (Yn l fun x _=>acQ x) h
theorem abY : ∀(m:Nat) (t:ae),t.sz<m->t.sz<=1048576->M.uh m t=some ((iZ t:Nat):Int)
 |0,t,h,_=>absurd h (Nat.not_lt_zero _)
 |m+1,t,h,hN=>by
  have hl:=ae.jP hN;have hs:=afh (ae.TD hN);have key:∀f k (a:Nat),k<=t.Kids.length->t.Kids.length-k<f->a+CW (t.Kids.drop k)<=1048577->M.qw (M.uh m) t.Kids (t.Kids.length:Int) f (a:Int) (k:Int)=some (((a+CW (t.Kids.drop k):Nat)):Int):=by
   intro f
   induction f with
   |zero=>intro k a h1 h2;omega
   |succ f ih=>
    intro k a h1 h2 h3
    rcases Nat.lt_or_ge k t.Kids.length with hk |hk
    ·rw[M.qw]
     have hx:=ae.rD (List.getElem_mem hk);rw[Xo hk] at h3 ⊢;have hw:Go.IntKind.wrap .i64 ((a:Int)+((iZ t.Kids[k]:Nat):Int))=((a+iZ t.Kids[k]:Nat):Int):=by rw[wrap_i64 (by omega) (by omega)];omega
     simp only[ae.bM,getD_lt hk,abY m t.Kids[k] (by omega) (by omega),Int.toNat_natCast,dM,Int.ofNat_lt,hk,decide_true,cond_true,Bool.true_and,Bool.and_true,nM hk (by omega:t.Kids.length<2^62),Option.getD_some,Option.isSome_some,hw]
     rw[ih (k+1) _ (by omega) (by omega) (by omega)]
     congr 1;omega
    ·have:k=t.Kids.length:=by omega
     subst this;rw[M.qw];simp[List.drop_length,CW]
  show M.DC (M.uh m) t=_
  unfold M.DC;have e:=key aP 0 1 (Nat.zero_le _) (by have:=bG;omega) (by simp only[List.drop_zero];omega)
  have e':M.qw (M.uh m) t.Kids (t.Kids.length:Int) aP 1 0=_:=e;rw[e',Ey];rfl
theorem adP : ∀(m:Nat) (t:ae) (L:Nat),L<m->L<=100->t.sz<=1048576->M.yH m t (L:Int)=some ((min (lV t) (L+1):Nat):Int)
 |0,t,L,h,_,_=>absurd h (Nat.not_lt_zero _)
 |m+1,t,L,h,hL,hN=>by
  have hl:=ae.jP hN
  show M.HY (M.yH m) t (L:Int)=_
  unfold M.HY
  cases L with
  |zero=>
   have:=UO t;rw[show min (lV t) (0+1)=1 by omega];rfl
  |succ L=>
   have hw0:Go.IntKind.wrap .i64 (((L+1:Nat):Int)-1)=(L:Int):=by rw[wrap_i64 (by omega) (by omega)];omega
   have key:∀f k (a:Nat),k<=t.Kids.length->t.Kids.length-k<f->M.uf (M.yH m) ((L+1:Nat):Int) t.Kids (t.Kids.length:Int) f (a:Int) (k:Int)=some ((max a (min (LM (t.Kids.drop k)) (L+1)):Nat):Int):=by
    intro f
    induction f with
    |zero=>intro k a h1 h2;omega
    |succ f ih=>
     intro k a h1 h2
     rcases Nat.lt_or_ge k t.Kids.length with hk |hk
     ·rw[M.uf]
      have hx:=ae.rD (List.getElem_mem hk);simp only[ae.bM,getD_lt hk,hw0,adP m t.Kids[k] L (by omega) (by omega) (by omega),Int.toNat_natCast,dM,Int.ofNat_lt,hk,decide_true,cond_true,Bool.true_and,Bool.and_true,nM hk (by omega:t.Kids.length<2^62),Option.getD_some,Option.isSome_some]
      have hm:(bif decide (a<min (lV t.Kids[k]) (L+1)) then ((min (lV t.Kids[k]) (L+1):Nat):Int) else (a:Int))=((max a (min (lV t.Kids[k]) (L+1)):Nat):Int):=by
       by_cases hc:a<min (lV t.Kids[k]) (L+1)
       ·simp only[hc,decide_true,cond_true];omega
       ·simp only[hc,decide_false,cond_false];omega
      rw[hm,ih (k+1) _ (by omega) (by omega),Xp hk]
      congr 1;omega
     ·have:k=t.Kids.length:=by omega
      subst this;rw[M.uf];simp[List.drop_length,LM]
   have e:=key aP 0 0 (Nat.zero_le _) (by have:=bG;omega)
   have e':M.uf (M.yH m) ((L+1:Nat):Int) t.Kids (t.Kids.length:Int) aP 0 0=_:=e;have d:(((L+1:Nat):Int)==0)=false:=by rw[beq_eq_false_iff_ne];omega
   rw[d,e',PR];simp only[cond_false,List.drop_zero];rw[wrap_i64 (by omega) (by omega)]
   congr 1;omega
end M
namespace M
open Go.V (inB qg aP bG)
def N9 (d:Nat) (t:ae):Int×Int:=if d+lV t<=5 /\ iZ t<=24 then (((lV t:Nat):Int),((iZ t:Nat):Int)) else (5,25)
theorem adQ : ∀(m d:Nat) (t:ae),d<=5->6<=m+d->t.sz<=1048576->M.oC m t (d:Int)=some (N9 d t)
 |0,d,t,h1,h2,_=>by omega
 |m+1,d,t,h1,h2,hN=>by
  have hl:=ae.jP hN;have hdp:=UO t
  show M.yF (M.oC m) t (d:Int)=_
  unfold M.yF
  by_cases h5:d=5
  ·subst h5
   have:N9 5 t=(5,25):=by unfold N9;rw[if_neg (by omega)]
   rw[this];rfl
  have d4:decide ((4:Int)<(d:Int))=false:=by rw[decide_eq_false_iff_not];omega
  by_cases h24:24<t.Kids.length
  ·have:N9 d t=(5,25):=by
    unfold N9;have:=Zx t.Kids;rw[if_neg (by rw[Ey];omega)]
   rw[this,d4];have:decide ((24:Int)<((t.Kids.length:Nat):Int))=true:=by rw[decide_eq_true_eq];omega
   rw[this];rfl
  have d24:decide ((24:Int)<((t.Kids.length:Nat):Int))=false:=by rw[decide_eq_false_iff_not];omega
  have hw:Go.IntKind.wrap .i64 ((d:Int)+1)=((d+1:Nat):Int):=by rw[wrap_i64 (by omega) (by omega)];omega
  have mx:∀a b:Nat,M.yE (a:Int) (b:Int)=some ((max a b:Nat):Int):=fun a b=>by
   unfold M.yE
   by_cases hc:b<a
   ·have:decide ((b:Int)<(a:Int))=true:=by rw[decide_eq_true_eq];omega
    rw[this];simp only[cond_true];congr 1;omega
   ·have:decide ((b:Int)<(a:Int))=false:=by rw[decide_eq_false_iff_not];omega
    rw[this];simp only[cond_false];congr 1;omega
  have key:∀f k (a p:Nat),k<=t.Kids.length->t.Kids.length-k<f->p<=24->M.mi (M.oC m) (d:Int) f (a:Int) (p:Int) (k:Int) t=
   some (if d+1+LM (t.Kids.drop k)<=5 /\ p+CW (t.Kids.drop k)<=24 then .inr (((max a (LM (t.Kids.drop k)):Nat):Int),((p+CW (t.Kids.drop k):Nat):Int)) else .inl (5,25)):=by
   intro f
   induction f with
   |zero=>intro k a p h1 h2;omega
   |succ f ih=>
    intro k a p h1 h2 h3
    rcases Nat.lt_or_ge k t.Kids.length with hk |hk
    ·rw[M.mi]
     have hx:=ae.rD (List.getElem_mem hk);have hc:=adQ m (d+1) t.Kids[k] (by omega) (by omega) (by omega)
     rw[Xp hk,Xo hk];simp only[ae.bM,getD_lt hk,hw,hc,Int.toNat_natCast,dM,Int.ofNat_lt,hk,decide_true,cond_true,Bool.true_and,Bool.and_true,nM hk (by omega:t.Kids.length<2^62),Option.getD_some,Option.isSome_some]
     unfold N9
     by_cases hv:d+1+lV t.Kids[k]<=5 /\ iZ t.Kids[k]<=24
     ·rw[if_pos hv]
      have hw2:Go.IntKind.wrap .i64 ((p:Int)+((iZ t.Kids[k]:Nat):Int))=((p+iZ t.Kids[k]:Nat):Int):=by rw[wrap_i64 (by omega) (by omega)];omega
      dsimp only;rw[hw2,mx]
      by_cases hp:24<p+iZ t.Kids[k]
      ·have:decide ((24:Int)<((p+iZ t.Kids[k]:Nat):Int))=true:=by rw[decide_eq_true_eq];omega
       rw[this,if_neg (by omega)]
       simp
      ·have:decide ((24:Int)<((p+iZ t.Kids[k]:Nat):Int))=false:=by rw[decide_eq_false_iff_not];omega
       rw[this];simp only[cond_false,Option.isSome_some,Bool.true_and,cond_true,Option.getD_some];rw[ih (k+1) _ _ (by omega) (by omega) (by omega)]
       have e1:(d+1+LM (t.Kids.drop (k+1))<=5 /\ p+iZ t.Kids[k]+CW (t.Kids.drop (k+1))<=24)↔(d+1+max (lV t.Kids[k]) (LM (t.Kids.drop (k+1)))<=5 /\ p+(iZ t.Kids[k]+CW (t.Kids.drop (k+1)))<=24):=by omega
       by_cases hq:d+1+LM (t.Kids.drop (k+1))<=5 /\ p+iZ t.Kids[k]+CW (t.Kids.drop (k+1))<=24
       ·rw[if_pos hq,if_pos (e1.1 hq)]
        congr 3
        ·omega
        ·omega
       ·rw[if_neg hq,if_neg (fun h=>hq (e1.2 h))]
     ·rw[if_neg hv,if_neg (by omega)]
      have hw2:Go.IntKind.wrap .i64 ((p:Int)+25)=(p:Int)+25:=wrap_i64 (by omega) (by omega)
      have mx5:M.yE (a:Int) 5=some ((max a 5:Nat):Int):=mx a 5;dsimp only;rw[hw2,mx5];have:decide ((24:Int)<(p:Int)+25)=true:=by rw[decide_eq_true_eq];omega
      rw[this];simp
    ·have:k=t.Kids.length:=by omega
     subst this;rw[M.mi,List.drop_length];have hq:d+1+LM []<=5 /\ p+CW []<=24:=⟨by show d+1+0<=5;omega,by show p+0<=24;omega⟩
     rw[if_pos hq];simp[LM,CW]
  have e:=key aP 0 0 1 (Nat.zero_le _) (by have:=bG;omega) (by omega)
  have e':M.mi (M.oC m) (d:Int) aP 0 1 0 t=_:=e;rw[ae.bM,d4,d24,e'];simp only[List.drop_zero,Bool.or_self,cond_false];unfold N9;rw[PR,Ey]
  by_cases hq:d+1+LM t.Kids<=5 /\ 1+CW t.Kids<=24
  ·rw[if_pos hq,if_pos (by omega)]
   simp only
   congr 2
   rw[wrap_i64 (by omega) (by omega)];omega
  ·rw[if_neg hq,if_neg (by omega)]
theorem UR {p:Int->Bool} {l:List ae} (h:l.length=1):FI p (l.getD 0 ae.zero)=N8 p l:=by
 match l,h with
 | [x],_=>simp[N8]
theorem PT {p q:Int->Bool} (h:∀k,p k=q k):FI p=FI q:=by
 have:p=q:=funext h;rw[this]
theorem b21 (k:Int):(decide ((21:Int)<=k)&&decide (k<=21))=(k==21):=by
 rw[Bool.eq_iff_iff];simp only[Bool.and_eq_true,decide_eq_true_eq,beq_iff_eq];omega
theorem Jr (n m:Nat):(((n:Nat):Int)==((m:Nat):Int))=(n==m):=by
 rw[Bool.eq_iff_iff];simp only[beq_iff_eq];omega
theorem ZB (n:Nat):(((n:Nat):Int)==1)=(n==1):=Jr n 1
theorem ZC (n:Nat):(((n:Nat):Int)==2)=(n==2):=Jr n 2
theorem ZE (n:Nat):(((n:Nat):Int)==0)=(n==0):=Jr n 0
theorem ahh (n:Nat):inB (0:Int) n=decide (0<n):=dM 0 n
theorem afi (t:ae) (h:t.sz<=1048576):M.wX t=some (EX t):=by
 have hn:=Zz t.Name (ae.abX h);have hb:=adL t.aQ (ae.PS h);have hu:=afg t h;have hh:t.Kids.length=1->M.rU (M.ae.re (List.getD t.Kids 0 ae.zero)) 21 21=some (N8 (fun k=>k==21) t.Kids):=fun h1=>by
  have hx:(t.Kids.getD 0 ae.zero).sz<t.sz:=by
   rw[getD_lt (by omega)];exact ae.rD (List.getElem_mem _)
  rw[ae.bM,show M.rU=M.kV aP from rfl,adN 21 21 aP _ (vZ (by omega)) (by omega),PT b21,UR h1]
 unfold M.wX;simp only[ae.bM,hn,hb,hu,Option.getD_some,Option.isSome_some,Bool.true_or,Bool.and_true,Bool.true_and,cond_true,ZB,ZC,ZE,Jr,ahh,Int.toNat_zero];unfold EX Zc;have e0:decide ((0:Int)<((t.aQ.length:Nat):Int))= !(t.aQ.length==0):=by
  rw[Bool.eq_iff_iff];simp only[decide_eq_true_eq,Bool.not_eq_true',beq_eq_false_iff_ne];omega
 have e1:decide ((1:Int)<=((t.Kids.length:Nat):Int))=decide (1<=t.Kids.length):=by simp only[decide_eq_decide];omega
 have e2:decide (((t.Kids.length:Nat):Int)<=6)=decide (t.Kids.length<=6):=by simp only[decide_eq_decide];omega
 rw[e0,e1,e2];have yO:N7 t.aQ=true->(t.aQ.length==0)=false:=fun h=>by
  simp only[N7,Bool.and_eq_true,decide_eq_true_eq] at h;rw[beq_eq_false_iff_ne];omega
 have yP:lU t.Name=true->(t.Name==[])=false:=fun h=>by
  simp only[lU,Bool.and_eq_true,decide_eq_true_eq] at h;rw[beq_eq_false_iff_ne];intro e;rw[e] at h;simp at h
 unfold XW afc;have hz:t.Kids.length=1->decide (0<t.Kids.length)=true:=fun h1=>by rw[h1];rfl
 have hl1:(t.Kids.length==1)=true->t.Kids.length=1:=fun h1=>by simpa using h1
 have hbr:(t.Kids.length==1)=true->M.rU (M.ae.re (List.getD t.Kids 0 ae.zero)) 21 21=some (N8 (fun k=>k==21) t.Kids) /\ decide (0<t.Kids.length)=true:=fun h1=>⟨hh (hl1 h1),hz (hl1 h1)⟩
 clear hn hb hu hh hz hl1;simp only[ae.bM] at hbr ⊢
 generalize hK:t.Kind=K
 generalize (t.Name==[])=nn at yP ⊢
 generalize lU t.Name=no at yP ⊢
 generalize N7 t.aQ=lo at yO ⊢
 generalize (t.aQ.length==0)=ll at yO ⊢
 generalize M.rU (List.getD t.Kids 0 ae.zero) 21 21=o at hbr ⊢
 generalize decide (0<t.Kids.length)=z at hbr ⊢
 generalize (t.Kids.length==1)=l1 at hbr ⊢
 generalize N8 (fun k=>k==21) t.Kids=kh at hbr ⊢
 generalize t.Kids.any sF=au
 generalize (t.Kids.length==2)=l2
 generalize (t.Kids.length==0)=l0
 generalize (t.Kids.length==t.aQ.length)=lk
 generalize decide (1<=t.Kids.length)=ge
 generalize decide (t.Kids.length<=6)=le
 clear hK h e0 e1 e2
 by_cases h12:K=12
 ·subst h12
  cases l1
  ·cases no<;>cases nn<;>simp at yP<;>cases lo<;>cases ll<;>simp at yO<;>simp
  ·obtain ⟨rfl,rfl⟩:=hbr rfl
   cases no<;>cases nn<;>simp at yP<;>cases lo<;>cases ll<;>simp at yO<;>simp
 by_cases h13:K=13
 ·subst h13
  cases l1
  ·cases no<;>cases nn<;>simp at yP<;>cases lo<;>cases ll<;>simp at yO<;>simp
  ·obtain ⟨rfl,rfl⟩:=hbr rfl
   cases no<;>cases nn<;>simp at yP<;>cases lo<;>cases ll<;>simp at yO<;>simp
 by_cases Y2:K=14
 ·subst Y2
  cases l1
  ·cases no<;>cases nn<;>simp at yP<;>cases lo<;>cases ll<;>simp at yO<;>simp
  ·obtain ⟨rfl,rfl⟩:=hbr rfl
   cases no<;>cases nn<;>simp at yP<;>cases lo<;>cases ll<;>simp at yO<;>simp
 by_cases h15:K=15
 ·subst h15
  cases l1
  ·cases no<;>cases nn<;>simp at yP<;>cases lo<;>cases ll<;>simp at yO<;>simp
  ·obtain ⟨rfl,rfl⟩:=hbr rfl
   cases no<;>cases nn<;>simp at yP<;>cases lo<;>cases ll<;>simp at yO<;>simp
 by_cases h16:K=16
 ·subst h16
  cases l1
  ·cases no<;>cases nn<;>simp at yP<;>cases lo<;>cases ll<;>simp at yO<;>simp
  ·obtain ⟨rfl,rfl⟩:=hbr rfl
   cases no<;>cases nn<;>simp at yP<;>cases lo<;>cases ll<;>simp at yO<;>simp
 by_cases h17:K=17
 ·subst h17
  cases l1
  ·cases no<;>cases nn<;>simp at yP<;>cases lo<;>cases ll<;>simp at yO<;>simp
  ·obtain ⟨rfl,rfl⟩:=hbr rfl
   cases no<;>cases nn<;>simp at yP<;>cases lo<;>cases ll<;>simp at yO<;>simp
 by_cases h18:K=18
 ·subst h18
  cases l1
  ·cases no<;>cases nn<;>simp at yP<;>cases lo<;>cases ll<;>simp at yO<;>simp
  ·obtain ⟨rfl,rfl⟩:=hbr rfl
   cases no<;>cases nn<;>simp at yP<;>cases lo<;>cases ll<;>simp at yO<;>simp
 by_cases h19:K=19
 ·subst h19
  cases l1
  ·cases no<;>cases nn<;>simp at yP<;>cases lo<;>cases ll<;>simp at yO<;>simp
  ·obtain ⟨rfl,rfl⟩:=hbr rfl
   cases no<;>cases nn<;>simp at yP<;>cases lo<;>cases ll<;>simp at yO<;>simp
 by_cases h20:K=20
 ·subst h20
  cases l1
  ·cases no<;>cases nn<;>simp at yP<;>cases lo<;>cases ll<;>simp at yO<;>simp
  ·obtain ⟨rfl,rfl⟩:=hbr rfl
   cases no<;>cases nn<;>simp at yP<;>cases lo<;>cases ll<;>simp at yO<;>simp
 by_cases h21:K=21
 ·subst h21
  cases l1
  ·cases no<;>cases nn<;>simp at yP<;>cases lo<;>cases ll<;>simp at yO<;>simp
  ·obtain ⟨rfl,rfl⟩:=hbr rfl
   cases no<;>cases nn<;>simp at yP<;>cases lo<;>cases ll<;>simp at yO<;>simp
 by_cases h22:K=22
 ·subst h22
  cases l1
  ·cases no<;>cases nn<;>simp at yP<;>cases lo<;>cases ll<;>simp at yO<;>simp
  ·obtain ⟨rfl,rfl⟩:=hbr rfl
   cases no<;>cases nn<;>simp at yP<;>cases lo<;>cases ll<;>simp at yO<;>simp
 by_cases h23:K=23
 ·subst h23
  cases l1
  ·cases no<;>cases nn<;>simp at yP<;>cases lo<;>cases ll<;>simp at yO<;>simp
  ·obtain ⟨rfl,rfl⟩:=hbr rfl
   cases no<;>cases nn<;>simp at yP<;>cases lo<;>cases ll<;>simp at yO<;>simp
 have q1:(K==20)=false:=by simpa using h20
 have q2:(K==21)=false:=by simpa using h21
 have q3:(decide ((16:Int)<=K)&&decide (K<=19))=false:=by
  rw[Bool.eq_false_iff];simp only[ne_eq,Bool.and_eq_true,decide_eq_true_eq];omega
 have q4:(K==12)=false:=by simpa using h12
 have q5:(K==13)=false:=by simpa using h13
 have q6:(K==14)=false:=by simpa using Y2
 have q7:(K==15)=false:=by simpa using h15
 have q8:(K==16)=false:=by simpa using h16
 have q9:(K==17)=false:=by simpa using h17
 have q10:(K==22)=false:=by simpa using h22
 have q11:(K==23)=false:=by simpa using h23
 simp only[q1,q2,q3,q4,q5,q6,q7,q8,q9,q10,q11,h12,h13,Y2,h15,h16,h17,h22,h23,or_self,if_false]
 cases nn<;>cases ll<;>simp
end M
namespace M
open Go.V (inB qg aP bG)
theorem ZF : ∀(m:Nat) (t:ae),t.sz<m->t.sz<=1048576->M.jo m t=some (jg t)
 |0,t,h,_=>absurd h (Nat.not_lt_zero _)
 |m+1,t,h,hN=>by
  have hl:=ae.jP hN;have e:=UT (p:=jg) (F:=fun f i=>M.iD (M.jo m) f i t) (e:=()) (b:=false) t.Kids (by omega) (fun f k hk=>by
   show M.iD (M.jo m) (f+1) (k:Int) t=_
   rw[M.iD];have hx:=ae.rD (List.getElem_mem hk);simp only[ae.bM,getD_lt hk,ZF m t.Kids[k] (by omega) (by omega),Int.toNat_natCast,dM,Int.ofNat_lt,hk,decide_true,cond_true,Bool.true_or,Bool.true_and,Bool.and_true,nM hk (by omega:t.Kids.length<2^62),Option.getD_some,Option.isSome_some]
   cases jg t.Kids[k]<;>rfl) (fun f=>by
   show M.iD (M.jo m) (f+1) _ t=_
   rw[M.iD];simp)
  show M.uU (M.jo m) t=_
  unfold M.uU;have e':M.iD (M.jo m) aP 0 t=_:=e;rw[ae.bM,afi t hN,e',zT,A8]
  cases EX t<;>cases t.Kids.all jg<;>simp
theorem ahi (t:ae) (h:t.sz<=1048576):M.BA t=some (tOk t):=by
 unfold M.BA;have e1:M.E5 t=some (jg t):=ZF aP t (vZ h) h;have e2:M.Jl t 1=some (N9 1 t):=adQ aP 1 t (by omega) (by have:=bG;omega) h
 simp only[ae.bM,e1,e2,Option.getD_some,Option.isSome_some,Bool.true_or,Bool.and_true,cond_true];unfold tOk N9
 by_cases hq:1+lV t<=5 /\ iZ t<=24
 ·rw[if_pos hq]
  have a1:decide (((lV t:Nat):Int)<=4)=decide (lV t<=4):=by simp only[decide_eq_decide];omega
  have a2:decide (((iZ t:Nat):Int)<=24)=decide (iZ t<=24):=by simp only[decide_eq_decide];omega
  dsimp only;rw[a1,a2]
 ·rw[if_neg hq]
  have:(decide (lV t<=4)&&decide (iZ t<=24))=false:=by
   rw[Bool.eq_false_iff];simp only[ne_eq,Bool.and_eq_true,decide_eq_true_eq];omega
  rw[this];rfl
theorem adR (t:ae) (h:t.sz<=1048576):M.DK t=some (tOk t):=by
 unfold M.DK;simp only[ae.bM,ahi t h];rfl
end M
namespace M
open Go.V (inB qg aP bG)
theorem afj (l:List ae) (hl:l.length<=1048576):M.dF l=some (l.any sF):=by
 have e:=uA (p:=sF) (F:=M.bY l (l.length:Int)) (e:=()) (fun k=>k) l (by omega) (fun f k hk=>by
  rw[M.bY];simp only[getD_lt hk,Int.toNat_natCast,dM,Int.ofNat_lt,hk,decide_true,cond_true,Bool.true_or,Bool.true_and,Bool.and_true,nM hk (by omega:l.length<2^62)]
  rfl) (fun f=>by rw[M.bY];simp)
 unfold M.dF M.eU;rw[e,oJ]
 cases l.findIdx? sF<;>simp
theorem adS (t:ae) (h:t.sz<=1048576) (n:Nat):M.vg t (n:Int)=some ((t.Kids.length==n)&& !t.Kids.any sF):=by
 unfold M.vg;rw[afj t.Kids (ae.jP h)];simp only[Option.isSome_some,Bool.true_or,Bool.and_true,cond_true,Option.getD_some,Jr]
theorem afk (t:ae) (h:t.sz<=1048576) (rec:ae->Option Bool) (b:Bool) (hb:M.dC rec t.Kids=some (!b)):M.ui rec t=some (b&&EX t):=by
 have hn:=Zy t.Name (ae.abX h);have hlab:=adM t.aQ (ae.PS h);have hk:=adS t h;have hk1:M.vg t 1=some ((t.Kids.length==1)&& !t.Kids.any sF):=hk 1;have hh:t.Kids.length=1->M.pU (M.ae.re (List.getD t.Kids 0 ae.zero)) [21]=some (N8 (fun k=>k==21) t.Kids):=fun h1=>by
  have hx:(t.Kids.getD 0 ae.zero).sz<t.sz:=by
   rw[getD_lt (by omega)];exact ae.rD (List.getElem_mem _)
  have e:FI (fun k=>[(21:Int)].any fun x=>k==x)=FI (fun k=>k==21):=PT fun k=>by simp
  rw[ae.bM,show M.pU=M.kD aP from rfl,adO [21] (by simp) aP _ (vZ (by omega)) (by omega),e,UR h1]
 unfold M.ui;simp only[ae.bM,hb,hn,hlab,hk,hk1,Option.getD_some,Option.isSome_some,Bool.true_or,Bool.and_true,Bool.true_and,cond_true,ZB,ZC,ZE,Jr,ahh,Int.toNat_zero];unfold EX Zc;have e0:decide ((0:Int)<((t.aQ.length:Nat):Int))= !(t.aQ.length==0):=by
  rw[Bool.eq_iff_iff];simp only[decide_eq_true_eq,Bool.not_eq_true',beq_eq_false_iff_ne];omega
 have e1:decide ((1:Int)<=((t.Kids.length:Nat):Int))=decide (1<=t.Kids.length):=by simp only[decide_eq_decide];omega
 have e2:decide (((t.Kids.length:Nat):Int)<=6)=decide (t.Kids.length<=6):=by simp only[decide_eq_decide];omega
 rw[e0,e1,e2];unfold XW afc;have hz:t.Kids.length=1->decide (0<t.Kids.length)=true:=fun h1=>by rw[h1];rfl
 have hl1:(t.Kids.length==1)=true->t.Kids.length=1:=fun h1=>by simpa using h1
 have hbr:(t.Kids.length==1)=true->M.pU (M.ae.re (List.getD t.Kids 0 ae.zero)) [21]=some (N8 (fun k=>k==21) t.Kids) /\ decide (0<t.Kids.length)=true:=fun h1=>⟨hh (hl1 h1),hz (hl1 h1)⟩
 clear hn hlab hk hk1 hh hz hl1 hb;simp only[ae.bM] at hbr ⊢
 generalize hK:t.Kind=K
 generalize (t.Name==[])=nn
 generalize lU t.Name=no
 generalize N7 t.aQ=lo
 generalize (t.aQ.length==0)=ll
 generalize M.pU (List.getD t.Kids 0 ae.zero) [21]=o at hbr ⊢
 generalize decide (0<t.Kids.length)=z at hbr ⊢
 generalize (t.Kids.length==1)=l1 at hbr ⊢
 generalize N8 (fun k=>k==21) t.Kids=kh at hbr ⊢
 generalize t.Kids.any sF=au
 generalize (t.Kids.length==2)=l2
 generalize (t.Kids.length==0)=l0
 have afV:(t.Kids.length==t.Kids.length)=true:=by simp
 rw[afV]
 generalize (t.Kids.length==t.aQ.length)=lk
 generalize decide (1<=t.Kids.length)=ge
 generalize decide (t.Kids.length<=6)=le
 clear hK h e0 e1 e2 afV
 cases b
 ·simp
 by_cases h12:K=12
 ·subst h12
  cases l1
  ·cases no<;>cases nn<;>cases lo<;>cases ll<;>simp
  ·obtain ⟨rfl,rfl⟩:=hbr rfl
   cases no<;>cases nn<;>cases lo<;>cases ll<;>simp
 by_cases h13:K=13
 ·subst h13
  cases l1
  ·cases no<;>cases nn<;>cases lo<;>cases ll<;>simp
  ·obtain ⟨rfl,rfl⟩:=hbr rfl
   cases no<;>cases nn<;>cases lo<;>cases ll<;>simp
 by_cases Y2:K=14
 ·subst Y2
  cases l1
  ·cases no<;>cases nn<;>cases lo<;>cases ll<;>simp
  ·obtain ⟨rfl,rfl⟩:=hbr rfl
   cases no<;>cases nn<;>cases lo<;>cases ll<;>simp
 by_cases h15:K=15
 ·subst h15
  cases l1
  ·cases no<;>cases nn<;>cases lo<;>cases ll<;>simp
  ·obtain ⟨rfl,rfl⟩:=hbr rfl
   cases no<;>cases nn<;>cases lo<;>cases ll<;>simp
 by_cases h16:K=16
 ·subst h16
  cases l1
  ·cases no<;>cases nn<;>cases lo<;>cases ll<;>simp
  ·obtain ⟨rfl,rfl⟩:=hbr rfl
   cases no<;>cases nn<;>cases lo<;>cases ll<;>simp
 by_cases h17:K=17
 ·subst h17
  cases l1
  ·cases no<;>cases nn<;>cases lo<;>cases ll<;>simp
  ·obtain ⟨rfl,rfl⟩:=hbr rfl
   cases no<;>cases nn<;>cases lo<;>cases ll<;>simp
 by_cases h18:K=18
 ·subst h18
  cases l1
  ·cases no<;>cases nn<;>cases lo<;>cases ll<;>simp
  ·obtain ⟨rfl,rfl⟩:=hbr rfl
   cases no<;>cases nn<;>cases lo<;>cases ll<;>simp
 by_cases h19:K=19
 ·subst h19
  cases l1
  ·cases no<;>cases nn<;>cases lo<;>cases ll<;>simp
  ·obtain ⟨rfl,rfl⟩:=hbr rfl
   cases no<;>cases nn<;>cases lo<;>cases ll<;>simp
 by_cases h20:K=20
 ·subst h20
  cases l1
  ·cases no<;>cases nn<;>cases lo<;>cases ll<;>simp
  ·obtain ⟨rfl,rfl⟩:=hbr rfl
   cases no<;>cases nn<;>cases lo<;>cases ll<;>simp
 by_cases h21:K=21
 ·subst h21
  cases l1
  ·cases no<;>cases nn<;>cases lo<;>cases ll<;>simp
  ·obtain ⟨rfl,rfl⟩:=hbr rfl
   cases no<;>cases nn<;>cases lo<;>cases ll<;>simp
 by_cases h22:K=22
 ·subst h22
  cases l1
  ·cases no<;>cases nn<;>cases lo<;>cases ll<;>simp
  ·obtain ⟨rfl,rfl⟩:=hbr rfl
   cases no<;>cases nn<;>cases lo<;>cases ll<;>simp
 by_cases h23:K=23
 ·subst h23
  cases l1
  ·cases no<;>cases nn<;>cases lo<;>cases ll<;>simp
  ·obtain ⟨rfl,rfl⟩:=hbr rfl
   cases no<;>cases nn<;>cases lo<;>cases ll<;>simp
 have q1:(K==20)=false:=by simpa using h20
 have q2:(K==21)=false:=by simpa using h21
 have q3:(decide ((16:Int)<=K)&&decide (K<=19))=false:=by
  rw[Bool.eq_false_iff];simp only[ne_eq,Bool.and_eq_true,decide_eq_true_eq];omega
 have q4:(K==12)=false:=by simpa using h12
 have q5:(K==13)=false:=by simpa using h13
 have q6:(K==14)=false:=by simpa using Y2
 have q7:(K==15)=false:=by simpa using h15
 have q8:(K==16)=false:=by simpa using h16
 have q9:(K==17)=false:=by simpa using h17
 have q10:(K==22)=false:=by simpa using h22
 have q11:(K==23)=false:=by simpa using h23
 simp only[q1,q2,q3,q4,q5,q6,q7,q8,q9,q10,q11,h12,h13,Y2,h15,h16,h17,h22,h23,or_self,if_false]
 cases nn<;>cases ll<;>simp
theorem ZG : ∀(m:Nat) (t:ae),t.sz<m->t.sz<=1048576->M.mG m t=some (jg t)
 |0,t,h,_=>absurd h (Nat.not_lt_zero _)
 |m+1,t,h,hN=>by
  have hl:=ae.jP hN;have e:=uA (p:=fun x=> !jg x) (F:=M.dB (M.mG m) t.Kids (t.Kids.length:Int)) (e:=()) (fun k=>k) t.Kids (by omega) (fun f k hk=>by
   rw[M.dB];have hx:=ae.rD (List.getElem_mem hk);have c:M.qR (M.mG m) t.Kids[k]=some (!jg t.Kids[k]):=by
    unfold M.qR;simp only[ae.bM,ZG m t.Kids[k] (by omega) (by omega)];rfl
   simp only[ae.bM,getD_lt hk,c,Int.toNat_natCast,dM,Int.ofNat_lt,hk,decide_true,cond_true,Bool.true_or,Bool.true_and,Bool.and_true,nM hk (by omega:t.Kids.length<2^62),Option.getD_some,Option.isSome_some]) (fun f=>by
   rw[M.dB];simp)
  have e2:M.dC (M.mG m) t.Kids=some (!LP t.Kids):=by
   unfold M.dC M.fM;have e3:(!LP t.Kids)=t.Kids.any fun x=> !jg x:=by rw[A8,List.not_all_eq_any_not]
   rw[e,e3,oJ]
   cases t.Kids.findIdx? (fun x=> !jg x)<;>simp
  show M.ui (M.mG m) t=_
  rw[afk t hN _ _ e2,zT,Bool.and_comm]
theorem adT (t:ae) (h:t.sz<=1048576):M.DV t=some (tOk t):=by
 unfold M.DV;have e1:M.Jn t=some (jg t):=ZG aP t (vZ h) h;have e2:M.X3 t 4=some ((min (lV t) 5:Nat):Int):=adP aP t 4 (by have:=bG;omega) (by omega) h
 have e3:M.TB t=some ((iZ t:Nat):Int):=abY aP t (vZ h) h;simp only[ae.bM,e1,e2,e3,Option.getD_some,Option.isSome_some,Bool.true_or,Bool.and_true,cond_true];have a1:decide (((min (lV t) 5:Nat):Int)<=4)=decide (lV t<=4):=by simp only[decide_eq_decide];omega
 have a2:decide (((iZ t:Nat):Int)<=24)=decide (iZ t<=24):=by simp only[decide_eq_decide];omega
 rw[a1,a2];rfl
end M
