/-
  NAMES AND TYPES: what is right, in plain Lean.
-/
import Derived.Test.YtembifnelpdbkaaGreatDoorXEpl4
import Derived.Test.YtembifnelpdbkaaGreatDoorXEFH
set_option linter.unusedVariables false
namespace M
open Go.V (inB xG aA bU)
def atF (c:UInt8):Bool:=decide ((97:Int)<=((c.toNat:Nat):Int))&&decide (((c.toNat:Nat):Int)<=122)
def aDu (c:UInt8):Bool:=decide ((48:Int)<=((c.toNat:Nat):Int))&&decide (((c.toNat:Nat):Int)<=57)
def akG (c:UInt8):Bool:=((c.toNat:Nat):Int)==45
def Em (s:List UInt8) (k:Nat):Bool:=atF (s.getD k 0)||(decide (0<k)&&((aDu (s.getD k 0)||akG (s.getD k 0))&& !(akG (s.getD k 0)&&akG (s.getD (k-1) 0))))
def fO (s:List UInt8):Bool:=(List.range s.length).all (Em s)&&((decide (1<=s.length)&&decide (s.length<=12))&& !akG (s.getD (s.length-1) 0))
def agC (l:List (List UInt8)):Bool:=(decide (1<=l.length)&&decide (l.length<=16))&&(nodupB l&&l.all fO)
mutual
def iF : ae->Nat
 | .mk _ _ _ kids=>1+oQ kids
def oQ : List ae->Nat
 | []=>0
 |x::r=>iF x+oQ r
end
mutual
def rO : ae->Nat
 | .mk _ _ _ kids=>1+adV kids
def adV : List ae->Nat
 | []=>0
 |x::r=>max (rO x) (adV r)
end
mutual
def LX (p:Int->Bool):ae->Bool
 | .mk k _ _ kids=>p k||agD p kids
def agD (p:Int->Bool):List ae->Bool
 | []=>false
 |x::r=>LX p x||agD p r
end
theorem zV (t:ae):iF t=1+oQ t.Kids:=by cases t;rfl
theorem ajh (t:ae):rO t=1+adV t.Kids:=by cases t;rfl
theorem ax9 (p:Int->Bool) (t:ae):LX p t=(p t.Kind||agD p t.Kids):=by cases t;rfl
theorem aoX (p:Int->Bool):∀l,agD p l=l.any (LX p)
 | []=>rfl
 |x::r=>by rw[agD,List.any_cons,aoX p r]
def wH (t:ae):Bool:=t.Kind==1
def YX (t:ae):Bool:=(t.Kind==20)||(t.Kind==21)
def aDv (t:ae):Bool:=decide ((16:Int)<=t.Kind)&&decide (t.Kind<=19)
def aya (t:ae):Bool:=
 if t.Kind=12 \/ t.Kind=13 then (t.Kids.length==1)&& !t.Kids.any wH
 else if t.Kind=14 then t.Kids.length==2
 else if t.Kind=15 then (decide (1<=t.Kids.length)&&decide (t.Kids.length<=6))&& !t.Kids.any wH
 else if t.Kind=16 then (t.Kids.length==t.eP.length)&& !t.Kids.any wH
 else if t.Kind=17 then t.Kids.length==t.eP.length
 else if t.Kind=22 \/ t.Kind=23 then (t.Kids.length==1)&& !agD (fun k=>k==21) t.Kids
 else (decide ((1:Int)<=t.Kind)&&decide (t.Kind<=23))&&(t.Kids.length==0)
def OO (t:ae):Bool:=
 ((if aDv t then agC t.eP else t.eP.length==0)&&(if YX t then fO t.Name else t.Name==[]))&&aya t
mutual
def jv : ae->Bool
 | .mk k n l kids=>OO (.mk k n l kids)&&adW kids
def adW : List ae->Bool
 | []=>true
 |x::r=>jv x&&adW r
end
theorem JZ (t:ae):jv t=(OO t&&adW t.Kids):=by cases t;rfl
theorem LW : ∀l,adW l=l.all jv
 | []=>rfl
 |x::r=>by rw[adW,List.all_cons,LW r]
def tOk (t:ae):Bool:=(decide (rO t<=4)&&decide (iF t<=24))&&jv t
theorem aoE : ∀(l:List ae) (x:ae),x∈l->iF x<=oQ l
 |y::r,x,h=>by
  rcases List.mem_cons.1 h with rfl |h
  ·simp only[oQ];omega
  ·have:=aoE r x h;simp only[oQ];omega
theorem avq : ∀l:List ae,l.length<=oQ l
 | []=>Nat.le_refl _
 |x::r=>by have:=avq r;simp only[oQ,List.length_cons,zV x];omega
theorem Ff {l:List ae} {k:Nat} (h:k<l.length):oQ (l.drop k)=iF l[k]+oQ (l.drop (k+1)):=by rw[iQ h];rfl
theorem arY {l:List ae} {k:Nat} (h:k<l.length):adV (l.drop k)=max (rO l[k]) (adV (l.drop (k+1))):=by rw[iQ h];rfl
theorem aoY (t:ae):1<=rO t:=by rw[ajh];omega
end M
set_option linter.unusedSimpArgs false
namespace M
open Go.V (inB xG aA bU)
theorem qU {n:Nat} (h:n<=1048576):n<aA:=by have:=bU;omega
theorem akC {k n:Nat} (h0:0<k) (h:k<=n) (hn:n<2^62):Go.IntKind.wrap .i64 ((k:Int)-1)=((k-1:Nat):Int):=by
 rw[wrap_i64 (by omega) (by omega)];omega
theorem Gu (s:List UInt8) (hs:s.length<=1048576):M.ng s=some (fO s):=by
 unfold M.ng;rw[uQ (p:=Em s) (F:=M.wE s (s.length:Int)) (e:=s) (b:=false) s.length (by omega) (fun f k hk=>by
  rw[M.wE];simp only[Int.toNat_natCast,bf,Int.ofNat_lt,hk,decide_true,cond_true,Bool.true_or,Bool.true_and,Bool.and_true,df hk (dI hs),Em,atF,aDu,akG,rW]
  generalize decide ((97:Int)<=(((s.getD k 0).toNat:Nat):Int))=a1
  generalize decide ((((s.getD k 0).toNat:Nat):Int)<=122)=a2
  generalize decide ((48:Int)<=(((s.getD k 0).toNat:Nat):Int))=a3
  generalize decide ((((s.getD k 0).toNat:Nat):Int)<=57)=a4
  generalize ((((s.getD k 0).toNat:Nat):Int)==45)=a5
  rcases Nat.eq_zero_or_pos k with h0 |h0
  ·subst h0
   cases a1<;>cases a2<;>cases a3<;>cases a4<;>cases a5<;>simp
  ·have e0:((k:Int)==0)=false:=by rw[beq_eq_false_iff_ne];omega
   have hk1:k-1<s.length:=by omega
   simp only[e0,akC h0 (Nat.le_of_lt hk) (dI hs),Int.toNat_natCast,bf,hk1,h0,decide_true]
   generalize ((((s.getD (k-1) 0).toNat:Nat):Int)==45)=a6
   cases a1<;>cases a2<;>cases a3<;>cases a4<;>cases a5<;>cases a6<;>simp) (fun f=>by rw[M.wE];simp)]
 unfold fO
 cases hall:(List.range s.length).all (Em s)
 ·simp
 ·simp only[if_true,rW,Bool.true_and]
  rcases Nat.eq_zero_or_pos s.length with h0 |h0
  ·simp[h0]
  ·have h1:s.length-1<s.length:=by omega
   have e1:decide ((1:Int)<=((s.length:Nat):Int))=decide (1<=s.length):=by simp only[decide_eq_decide];omega
   have e2:decide (((s.length:Nat):Int)<=12)=decide (s.length<=12):=by simp only[decide_eq_decide];omega
   simp only[akC h0 (Nat.le_refl _) (dI hs),Int.toNat_natCast,bf,h1,decide_true,Bool.true_or,Bool.and_true,cond_true,e1,e2,akG]
theorem Gt (s:List UInt8) (hs:s.length<=1048576):M.lJ s=some (fO s):=by
 unfold M.lJ
 rcases Nat.eq_zero_or_pos s.length with h0 |h0
 ·have:s=[]:=List.eq_nil_of_length_eq_zero h0
  subst this;rfl
 have h1:s.length-1<s.length:=by omega
 simp only[akC h0 (Nat.le_refl _) (dI hs),Int.toNat_natCast,bf,h1,Int.toNat_zero,decide_true,Bool.true_or,Bool.and_true,cond_true];have hz:inB (0:Int) s.length=true:=by
  show inB ((0:Nat):Int) s.length=true
  rw[bf];simpa using h0
 simp only[hz,Bool.true_or,Bool.and_true,cond_true];have e1:decide (((s.length:Nat):Int)<1)= !decide (1<=s.length):=by rw[<-decide_not];simp only[decide_eq_decide];omega
 have e2:decide ((12:Int)<((s.length:Nat):Int))= !decide (s.length<=12):=by rw[<-decide_not];simp only[decide_eq_decide];omega
 have e3:decide ((((s.getD 0 0).toNat:Nat):Int)<97)= !decide ((97:Int)<=(((s.getD 0 0).toNat:Nat):Int)):=by rw[<-decide_not];simp only[decide_eq_decide];omega
 have e4:decide ((122:Int)<(((s.getD 0 0).toNat:Nat):Int))= !decide ((((s.getD 0 0).toNat:Nat):Int)<=122):=by rw[<-decide_not];simp only[decide_eq_decide];omega
 rw[e1,e2,e3,e4]
 by_cases hlow:atF (s.getD 0 0)=true
 ·have hl:=hlow
  simp only[atF,Bool.and_eq_true] at hl;rw[uQ (p:=Em s) (F:=M.xm s) (e:=()) (b:=false) s.length (by omega) (fun f k hk=>by
   rw[M.xm];have f1:decide ((((s.getD k 0).toNat:Nat):Int)<97)= !decide ((97:Int)<=(((s.getD k 0).toNat:Nat):Int)):=by rw[<-decide_not];simp only[decide_eq_decide];omega
   have f2:decide ((122:Int)<(((s.getD k 0).toNat:Nat):Int))= !decide ((((s.getD k 0).toNat:Nat):Int)<=122):=by rw[<-decide_not];simp only[decide_eq_decide];omega
   have f3:decide ((((s.getD k 0).toNat:Nat):Int)<48)= !decide ((48:Int)<=(((s.getD k 0).toNat:Nat):Int)):=by rw[<-decide_not];simp only[decide_eq_decide];omega
   have f4:decide ((57:Int)<(((s.getD k 0).toNat:Nat):Int))= !decide ((((s.getD k 0).toNat:Nat):Int)<=57):=by rw[<-decide_not];simp only[decide_eq_decide];omega
   simp only[Int.toNat_natCast,bf,Int.ofNat_lt,hk,decide_true,cond_true,Bool.true_or,Bool.true_and,Bool.and_true,df hk (dI hs),Em,atF,aDu,akG,rW,f1,f2,f3,f4];have dash:atF (s.getD k 0)=true->((((s.getD k 0).toNat:Nat):Int)==45)=false:=fun h=>by
    simp only[atF,Bool.and_eq_true,decide_eq_true_eq] at h;rw[beq_eq_false_iff_ne];omega
   simp only[atF] at dash
   rcases Nat.eq_zero_or_pos k with k0 |k0
   ·subst k0
    rw[hl.1,hl.2] at*;simp only[Bool.and_self] at dash;rw[dash trivial];simp
   ·have hk1:k-1<s.length:=by omega
    simp only[akC k0 (Nat.le_of_lt hk) (dI hs),Int.toNat_natCast,bf,hk1,k0,decide_true]
    generalize ((((s.getD (k-1) 0).toNat:Nat):Int)==45)=a6
    revert dash
    generalize decide ((97:Int)<=(((s.getD k 0).toNat:Nat):Int))=a1
    generalize decide ((((s.getD k 0).toNat:Nat):Int)<=122)=a2
    generalize decide ((48:Int)<=(((s.getD k 0).toNat:Nat):Int))=a3
    generalize decide ((((s.getD k 0).toNat:Nat):Int)<=57)=a4
    generalize ((((s.getD k 0).toNat:Nat):Int)==45)=a5
    intro dash
    cases a1<;>cases a2<;>cases a3<;>cases a4<;>cases a5<;>cases a6<;>simp at dash ⊢) (fun f=>by rw[M.xm];simp)]
  rw[hl.1,hl.2];unfold fO akG
  cases (List.range s.length).all (Em s)<;>cases decide (1<=s.length)<;>cases decide (s.length<=12)<;>cases ((((s.getD (s.length-1) 0).toNat:Nat):Int)==45)<;>rfl
 ·have hno:fO s=false:=by
   unfold fO;have:(List.range s.length).all (Em s)=false:=by
    rw[List.all_eq_false];refine ⟨0,by simpa using h0, ?_⟩
    simp only[Bool.not_eq_true] at hlow;simp only[Em,hlow];intro h;cases h
   rw[this];rfl
  rw[hno];simp only[Bool.not_eq_true] at hlow;simp only[atF] at hlow
  cases h3:decide ((97:Int)<=(((s.getD 0 0).toNat:Nat):Int))<;>cases h4:decide ((((s.getD 0 0).toNat:Nat):Int)<=122)<;>rw[h3,h4] at hlow<;>simp at hlow ⊢
end M
namespace M
open Go.V (inB xG aA bU)
theorem nodup_range (l:List (List UInt8)):(List.range l.length).all (fun i=>(List.range i).all fun k=> !(l.getD k []==l.getD i []))=nodupB l:=by
 rw[Bool.eq_iff_iff,ER,List.Nodup,List.pairwise_iff_getElem];simp only[List.all_eq_true,List.mem_range,Bool.not_eq_true',beq_eq_false_iff_ne];constructor
 ·intro h i j hi hj hij e
  have:=h j hj i hij;rw[getD_lt hi,getD_lt hj] at this;exact this e
 ·intro h i hi k hk e
  rw[getD_lt hi,getD_lt (by omega)] at e
  exact h k i (by omega) hi hk e
theorem Rh {α:Type} (p:α->Bool) (l:List α) (d:α):(List.range l.length).all (fun i=>p (l.getD i d))=l.all p:=by
 rw[Bool.eq_iff_iff];simp only[List.all_eq_true,List.mem_range];constructor
 ·intro h x hx
  obtain ⟨i,hi,rfl⟩:=List.getElem_of_mem hx;have:=h i hi
  rwa [getD_lt hi] at this
 ·intro h i hi
  rw[getD_lt hi];exact h _ (List.getElem_mem hi)
theorem agt {α:Type} (p q:α->Bool) (l:List α):l.all (fun x=>p x&&q x)=(l.all p&&l.all q):=by
 induction l with
 |nil=>rfl
 |cons x r ih=>simp only[List.all_cons,ih];cases p x<;>cases q x<;>cases r.all p<;>cases r.all q<;>rfl
theorem aAG (l:List (List UInt8)) (h:fA List.length l<=1048576):M.Hq l=some (agC l):=by
 have hl:=Nat.le_trans (dh List.length l) h;unfold M.Hq;have e1:decide (((l.length:Nat):Int)<1)= !decide (1<=l.length):=by rw[<-decide_not];simp only[decide_eq_decide];omega
 have e2:decide ((16:Int)<((l.length:Nat):Int))= !decide (l.length<=16):=by rw[<-decide_not];simp only[decide_eq_decide];omega
 rw[e1,e2,uQ (p:=fun i=>fO (l.getD i [])&&(List.range i).all fun k=> !(l.getD k []==l.getD i [])) (F:=fun f i=>M.lD f l i) (e:=()) (b:=false) l.length (by omega) (fun f k hk=>by
  show M.lD (f+1) l (k:Int)=_
  rw[M.lD];have hn:(l.getD k []).length<=1048576:=by rw[getD_lt hk];exact Nat.le_trans (dY List.length _ _ (List.getElem_mem hk)) h
  have inner:M.ku l (k:Int) aA 0=some (if (List.range k).all (fun j=> !(l.getD j []==l.getD k [])) then .inr (l,(k:Int)) else .inl false):=
   uQ (p:=fun j=> !(l.getD j []==l.getD k [])) (F:=M.ku l (k:Int)) (e:=(l,(k:Int))) (b:=false) k (by omega) (fun f j hj=>by
    rw[M.ku];have hj':j<l.length:=by omega
    simp only[Int.toNat_natCast,bf,Int.ofNat_lt,hj,hk,hj',decide_true,cond_true,Bool.true_or,Bool.true_and,Bool.and_true,df hj (by omega:k<2^62)]
    cases l.getD j []==l.getD k []<;>rfl) (fun f=>by rw[M.ku];simp)
  simp only[Int.toNat_natCast,bf,Int.ofNat_lt,hk,decide_true,cond_true,Bool.true_or,Bool.true_and,Bool.and_true,df hk (by omega:l.length<2^62),Gt _ hn,inner,Option.getD_some,Option.isSome_some]
  cases fO (l.getD k [])<;>cases (List.range k).all (fun j=> !(l.getD j []==l.getD k []))<;>simp[df hk (by omega:l.length<2^62)]) (fun f=>by
  show M.lD (f+1) l (l.length:Int)=_
  rw[M.lD];simp)]
 unfold agC;rw[agt,Rh,nodup_range]
 cases decide (1<=l.length)<;>cases decide (l.length<=16)<;>cases l.all fO<;>cases nodupB l<;>rfl
theorem aAH (l:List (List UInt8)) (h:fA List.length l<=1048576):M.LJ l=some (agC l):=by
 have hl:=Nat.le_trans (dh List.length l) h;have c1:∀s:List UInt8,s.length<=1048576->M.AB s=some (!fO s):=fun s hs=>by
  unfold M.AB;rw[Gu s hs];rfl
 have cf:M.ig l=some (l.any fun s=> !fO s):=by
  have e:=ik (p:=fun s=> !fO s) (F:=M.ed l (l.length:Int)) (e:=()) (fun k=>k) l (by omega) (fun f k hk=>by
   rw[M.ed];have hn:l[k].length<=1048576:=Nat.le_trans (dY List.length _ _ (List.getElem_mem hk)) h;simp only[getD_lt hk,Int.toNat_natCast,bf,Int.ofNat_lt,hk,decide_true,cond_true,Bool.true_or,Bool.true_and,Bool.and_true,df hk (by omega:l.length<2^62),c1 _ hn,Option.getD_some,Option.isSome_some]) (fun f=>by rw[M.ed];simp)
  unfold M.ig M.jC;rw[e,iZ]
  cases l.findIdx? (fun s=> !fO s)<;>simp
 unfold M.LJ;rw[cf,FK l hl];have e1:decide ((1:Int)<=((l.length:Nat):Int))=decide (1<=l.length):=by simp only[decide_eq_decide];omega
 have e2:decide (((l.length:Nat):Int)<=16)=decide (l.length<=16):=by simp only[decide_eq_decide];omega
 have e3:(l.any fun s=> !fO s)= !l.all fO:=by rw[List.not_all_eq_any_not]
 unfold agC;simp only[Option.isSome_some,Bool.true_or,Bool.and_true,cond_true,Option.getD_some,e1,e2,e3,Bool.not_not]
 cases decide (1<=l.length)<;>cases decide (l.length<=16)<;>cases l.all fO<;>cases nodupB l<;>rfl
end M
namespace M
open Go.V (inB xG aA bU)
theorem ae.aji {a:ae} {N:Nat} (h:a.sz<=N):fA List.length a.eP<=N:=by rw[ae.dJ] at h;omega
theorem ae.agE {a:ae} {N:Nat} (h:a.sz<=N):a.Name.length<=N:=by rw[ae.dJ] at h;omega
theorem ae.ZH {a:ae} {N:Nat} (h:a.sz<=N):fA ae.sz a.Kids<=N:=by rw[ae.dJ] at h;omega
theorem ae.qL {a:ae} {N:Nat} (h:a.sz<=N):a.Kids.length<=N:=Nat.le_trans (dh _ _) (ae.ZH h)
theorem ae.aw2 {a:ae} {N:Nat} (h:a.sz<=N):a.eP.length<=N:=Nat.le_trans (dh _ _) (ae.aji h)
theorem ae.xx {a x:ae} (h:x∈a.Kids):x.sz<a.sz:=by
 rw[ae.dJ a];have:=ZI ae.sz _ _ h;omega
theorem aCr (t:ae) (h:t.sz<=1048576):M.BI t=some (t.Kids.any wH):=by
 have hl:=ae.qL h;have e:=ik (p:=wH) (F:=fun f i=>M.kR f i t) (e:=()) (fun _=>true) t.Kids (by omega) (fun f k hk=>by
  show M.kR (f+1) (k:Int) t=_
  rw[M.kR];simp only[ae.aB,getD_lt hk,Int.toNat_natCast,bf,Int.ofNat_lt,hk,decide_true,cond_true,Bool.true_or,Bool.true_and,Bool.and_true,df hk (by omega:t.Kids.length<2^62),wH]) (fun f=>by
  show M.kR (f+1) _ t=_
  rw[M.kR];simp)
 unfold M.BI;rw[ae.aB,iZ];have e':M.kR aA 0 t=_:=e;rw[e']
 cases t.Kids.findIdx? wH<;>simp
theorem axY (lo hi:Int):∀(m:Nat) (t:ae),t.sz<m->t.sz<=1048576->M.l7 m t lo hi=some (LX (fun k=>decide (lo<=k)&&decide (k<=hi)) t)
 |0,t,h,_=>absurd h (Nat.not_lt_zero _)
 |m+1,t,h,hN=>by
  have hl:=ae.qL hN;have e:=ik (p:=LX (fun k=>decide (lo<=k)&&decide (k<=hi))) (F:=fun f i=>M.pK (M.l7 m) lo hi f i t) (e:=()) (fun _=>true) t.Kids (by omega) (fun f k hk=>by
   show M.pK (M.l7 m) lo hi (f+1) (k:Int) t=_
   rw[M.pK];have hx:=ae.xx (List.getElem_mem hk);simp only[ae.aB,getD_lt hk,axY lo hi m t.Kids[k] (by omega) (by omega),Int.toNat_natCast,bf,Int.ofNat_lt,hk,decide_true,cond_true,Bool.true_or,Bool.true_and,Bool.and_true,df hk (by omega:t.Kids.length<2^62),Option.getD_some,Option.isSome_some]) (fun f=>by
   show M.pK (M.l7 m) lo hi (f+1) _ t=_
   rw[M.pK];simp)
  show M.SB (M.l7 m) t lo hi=_
  unfold M.SB;have e':M.pK (M.l7 m) lo hi aA 0 t=_:=e;rw[ae.aB,e',ax9,aoX,iZ]
  cases (decide (lo<=t.Kind)&&decide (t.Kind<=hi))<;>cases t.Kids.findIdx? (LX fun k=>decide (lo<=k)&&decide (k<=hi))<;>simp
theorem aw3 (l:List Int) (v:Int) (hl:l.length<2^62):M.jg l v=some (l.any fun x=>v==x):=by
 have e:=ik (p:=fun x=>v==x) (F:=M.gG l v (l.length:Int)) (e:=()) (fun k=>k) l hl (fun f k hk=>by
  rw[M.gG];simp only[getD_lt hk,Int.toNat_natCast,bf,Int.ofNat_lt,hk,decide_true,cond_true,Bool.true_or,Bool.true_and,Bool.and_true,df hk hl]) (fun f=>by rw[M.gG];simp)
 unfold M.jg M.mQ;rw[e,iZ]
 cases l.findIdx? (fun x=>v==x)<;>simp
theorem axZ (ks:List Int) (hk:ks.length<2^62):∀(m:Nat) (t:ae),t.sz<m->t.sz<=1048576->M.lT m t ks=some (LX (fun k=>ks.any fun x=>k==x) t)
 |0,t,h,_=>absurd h (Nat.not_lt_zero _)
 |m+1,t,h,hN=>by
  have hl:=ae.qL hN;have e:=ik (p:=LX (fun k=>ks.any fun x=>k==x)) (F:=M.eY (M.lT m) t.Kids ks (t.Kids.length:Int)) (e:=()) (fun k=>k) t.Kids (by omega) (fun f k hk'=>by
   rw[M.eY];have hx:=ae.xx (List.getElem_mem hk');have c:M.Ef (M.lT m) t.Kids[k] ks=some (LX (fun k=>ks.any fun x=>k==x) t.Kids[k]):=by
    unfold M.Ef;simp only[ae.aB,axZ ks hk m t.Kids[k] (by omega) (by omega)];rfl
   simp only[ae.aB,getD_lt hk',c,Int.toNat_natCast,bf,Int.ofNat_lt,hk',decide_true,cond_true,Bool.true_or,Bool.true_and,Bool.and_true,df hk' (by omega:t.Kids.length<2^62),Option.getD_some,Option.isSome_some]) (fun f=>by
   rw[M.eY];simp)
  have e2:M.iy (M.lT m) t.Kids ks=some (t.Kids.any (LX (fun k=>ks.any fun x=>k==x))):=by
   unfold M.iy M.jR;rw[e,iZ]
   cases t.Kids.findIdx? (LX (fun k=>ks.any fun x=>k==x))<;>simp
  show M.Oh (M.lT m) t ks=_
  unfold M.Oh;rw[e2,aw3 ks _ hk,ax9,aoX];simp
theorem atG : ∀(l:List ae),(∀x∈l,iF x<=x.sz+1)->oQ l<=fA ae.sz l
 | [],_=>Nat.le_refl _
 |x::r,h=>by
  have:=atG r fun y hy=>h y (List.mem_cons_of_mem _ hy)
  have:=h x (List.mem_cons_self ..);simp only[oQ,fA];omega
theorem aoZ : ∀(n:Nat) (t:ae),t.sz<n->iF t<=t.sz+1
 |0,t,h=>absurd h (Nat.not_lt_zero _)
 |n+1,t,h=>by
  have:=atG t.Kids fun x hx=>aoZ n x (by have:=ae.xx hx;omega)
  rw[zV,ae.dJ];omega
theorem Q9 (t:ae):iF t<=t.sz+1:=aoZ _ t (Nat.lt_succ_self _)
theorem ags {l:List ae} {N:Nat} (h:fA ae.sz l<=N):oQ l<=N:=Nat.le_trans (atG l fun x _=>Q9 x) h
theorem atx (l:List ae) (k:Nat):oQ (l.take k)<=oQ l:=by
 have:∀(a b:List ae),oQ (a++b)=oQ a+oQ b:=fun a b=>by
  induction a with
  |nil=>simp[oQ]
  |cons x r ih=>simp only[List.cons_append,oQ,ih];omega
 have h:=this (l.take k) (l.drop k);rw[List.take_append_drop] at h;omega
theorem ayb : ∀(m:Nat) (t:ae),t.sz<m->t.sz<=1048576->M.Ci m t=some ((iF t:Nat):Int)
 |0,t,h,_=>absurd h (Nat.not_lt_zero _)
 |m+1,t,h,hN=>by
  have hl:=ae.qL hN;have hs:=ags (ae.ZH hN);have key:∀f k (a:Nat),k<=t.Kids.length->t.Kids.length-k<f->a+oQ (t.Kids.drop k)<=1048577->M.zn (M.Ci m) t.Kids (t.Kids.length:Int) f (a:Int) (k:Int)=some (((a+oQ (t.Kids.drop k):Nat)):Int):=by
   intro f
   induction f with
   |zero=>intro k a h1 h2;omega
   |succ f ih=>
    intro k a h1 h2 h3
    rcases Nat.lt_or_ge k t.Kids.length with hk |hk
    ·rw[M.zn]
     have hx:=ae.xx (List.getElem_mem hk);rw[Ff hk] at h3 ⊢;have hw:Go.IntKind.wrap .i64 ((a:Int)+((iF t.Kids[k]:Nat):Int))=((a+iF t.Kids[k]:Nat):Int):=by rw[wrap_i64 (by omega) (by omega)];omega
     simp only[ae.aB,getD_lt hk,ayb m t.Kids[k] (by omega) (by omega),Int.toNat_natCast,bf,Int.ofNat_lt,hk,decide_true,cond_true,Bool.true_and,Bool.and_true,df hk (by omega:t.Kids.length<2^62),Option.getD_some,Option.isSome_some,hw]
     rw[ih (k+1) _ (by omega) (by omega) (by omega)]
     congr 1;omega
    ·have:k=t.Kids.length:=by omega
     subst this;rw[M.zn];simp[List.drop_length,oQ]
  show M.ZG (M.Ci m) t=_
  unfold M.ZG;have e:=key aA 0 1 (Nat.zero_le _) (by have:=bU;omega) (by simp only[List.drop_zero];omega)
  have e':M.zn (M.Ci m) t.Kids (t.Kids.length:Int) aA 1 0=_:=e;rw[e',zV];rfl
theorem aAI : ∀(m:Nat) (t:ae) (L:Nat),L<m->L<=100->t.sz<=1048576->M.Hr m t (L:Int)=some ((min (rO t) (L+1):Nat):Int)
 |0,t,L,h,_,_=>absurd h (Nat.not_lt_zero _)
 |m+1,t,L,h,hL,hN=>by
  have hl:=ae.qL hN
  show M.afW (M.Hr m) t (L:Int)=_
  unfold M.afW
  cases L with
  |zero=>
   have:=aoY t;rw[show min (rO t) (0+1)=1 by omega];rfl
  |succ L=>
   have hw0:Go.IntKind.wrap .i64 (((L+1:Nat):Int)-1)=(L:Int):=by rw[wrap_i64 (by omega) (by omega)];omega
   have key:∀f k (a:Nat),k<=t.Kids.length->t.Kids.length-k<f->M.Ce (M.Hr m) ((L+1:Nat):Int) t.Kids (t.Kids.length:Int) f (a:Int) (k:Int)=some ((max a (min (adV (t.Kids.drop k)) (L+1)):Nat):Int):=by
    intro f
    induction f with
    |zero=>intro k a h1 h2;omega
    |succ f ih=>
     intro k a h1 h2
     rcases Nat.lt_or_ge k t.Kids.length with hk |hk
     ·rw[M.Ce]
      have hx:=ae.xx (List.getElem_mem hk);simp only[ae.aB,getD_lt hk,hw0,aAI m t.Kids[k] L (by omega) (by omega) (by omega),Int.toNat_natCast,bf,Int.ofNat_lt,hk,decide_true,cond_true,Bool.true_and,Bool.and_true,df hk (by omega:t.Kids.length<2^62),Option.getD_some,Option.isSome_some]
      have hm:(bif decide (a<min (rO t.Kids[k]) (L+1)) then ((min (rO t.Kids[k]) (L+1):Nat):Int) else (a:Int))=((max a (min (rO t.Kids[k]) (L+1)):Nat):Int):=by
       by_cases hc:a<min (rO t.Kids[k]) (L+1)
       ·simp only[hc,decide_true,cond_true];omega
       ·simp only[hc,decide_false,cond_false];omega
      rw[hm,ih (k+1) _ (by omega) (by omega),arY hk]
      congr 1;omega
     ·have:k=t.Kids.length:=by omega
      subst this;rw[M.Ce];simp[List.drop_length,adV]
   have e:=key aA 0 0 (Nat.zero_le _) (by have:=bU;omega)
   have e':M.Ce (M.Hr m) ((L+1:Nat):Int) t.Kids (t.Kids.length:Int) aA 0 0=_:=e;have d:(((L+1:Nat):Int)==0)=false:=by rw[beq_eq_false_iff_ne];omega
   rw[d,e',ajh];simp only[cond_false,List.drop_zero];rw[wrap_i64 (by omega) (by omega)]
   congr 1;omega
end M
namespace M
open Go.V (inB xG aA bU)
def agF (d:Nat) (t:ae):Int×Int:=if d+rO t<=5 /\ iF t<=24 then (((rO t:Nat):Int),((iF t:Nat):Int)) else (5,25)
theorem aAJ : ∀(m d:Nat) (t:ae),d<=5->6<=m+d->t.sz<=1048576->M.wC m t (d:Int)=some (agF d t)
 |0,d,t,h1,h2,_=>by omega
 |m+1,d,t,h1,h2,hN=>by
  have hl:=ae.qL hN;have hdp:=aoY t
  show M.Oa (M.wC m) t (d:Int)=_
  unfold M.Oa
  by_cases h5:d=5
  ·subst h5
   have:agF 5 t=(5,25):=by unfold agF;rw[if_neg (by omega)]
   rw[this];rfl
  have d4:decide ((4:Int)<(d:Int))=false:=by rw[decide_eq_false_iff_not];omega
  by_cases h24:24<t.Kids.length
  ·have:agF d t=(5,25):=by
    unfold agF;have:=avq t.Kids;rw[if_neg (by rw[zV];omega)]
   rw[this,d4];have:decide ((24:Int)<((t.Kids.length:Nat):Int))=true:=by rw[decide_eq_true_eq];omega
   rw[this];rfl
  have d24:decide ((24:Int)<((t.Kids.length:Nat):Int))=false:=by rw[decide_eq_false_iff_not];omega
  have hw:Go.IntKind.wrap .i64 ((d:Int)+1)=((d+1:Nat):Int):=by rw[wrap_i64 (by omega) (by omega)];omega
  have mx:∀a b:Nat,M.yS (a:Int) (b:Int)=some ((max a b:Nat):Int):=fun a b=>by
   unfold M.yS
   by_cases hc:b<a
   ·have:decide ((b:Int)<(a:Int))=true:=by rw[decide_eq_true_eq];omega
    rw[this];simp only[cond_true];congr 1;omega
   ·have:decide ((b:Int)<(a:Int))=false:=by rw[decide_eq_false_iff_not];omega
    rw[this];simp only[cond_false];congr 1;omega
  have key:∀f k (a p:Nat),k<=t.Kids.length->t.Kids.length-k<f->p<=24->M.sV (M.wC m) (d:Int) f (a:Int) (p:Int) (k:Int) t=
   some (if d+1+adV (t.Kids.drop k)<=5 /\ p+oQ (t.Kids.drop k)<=24 then .inr (((max a (adV (t.Kids.drop k)):Nat):Int),((p+oQ (t.Kids.drop k):Nat):Int)) else .inl (5,25)):=by
   intro f
   induction f with
   |zero=>intro k a p h1 h2;omega
   |succ f ih=>
    intro k a p h1 h2 h3
    rcases Nat.lt_or_ge k t.Kids.length with hk |hk
    ·rw[M.sV]
     have hx:=ae.xx (List.getElem_mem hk);have hc:=aAJ m (d+1) t.Kids[k] (by omega) (by omega) (by omega)
     rw[arY hk,Ff hk];simp only[ae.aB,getD_lt hk,hw,hc,Int.toNat_natCast,bf,Int.ofNat_lt,hk,decide_true,cond_true,Bool.true_and,Bool.and_true,df hk (by omega:t.Kids.length<2^62),Option.getD_some,Option.isSome_some]
     unfold agF
     by_cases hv:d+1+rO t.Kids[k]<=5 /\ iF t.Kids[k]<=24
     ·rw[if_pos hv]
      have hw2:Go.IntKind.wrap .i64 ((p:Int)+((iF t.Kids[k]:Nat):Int))=((p+iF t.Kids[k]:Nat):Int):=by rw[wrap_i64 (by omega) (by omega)];omega
      dsimp only;rw[hw2,mx]
      by_cases hp:24<p+iF t.Kids[k]
      ·have:decide ((24:Int)<((p+iF t.Kids[k]:Nat):Int))=true:=by rw[decide_eq_true_eq];omega
       rw[this,if_neg (by omega)]
       simp
      ·have:decide ((24:Int)<((p+iF t.Kids[k]:Nat):Int))=false:=by rw[decide_eq_false_iff_not];omega
       rw[this];simp only[cond_false,Option.isSome_some,Bool.true_and,cond_true,Option.getD_some];rw[ih (k+1) _ _ (by omega) (by omega) (by omega)]
       have e1:(d+1+adV (t.Kids.drop (k+1))<=5 /\ p+iF t.Kids[k]+oQ (t.Kids.drop (k+1))<=24)↔(d+1+max (rO t.Kids[k]) (adV (t.Kids.drop (k+1)))<=5 /\ p+(iF t.Kids[k]+oQ (t.Kids.drop (k+1)))<=24):=by omega
       by_cases hq:d+1+adV (t.Kids.drop (k+1))<=5 /\ p+iF t.Kids[k]+oQ (t.Kids.drop (k+1))<=24
       ·rw[if_pos hq,if_pos (e1.1 hq)]
        congr 3
        ·omega
        ·omega
       ·rw[if_neg hq,if_neg (fun h=>hq (e1.2 h))]
     ·rw[if_neg hv,if_neg (by omega)]
      have hw2:Go.IntKind.wrap .i64 ((p:Int)+25)=(p:Int)+25:=wrap_i64 (by omega) (by omega)
      have mx5:M.yS (a:Int) 5=some ((max a 5:Nat):Int):=mx a 5;dsimp only;rw[hw2,mx5];have:decide ((24:Int)<(p:Int)+25)=true:=by rw[decide_eq_true_eq];omega
      rw[this];simp
    ·have:k=t.Kids.length:=by omega
     subst this;rw[M.sV,List.drop_length];have hq:d+1+adV []<=5 /\ p+oQ []<=24:=⟨by show d+1+0<=5;omega,by show p+0<=24;omega⟩
     rw[if_pos hq];simp[adV,oQ]
  have e:=key aA 0 0 1 (Nat.zero_le _) (by have:=bU;omega) (by omega)
  have e':M.sV (M.wC m) (d:Int) aA 0 1 0 t=_:=e;rw[ae.aB,d4,d24,e'];simp only[List.drop_zero,Bool.or_self,cond_false];unfold agF;rw[ajh,zV]
  by_cases hq:d+1+adV t.Kids<=5 /\ 1+oQ t.Kids<=24
  ·rw[if_pos hq,if_pos (by omega)]
   simp only
   congr 2
   rw[wrap_i64 (by omega) (by omega)];omega
  ·rw[if_neg hq,if_neg (by omega)]
theorem ao0 {p:Int->Bool} {l:List ae} (h:l.length=1):LX p (l.getD 0 ae.zero)=agD p l:=by
 match l,h with
 | [x],_=>simp[agD]
theorem J3 {p q:Int->Bool} (h:∀k,p k=q k):LX p=LX q:=by
 have:p=q:=funext h;rw[this]
theorem b21 (k:Int):(decide ((21:Int)<=k)&&decide (k<=21))=(k==21):=by
 rw[Bool.eq_iff_iff];simp only[Bool.and_eq_true,decide_eq_true_eq,beq_iff_eq];omega
theorem ZK (n m:Nat):(((n:Nat):Int)==((m:Nat):Int))=(n==m):=by
 rw[Bool.eq_iff_iff];simp only[beq_iff_eq];omega
theorem avr (n:Nat):(((n:Nat):Int)==1)=(n==1):=ZK n 1
theorem avs (n:Nat):(((n:Nat):Int)==2)=(n==2):=ZK n 2
theorem avt (n:Nat):(((n:Nat):Int)==0)=(n==0):=ZK n 0
theorem aDw (n:Nat):inB (0:Int) n=decide (0<n):=bf 0 n
theorem aCs (t:ae) (h:t.sz<=1048576):M.LH t=some (OO t):=by
 have hn:=Gt t.Name (ae.agE h);have hb:=aAG t.eP (ae.aji h);have hu:=aCr t h;have hh:t.Kids.length=1->M.oL (M.ae.re (List.getD t.Kids 0 ae.zero)) 21 21=some (agD (fun k=>k==21) t.Kids):=fun h1=>by
  have hx:(t.Kids.getD 0 ae.zero).sz<t.sz:=by
   rw[getD_lt (by omega)];exact ae.xx (List.getElem_mem _)
  rw[ae.aB,show M.oL=M.l7 aA from rfl,axY 21 21 aA _ (qU (by omega)) (by omega),J3 b21,ao0 h1]
 unfold M.LH;simp only[ae.aB,hn,hb,hu,Option.getD_some,Option.isSome_some,Bool.true_or,Bool.and_true,Bool.true_and,cond_true,avr,avs,avt,ZK,aDw,Int.toNat_zero];unfold OO aya;have e0:decide ((0:Int)<((t.eP.length:Nat):Int))= !(t.eP.length==0):=by
  rw[Bool.eq_iff_iff];simp only[decide_eq_true_eq,Bool.not_eq_true',beq_eq_false_iff_ne];omega
 have e1:decide ((1:Int)<=((t.Kids.length:Nat):Int))=decide (1<=t.Kids.length):=by simp only[decide_eq_decide];omega
 have e2:decide (((t.Kids.length:Nat):Int)<=6)=decide (t.Kids.length<=6):=by simp only[decide_eq_decide];omega
 rw[e0,e1,e2];have HY:agC t.eP=true->(t.eP.length==0)=false:=fun h=>by
  simp only[agC,Bool.and_eq_true,decide_eq_true_eq] at h;rw[beq_eq_false_iff_ne];omega
 have H5:fO t.Name=true->(t.Name==[])=false:=fun h=>by
  simp only[fO,Bool.and_eq_true,decide_eq_true_eq] at h;rw[beq_eq_false_iff_ne];intro e;rw[e] at h;simp at h
 unfold YX aDv;have hz:t.Kids.length=1->decide (0<t.Kids.length)=true:=fun h1=>by rw[h1];rfl
 have hl1:(t.Kids.length==1)=true->t.Kids.length=1:=fun h1=>by simpa using h1
 have hbr:(t.Kids.length==1)=true->M.oL (M.ae.re (List.getD t.Kids 0 ae.zero)) 21 21=some (agD (fun k=>k==21) t.Kids) /\ decide (0<t.Kids.length)=true:=fun h1=>⟨hh (hl1 h1),hz (hl1 h1)⟩
 clear hn hb hu hh hz hl1;simp only[ae.aB] at hbr ⊢
 generalize hK:t.Kind=K
 generalize (t.Name==[])=nn at H5 ⊢
 generalize fO t.Name=no at H5 ⊢
 generalize agC t.eP=lo at HY ⊢
 generalize (t.eP.length==0)=ll at HY ⊢
 generalize M.oL (List.getD t.Kids 0 ae.zero) 21 21=o at hbr ⊢
 generalize decide (0<t.Kids.length)=z at hbr ⊢
 generalize (t.Kids.length==1)=l1 at hbr ⊢
 generalize agD (fun k=>k==21) t.Kids=kh at hbr ⊢
 generalize t.Kids.any wH=au
 generalize (t.Kids.length==2)=l2
 generalize (t.Kids.length==0)=l0
 generalize (t.Kids.length==t.eP.length)=lk
 generalize decide (1<=t.Kids.length)=ge
 generalize decide (t.Kids.length<=6)=le
 clear hK h e0 e1 e2
 by_cases h12:K=12
 ·subst h12
  cases l1
  ·cases no<;>cases nn<;>simp at H5<;>cases lo<;>cases ll<;>simp at HY<;>simp
  ·obtain ⟨rfl,rfl⟩:=hbr rfl
   cases no<;>cases nn<;>simp at H5<;>cases lo<;>cases ll<;>simp at HY<;>simp
 by_cases h13:K=13
 ·subst h13
  cases l1
  ·cases no<;>cases nn<;>simp at H5<;>cases lo<;>cases ll<;>simp at HY<;>simp
  ·obtain ⟨rfl,rfl⟩:=hbr rfl
   cases no<;>cases nn<;>simp at H5<;>cases lo<;>cases ll<;>simp at HY<;>simp
 by_cases h14:K=14
 ·subst h14
  cases l1
  ·cases no<;>cases nn<;>simp at H5<;>cases lo<;>cases ll<;>simp at HY<;>simp
  ·obtain ⟨rfl,rfl⟩:=hbr rfl
   cases no<;>cases nn<;>simp at H5<;>cases lo<;>cases ll<;>simp at HY<;>simp
 by_cases h15:K=15
 ·subst h15
  cases l1
  ·cases no<;>cases nn<;>simp at H5<;>cases lo<;>cases ll<;>simp at HY<;>simp
  ·obtain ⟨rfl,rfl⟩:=hbr rfl
   cases no<;>cases nn<;>simp at H5<;>cases lo<;>cases ll<;>simp at HY<;>simp
 by_cases h16:K=16
 ·subst h16
  cases l1
  ·cases no<;>cases nn<;>simp at H5<;>cases lo<;>cases ll<;>simp at HY<;>simp
  ·obtain ⟨rfl,rfl⟩:=hbr rfl
   cases no<;>cases nn<;>simp at H5<;>cases lo<;>cases ll<;>simp at HY<;>simp
 by_cases h17:K=17
 ·subst h17
  cases l1
  ·cases no<;>cases nn<;>simp at H5<;>cases lo<;>cases ll<;>simp at HY<;>simp
  ·obtain ⟨rfl,rfl⟩:=hbr rfl
   cases no<;>cases nn<;>simp at H5<;>cases lo<;>cases ll<;>simp at HY<;>simp
 by_cases h18:K=18
 ·subst h18
  cases l1
  ·cases no<;>cases nn<;>simp at H5<;>cases lo<;>cases ll<;>simp at HY<;>simp
  ·obtain ⟨rfl,rfl⟩:=hbr rfl
   cases no<;>cases nn<;>simp at H5<;>cases lo<;>cases ll<;>simp at HY<;>simp
 by_cases h19:K=19
 ·subst h19
  cases l1
  ·cases no<;>cases nn<;>simp at H5<;>cases lo<;>cases ll<;>simp at HY<;>simp
  ·obtain ⟨rfl,rfl⟩:=hbr rfl
   cases no<;>cases nn<;>simp at H5<;>cases lo<;>cases ll<;>simp at HY<;>simp
 by_cases h20:K=20
 ·subst h20
  cases l1
  ·cases no<;>cases nn<;>simp at H5<;>cases lo<;>cases ll<;>simp at HY<;>simp
  ·obtain ⟨rfl,rfl⟩:=hbr rfl
   cases no<;>cases nn<;>simp at H5<;>cases lo<;>cases ll<;>simp at HY<;>simp
 by_cases h21:K=21
 ·subst h21
  cases l1
  ·cases no<;>cases nn<;>simp at H5<;>cases lo<;>cases ll<;>simp at HY<;>simp
  ·obtain ⟨rfl,rfl⟩:=hbr rfl
   cases no<;>cases nn<;>simp at H5<;>cases lo<;>cases ll<;>simp at HY<;>simp
 by_cases h22:K=22
 ·subst h22
  cases l1
  ·cases no<;>cases nn<;>simp at H5<;>cases lo<;>cases ll<;>simp at HY<;>simp
  ·obtain ⟨rfl,rfl⟩:=hbr rfl
   cases no<;>cases nn<;>simp at H5<;>cases lo<;>cases ll<;>simp at HY<;>simp
 by_cases h23:K=23
 ·subst h23
  cases l1
  ·cases no<;>cases nn<;>simp at H5<;>cases lo<;>cases ll<;>simp at HY<;>simp
  ·obtain ⟨rfl,rfl⟩:=hbr rfl
   cases no<;>cases nn<;>simp at H5<;>cases lo<;>cases ll<;>simp at HY<;>simp
 have q1:(K==20)=false:=by simpa using h20
 have q2:(K==21)=false:=by simpa using h21
 have q3:(decide ((16:Int)<=K)&&decide (K<=19))=false:=by
  rw[Bool.eq_false_iff];simp only[ne_eq,Bool.and_eq_true,decide_eq_true_eq];omega
 have q4:(K==12)=false:=by simpa using h12
 have q5:(K==13)=false:=by simpa using h13
 have q6:(K==14)=false:=by simpa using h14
 have q7:(K==15)=false:=by simpa using h15
 have q8:(K==16)=false:=by simpa using h16
 have q9:(K==17)=false:=by simpa using h17
 have q10:(K==22)=false:=by simpa using h22
 have q11:(K==23)=false:=by simpa using h23
 simp only[q1,q2,q3,q4,q5,q6,q7,q8,q9,q10,q11,h12,h13,h14,h15,h16,h17,h22,h23,or_self,if_false]
 cases nn<;>cases ll<;>simp
end M
namespace M
open Go.V (inB xG aA bU)
theorem avu : ∀(m:Nat) (t:ae),t.sz<m->t.sz<=1048576->M.mP m t=some (jv t)
 |0,t,h,_=>absurd h (Nat.not_lt_zero _)
 |m+1,t,h,hN=>by
  have hl:=ae.qL hN;have e:=yF (p:=jv) (F:=fun f i=>M.kS (M.mP m) f i t) (e:=()) (b:=false) t.Kids (by omega) (fun f k hk=>by
   show M.kS (M.mP m) (f+1) (k:Int) t=_
   rw[M.kS];have hx:=ae.xx (List.getElem_mem hk);simp only[ae.aB,getD_lt hk,avu m t.Kids[k] (by omega) (by omega),Int.toNat_natCast,bf,Int.ofNat_lt,hk,decide_true,cond_true,Bool.true_or,Bool.true_and,Bool.and_true,df hk (by omega:t.Kids.length<2^62),Option.getD_some,Option.isSome_some]
   cases jv t.Kids[k]<;>rfl) (fun f=>by
   show M.kS (M.mP m) (f+1) _ t=_
   rw[M.kS];simp)
  show M.JF (M.mP m) t=_
  unfold M.JF;have e':M.kS (M.mP m) aA 0 t=_:=e;rw[ae.aB,aCs t hN,e',JZ,LW]
  cases OO t<;>cases t.Kids.all jv<;>simp
theorem aDy (t:ae) (h:t.sz<=1048576):M.Nj t=some (tOk t):=by
 unfold M.Nj;have e1:M.SC t=some (jv t):=avu aA t (qU h) h;have e2:M.ZE t 1=some (agF 1 t):=aAJ aA 1 t (by omega) (by have:=bU;omega) h
 simp only[ae.aB,e1,e2,Option.getD_some,Option.isSome_some,Bool.true_or,Bool.and_true,cond_true];unfold tOk agF
 by_cases hq:1+rO t<=5 /\ iF t<=24
 ·rw[if_pos hq]
  have a1:decide (((rO t:Nat):Int)<=4)=decide (rO t<=4):=by simp only[decide_eq_decide];omega
  have a2:decide (((iF t:Nat):Int)<=24)=decide (iF t<=24):=by simp only[decide_eq_decide];omega
  dsimp only;rw[a1,a2]
 ·rw[if_neg hq]
  have:(decide (rO t<=4)&&decide (iF t<=24))=false:=by
   rw[Bool.eq_false_iff];simp only[ne_eq,Bool.and_eq_true,decide_eq_true_eq];omega
  rw[this];rfl
theorem aAK (t:ae) (h:t.sz<=1048576):M.Wh t=some (tOk t):=by
 unfold M.Wh;simp only[ae.aB,aDy t h];rfl
end M
namespace M
open Go.V (inB xG aA bU)
theorem aCt (l:List ae) (hl:l.length<=1048576):M.iw l=some (l.any wH):=by
 have e:=ik (p:=wH) (F:=M.eX l (l.length:Int)) (e:=()) (fun k=>k) l (by omega) (fun f k hk=>by
  rw[M.eX];simp only[getD_lt hk,Int.toNat_natCast,bf,Int.ofNat_lt,hk,decide_true,cond_true,Bool.true_or,Bool.true_and,Bool.and_true,df hk (by omega:l.length<2^62)]
  rfl) (fun f=>by rw[M.eX];simp)
 unfold M.iw M.jQ;rw[e,iZ]
 cases l.findIdx? wH<;>simp
theorem aAL (t:ae) (h:t.sz<=1048576) (n:Nat):M.Hu t (n:Int)=some ((t.Kids.length==n)&& !t.Kids.any wH):=by
 unfold M.Hu;rw[aCt t.Kids (ae.qL h)];simp only[Option.isSome_some,Bool.true_or,Bool.and_true,cond_true,Option.getD_some,ZK]
theorem aCu (t:ae) (h:t.sz<=1048576) (rec:ae->Option Bool) (b:Bool) (hb:M.gY rec t.Kids=some (!b)):M.Hw rec t=some (b&&OO t):=by
 have hn:=Gu t.Name (ae.agE h);have hlab:=aAH t.eP (ae.aji h);have hk:=aAL t h;have hk1:M.Hu t 1=some ((t.Kids.length==1)&& !t.Kids.any wH):=hk 1;have hh:t.Kids.length=1->M.lX (M.ae.re (List.getD t.Kids 0 ae.zero)) [21]=some (agD (fun k=>k==21) t.Kids):=fun h1=>by
  have hx:(t.Kids.getD 0 ae.zero).sz<t.sz:=by
   rw[getD_lt (by omega)];exact ae.xx (List.getElem_mem _)
  have e:LX (fun k=>[(21:Int)].any fun x=>k==x)=LX (fun k=>k==21):=J3 fun k=>by simp
  rw[ae.aB,show M.lX=M.lT aA from rfl,axZ [21] (by simp) aA _ (qU (by omega)) (by omega),e,ao0 h1]
 unfold M.Hw;simp only[ae.aB,hb,hn,hlab,hk,hk1,Option.getD_some,Option.isSome_some,Bool.true_or,Bool.and_true,Bool.true_and,cond_true,avr,avs,avt,ZK,aDw,Int.toNat_zero];unfold OO aya;have e0:decide ((0:Int)<((t.eP.length:Nat):Int))= !(t.eP.length==0):=by
  rw[Bool.eq_iff_iff];simp only[decide_eq_true_eq,Bool.not_eq_true',beq_eq_false_iff_ne];omega
 have e1:decide ((1:Int)<=((t.Kids.length:Nat):Int))=decide (1<=t.Kids.length):=by simp only[decide_eq_decide];omega
 have e2:decide (((t.Kids.length:Nat):Int)<=6)=decide (t.Kids.length<=6):=by simp only[decide_eq_decide];omega
 rw[e0,e1,e2];unfold YX aDv;have hz:t.Kids.length=1->decide (0<t.Kids.length)=true:=fun h1=>by rw[h1];rfl
 have hl1:(t.Kids.length==1)=true->t.Kids.length=1:=fun h1=>by simpa using h1
 have hbr:(t.Kids.length==1)=true->M.lX (M.ae.re (List.getD t.Kids 0 ae.zero)) [21]=some (agD (fun k=>k==21) t.Kids) /\ decide (0<t.Kids.length)=true:=fun h1=>⟨hh (hl1 h1),hz (hl1 h1)⟩
 clear hn hlab hk hk1 hh hz hl1 hb;simp only[ae.aB] at hbr ⊢
 generalize hK:t.Kind=K
 generalize (t.Name==[])=nn
 generalize fO t.Name=no
 generalize agC t.eP=lo
 generalize (t.eP.length==0)=ll
 generalize M.lX (List.getD t.Kids 0 ae.zero) [21]=o at hbr ⊢
 generalize decide (0<t.Kids.length)=z at hbr ⊢
 generalize (t.Kids.length==1)=l1 at hbr ⊢
 generalize agD (fun k=>k==21) t.Kids=kh at hbr ⊢
 generalize t.Kids.any wH=au
 generalize (t.Kids.length==2)=l2
 generalize (t.Kids.length==0)=l0
 have aCS:(t.Kids.length==t.Kids.length)=true:=by simp
 rw[aCS]
 generalize (t.Kids.length==t.eP.length)=lk
 generalize decide (1<=t.Kids.length)=ge
 generalize decide (t.Kids.length<=6)=le
 clear hK h e0 e1 e2 aCS
 cases b
 ·simp
 by_cases h12:K=12
 ·subst h12
  cases l1
  ·cases no<;>cases nn<;>cases lo<;>cases ll<;>simp
  ·obtain ⟨rfl,rfl⟩:=hbr rfl
   cases no<;>cases nn<;>cases lo<;>cases ll<;>simp
 by_cases h13:K=13
 ·subst h13
  cases l1
  ·cases no<;>cases nn<;>cases lo<;>cases ll<;>simp
  ·obtain ⟨rfl,rfl⟩:=hbr rfl
   cases no<;>cases nn<;>cases lo<;>cases ll<;>simp
 by_cases h14:K=14
 ·subst h14
  cases l1
  ·cases no<;>cases nn<;>cases lo<;>cases ll<;>simp
  ·obtain ⟨rfl,rfl⟩:=hbr rfl
   cases no<;>cases nn<;>cases lo<;>cases ll<;>simp
 by_cases h15:K=15
 ·subst h15
  cases l1
  ·cases no<;>cases nn<;>cases lo<;>cases ll<;>simp
  ·obtain ⟨rfl,rfl⟩:=hbr rfl
   cases no<;>cases nn<;>cases lo<;>cases ll<;>simp
 by_cases h16:K=16
 ·subst h16
  cases l1
  ·cases no<;>cases nn<;>cases lo<;>cases ll<;>simp
  ·obtain ⟨rfl,rfl⟩:=hbr rfl
   cases no<;>cases nn<;>cases lo<;>cases ll<;>simp
 by_cases h17:K=17
 ·subst h17
  cases l1
  ·cases no<;>cases nn<;>cases lo<;>cases ll<;>simp
  ·obtain ⟨rfl,rfl⟩:=hbr rfl
   cases no<;>cases nn<;>cases lo<;>cases ll<;>simp
 by_cases h18:K=18
 ·subst h18
  cases l1
  ·cases no<;>cases nn<;>cases lo<;>cases ll<;>simp
  ·obtain ⟨rfl,rfl⟩:=hbr rfl
   cases no<;>cases nn<;>cases lo<;>cases ll<;>simp
 by_cases h19:K=19
 ·subst h19
  cases l1
  ·cases no<;>cases nn<;>cases lo<;>cases ll<;>simp
  ·obtain ⟨rfl,rfl⟩:=hbr rfl
   cases no<;>cases nn<;>cases lo<;>cases ll<;>simp
 by_cases h20:K=20
 ·subst h20
  cases l1
  ·cases no<;>cases nn<;>cases lo<;>cases ll<;>simp
  ·obtain ⟨rfl,rfl⟩:=hbr rfl
   cases no<;>cases nn<;>cases lo<;>cases ll<;>simp
 by_cases h21:K=21
 ·subst h21
  cases l1
  ·cases no<;>cases nn<;>cases lo<;>cases ll<;>simp
  ·obtain ⟨rfl,rfl⟩:=hbr rfl
   cases no<;>cases nn<;>cases lo<;>cases ll<;>simp
 by_cases h22:K=22
 ·subst h22
  cases l1
  ·cases no<;>cases nn<;>cases lo<;>cases ll<;>simp
  ·obtain ⟨rfl,rfl⟩:=hbr rfl
   cases no<;>cases nn<;>cases lo<;>cases ll<;>simp
 by_cases h23:K=23
 ·subst h23
  cases l1
  ·cases no<;>cases nn<;>cases lo<;>cases ll<;>simp
  ·obtain ⟨rfl,rfl⟩:=hbr rfl
   cases no<;>cases nn<;>cases lo<;>cases ll<;>simp
 have q1:(K==20)=false:=by simpa using h20
 have q2:(K==21)=false:=by simpa using h21
 have q3:(decide ((16:Int)<=K)&&decide (K<=19))=false:=by
  rw[Bool.eq_false_iff];simp only[ne_eq,Bool.and_eq_true,decide_eq_true_eq];omega
 have q4:(K==12)=false:=by simpa using h12
 have q5:(K==13)=false:=by simpa using h13
 have q6:(K==14)=false:=by simpa using h14
 have q7:(K==15)=false:=by simpa using h15
 have q8:(K==16)=false:=by simpa using h16
 have q9:(K==17)=false:=by simpa using h17
 have q10:(K==22)=false:=by simpa using h22
 have q11:(K==23)=false:=by simpa using h23
 simp only[q1,q2,q3,q4,q5,q6,q7,q8,q9,q10,q11,h12,h13,h14,h15,h16,h17,h22,h23,or_self,if_false]
 cases nn<;>cases ll<;>simp
theorem avv : ∀(m:Nat) (t:ae),t.sz<m->t.sz<=1048576->M.tu m t=some (jv t)
 |0,t,h,_=>absurd h (Nat.not_lt_zero _)
 |m+1,t,h,hN=>by
  have hl:=ae.qL hN;have e:=ik (p:=fun x=> !jv x) (F:=M.fV (M.tu m) t.Kids (t.Kids.length:Int)) (e:=()) (fun k=>k) t.Kids (by omega) (fun f k hk=>by
   rw[M.fV];have hx:=ae.xx (List.getElem_mem hk);have c:M.Ea (M.tu m) t.Kids[k]=some (!jv t.Kids[k]):=by
    unfold M.Ea;simp only[ae.aB,avv m t.Kids[k] (by omega) (by omega)];rfl
   simp only[ae.aB,getD_lt hk,c,Int.toNat_natCast,bf,Int.ofNat_lt,hk,decide_true,cond_true,Bool.true_or,Bool.true_and,Bool.and_true,df hk (by omega:t.Kids.length<2^62),Option.getD_some,Option.isSome_some]) (fun f=>by
   rw[M.fV];simp)
  have e2:M.gY (M.tu m) t.Kids=some (!adW t.Kids):=by
   unfold M.gY M.lF;have e3:(!adW t.Kids)=t.Kids.any fun x=> !jv x:=by rw[LW,List.not_all_eq_any_not]
   rw[e,e3,iZ]
   cases t.Kids.findIdx? (fun x=> !jv x)<;>simp
  show M.Hw (M.tu m) t=_
  rw[aCu t hN _ _ e2,JZ,Bool.and_comm]
theorem avw (t:ae) (h:t.sz<=1048576):M.Ku t=some (tOk t):=by
 unfold M.Ku;have e1:M.Zz t=some (jv t):=avv aA t (qU h) h;have e2:M.asE t 4=some ((min (rO t) 5:Nat):Int):=aAI aA t 4 (by have:=bU;omega) (by omega) h
 have e3:M.amZ t=some ((iF t:Nat):Int):=ayb aA t (qU h) h;simp only[ae.aB,e1,e2,e3,Option.getD_some,Option.isSome_some,Bool.true_or,Bool.and_true,cond_true];have a1:decide (((min (rO t) 5:Nat):Int)<=4)=decide (rO t<=4):=by simp only[decide_eq_decide];omega
 have a2:decide (((iF t:Nat):Int)<=24)=decide (iF t<=24):=by simp only[decide_eq_decide];omega
 rw[a1,a2];rfl
end M
namespace M
open Go.V (inB xG aA bU)
def AU : List Int->List Int->List Int
 | [],b=>b
 |x::a,[]=>x::a
 |x::a,y::b=>max x y::AU a b
theorem ZL (a:List Int):AU a []=a:=by cases a<;>rfl
theorem ZM : ∀a b:List Int,(AU a b).length=max a.length b.length
 | [],b=>by simp[AU]
 |x::a,[]=>by simp[AU]
 |x::a,y::b=>by simp only[AU,List.length_cons,ZM a b];omega
def ones (l:List Int):Prop:=∀x∈l,x=1 \/ x=2
theorem adX : ∀a b:List Int,ones a->ones b->ones (AU a b)
 | [],b,_,h=>h
 |x::a,[],h,_=>h
 |x::a,y::b,ha,hb=>by
  intro z hz
  rcases List.mem_cons.1 hz with rfl |hz
  ·have:=ha x (List.mem_cons_self ..)
   have:=hb y (List.mem_cons_self ..);omega
  ·exact adX a b (fun w hw=>ha w (List.mem_cons_of_mem _ hw)) (fun w hw=>hb w (List.mem_cons_of_mem _ hw)) z hz
theorem ao1 {a b:List Int} (ha:ones a) (hb:ones b):ones (a++b):=fun x hx=>(List.mem_append.1 hx).elim (ha x) (hb x)
mutual
def uO : ae->List Int
 | .mk k n l kids=>
   if k=1 then [] else if k=9 then [2] else if k=11 \/ k=12 then [1,1]
   else if k=15 \/ k=16 then rH kids
   else if k=13 then 1::avx kids
   else if k=14 \/ k=17 then 1::EO [] kids else [1]
def rH : List ae->List Int
 | []=>[]
 |x::r=>uO x++rH r
def avx : List ae->List Int
 | []=>[]
 |x::_=>uO x
def EO (a:List Int):List ae->List Int
 | []=>a
 |x::r=>EO (AU a (uO x)) r
end
theorem lV (t:ae):uO t=(if t.Kind=1 then [] else if t.Kind=9 then [2] else if t.Kind=11 \/ t.Kind=12 then [1,1]
 else if t.Kind=15 \/ t.Kind=16 then rH t.Kids
 else if t.Kind=13 then 1::avx t.Kids
 else if t.Kind=14 \/ t.Kind=17 then 1::EO [] t.Kids else [1]):=by cases t;rw[uO];rfl
theorem ao2 : ∀l:List ae,(∀x∈l,ones (uO x))->ones (rH l)
 | [],_=>fun x hx=>by simp[rH] at hx
 |x::r,h=>by
  rw[rH];exact ao1 (h x (List.mem_cons_self ..)) (ao2 r fun y hy=>h y (List.mem_cons_of_mem _ hy))
theorem ao3 : ∀(l:List ae) (a:List Int),ones a->(∀x∈l,ones (uO x))->ones (EO a l)
 | [],a,ha,_=>ha
 |x::r,a,ha,h=>ao3 r _ (adX _ _ ha (h x (List.mem_cons_self ..))) fun y hy=>h y (List.mem_cons_of_mem _ hy)
theorem akH : ∀(n:Nat) (t:ae),t.sz<n->ones (uO t)
 |0,t,h=>absurd h (Nat.not_lt_zero _)
 |n+1,t,h=>by
  have hk:∀x∈t.Kids,ones (uO x):=fun x hx=>akH n x (by have:=ae.xx hx;omega)
  have h0:ones []:=fun x hx=>by simp at hx
  have h1:ones [1]:=fun x hx=>by simp at hx;exact .inl hx
  rw[lV]
  by_cases q1:t.Kind=1
  ·rw[if_pos q1];exact h0
  rw[if_neg q1]
  by_cases q2:t.Kind=9
  ·rw[if_pos q2];intro x hx;simp at hx;exact .inr hx
  rw[if_neg q2]
  by_cases q3:t.Kind=11 \/ t.Kind=12
  ·rw[if_pos q3];intro x hx;simp at hx;exact .inl hx
  rw[if_neg q3]
  by_cases q4:t.Kind=15 \/ t.Kind=16
  ·rw[if_pos q4];exact ao2 _ hk
  rw[if_neg q4]
  by_cases q5:t.Kind=13
  ·rw[if_pos q5]
   refine ao1 h1 (b:=avx t.Kids) ?_
   cases hks:t.Kids with
   |nil=>exact h0
   |cons x r=>exact hk x (by rw[hks];exact List.mem_cons_self ..)
  rw[if_neg q5]
  by_cases q6:t.Kind=14 \/ t.Kind=17
  ·rw[if_pos q6];exact ao1 h1 (ao3 _ _ h0 hk)
  rw[if_neg q6];exact h1
theorem ao4 (t:ae):ones (uO t):=akH _ t (Nat.lt_succ_self _)
theorem arZ : ∀l:List ae,(∀x∈l,(uO x).length<=2*iF x)->(rH l).length<=2*oQ l
 | [],_=>Nat.le_refl _
 |x::r,h=>by
  have:=arZ r fun y hy=>h y (List.mem_cons_of_mem _ hy)
  have:=h x (List.mem_cons_self ..);simp only[rH,oQ,List.length_append];omega
theorem ZN : ∀(l:List ae) (a:List Int),(∀x∈l,(uO x).length<=2*iF x)->(EO a l).length<=a.length+2*oQ l
 | [],a,_=>by simp[EO]
 |x::r,a,h=>by
  have h1:=ZN r (AU a (uO x)) fun y hy=>h y (List.mem_cons_of_mem _ hy)
  have:=h x (List.mem_cons_self ..);rw[ZM] at h1;simp only[EO,oQ];omega
theorem ao5 : ∀(n:Nat) (t:ae),t.sz<n->(uO t).length<=2*iF t
 |0,t,h=>absurd h (Nat.not_lt_zero _)
 |n+1,t,h=>by
  have hk:∀x∈t.Kids,(uO x).length<=2*iF x:=fun x hx=>ao5 n x (by have:=ae.xx hx;omega)
  have a1:=arZ _ hk;have a2:=ZN _ [] hk;have a3:(avx t.Kids).length<=2*oQ t.Kids:=by
   cases hks:t.Kids with
   |nil=>simp[avx]
   |cons x r=>
    have:=hk x (by rw[hks];exact List.mem_cons_self ..)
    simp only[avx,oQ];omega
  rw[lV,zV]
  repeat' split
  all_goals simp only[List.length_cons,List.length_nil] at*
  all_goals omega
theorem J5 (t:ae):(uO t).length<=2*iF t:=ao5 _ t (Nat.lt_succ_self _)
theorem ao6 {l:List ae} {k:Nat} (h:k<l.length):rH (l.drop k)=uO l[k]++rH (l.drop (k+1)):=by rw[iQ h];rfl
theorem ao7 {l:List ae} {k:Nat} (a:List Int) (h:k<l.length):EO a (l.drop k)=EO (AU a (uO l[k])) (l.drop (k+1)):=by rw[iQ h];rfl
theorem ao8 {a b:List Int} {k:Nat} (ha:k<a.length) (hb:k<b.length):AU (a.drop k) (b.drop k)=max a[k] b[k]::AU (a.drop (k+1)) (b.drop (k+1)):=by rw[iQ ha,iQ hb];rfl
theorem aDz (a b:List Int) (ha:a.length<=4194304) (hb:b.length<=4194304):M.PQ a b=some (AU a b):=by
 have key:∀f k (o:List Int),k<=max a.length b.length->max a.length b.length-k<f->o.length=k->M.mG a b f (k:Int) o=some (o++AU (a.drop k) (b.drop k)):=by
  intro f
  induction f with
  |zero=>intro k o h1 h2;omega
  |succ f ih=>
   intro k o h1 h2 h3
   rcases Nat.lt_or_ge k (max a.length b.length) with hk |hk
   ·rw[M.mG]
    have hw:Go.IntKind.wrap .i64 ((k:Int)+1)=((k+1:Nat):Int):=df hk (by omega)
    rcases Nat.lt_or_ge k b.length with hkb |hkb
    ·have c1:decide (((b.length:Nat):Int)<=(k:Int))=false:=by simp only[decide_eq_false_iff_not];omega
     rcases Nat.lt_or_ge k a.length with hka |hka
     ·have c2:decide (((a.length:Nat):Int)<=(k:Int))=false:=by simp only[decide_eq_false_iff_not];omega
      have hm:M.yS a[k] b[k]=some (max a[k] b[k]):=by
       unfold M.yS
       rcases Int.lt_or_le b[k] a[k] with h |h
       ·rw[decide_eq_true h,cond_true];congr 1;omega
       ·rw[decide_eq_false (by omega),cond_false];congr 1;omega
      simp only[c1,c2,getD_lt hka,getD_lt hkb,hm,Int.toNat_natCast,bf,Int.ofNat_lt,hka,hkb,decide_true,Bool.true_or,cond_true,cond_false,Bool.true_and,Bool.and_true,Option.getD_some,Option.isSome_some,hw,h3,List.length_cons,List.length_nil];rw[show decide (k+(0+1)<=1073741824)=true by simp only[decide_eq_true_eq];omega,cond_true,ih (k+1) _ (by omega) (by omega) (by simp[h3]),ao8 hka hkb]
      simp
     ·have c2:decide (((a.length:Nat):Int)<=(k:Int))=true:=by simp only[decide_eq_true_eq];omega
      simp only[c1,c2,getD_lt hkb,Int.toNat_natCast,bf,Int.ofNat_lt,hkb,decide_true,Bool.or_true,cond_true,cond_false,Bool.true_and,Bool.and_true,hw,h3,List.length_cons,List.length_nil];rw[show decide (k+(0+1)<=1073741824)=true by simp only[decide_eq_true_eq];omega,cond_true,ih (k+1) _ (by omega) (by omega) (by simp[h3]),List.drop_of_length_le hka,List.drop_of_length_le (by omega:a.length<=k+1),iQ hkb]
      simp[AU]
    ·have c1:decide (((b.length:Nat):Int)<=(k:Int))=true:=by simp only[decide_eq_true_eq];omega
     have hka:k<a.length:=by omega
     simp only[c1,getD_lt hka,Int.toNat_natCast,bf,Int.ofNat_lt,hka,decide_true,Bool.true_or,cond_true,cond_false,Bool.true_and,Bool.and_true,hw,h3,List.length_cons,List.length_nil];rw[show decide (k+(0+1)<=1073741824)=true by simp only[decide_eq_true_eq];omega,cond_true,ih (k+1) _ (by omega) (by omega) (by simp[h3]),List.drop_of_length_le hkb,List.drop_of_length_le (by omega:b.length<=k+1),iQ hka,ZL,ZL]
     simp
   ·rw[M.mG]
    have n1:¬(k:Int)<((a.length:Nat):Int):=by omega
    have n2:¬(k:Int)<((b.length:Nat):Int):=by omega
    simp only[n1,n2,decide_false,Bool.or_self,cond_false];rw[List.drop_of_length_le (by omega:a.length<=k),List.drop_of_length_le (by omega:b.length<=k)]
    simp[AU]
 unfold M.PQ;have e:=key aA 0 [] (Nat.zero_le _) (by have:=bU;omega) rfl
 have e':M.mG a b aA 0 []=_:=e;rw[e'];rfl
theorem aAM (a b:List Int) (ha:a.length<=4194304) (hb:b.length<=4194304) (oa:ones a) (ob:ones b):M.Xj a b=some (AU a b):=by
 have key:∀f k (o:List Int),k<=max a.length b.length->max a.length b.length-k<f->o.length=k->M.wo a b ((max a.length b.length:Nat):Int) f (k:Int) o=some (o++AU (a.drop k) (b.drop k)):=by
  intro f
  induction f with
  |zero=>intro k o h1 h2;omega
  |succ f ih=>
   intro k o h1 h2 h3
   rcases Nat.lt_or_ge k (max a.length b.length) with hk |hk
   ·rw[M.wo]
    have hw:Go.IntKind.wrap .i64 ((k:Int)+1)=((k+1:Nat):Int):=df hk (by omega)
    have c0:decide ((k:Int)<((max a.length b.length:Nat):Int))=true:=by simp only[decide_eq_true_eq];omega
    rw[c0,cond_true];have hd:decide (o.length+([(1:Int)]:List Int).length<=1073741824)=true:=by simp only[decide_eq_true_eq,List.length_cons,List.length_nil];omega
    rcases Nat.lt_or_ge k b.length with hkb |hkb
    ·have vb:=ob b[k] (List.getElem_mem hkb)
     rcases Nat.lt_or_ge k a.length with hka |hka
     ·have va:=oa a[k] (List.getElem_mem hka)
      simp only[getD_lt hka,getD_lt hkb,Int.toNat_natCast,bf,Int.ofNat_lt,hka,hkb,decide_true,Bool.true_or,Bool.true_and,Bool.and_true,hw,List.length_cons,List.length_nil];simp only[List.length_cons,List.length_nil] at hd;rw[hd];have hm:(bif (a[k]==2)||(b[k]==2) then (2:Int) else 1)=max a[k] b[k]:=by
       rcases va with va |va<;>rcases vb with vb |vb<;>rw[va,vb]<;>decide
      rw[hm];have hg:((true|| !((a[k]==(2:Int))||(b[k]==2)))&&(true||((a[k]==(2:Int))||(b[k]==2))))=true:=by simp
      simp only[Bool.true_or,Bool.and_self,cond_true];rw[ih (k+1) _ (by omega) (by omega) (by simp[h3]),ao8 hka hkb]
      simp
     ·have na:¬(k<a.length):=by omega
      simp only[getD_lt hkb,Int.toNat_natCast,bf,Int.ofNat_lt,hkb,na,decide_true,decide_false,Bool.true_or,Bool.true_and,Bool.and_true,Bool.false_and,Bool.false_or,Bool.or_true,Bool.not_false,hw,List.length_cons,List.length_nil];simp only[List.length_cons,List.length_nil] at hd;rw[hd];have hm:(bif (b[k]==2) then (2:Int) else 1)=b[k]:=by
       rcases vb with vb |vb<;>rw[vb]<;>decide
      rw[hm];simp;rw[show ((k:Nat):Int)+1=((k+1:Nat):Int) from rfl,ih (k+1) _ (by omega) (by omega) (by simp[h3]),List.drop_of_length_le hka,List.drop_of_length_le (by omega:a.length<=k+1),iQ hkb]
      simp[AU]
    ·have hka:k<a.length:=by omega
     have va:=oa a[k] (List.getElem_mem hka);have nb:¬(k<b.length):=by omega
     simp only[getD_lt hka,Int.toNat_natCast,bf,Int.ofNat_lt,hka,nb,decide_true,decide_false,Bool.true_or,Bool.true_and,Bool.and_true,Bool.false_and,Bool.and_false,Bool.false_or,Bool.or_false,Bool.or_true,Bool.not_false,hw,List.length_cons,List.length_nil];simp only[List.length_cons,List.length_nil] at hd;rw[hd];have hm:(bif (a[k]==2) then (2:Int) else 1)=a[k]:=by
      rcases va with va |va<;>rw[va]<;>decide
     rw[hm];simp;rw[show ((k:Nat):Int)+1=((k+1:Nat):Int) from rfl,ih (k+1) _ (by omega) (by omega) (by simp[h3]),List.drop_of_length_le hkb,List.drop_of_length_le (by omega:b.length<=k+1),iQ hka,ZL,ZL]
     simp
   ·rw[M.wo]
    have n1:decide ((k:Int)<((max a.length b.length:Nat):Int))=false:=by simp only[decide_eq_false_iff_not];omega
    rw[n1,cond_false,List.drop_of_length_le (by omega:a.length<=k),List.drop_of_length_le (by omega:b.length<=k)]
    simp[AU]
 unfold M.Xj;have hmx:(bif decide (((a.length:Nat):Int)<((b.length:Nat):Int)) then ((b.length:Nat):Int) else ((a.length:Nat):Int))=((max a.length b.length:Nat):Int):=by
  rcases Nat.lt_or_ge a.length b.length with h |h
  ·rw[decide_eq_true (by omega),cond_true];omega
  ·rw[decide_eq_false (by omega),cond_false];omega
 rw[hmx];have e:=key aA 0 [] (Nat.zero_le _) (by have:=bU;omega) rfl
 have e':M.wo a b ((max a.length b.length:Nat):Int) aA 0 []=_:=e;rw[e'];rfl
end M
namespace M
open Go.V (inB xG aA bU)
def O4 (t:ae):List ae:=if t.Kind=13 then [.mk 1 [] [] [],t.Kids.getD 0 ae.zero] else t.Kids
theorem Rj {t:ae} (h:jv t=true) (hk:t.Kind=13):0<t.Kids.length:=by
 rw[JZ] at h;have h1:OO t=true:=by rw[Bool.and_eq_true] at h;exact h.1
 unfold OO aya at h1;rw[if_pos (.inr hk:t.Kind=12 \/ t.Kind=13)] at h1;simp only[Bool.and_eq_true,beq_iff_eq] at h1;omega
theorem Ou {t:ae} (h:jv t=true):∀x∈t.Kids,jv x=true:=by
 rw[JZ,Bool.and_eq_true,LW,List.all_eq_true] at h;exact h.2
theorem ayc (t:ae) (h:jv t=true) (hk:t.Kind=13 \/ t.Kind=14 \/ t.Kind=17):M.KG t=some (O4 t):=by
 unfold M.KG O4
 by_cases h13:t.Kind=13
 ·have hp:=Rj h h13
  rw[if_pos h13];simp only[ae.aB,h13,aDw,hp,decide_true,Bool.and_true,cond_true,Int.toNat_zero,beq_self_eq_true]
 ·rw[if_neg h13]
  rcases hk with hk |hk |hk
  ·exact absurd hk h13
  ·rw[hk];rfl
  ·rw[hk];rfl
theorem aCv (t:ae) (h:jv t=true) (hk:t.Kind=13 \/ t.Kind=14 \/ t.Kind=17):M.am1 t=some (O4 t):=ayc t h hk
theorem ar0 {t:ae} (h:jv t=true) (hk:t.Kind=13 \/ t.Kind=14 \/ t.Kind=17):∀x∈O4 t,jv x=true:=by
 unfold O4
 by_cases h13:t.Kind=13
 ·have hp:=Rj h h13
  rw[if_pos h13,getD_lt hp];intro x hx
  rcases List.mem_cons.1 hx with rfl |hx
  ·decide
  ·rcases List.mem_cons.1 hx with rfl |hx
   ·exact Ou h _ (List.getElem_mem _)
   ·simp at hx
 ·rw[if_neg h13];exact Ou h
theorem aAN {t:ae} (h:jv t=true) (hk:t.Kind=13 \/ t.Kind=14 \/ t.Kind=17):∀x∈O4 t,x.sz<t.sz:=by
 unfold O4
 by_cases h13:t.Kind=13
 ·have hp:=Rj h h13
  rw[if_pos h13,getD_lt hp];have hg:(t.Kids[0]).sz<t.sz:=ae.xx (List.getElem_mem _);intro x hx
  rcases List.mem_cons.1 hx with rfl |hx
  ·have:(ae.mk 1 [] [] []).sz=0:=by rw[ae.dJ];rfl
   omega
  ·rcases List.mem_cons.1 hx with rfl |hx
   ·exact hg
   ·simp at hx
 ·rw[if_neg h13];exact fun x hx=>ae.xx hx
theorem avy {t:ae} (h:jv t=true) (hk:t.Kind=13 \/ t.Kind=14 \/ t.Kind=17):uO t=1::EO [] (O4 t):=by
 unfold O4;rw[lV]
 by_cases h13:t.Kind=13
 ·have hp:=Rj h h13
  rw[if_pos h13,getD_lt hp];have q1:¬t.Kind=1:=by omega
  have q2:¬t.Kind=9:=by omega
  have q3:¬(t.Kind=11 \/ t.Kind=12):=by omega
  have q4:¬(t.Kind=15 \/ t.Kind=16):=by omega
  rw[if_neg q1,if_neg q2,if_neg q3,if_neg q4,if_pos h13];have hu:uO (.mk 1 [] [] [])=[]:=by rw[lV];rfl
  have:∀(l:List ae) (hl:0<l.length),avx l=EO [] [.mk 1 [] [] [],l[0]]:=fun l hl=>by
   cases l with
   |nil=>simp at hl
   |cons x r=>simp only[avx,EO,hu,List.getElem_cons_zero,AU]
  rw[this _ hp]
 ·rw[if_neg h13]
  have hk':t.Kind=14 \/ t.Kind=17:=by omega
  have q1:¬t.Kind=1:=by omega
  have q2:¬t.Kind=9:=by omega
  have q3:¬(t.Kind=11 \/ t.Kind=12):=by omega
  have q4:¬(t.Kind=15 \/ t.Kind=16):=by omega
  rw[if_neg q1,if_neg q2,if_neg q3,if_neg q4,if_neg h13,if_pos hk']
theorem ayd {t:ae} (h:jv t=true) (hk:t.Kind=13 \/ t.Kind=14 \/ t.Kind=17) (hN:t.sz<=1048576):oQ (O4 t)<=1048580 /\ (O4 t).length<=1048576+2:=by
 have h1:=ags (ae.ZH hN);have h2:=ae.qL hN;unfold O4
 by_cases h13:t.Kind=13
 ·have hp:=Rj h h13
  rw[if_pos h13,getD_lt hp];have h3:=aoE t.Kids t.Kids[0] (List.getElem_mem _);have:iF (.mk 1 [] [] [])=1:=by rw[zV];rfl
  simp only[oQ,this,List.length_cons,List.length_nil];omega
 ·rw[if_neg h13];omega
theorem ao9 (K:Int) {P:Prop} (h1:K=1->P) (h9:K=9->P) (h11:K=11->P) (h12:K=12->P) (h15:K=15->P) (h16:K=16->P)
 (hc:(K=13 \/ K=14 \/ K=17)->P) (he:(K≠1 /\ K≠9 /\ K≠11 /\ K≠12 /\ K≠15 /\ K≠16 /\ K≠13 /\ K≠14 /\ K≠17)->P):P:=by
 by_cases q1:K=1
 ·exact h1 q1
 by_cases q2:K=9
 ·exact h9 q2
 by_cases q3:K=11
 ·exact h11 q3
 by_cases q4:K=12
 ·exact h12 q4
 by_cases q5:K=15
 ·exact h15 q5
 by_cases q6:K=16
 ·exact h16 q6
 by_cases q7:K=13 \/ K=14 \/ K=17
 ·exact hc q7
 ·exact he ⟨q1,q2,q3,q4,q5,q6,by omega,by omega,by omega⟩
theorem aAO (n:Nat) (rec:List ae->Option (List Int)) (hr:∀ts,fA ae.sz ts<n->ts.length<=1048576->fA ae.sz ts<=1048576->(∀x∈ts,jv x=true)->rec ts=some (rH ts)):
 ∀(m:Nat) (t:ae),t.sz<m->t.sz<n->t.sz<=1048576->jv t=true->M.vW rec m t=some (uO t)
 |0,t,h,_,_,_=>absurd h (Nat.not_lt_zero _)
 |m+1,t,h,hn,hN,hs=>by
  have hka:rec t.Kids=some (rH t.Kids):=hr _ (by rw[ae.dJ] at hn;omega) (ae.qL hN) (ae.ZH hN) (Ou hs)
  show M.Nk rec (M.vW rec m) t=_
  unfold M.Nk;refine ao9 t.Kind ?_ ?_ ?_ ?_ ?_ ?_ ?_ ?_
  ·intro hk;rw[lV];simp only[hk];rfl
  ·intro hk;rw[lV];simp only[hk];rfl
  ·intro hk;rw[lV];simp only[hk];rfl
  ·intro hk;rw[lV];simp only[hk];rfl
  ·intro hk;rw[lV];simp only[hk,hka];rfl
  ·intro hk;rw[lV];simp only[hk,hka];rfl
  ·intro hk
   obtain ⟨hsum,hlen⟩:=ayd hs hk hN;have hcs:=ar0 hs hk;have hcz:=aAN hs hk;have key:∀f k (a:List Int),k<=(O4 t).length->(O4 t).length-k<f->a.length+2*oQ ((O4 t).drop k)<=2097160->M.sJ (M.vW rec m) (O4 t) f (k:Int) a=some (EO a ((O4 t).drop k)):=by
    intro f
    induction f with
    |zero=>intro k a h1 h2;omega
    |succ f ih=>
     intro k a h1 h2 h3
     rcases Nat.lt_or_ge k (O4 t).length with hk' |hk'
     ·rw[M.sJ]
      have hm:=List.getElem_mem hk';have hz:=hcz _ hm;have hfl:=J5 (O4 t)[k];rw[Ff hk'] at h3;have hj:=aDz a (uO (O4 t)[k]) (by omega) (by omega)
      simp only[ae.aB,getD_lt hk',aAO n rec hr m (O4 t)[k] (by omega) (by omega) (by omega) (hcs _ hm),Int.toNat_natCast,bf,Int.ofNat_lt,hk',decide_true,cond_true,Bool.true_and,Bool.and_true,df hk' (by omega:(O4 t).length<2^62),Option.getD_some,Option.isSome_some,hj]
      rw[ih (k+1) _ (by omega) (by omega) (by rw[ZM];omega),ao7 a hk']
     ·have:k=(O4 t).length:=by omega
      subst this;rw[M.sJ];simp[List.drop_length,EO]
   have e:=key aA 0 [] (Nat.zero_le _) (by have:=bU;omega) (by simp only[List.drop_zero,List.length_nil];omega)
   have e':M.sJ (M.vW rec m) (O4 t) aA 0 []=_:=e;rw[List.drop_zero] at e';have hjl:=ZN (O4 t) [] (fun x _=>J5 x)
   have hd:decide (([(1:Int)]:List Int).length+(EO [] (O4 t)).length<=1073741824)=true:=by simp only[decide_eq_true_eq,List.length_cons,List.length_nil] at*;omega
   rw[avy hs hk];have hce:=ayc t hs hk;simp only[ae.aB,hce,Option.getD_some,e',hd,Option.isSome_some,Bool.and_self]
   rcases hk with hk |hk |hk<;>rw[hk]<;>rfl
  ·rintro ⟨q1,q2,q3,q4,q5,q6,q7,q8,q9⟩
   rw[lV,if_neg q1,if_neg q2,if_neg (by omega),if_neg (by omega),if_neg q7,if_neg (by omega)]
   have b1:(t.Kind==1)=false:=by simpa using q1
   have b2:(t.Kind==9)=false:=by simpa using q2
   have b3:(t.Kind==11)=false:=by simpa using q3
   have b4:(t.Kind==12)=false:=by simpa using q4
   have b5:(t.Kind==15)=false:=by simpa using q5
   have b6:(t.Kind==16)=false:=by simpa using q6
   have b7:(t.Kind==13)=false:=by simpa using q7
   have b8:(t.Kind==14)=false:=by simpa using q8
   have b9:(t.Kind==17)=false:=by simpa using q9
   simp only[b1,b2,b3,b4,b5,b6,b7,b8,b9,cond_false]
theorem aCT : ∀(n:Nat) (ts:List ae),fA ae.sz ts<n->ts.length<=1048576->fA ae.sz ts<=1048576->(∀x∈ts,jv x=true)->M.wX n ts=some (rH ts)
 |0,ts,h,_,_,_=>absurd h (Nat.not_lt_zero _)
 |n+1,ts,h,hl,hN,hs=>by
  have hsum:=ags hN;have key:∀f k (a:List Int),k<=ts.length->ts.length-k<f->a.length+2*oQ (ts.drop k)<=2097160->M.vX (M.wX n) ts f (k:Int) a=some (a++rH (ts.drop k)):=by
   intro f
   induction f with
   |zero=>intro k a h1 h2;omega
   |succ f ih=>
    intro k a h1 h2 h3
    rcases Nat.lt_or_ge k ts.length with hk |hk
    ·rw[M.vX]
     have hm:=List.getElem_mem hk;have hz:=ZI ae.sz _ _ hm;have hfl:=J5 ts[k];rw[Ff hk] at h3;have hf:M.ZB (M.wX n) ts[k]=some (uO ts[k]):=aAO n _ (fun ts h1 h2 h3 h4=>aCT n ts h1 h2 h3 h4) aA _ (qU (by omega)) (by omega) (by omega) (hs _ hm)
     have hd:decide (a.length+(uO ts[k]).length<=1073741824)=true:=by simp only[decide_eq_true_eq];omega
     simp only[ae.aB,getD_lt hk,hf,Int.toNat_natCast,bf,Int.ofNat_lt,hk,decide_true,cond_true,Bool.true_and,Bool.and_true,df hk (by omega:ts.length<2^62),Option.getD_some,Option.isSome_some,hd]
     rw[ih (k+1) _ (by omega) (by omega) (by rw[List.length_append];omega),ao6 hk,List.append_assoc]
    ·have:k=ts.length:=by omega
     subst this;rw[M.vX];simp[List.drop_length,rH]
  show M.Si (M.wX n) ts=_
  unfold M.Si;have e:=key aA 0 [] (Nat.zero_le _) (by have:=bU;omega) (by simp only[List.drop_zero,List.length_nil];omega)
  have e':M.vX (M.wX n) ts aA 0 []=_:=e;rw[e'];rfl
theorem aAP (n:Nat) (rec:List ae->Option (List Int)) (hr:∀ts,fA ae.sz ts<n->ts.length<=1048576->fA ae.sz ts<=1048576->(∀x∈ts,jv x=true)->rec ts=some (rH ts)):
 ∀(m:Nat) (t:ae),t.sz<m->t.sz<n->t.sz<=1048576->jv t=true->M.yZ rec m t=some (uO t)
 |0,t,h,_,_,_=>absurd h (Nat.not_lt_zero _)
 |m+1,t,h,hn,hN,hs=>by
  have hka:rec t.Kids=some (rH t.Kids):=hr _ (by rw[ae.dJ] at hn;omega) (ae.qL hN) (ae.ZH hN) (Ou hs)
  show M.Sj rec (M.yZ rec m) t=_
  unfold M.Sj;refine ao9 t.Kind ?_ ?_ ?_ ?_ ?_ ?_ ?_ ?_
  ·intro hk;rw[lV];simp only[hk];rfl
  ·intro hk;rw[lV];simp only[hk];rfl
  ·intro hk;rw[lV];simp only[hk];rfl
  ·intro hk;rw[lV];simp only[hk];rfl
  ·intro hk;rw[lV];simp only[hk,hka];rfl
  ·intro hk;rw[lV];simp only[hk,hka];rfl
  ·intro hk
   obtain ⟨hsum,hlen⟩:=ayd hs hk hN;have hcs:=ar0 hs hk;have hcz:=aAN hs hk;have key:∀f k (a:List Int),k<=(O4 t).length->(O4 t).length-k<f->a.length+2*oQ ((O4 t).drop k)<=2097160->ones a->M.wu (M.yZ rec m) (O4 t) ((O4 t).length:Int) f (k:Int) a=some (EO a ((O4 t).drop k)):=by
    intro f
    induction f with
    |zero=>intro k a h1 h2;omega
    |succ f ih=>
     intro k a h1 h2 h3 h4
     rcases Nat.lt_or_ge k (O4 t).length with hk' |hk'
     ·rw[M.wu]
      have hm:=List.getElem_mem hk';have hz:=hcz _ hm;have hfl:=J5 (O4 t)[k];rw[Ff hk'] at h3;have hj:=aAM a (uO (O4 t)[k]) (by omega) (by omega) h4 (ao4 _)
      simp only[ae.aB,getD_lt hk',aAP n rec hr m (O4 t)[k] (by omega) (by omega) (by omega) (hcs _ hm),Int.toNat_natCast,bf,Int.ofNat_lt,hk',decide_true,cond_true,Bool.true_and,Bool.and_true,df hk' (by omega:(O4 t).length<2^62),Option.getD_some,Option.isSome_some,hj]
      rw[ih (k+1) _ (by omega) (by omega) (by rw[ZM];omega) (adX _ _ h4 (ao4 _)),ao7 a hk']
     ·have:k=(O4 t).length:=by omega
      subst this;rw[M.wu];simp[List.drop_length,EO]
   have e:=key aA 0 [] (Nat.zero_le _) (by have:=bU;omega) (by simp only[List.drop_zero,List.length_nil];omega) (fun x hx=>by simp at hx)
   have e':M.wu (M.yZ rec m) (O4 t) ((O4 t).length:Int) aA 0 []=_:=e;rw[List.drop_zero] at e';have hjl:=ZN (O4 t) [] (fun x _=>J5 x)
   have hd:decide (([(1:Int)]:List Int).length+(EO [] (O4 t)).length<=1073741824)=true:=by simp only[decide_eq_true_eq,List.length_cons,List.length_nil] at*;omega
   rw[avy hs hk];have hce:=aCv t hs hk;simp only[ae.aB,hce,Option.getD_some,e',hd,Option.isSome_some,Bool.and_self]
   rcases hk with hk |hk |hk<;>rw[hk]<;>rfl
  ·rintro ⟨q1,q2,q3,q4,q5,q6,q7,q8,q9⟩
   rw[lV,if_neg q1,if_neg q2,if_neg (by omega),if_neg (by omega),if_neg q7,if_neg (by omega)]
   have b1:(t.Kind==1)=false:=by simpa using q1
   have b2:(t.Kind==9)=false:=by simpa using q2
   have b3:(t.Kind==11)=false:=by simpa using q3
   have b4:(t.Kind==12)=false:=by simpa using q4
   have b5:(t.Kind==15)=false:=by simpa using q5
   have b6:(t.Kind==16)=false:=by simpa using q6
   have b7:(t.Kind==13)=false:=by simpa using q7
   have b8:(t.Kind==14)=false:=by simpa using q8
   have b9:(t.Kind==17)=false:=by simpa using q9
   simp only[b1,b2,b3,b4,b5,b6,b7,b8,b9,cond_false]
theorem aCU : ∀(n:Nat) (ts:List ae),fA ae.sz ts<n->ts.length<=1048576->fA ae.sz ts<=1048576->(∀x∈ts,jv x=true)->M.mO n ts=some (rH ts)
 |0,ts,h,_,_,_=>absurd h (Nat.not_lt_zero _)
 |n+1,ts,h,hl,hN,hs=>by
  have hsum:=ags hN;have key:∀f k (a:List Int),k<=ts.length->ts.length-k<f->a.length+2*oQ (ts.drop k)<=2097160->M.nH (M.mO n) ts (ts.length:Int) f (k:Int) a=some (a++rH (ts.drop k)):=by
   intro f
   induction f with
   |zero=>intro k a h1 h2;omega
   |succ f ih=>
    intro k a h1 h2 h3
    rcases Nat.lt_or_ge k ts.length with hk |hk
    ·rw[M.nH]
     have hm:=List.getElem_mem hk;have hz:=ZI ae.sz _ _ hm;have hfl:=J5 ts[k];rw[Ff hk] at h3;have hf:M.afk (M.mO n) ts[k]=some (uO ts[k]):=aAP n _ (fun ts h1 h2 h3 h4=>aCU n ts h1 h2 h3 h4) aA _ (qU (by omega)) (by omega) (by omega) (hs _ hm)
     have hd:decide (a.length+(uO ts[k]).length<=1073741824)=true:=by simp only[decide_eq_true_eq];omega
     simp only[ae.aB,getD_lt hk,hf,Int.toNat_natCast,bf,Int.ofNat_lt,hk,decide_true,cond_true,Bool.true_and,Bool.and_true,df hk (by omega:ts.length<2^62),Option.getD_some,Option.isSome_some,hd]
     rw[ih (k+1) _ (by omega) (by omega) (by rw[List.length_append];omega),ao6 hk,List.append_assoc]
    ·have:k=ts.length:=by omega
     subst this;rw[M.nH];simp[List.drop_length,rH]
  show M.FW (M.mO n) ts=_
  unfold M.FW;have e:=key aA 0 [] (Nat.zero_le _) (by have:=bU;omega) (by simp only[List.drop_zero,List.length_nil];omega)
  have e':M.nH (M.mO n) ts (ts.length:Int) aA 0 []=_:=e;rw[e'];rfl
end M
namespace M
open Go.V (inB xG aA bU)
theorem az.Oo {a:az} {N:Nat} (h:a.sz<=N):a.bF.sz<=N:=by rw[az.dJ] at h;omega
theorem az.agE {a:az} {N:Nat} (h:a.sz<=N):a.Name.length<=N:=by rw[az.dJ] at h;omega
def Rf (p:az):Bool:= !((!fO p.Name|| !tOk p.bF)||wH p.bF)
def fOk (f:af):Bool:=((decide (f.Params.length<=6)&&(f.Params.all Rf&&nodupB (f.Params.map az.Name)))&&tOk f.Result)&& !LX (fun k=>k==21) f.Result
theorem aCw (n:Nat):decide ((6:Int)<((n:Nat):Int))= !decide (n<=6):=by
 rw[Bool.eq_iff_iff];simp only[Bool.not_eq_true',decide_eq_true_eq,decide_eq_false_iff_not];omega
theorem azV (f:af) (h:f.sz<=1048576):M.VB f=some (fOk f):=by
 rw[af.dJ] at h;have hl:f.Params.length<=1048576:=Nat.le_trans (dh az.sz f.Params) (by omega)
 have key:∀g k,k<=f.Params.length->f.Params.length-k<g->M.o5 f.Params f.Params (f.Params.length:Int) g (k:Int) ((f.Params.take k).map az.Name)=some (if (f.Params.drop k).all Rf then .inr (f.Params,f.Params.map az.Name) else .inl false):=by
  intro g
  induction g with
  |zero=>intro k h1 h2;omega
  |succ g ih=>
   intro k h1 h2
   rcases Nat.lt_or_ge k f.Params.length with hk |hk
   ·rw[M.o5]
    have hm:=dY az.sz _ _ (List.getElem_mem hk);have hnm:=Gu f.Params[k].Name (az.agE (N:=1048576) (by omega))
    have hty:=avw f.Params[k].bF (az.Oo (N:=1048576) (by omega))
    have hd:decide ((((f.Params.take k).map az.Name).length+([f.Params[k].Name]:List (List UInt8)).length)<=1073741824)=true:=by
     simp only[decide_eq_true_eq,List.length_map,List.length_take,List.length_cons,List.length_nil];omega
    have ht:(f.Params.take k).map az.Name++[f.Params[k].Name]=(f.Params.take (k+1)).map az.Name:=by
     rw[List.take_add_one,List.map_append,List.getElem?_eq_getElem hk];rfl
    have hu:(f.Params[k].bF.Kind==1)=wH f.Params[k].bF:=rfl;simp only[ae.aB,getD_lt hk,hnm,hty,Int.toNat_natCast,bf,Int.ofNat_lt,hk,decide_true,cond_true,Bool.true_and,Bool.and_true,df hk (by omega:f.Params.length<2^62),Option.getD_some,Option.isSome_some,Bool.true_or,hd,ht,hu]
    rw[ih (k+1) (by omega) (by omega),iQ hk,List.all_cons]
    rw[show Rf f.Params[k]= !((!fO f.Params[k].Name|| !tOk f.Params[k].bF)||wH f.Params[k].bF) from rfl]
    cases (!fO f.Params[k].Name|| !tOk f.Params[k].bF)||wH f.Params[k].bF<;>simp
   ·have:k=f.Params.length:=by omega
    subst this;rw[M.o5];simp
 have e:=key aA 0 (Nat.zero_le _) (by have:=bU;omega)
 have e':M.o5 f.Params f.Params (f.Params.length:Int) aA 0 []=_:=e;have hd:=FK (f.Params.map az.Name) (by rw[List.length_map];exact hl)
 have e6:decide (((f.Params.length:Nat):Int)<=6)=decide (f.Params.length<=6):=by simp only[decide_eq_decide];omega
 have hp:M.Kv f.Params=some (decide (f.Params.length<=6)&&(f.Params.all Rf&&nodupB (f.Params.map az.Name))):=by
  unfold M.Kv;rw[e',List.drop_zero]
  cases f.Params.all Rf
  ·simp
  ·simp only[if_true,hd,e6,Option.isSome_some,Option.getD_some,Bool.true_or,Bool.true_and,cond_true]
 have hr:=avw f.Result (by omega)
 have e21:LX (fun k=>[(21:Int)].any fun x=>k==x)=LX (fun k=>k==21):=J3 fun k=>by simp
 have hh:M.lX f.Result [21]=some (LX (fun k=>k==21) f.Result):=by
  rw[show M.lX=M.lT aA from rfl,axZ [21] (by simp) aA _ (qU (by omega)) (by omega),e21]
 unfold M.VB;simp only[ae.aB,hp,hr,hh,Option.isSome_some,Option.getD_some,Bool.true_or,Bool.true_and,cond_true]
 rfl
theorem aDa (f:af) (h:f.sz<=1048576):M.Q5 f=some (fOk f):=by
 rw[af.dJ] at h;have hl:f.Params.length<=1048576:=Nat.le_trans (dh az.sz f.Params) (by omega)
 have hin:∀i (hi:i<f.Params.length),M.jO (i:Int) aA 0 f f.Params[i]=some (if (List.range i).all (fun k=> !((f.Params.getD k az.zero).Name==f.Params[i].Name)) then .inr ((i:Int),f) else .inl false):=fun i hi=>
  uQ (p:=fun k=> !((f.Params.getD k az.zero).Name==f.Params[i].Name)) (F:=fun g k=>M.jO (i:Int) g k f f.Params[i]) (e:=((i:Int),f)) (b:=false) i (by omega) (fun g k hk=>by
   show M.jO (i:Int) (g+1) (k:Int) f f.Params[i]=_
   rw[M.jO];have hk':k<f.Params.length:=by omega
   simp only[af.aB,az.aB,getD_lt hk',Int.toNat_natCast,bf,Int.ofNat_lt,hk,hk',decide_true,cond_true,Bool.and_true,df hk (by omega:i<2^62)]
   cases (f.Params[k].Name==f.Params[i].Name)<;>rfl) (fun g=>by
   show M.jO (i:Int) (g+1) (i:Int) f f.Params[i]=_
   rw[M.jO];simp[af.aB])
 have hout:M.mW aA 0 f=some (if (List.range f.Params.length).all (fun i=>Rf (f.Params.getD i az.zero)&&(List.range i).all (fun k=> !((f.Params.getD k az.zero).Name==(f.Params.getD i az.zero).Name))) then .inr () else .inl false):=
  uQ (p:=fun i=>Rf (f.Params.getD i az.zero)&&(List.range i).all (fun k=> !((f.Params.getD k az.zero).Name==(f.Params.getD i az.zero).Name))) (F:=fun g k=>M.mW g k f) (e:=()) (b:=false) f.Params.length (by omega) (fun g k hk=>by
   show M.mW (g+1) (k:Int) f=_
   rw[M.mW];have hm:=dY az.sz _ _ (List.getElem_mem hk);have hnm:=Gt f.Params[k].Name (az.agE (N:=1048576) (by omega))
   have hty:=aDy f.Params[k].bF (az.Oo (N:=1048576) (by omega))
   have hu:(f.Params[k].bF.Kind==1)=wH f.Params[k].bF:=rfl;simp only[ae.aB,af.aB,az.aB,getD_lt hk,hnm,hty,hin k hk,Int.toNat_natCast,bf,Int.ofNat_lt,hk,decide_true,cond_true,Bool.true_and,Bool.and_true,Option.getD_some,Option.isSome_some,Bool.true_or,hu];rw[show Rf f.Params[k]= !((!fO f.Params[k].Name|| !tOk f.Params[k].bF)||wH f.Params[k].bF) from rfl]
   cases (!fO f.Params[k].Name|| !tOk f.Params[k].bF)||wH f.Params[k].bF
   ·cases (List.range k).all (fun k_1=> !((f.Params.getD k_1 az.zero).Name==f.Params[k].Name))
    ·simp
    ·simp[df hk (by omega:f.Params.length<2^62)]
   ·simp) (fun g=>by
   show M.mW (g+1) (f.Params.length:Int) f=_
   rw[M.mW];simp)
 have hsp:(List.range f.Params.length).all (fun i=>Rf (f.Params.getD i az.zero)&&(List.range i).all (fun k=> !((f.Params.getD k az.zero).Name==(f.Params.getD i az.zero).Name)))=(f.Params.all Rf&&nodupB (f.Params.map az.Name)):=by
  rw[agt,Rh,<-nodup_range (f.Params.map az.Name),List.length_map];have hg:∀k,(f.Params.map az.Name).getD k []=(f.Params.getD k az.zero).Name:=fun k=>by
   rw[List.getD_eq_getElem?_getD,List.getD_eq_getElem?_getD,List.getElem?_map]
   cases f.Params[k]?<;>rfl
  simp only[hg]
 have hr:=aDy f.Result (by omega)
 have hh:M.oL f.Result 21 21=some (LX (fun k=>k==21) f.Result):=by
  rw[show M.oL=M.l7 aA from rfl,axY 21 21 aA _ (qU (by omega)) (by omega)]
  rw[J3 (fun k=>b21 k)]
 unfold M.Q5;rw[hsp] at hout;simp only[ae.aB,af.aB,hr,hh,hout,aCw,Option.isSome_some,Option.getD_some,Bool.true_or,Bool.true_and,Bool.and_true,cond_true];unfold fOk
 cases decide (f.Params.length<=6)<;>cases tOk f.Result<;>cases LX (fun k=>k==21) f.Result<;>cases (f.Params.all Rf&&nodupB (f.Params.map az.Name))<;>simp
end M
namespace M
open Go.V (inB xG aA bU)
theorem aCV : ∀(m:Nat) (t:ae),t.sz<m->t.sz<=1048576->M.yR m t=some t
 |0,t,h,_=>absurd h (Nat.not_lt_zero _)
 |m+1,t,h,hN=>by
  have hl:=ae.qL hN;have hlb:=ae.aw2 hN;have key:∀f k,k<=t.Kids.length->t.Kids.length-k<f->M.vV (M.yR m) (0:Int) [] t.Kind t.Name [] [] ([]++t.eP) f (k:Int) t (t.Kids.take k)=some ((0:Int),[],t.Kind,t.Name,[],[],t.eP,t.Kids):=by
   intro f
   induction f with
   |zero=>intro k h1 h2;omega
   |succ f ih=>
    intro k h1 h2
    rcases Nat.lt_or_ge k t.Kids.length with hk |hk
    ·rw[M.vV]
     have hx:=ae.xx (List.getElem_mem hk);have hd:decide (((t.Kids.take k).length+([t.Kids[k]]:List ae).length)<=1073741824)=true:=by
      simp only[decide_eq_true_eq,List.length_take,List.length_cons,List.length_nil];omega
     have ht:t.Kids.take k++[t.Kids[k]]=t.Kids.take (k+1):=by
      rw[List.take_add_one,List.getElem?_eq_getElem hk];rfl
     simp only[ae.aB,getD_lt hk,aCV m t.Kids[k] (by omega) (by omega),Int.toNat_natCast,bf,Int.ofNat_lt,hk,decide_true,cond_true,Bool.true_and,Bool.and_true,df hk (by omega:t.Kids.length<2^62),Option.getD_some,Option.isSome_some,hd,ht]
     exact ih (k+1) (by omega) (by omega)
    ·have:k=t.Kids.length:=by omega
     subst this;rw[M.vV];simp
  show M.RV (M.yR m) t=_
  unfold M.RV;have e:=key aA 0 (Nat.zero_le _) (by have:=bU;omega)
  have e':M.vV (M.yR m) (0:Int) [] t.Kind t.Name [] [] ([]++t.eP) aA 0 t []=_:=e;have hd:decide (0+t.eP.length<=1073741824)=true:=by simp only[decide_eq_true_eq];omega
  simp only[ae.aB,e',hd,Bool.and_self,cond_true]
  cases t;rfl
def nN (f:af):List ae:=f.Params.map az.bF
theorem ar1 {f:af}:fA ae.sz (nN f)<=fA az.sz f.Params:=by
 unfold nN
 induction f.Params with
 |nil=>exact Nat.le_refl _
 |cons x r ih=>have:=az.dJ x;simp only[List.map_cons,fA];omega
theorem apa (l:List az) (k:Nat) (hk:k<l.length):(l.take k).map az.bF++[l[k].bF]=(l.take (k+1)).map az.bF:=by
 rw[List.take_add_one,List.map_append,List.getElem?_eq_getElem hk];rfl
theorem aAQ (f:af) (h:f.sz<=1048576):M.GR f=some (nN f):=by
 rw[af.dJ] at h;have hl:f.Params.length<=1048576:=Nat.le_trans (dh az.sz f.Params) (by omega)
 have key:∀g k,k<=f.Params.length->f.Params.length-k<g->M.nD g (k:Int) f ((f.Params.take k).map az.bF)=some (nN f):=by
  intro g
  induction g with
  |zero=>intro k h1 h2;omega
  |succ g ih=>
   intro k h1 h2
   rcases Nat.lt_or_ge k f.Params.length with hk |hk
   ·rw[M.nD]
    have hm:=dY az.sz _ _ (List.getElem_mem hk);have ho:M.aeU f.Params[k].bF=some f.Params[k].bF:=aCV aA _ (qU (az.Oo (N:=1048576) (by omega))) (az.Oo (N:=1048576) (by omega))
    have hd:decide ((((f.Params.take k).map az.bF).length+([f.Params[k].bF]:List ae).length)<=1073741824)=true:=by
     simp only[decide_eq_true_eq,List.length_map,List.length_take,List.length_cons,List.length_nil];omega
    simp only[ae.aB,af.aB,getD_lt hk,ho,Int.toNat_natCast,bf,Int.ofNat_lt,hk,decide_true,cond_true,Bool.true_and,Bool.and_true,df hk (by omega:f.Params.length<2^62),Option.getD_some,Option.isSome_some,hd,apa _ k hk]
    exact ih (k+1) (by omega) (by omega)
   ·have:k=f.Params.length:=by omega
    subst this;rw[M.nD];simp[nN]
 have e:=key aA 0 (Nat.zero_le _) (by have:=bU;omega)
 have e':M.nD aA 0 f []=_:=e;unfold M.GR;simp only[af.aB,e']
theorem aAR (f:af) (h:f.sz<=1048576):M.Dq f=some (nN f):=by
 rw[af.dJ] at h;have hl:f.Params.length<=1048576:=Nat.le_trans (dh az.sz f.Params) (by omega)
 have key:∀g k,k<=f.Params.length->f.Params.length-k<g->M.nz f.Params (f.Params.length:Int) g (k:Int) ((f.Params.take k).map az.bF)=some (nN f):=by
  intro g
  induction g with
  |zero=>intro k h1 h2;omega
  |succ g ih=>
   intro k h1 h2
   rcases Nat.lt_or_ge k f.Params.length with hk |hk
   ·rw[M.nz]
    have hd:decide ((((f.Params.take k).map az.bF).length+([f.Params[k].bF]:List ae).length)<=1073741824)=true:=by
     simp only[decide_eq_true_eq,List.length_map,List.length_take,List.length_cons,List.length_nil];omega
    simp only[ae.aB,getD_lt hk,Int.toNat_natCast,bf,Int.ofNat_lt,hk,decide_true,cond_true,Bool.true_and,Bool.and_true,df hk (by omega:f.Params.length<2^62),hd,apa _ k hk]
    exact ih (k+1) (by omega) (by omega)
   ·have:k=f.Params.length:=by omega
    subst this;rw[M.nz];simp[nN]
 have e:=key aA 0 (Nat.zero_le _) (by have:=bU;omega)
 have e':M.nz f.Params (f.Params.length:Int) aA 0 []=_:=e;unfold M.Dq;simp only[e']
theorem aEj (ts:List ae) (h:fA ae.sz ts<=1048576) (hl:ts.length<=6) (ho:∀x∈ts,tOk x=true):M.RY ts=some true:=by
 have e:=yF (p:=tOk) (F:=M.BB ts) (e:=ts) (b:=false) ts (by omega) (fun f k hk=>by
  rw[M.BB];have hm:=dY ae.sz _ _ (List.getElem_mem hk);have h24:decide ((k:Int)<=24)=true:=by simp only[decide_eq_true_eq];omega
  simp only[ae.aB,getD_lt hk,aAK ts[k] (by omega),Int.toNat_natCast,bf,Int.ofNat_lt,hk,h24,decide_true,cond_true,Bool.true_and,Bool.and_true,Bool.and_self,df hk (by omega:ts.length<2^62),Option.getD_some,Option.isSome_some]
  cases tOk ts[k]<;>rfl) (fun f=>by rw[M.BB];simp)
 have hall:ts.all tOk=true:=List.all_eq_true.2 ho;unfold M.RY;rw[e,hall,if_pos rfl];have:decide (((ts.length:Nat):Int)<=24)=true:=by simp only[decide_eq_true_eq];omega
 simp only[this]
theorem ar2 {f:af} (h:fOk f=true):(nN f).length<=6 /\ ∀x∈nN f,tOk x=true:=by
 unfold fOk at h;simp only[Bool.and_eq_true,decide_eq_true_eq] at h;obtain ⟨⟨⟨h6,hall,_⟩,_⟩,_⟩:=h;refine ⟨by unfold nN;rw[List.length_map];exact h6, ?_⟩
 intro x hx;obtain ⟨p,hp,rfl⟩:=List.mem_map.1 hx;have:=List.all_eq_true.1 hall p hp;unfold Rf at this;simp only[Bool.not_eq_true',Bool.or_eq_false_iff,Bool.not_eq_false'] at this;exact this.1.2
theorem ar4 {t:ae} (h:tOk t=true):jv t=true:=by
 unfold tOk at h;rw[Bool.and_eq_true] at h;exact h.2
def MK (f:af):Int×Bool×Bool:=
 if fOk f=true then ((if decide ((8:Int)<((rH (nN f)).length:Int))=true then 1 else ((rH (nN f)).length:Int)), !(wH f.Result),true) else (0,false,false)
theorem ajM {f:af} (h:f.sz<=1048576) (hok:fOk f=true):M.oW f=some ((MK f).1,(MK f).2.1):=by
 have hsz:fA ae.sz (nN f)<=1048576:=by have:=ar1 (f:=f);rw[af.dJ] at h;omega
 obtain ⟨h6,ho⟩:=ar2 hok;have hfl:M.BZ (nN f)=some (rH (nN f)):=aCU aA _ (qU hsz) (by omega) hsz fun x hx=>ar4 (ho x hx)
 have hc:M.oW f=some ((if decide ((8:Int)<((rH (nN f)).length:Int))=true then 1 else ((rH (nN f)).length:Int)), !(wH f.Result)):=by
  unfold M.oW M.Jp M.NK;simp only[af.aB,aAR f h,Option.getD_some,hfl,Option.isSome_some,Bool.and_self,cond_true]
  generalize decide ((8:Int)<((rH (nN f)).length:Int))=q
  cases q<;>simp[wH]
 rw[hc];unfold MK;rw[if_pos hok]
theorem ajL {f:af} (h:f.sz<=1048576) (hok:fOk f=true):M.yT f=some ((MK f).1,(MK f).2.1):=by
 have hsz:fA ae.sz (nN f)<=1048576:=by have:=ar1 (f:=f);rw[af.dJ] at h;omega
 obtain ⟨h6,ho⟩:=ar2 hok;have hfl:M.PR (nN f)=some (rH (nN f)):=aCT aA _ (qU hsz) (by omega) hsz fun x hx=>ar4 (ho x hx)
 have h9:=aEj (nN f) hsz h6 ho;have hc:M.yT f=some ((if decide ((8:Int)<((rH (nN f)).length:Int))=true then 1 else ((rH (nN f)).length:Int)), !(wH f.Result)):=by
  unfold M.yT M.Nq M.Np;simp only[af.aB,aAQ f h,Option.getD_some,hfl,h9,Option.isSome_some,Bool.and_self,cond_true,Bool.true_or,Bool.true_and,Bool.not_true,cond_false,rW,Bool.or_true]
  generalize decide ((8:Int)<((rH (nN f)).length:Int))=q
  cases q<;>simp[wH]
 rw[hc];unfold MK;rw[if_pos hok]
end M
