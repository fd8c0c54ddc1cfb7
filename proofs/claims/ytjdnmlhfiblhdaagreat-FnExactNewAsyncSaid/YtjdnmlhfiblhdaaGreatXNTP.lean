/-
  NAMES AND TYPES: what is right, in plain Lean.
-/
import Derived.Test.YtjdnmlhfiblhdaaGreatXNpl4
import Derived.Test.YtjdnmlhfiblhdaaGreatXNZH
set_option linter.unusedVariables false
namespace M
open Go.V (inB Jk aF dL)
def YI (c:UInt8):Bool:=decide ((97:Int)<=((c.toNat:Nat):Int))&&decide (((c.toNat:Nat):Int)<=122)
def aga (c:UInt8):Bool:=decide ((48:Int)<=((c.toNat:Nat):Int))&&decide (((c.toNat:Nat):Int)<=57)
def SI (c:UInt8):Bool:=((c.toNat:Nat):Int)==45
def vF (s:List UInt8) (k:Nat):Bool:=YI (s.getD k 0)||(decide (0<k)&&((aga (s.getD k 0)||SI (s.getD k 0))&& !(SI (s.getD k 0)&&SI (s.getD (k-1) 0))))
def lL (s:List UInt8):Bool:=(List.range s.length).all (vF s)&&((decide (1<=s.length)&&decide (s.length<=12))&& !SI (s.getD (s.length-1) 0))
def OO (l:List (List UInt8)):Bool:=(decide (1<=l.length)&&decide (l.length<=16))&&(nodupB l&&l.all lL)
mutual
def iW : ae->Nat
 | .mk _ _ _ kids=>1+Ep kids
def Ep : List ae->Nat
 | []=>0
 |x::r=>iW x+Ep r
end
mutual
def lM : ae->Nat
 | .mk _ _ _ kids=>1+NF kids
def NF : List ae->Nat
 | []=>0
 |x::r=>max (lM x) (NF r)
end
mutual
def GK (p:Int->Bool):ae->Bool
 | .mk k _ _ kids=>p k||OQ p kids
def OQ (p:Int->Bool):List ae->Bool
 | []=>false
 |x::r=>GK p x||OQ p r
end
theorem EP (t:ae):iW t=1+Ep t.Kids:=by cases t;rfl
theorem QK (t:ae):lM t=1+NF t.Kids:=by cases t;rfl
theorem acu (p:Int->Bool) (t:ae):GK p t=(p t.Kind||OQ p t.Kids):=by cases t;rfl
theorem U2 (p:Int->Bool):∀l,OQ p l=l.any (GK p)
 | []=>rfl
 |x::r=>by rw[OQ,List.any_cons,U2 p r]
def yP (t:ae):Bool:=t.Kind==1
def abo (t:ae):Bool:=(t.Kind==20)||(t.Kind==21)
def agb (t:ae):Bool:=decide ((16:Int)<=t.Kind)&&decide (t.Kind<=19)
def adS (t:ae):Bool:=
 if t.Kind=12 \/ t.Kind=13 then (t.Kids.length==1)&& !t.Kids.any yP
 else if t.Kind=14 then t.Kids.length==2
 else if t.Kind=15 then (decide (1<=t.Kids.length)&&decide (t.Kids.length<=6))&& !t.Kids.any yP
 else if t.Kind=16 then (t.Kids.length==t.bV.length)&& !t.Kids.any yP
 else if t.Kind=17 then t.Kids.length==t.bV.length
 else if t.Kind=22 \/ t.Kind=23 then (t.Kids.length==1)&& !OQ (fun k=>k==21) t.Kids
 else (decide ((1:Int)<=t.Kind)&&decide (t.Kind<=23))&&(t.Kids.length==0)
def NG (t:ae):Bool:=
 ((if agb t then OO t.bV else t.bV.length==0)&&(if abo t then lL t.Name else t.Name==[]))&&adS t
mutual
def tJ : ae->Bool
 | .mk k n l kids=>NG (.mk k n l kids)&&NH kids
def NH : List ae->Bool
 | []=>true
 |x::r=>tJ x&&NH r
end
theorem Yc (t:ae):tJ t=(NG t&&NH t.Kids):=by cases t;rfl
theorem NI : ∀l,NH l=l.all tJ
 | []=>rfl
 |x::r=>by rw[NH,List.all_cons,NI r]
def tOk (t:ae):Bool:=(decide (lM t<=4)&&decide (iW t<=24))&&tJ t
theorem ZK : ∀l:List ae,l.length<=Ep l
 | []=>Nat.le_refl _
 |x::r=>by have:=ZK r;simp only[Ep,List.length_cons,EP x];omega
theorem Yd {l:List ae} {k:Nat} (h:k<l.length):Ep (l.drop k)=iW l[k]+Ep (l.drop (k+1)):=by rw[jI h];rfl
theorem Ye {l:List ae} {k:Nat} (h:k<l.length):NF (l.drop k)=max (lM l[k]) (NF (l.drop (k+1))):=by rw[jI h];rfl
theorem U3 (t:ae):1<=lM t:=by rw[QK];omega
end M
set_option linter.unusedSimpArgs false
namespace M
open Go.V (inB Jk aF dL)
theorem GL {n:Nat} (h:n<=1048576):n<aF:=by have:=dL;omega
theorem acv {k n:Nat} (h0:0<k) (h:k<=n) (hn:n<2^62):Go.IntKind.wrap .i64 ((k:Int)-1)=((k-1:Nat):Int):=by
 rw[wrap_i64 (by omega) (by omega)];omega
theorem ZL (s:List UInt8) (hs:s.length<=1048576):M.yQ s=some (lL s):=by
 unfold M.yQ;rw[OT (p:=vF s) (F:=M.oh s (s.length:Int)) (e:=s) (b:=false) s.length (by omega) (fun f k hk=>by
  rw[M.oh];simp only[Int.toNat_natCast,dQ,Int.ofNat_lt,hk,decide_true,cond_true,Bool.true_or,Bool.true_and,Bool.and_true,gp hk (iD hs),vF,YI,aga,SI,OU]
  generalize decide ((97:Int)<=(((s.getD k 0).toNat:Nat):Int))=a1
  generalize decide ((((s.getD k 0).toNat:Nat):Int)<=122)=a2
  generalize decide ((48:Int)<=(((s.getD k 0).toNat:Nat):Int))=a3
  generalize decide ((((s.getD k 0).toNat:Nat):Int)<=57)=a4
  generalize ((((s.getD k 0).toNat:Nat):Int)==45)=a5
  rcases Nat.eq_zero_or_pos k with h0 |h0
  ·subst h0
   cases a1<;>cases a2<;>cases a3<;>cases a4<;>cases a5<;>simp
  ·have e0:((k:Int)==0)=false:=by rw[beq_eq_false_iff_ne];omega
   have hk1:k-1<s.length:=by omega
   simp only[e0,acv h0 (Nat.le_of_lt hk) (iD hs),Int.toNat_natCast,dQ,hk1,h0,decide_true]
   generalize ((((s.getD (k-1) 0).toNat:Nat):Int)==45)=a6
   cases a1<;>cases a2<;>cases a3<;>cases a4<;>cases a5<;>cases a6<;>simp) (fun f=>by rw[M.oh];simp)]
 unfold lL
 cases hall:(List.range s.length).all (vF s)
 ·simp
 ·simp only[if_true,OU,Bool.true_and]
  rcases Nat.eq_zero_or_pos s.length with h0 |h0
  ·simp[h0]
  ·have h1:s.length-1<s.length:=by omega
   have e1:decide ((1:Int)<=((s.length:Nat):Int))=decide (1<=s.length):=by simp only[decide_eq_decide];omega
   have e2:decide (((s.length:Nat):Int)<=12)=decide (s.length<=12):=by simp only[decide_eq_decide];omega
   simp only[acv h0 (Nat.le_refl _) (iD hs),Int.toNat_natCast,dQ,h1,decide_true,Bool.true_or,Bool.and_true,cond_true,e1,e2,SI]
theorem ZM (s:List UInt8) (hs:s.length<=1048576):M.uk s=some (lL s):=by
 unfold M.uk
 rcases Nat.eq_zero_or_pos s.length with h0 |h0
 ·have:s=[]:=List.eq_nil_of_length_eq_zero h0
  subst this;rfl
 have h1:s.length-1<s.length:=by omega
 simp only[acv h0 (Nat.le_refl _) (iD hs),Int.toNat_natCast,dQ,h1,Int.toNat_zero,decide_true,Bool.true_or,Bool.and_true,cond_true];have hz:inB (0:Int) s.length=true:=by
  show inB ((0:Nat):Int) s.length=true
  rw[dQ];simpa using h0
 simp only[hz,Bool.true_or,Bool.and_true,cond_true];have e1:decide (((s.length:Nat):Int)<1)= !decide (1<=s.length):=by rw[<-decide_not];simp only[decide_eq_decide];omega
 have e2:decide ((12:Int)<((s.length:Nat):Int))= !decide (s.length<=12):=by rw[<-decide_not];simp only[decide_eq_decide];omega
 have e3:decide ((((s.getD 0 0).toNat:Nat):Int)<97)= !decide ((97:Int)<=(((s.getD 0 0).toNat:Nat):Int)):=by rw[<-decide_not];simp only[decide_eq_decide];omega
 have e4:decide ((122:Int)<(((s.getD 0 0).toNat:Nat):Int))= !decide ((((s.getD 0 0).toNat:Nat):Int)<=122):=by rw[<-decide_not];simp only[decide_eq_decide];omega
 rw[e1,e2,e3,e4]
 by_cases hlow:YI (s.getD 0 0)=true
 ·have hl:=hlow
  simp only[YI,Bool.and_eq_true] at hl;rw[OT (p:=vF s) (F:=M.oM s) (e:=()) (b:=false) s.length (by omega) (fun f k hk=>by
   rw[M.oM];have f1:decide ((((s.getD k 0).toNat:Nat):Int)<97)= !decide ((97:Int)<=(((s.getD k 0).toNat:Nat):Int)):=by rw[<-decide_not];simp only[decide_eq_decide];omega
   have f2:decide ((122:Int)<(((s.getD k 0).toNat:Nat):Int))= !decide ((((s.getD k 0).toNat:Nat):Int)<=122):=by rw[<-decide_not];simp only[decide_eq_decide];omega
   have f3:decide ((((s.getD k 0).toNat:Nat):Int)<48)= !decide ((48:Int)<=(((s.getD k 0).toNat:Nat):Int)):=by rw[<-decide_not];simp only[decide_eq_decide];omega
   have f4:decide ((57:Int)<(((s.getD k 0).toNat:Nat):Int))= !decide ((((s.getD k 0).toNat:Nat):Int)<=57):=by rw[<-decide_not];simp only[decide_eq_decide];omega
   simp only[Int.toNat_natCast,dQ,Int.ofNat_lt,hk,decide_true,cond_true,Bool.true_or,Bool.true_and,Bool.and_true,gp hk (iD hs),vF,YI,aga,SI,OU,f1,f2,f3,f4];have dash:YI (s.getD k 0)=true->((((s.getD k 0).toNat:Nat):Int)==45)=false:=fun h=>by
    simp only[YI,Bool.and_eq_true,decide_eq_true_eq] at h;rw[beq_eq_false_iff_ne];omega
   simp only[YI] at dash
   rcases Nat.eq_zero_or_pos k with k0 |k0
   ·subst k0
    rw[hl.1,hl.2] at*;simp only[Bool.and_self] at dash;rw[dash trivial];simp
   ·have hk1:k-1<s.length:=by omega
    simp only[acv k0 (Nat.le_of_lt hk) (iD hs),Int.toNat_natCast,dQ,hk1,k0,decide_true]
    generalize ((((s.getD (k-1) 0).toNat:Nat):Int)==45)=a6
    revert dash
    generalize decide ((97:Int)<=(((s.getD k 0).toNat:Nat):Int))=a1
    generalize decide ((((s.getD k 0).toNat:Nat):Int)<=122)=a2
    generalize decide ((48:Int)<=(((s.getD k 0).toNat:Nat):Int))=a3
    generalize decide ((((s.getD k 0).toNat:Nat):Int)<=57)=a4
    generalize ((((s.getD k 0).toNat:Nat):Int)==45)=a5
    intro dash
    cases a1<;>cases a2<;>cases a3<;>cases a4<;>cases a5<;>cases a6<;>simp at dash ⊢) (fun f=>by rw[M.oM];simp)]
  rw[hl.1,hl.2];unfold lL SI
  cases (List.range s.length).all (vF s)<;>cases decide (1<=s.length)<;>cases decide (s.length<=12)<;>cases ((((s.getD (s.length-1) 0).toNat:Nat):Int)==45)<;>rfl
 ·have hno:lL s=false:=by
   unfold lL;have:(List.range s.length).all (vF s)=false:=by
    rw[List.all_eq_false];refine ⟨0,by simpa using h0, ?_⟩
    simp only[Bool.not_eq_true] at hlow;simp only[vF,hlow];intro h;cases h
   rw[this];rfl
  rw[hno];simp only[Bool.not_eq_true] at hlow;simp only[YI] at hlow
  cases h3:decide ((97:Int)<=(((s.getD 0 0).toNat:Nat):Int))<;>cases h4:decide ((((s.getD 0 0).toNat:Nat):Int)<=122)<;>rw[h3,h4] at hlow<;>simp at hlow ⊢
end M
namespace M
open Go.V (inB Jk aF dL)
theorem nodup_range (l:List (List UInt8)):(List.range l.length).all (fun i=>(List.range i).all fun k=> !(l.getD k []==l.getD i []))=nodupB l:=by
 rw[Bool.eq_iff_iff,NJ,List.Nodup,List.pairwise_iff_getElem];simp only[List.all_eq_true,List.mem_range,Bool.not_eq_true',beq_eq_false_iff_ne];constructor
 ·intro h i j hi hj hij e
  have:=h j hj i hij;rw[getD_lt hi,getD_lt hj] at this;exact this e
 ·intro h i hi k hk e
  rw[getD_lt hi,getD_lt (by omega)] at e
  exact h k i (by omega) hi hk e
theorem ac9 {α:Type} (p:α->Bool) (l:List α) (d:α):(List.range l.length).all (fun i=>p (l.getD i d))=l.all p:=by
 rw[Bool.eq_iff_iff];simp only[List.all_eq_true,List.mem_range];constructor
 ·intro h x hx
  obtain ⟨i,hi,rfl⟩:=List.getElem_of_mem hx;have:=h i hi
  rwa [getD_lt hi] at this
 ·intro h i hi
  rw[getD_lt hi];exact h _ (List.getElem_mem hi)
theorem aff {α:Type} (p q:α->Bool) (l:List α):l.all (fun x=>p x&&q x)=(l.all p&&l.all q):=by
 induction l with
 |nil=>rfl
 |cons x r ih=>simp only[List.all_cons,ih];cases p x<;>cases q x<;>cases r.all p<;>cases r.all q<;>rfl
theorem adT (l:List (List UInt8)) (h:lC List.length l<=1048576):M.um l=some (OO l):=by
 have hl:=Nat.le_trans (iL List.length l) h;unfold M.um;have e1:decide (((l.length:Nat):Int)<1)= !decide (1<=l.length):=by rw[<-decide_not];simp only[decide_eq_decide];omega
 have e2:decide ((16:Int)<((l.length:Nat):Int))= !decide (l.length<=16):=by rw[<-decide_not];simp only[decide_eq_decide];omega
 rw[e1,e2,OT (p:=fun i=>lL (l.getD i [])&&(List.range i).all fun k=> !(l.getD k []==l.getD i [])) (F:=fun f i=>M.iM f l i) (e:=()) (b:=false) l.length (by omega) (fun f k hk=>by
  show M.iM (f+1) l (k:Int)=_
  rw[M.iM];have hn:(l.getD k []).length<=1048576:=by rw[getD_lt hk];exact Nat.le_trans (jL List.length _ _ (List.getElem_mem hk)) h
  have inner:M.iq l (k:Int) aF 0=some (if (List.range k).all (fun j=> !(l.getD j []==l.getD k [])) then .inr (l,(k:Int)) else .inl false):=
   OT (p:=fun j=> !(l.getD j []==l.getD k [])) (F:=M.iq l (k:Int)) (e:=(l,(k:Int))) (b:=false) k (by omega) (fun f j hj=>by
    rw[M.iq];have hj':j<l.length:=by omega
    simp only[Int.toNat_natCast,dQ,Int.ofNat_lt,hj,hk,hj',decide_true,cond_true,Bool.true_or,Bool.true_and,Bool.and_true,gp hj (by omega:k<2^62)]
    cases l.getD j []==l.getD k []<;>rfl) (fun f=>by rw[M.iq];simp)
  simp only[Int.toNat_natCast,dQ,Int.ofNat_lt,hk,decide_true,cond_true,Bool.true_or,Bool.true_and,Bool.and_true,gp hk (by omega:l.length<2^62),ZM _ hn,inner,Option.getD_some,Option.isSome_some]
  cases lL (l.getD k [])<;>cases (List.range k).all (fun j=> !(l.getD j []==l.getD k []))<;>simp[gp hk (by omega:l.length<2^62)]) (fun f=>by
  show M.iM (f+1) l (l.length:Int)=_
  rw[M.iM];simp)]
 unfold OO;rw[aff,ac9,nodup_range]
 cases decide (1<=l.length)<;>cases decide (l.length<=16)<;>cases l.all lL<;>cases nodupB l<;>rfl
theorem adU (l:List (List UInt8)) (h:lC List.length l<=1048576):M.xk l=some (OO l):=by
 have hl:=Nat.le_trans (iL List.length l) h;have c1:∀s:List UInt8,s.length<=1048576->M.pJ s=some (!lL s):=fun s hs=>by
  unfold M.pJ;rw[ZL s hs];rfl
 have cf:M.dD l=some (l.any fun s=> !lL s):=by
  have e:=uo (p:=fun s=> !lL s) (F:=M.cu l (l.length:Int)) (e:=()) (fun k=>k) l (by omega) (fun f k hk=>by
   rw[M.cu];have hn:l[k].length<=1048576:=Nat.le_trans (jL List.length _ _ (List.getElem_mem hk)) h;simp only[getD_lt hk,Int.toNat_natCast,dQ,Int.ofNat_lt,hk,decide_true,cond_true,Bool.true_or,Bool.true_and,Bool.and_true,gp hk (by omega:l.length<2^62),c1 _ hn,Option.getD_some,Option.isSome_some]) (fun f=>by rw[M.cu];simp)
  unfold M.dD M.eX;rw[e,oq]
  cases l.findIdx? (fun s=> !lL s)<;>simp
 unfold M.xk;rw[cf,Xk l hl];have e1:decide ((1:Int)<=((l.length:Nat):Int))=decide (1<=l.length):=by simp only[decide_eq_decide];omega
 have e2:decide (((l.length:Nat):Int)<=16)=decide (l.length<=16):=by simp only[decide_eq_decide];omega
 have e3:(l.any fun s=> !lL s)= !l.all lL:=by rw[List.not_all_eq_any_not]
 unfold OO;simp only[Option.isSome_some,Bool.true_or,Bool.and_true,cond_true,Option.getD_some,e1,e2,e3,Bool.not_not]
 cases decide (1<=l.length)<;>cases decide (l.length<=16)<;>cases l.all lL<;>cases nodupB l<;>rfl
end M
namespace M
open Go.V (inB Jk aF dL)
theorem ae.QL {a:ae} {N:Nat} (h:a.sz<=N):lC List.length a.bV<=N:=by rw[ae.pz] at h;omega
theorem ae.acw {a:ae} {N:Nat} (h:a.sz<=N):a.Name.length<=N:=by rw[ae.pz] at h;omega
theorem ae.acx {a:ae} {N:Nat} (h:a.sz<=N):lC ae.sz a.Kids<=N:=by rw[ae.pz] at h;omega
theorem ae.su {a:ae} {N:Nat} (h:a.sz<=N):a.Kids.length<=N:=Nat.le_trans (iL _ _) (ae.acx h)
theorem ae.abp {a:ae} {N:Nat} (h:a.sz<=N):a.bV.length<=N:=Nat.le_trans (iL _ _) (ae.QL h)
theorem ae.Bl {a x:ae} (h:x∈a.Kids):x.sz<a.sz:=by
 rw[ae.pz a];have:=OV ae.sz _ _ h;omega
theorem afg (t:ae) (h:t.sz<=1048576):M.ql t=some (t.Kids.any yP):=by
 have hl:=ae.su h;have e:=uo (p:=yP) (F:=fun f i=>M.iH f i t) (e:=()) (fun _=>true) t.Kids (by omega) (fun f k hk=>by
  show M.iH (f+1) (k:Int) t=_
  rw[M.iH];simp only[ae.bI,getD_lt hk,Int.toNat_natCast,dQ,Int.ofNat_lt,hk,decide_true,cond_true,Bool.true_or,Bool.true_and,Bool.and_true,gp hk (by omega:t.Kids.length<2^62),yP]) (fun f=>by
  show M.iH (f+1) _ t=_
  rw[M.iH];simp)
 unfold M.ql;rw[ae.bI,oq];have e':M.iH aF 0 t=_:=e;rw[e']
 cases t.Kids.findIdx? yP<;>simp
theorem adV (lo hi:Int):∀(m:Nat) (t:ae),t.sz<m->t.sz<=1048576->M.kM m t lo hi=some (GK (fun k=>decide (lo<=k)&&decide (k<=hi)) t)
 |0,t,h,_=>absurd h (Nat.not_lt_zero _)
 |m+1,t,h,hN=>by
  have hl:=ae.su hN;have e:=uo (p:=GK (fun k=>decide (lo<=k)&&decide (k<=hi))) (F:=fun f i=>M.jQ (M.kM m) lo hi f i t) (e:=()) (fun _=>true) t.Kids (by omega) (fun f k hk=>by
   show M.jQ (M.kM m) lo hi (f+1) (k:Int) t=_
   rw[M.jQ];have hx:=ae.Bl (List.getElem_mem hk);simp only[ae.bI,getD_lt hk,adV lo hi m t.Kids[k] (by omega) (by omega),Int.toNat_natCast,dQ,Int.ofNat_lt,hk,decide_true,cond_true,Bool.true_or,Bool.true_and,Bool.and_true,gp hk (by omega:t.Kids.length<2^62),Option.getD_some,Option.isSome_some]) (fun f=>by
   show M.jQ (M.kM m) lo hi (f+1) _ t=_
   rw[M.jQ];simp)
  show M.Bo (M.kM m) t lo hi=_
  unfold M.Bo;have e':M.jQ (M.kM m) lo hi aF 0 t=_:=e;rw[ae.bI,e',acu,U2,oq]
  cases (decide (lo<=t.Kind)&&decide (t.Kind<=hi))<;>cases t.Kids.findIdx? (GK fun k=>decide (lo<=k)&&decide (k<=hi))<;>simp
theorem abq (l:List Int) (v:Int) (hl:l.length<2^62):M.eG l v=some (l.any fun x=>v==x):=by
 have e:=uo (p:=fun x=>v==x) (F:=M.dP l v (l.length:Int)) (e:=()) (fun k=>k) l hl (fun f k hk=>by
  rw[M.dP];simp only[getD_lt hk,Int.toNat_natCast,dQ,Int.ofNat_lt,hk,decide_true,cond_true,Bool.true_or,Bool.true_and,Bool.and_true,gp hk hl]) (fun f=>by rw[M.dP];simp)
 unfold M.eG M.gI;rw[e,oq]
 cases l.findIdx? (fun x=>v==x)<;>simp
theorem adW (ks:List Int) (hk:ks.length<2^62):∀(m:Nat) (t:ae),t.sz<m->t.sz<=1048576->M.jR m t ks=some (GK (fun k=>ks.any fun x=>k==x) t)
 |0,t,h,_=>absurd h (Nat.not_lt_zero _)
 |m+1,t,h,hN=>by
  have hl:=ae.su hN;have e:=uo (p:=GK (fun k=>ks.any fun x=>k==x)) (F:=M.df (M.jR m) t.Kids ks (t.Kids.length:Int)) (e:=()) (fun k=>k) t.Kids (by omega) (fun f k hk'=>by
   rw[M.df];have hx:=ae.Bl (List.getElem_mem hk');have c:M.qX (M.jR m) t.Kids[k] ks=some (GK (fun k=>ks.any fun x=>k==x) t.Kids[k]):=by
    unfold M.qX;simp only[ae.bI,adW ks hk m t.Kids[k] (by omega) (by omega)];rfl
   simp only[ae.bI,getD_lt hk',c,Int.toNat_natCast,dQ,Int.ofNat_lt,hk',decide_true,cond_true,Bool.true_or,Bool.true_and,Bool.and_true,gp hk' (by omega:t.Kids.length<2^62),Option.getD_some,Option.isSome_some]) (fun f=>by
   rw[M.df];simp)
  have e2:M.dN (M.jR m) t.Kids ks=some (t.Kids.any (GK (fun k=>ks.any fun x=>k==x))):=by
   unfold M.dN M.fC;rw[e,oq]
   cases t.Kids.findIdx? (GK (fun k=>ks.any fun x=>k==x))<;>simp
  show M.yR (M.jR m) t ks=_
  unfold M.yR;rw[e2,abq ks _ hk,acu,U2];simp
theorem YJ : ∀(l:List ae),(∀x∈l,iW x<=x.sz+1)->Ep l<=lC ae.sz l
 | [],_=>Nat.le_refl _
 |x::r,h=>by
  have:=YJ r fun y hy=>h y (List.mem_cons_of_mem _ hy)
  have:=h x (List.mem_cons_self ..);simp only[Ep,lC];omega
theorem U4 : ∀(n:Nat) (t:ae),t.sz<n->iW t<=t.sz+1
 |0,t,h=>absurd h (Nat.not_lt_zero _)
 |n+1,t,h=>by
  have:=YJ t.Kids fun x hx=>U4 n x (by have:=ae.Bl hx;omega)
  rw[EP,ae.pz];omega
theorem ada (t:ae):iW t<=t.sz+1:=U4 _ t (Nat.lt_succ_self _)
theorem afh {l:List ae} {N:Nat} (h:lC ae.sz l<=N):Ep l<=N:=Nat.le_trans (YJ l fun x _=>ada x) h
theorem acy : ∀(m:Nat) (t:ae),t.sz<m->t.sz<=1048576->M.uu m t=some ((iW t:Nat):Int)
 |0,t,h,_=>absurd h (Nat.not_lt_zero _)
 |m+1,t,h,hN=>by
  have hl:=ae.su hN;have hs:=afh (ae.acx hN);have key:∀f k (a:Nat),k<=t.Kids.length->t.Kids.length-k<f->a+Ep (t.Kids.drop k)<=1048577->M.qm (M.uu m) t.Kids (t.Kids.length:Int) f (a:Int) (k:Int)=some (((a+Ep (t.Kids.drop k):Nat)):Int):=by
   intro f
   induction f with
   |zero=>intro k a h1 h2;omega
   |succ f ih=>
    intro k a h1 h2 h3
    rcases Nat.lt_or_ge k t.Kids.length with hk |hk
    ·rw[M.qm]
     have hx:=ae.Bl (List.getElem_mem hk);rw[Yd hk] at h3 ⊢;have hw:Go.IntKind.wrap .i64 ((a:Int)+((iW t.Kids[k]:Nat):Int))=((a+iW t.Kids[k]:Nat):Int):=by rw[wrap_i64 (by omega) (by omega)];omega
     simp only[ae.bI,getD_lt hk,acy m t.Kids[k] (by omega) (by omega),Int.toNat_natCast,dQ,Int.ofNat_lt,hk,decide_true,cond_true,Bool.true_and,Bool.and_true,gp hk (by omega:t.Kids.length<2^62),Option.getD_some,Option.isSome_some,hw]
     rw[ih (k+1) _ (by omega) (by omega) (by omega)]
     congr 1;omega
    ·have:k=t.Kids.length:=by omega
     subst this;rw[M.qm];simp[List.drop_length,Ep]
  show M.ER (M.uu m) t=_
  unfold M.ER;have e:=key aF 0 1 (Nat.zero_le _) (by have:=dL;omega) (by simp only[List.drop_zero];omega)
  have e':M.qm (M.uu m) t.Kids (t.Kids.length:Int) aF 1 0=_:=e;rw[e',EP];rfl
theorem adX : ∀(m:Nat) (t:ae) (L:Nat),L<m->L<=100->t.sz<=1048576->M.yS m t (L:Int)=some ((min (lM t) (L+1):Nat):Int)
 |0,t,L,h,_,_=>absurd h (Nat.not_lt_zero _)
 |m+1,t,L,h,hL,hN=>by
  have hl:=ae.su hN
  show M.Jl (M.yS m) t (L:Int)=_
  unfold M.Jl
  cases L with
  |zero=>
   have:=U3 t;rw[show min (lM t) (0+1)=1 by omega];rfl
  |succ L=>
   have hw0:Go.IntKind.wrap .i64 (((L+1:Nat):Int)-1)=(L:Int):=by rw[wrap_i64 (by omega) (by omega)];omega
   have key:∀f k (a:Nat),k<=t.Kids.length->t.Kids.length-k<f->M.uw (M.yS m) ((L+1:Nat):Int) t.Kids (t.Kids.length:Int) f (a:Int) (k:Int)=some ((max a (min (NF (t.Kids.drop k)) (L+1)):Nat):Int):=by
    intro f
    induction f with
    |zero=>intro k a h1 h2;omega
    |succ f ih=>
     intro k a h1 h2
     rcases Nat.lt_or_ge k t.Kids.length with hk |hk
     ·rw[M.uw]
      have hx:=ae.Bl (List.getElem_mem hk);simp only[ae.bI,getD_lt hk,hw0,adX m t.Kids[k] L (by omega) (by omega) (by omega),Int.toNat_natCast,dQ,Int.ofNat_lt,hk,decide_true,cond_true,Bool.true_and,Bool.and_true,gp hk (by omega:t.Kids.length<2^62),Option.getD_some,Option.isSome_some]
      have hm:(bif decide (a<min (lM t.Kids[k]) (L+1)) then ((min (lM t.Kids[k]) (L+1):Nat):Int) else (a:Int))=((max a (min (lM t.Kids[k]) (L+1)):Nat):Int):=by
       by_cases hc:a<min (lM t.Kids[k]) (L+1)
       ·simp only[hc,decide_true,cond_true];omega
       ·simp only[hc,decide_false,cond_false];omega
      rw[hm,ih (k+1) _ (by omega) (by omega),Ye hk]
      congr 1;omega
     ·have:k=t.Kids.length:=by omega
      subst this;rw[M.uw];simp[List.drop_length,NF]
   have e:=key aF 0 0 (Nat.zero_le _) (by have:=dL;omega)
   have e':M.uw (M.yS m) ((L+1:Nat):Int) t.Kids (t.Kids.length:Int) aF 0 0=_:=e;have d:(((L+1:Nat):Int)==0)=false:=by rw[beq_eq_false_iff_ne];omega
   rw[d,e',QK];simp only[cond_false,List.drop_zero];rw[wrap_i64 (by omega) (by omega)]
   congr 1;omega
end M
namespace M
open Go.V (inB Jk aF dL)
def OW (d:Nat) (t:ae):Int×Int:=if d+lM t<=5 /\ iW t<=24 then (((lM t:Nat):Int),((iW t:Nat):Int)) else (5,25)
theorem adY : ∀(m d:Nat) (t:ae),d<=5->6<=m+d->t.sz<=1048576->M.ou m t (d:Int)=some (OW d t)
 |0,d,t,h1,h2,_=>by omega
 |m+1,d,t,h1,h2,hN=>by
  have hl:=ae.su hN;have hdp:=U3 t
  show M.yT (M.ou m) t (d:Int)=_
  unfold M.yT
  by_cases h5:d=5
  ·subst h5
   have:OW 5 t=(5,25):=by unfold OW;rw[if_neg (by omega)]
   rw[this];rfl
  have d4:decide ((4:Int)<(d:Int))=false:=by rw[decide_eq_false_iff_not];omega
  by_cases h24:24<t.Kids.length
  ·have:OW d t=(5,25):=by
    unfold OW;have:=ZK t.Kids;rw[if_neg (by rw[EP];omega)]
   rw[this,d4];have:decide ((24:Int)<((t.Kids.length:Nat):Int))=true:=by rw[decide_eq_true_eq];omega
   rw[this];rfl
  have d24:decide ((24:Int)<((t.Kids.length:Nat):Int))=false:=by rw[decide_eq_false_iff_not];omega
  have hw:Go.IntKind.wrap .i64 ((d:Int)+1)=((d+1:Nat):Int):=by rw[wrap_i64 (by omega) (by omega)];omega
  have mx:∀a b:Nat,M.yU (a:Int) (b:Int)=some ((max a b:Nat):Int):=fun a b=>by
   unfold M.yU
   by_cases hc:b<a
   ·have:decide ((b:Int)<(a:Int))=true:=by rw[decide_eq_true_eq];omega
    rw[this];simp only[cond_true];congr 1;omega
   ·have:decide ((b:Int)<(a:Int))=false:=by rw[decide_eq_false_iff_not];omega
    rw[this];simp only[cond_false];congr 1;omega
  have key:∀f k (a p:Nat),k<=t.Kids.length->t.Kids.length-k<f->p<=24->M.lU (M.ou m) (d:Int) f (a:Int) (p:Int) (k:Int) t=
   some (if d+1+NF (t.Kids.drop k)<=5 /\ p+Ep (t.Kids.drop k)<=24 then .inr (((max a (NF (t.Kids.drop k)):Nat):Int),((p+Ep (t.Kids.drop k):Nat):Int)) else .inl (5,25)):=by
   intro f
   induction f with
   |zero=>intro k a p h1 h2;omega
   |succ f ih=>
    intro k a p h1 h2 h3
    rcases Nat.lt_or_ge k t.Kids.length with hk |hk
    ·rw[M.lU]
     have hx:=ae.Bl (List.getElem_mem hk);have hc:=adY m (d+1) t.Kids[k] (by omega) (by omega) (by omega)
     rw[Ye hk,Yd hk];simp only[ae.bI,getD_lt hk,hw,hc,Int.toNat_natCast,dQ,Int.ofNat_lt,hk,decide_true,cond_true,Bool.true_and,Bool.and_true,gp hk (by omega:t.Kids.length<2^62),Option.getD_some,Option.isSome_some]
     unfold OW
     by_cases hv:d+1+lM t.Kids[k]<=5 /\ iW t.Kids[k]<=24
     ·rw[if_pos hv]
      have hw2:Go.IntKind.wrap .i64 ((p:Int)+((iW t.Kids[k]:Nat):Int))=((p+iW t.Kids[k]:Nat):Int):=by rw[wrap_i64 (by omega) (by omega)];omega
      dsimp only;rw[hw2,mx]
      by_cases hp:24<p+iW t.Kids[k]
      ·have:decide ((24:Int)<((p+iW t.Kids[k]:Nat):Int))=true:=by rw[decide_eq_true_eq];omega
       rw[this,if_neg (by omega)]
       simp
      ·have:decide ((24:Int)<((p+iW t.Kids[k]:Nat):Int))=false:=by rw[decide_eq_false_iff_not];omega
       rw[this];simp only[cond_false,Option.isSome_some,Bool.true_and,cond_true,Option.getD_some];rw[ih (k+1) _ _ (by omega) (by omega) (by omega)]
       have e1:(d+1+NF (t.Kids.drop (k+1))<=5 /\ p+iW t.Kids[k]+Ep (t.Kids.drop (k+1))<=24)↔(d+1+max (lM t.Kids[k]) (NF (t.Kids.drop (k+1)))<=5 /\ p+(iW t.Kids[k]+Ep (t.Kids.drop (k+1)))<=24):=by omega
       by_cases hq:d+1+NF (t.Kids.drop (k+1))<=5 /\ p+iW t.Kids[k]+Ep (t.Kids.drop (k+1))<=24
       ·rw[if_pos hq,if_pos (e1.1 hq)]
        congr 3
        ·omega
        ·omega
       ·rw[if_neg hq,if_neg (fun h=>hq (e1.2 h))]
     ·rw[if_neg hv,if_neg (by omega)]
      have hw2:Go.IntKind.wrap .i64 ((p:Int)+25)=(p:Int)+25:=wrap_i64 (by omega) (by omega)
      have mx5:M.yU (a:Int) 5=some ((max a 5:Nat):Int):=mx a 5;dsimp only;rw[hw2,mx5];have:decide ((24:Int)<(p:Int)+25)=true:=by rw[decide_eq_true_eq];omega
      rw[this];simp
    ·have:k=t.Kids.length:=by omega
     subst this;rw[M.lU,List.drop_length];have hq:d+1+NF []<=5 /\ p+Ep []<=24:=⟨by show d+1+0<=5;omega,by show p+0<=24;omega⟩
     rw[if_pos hq];simp[NF,Ep]
  have e:=key aF 0 0 1 (Nat.zero_le _) (by have:=dL;omega) (by omega)
  have e':M.lU (M.ou m) (d:Int) aF 0 1 0 t=_:=e;rw[ae.bI,d4,d24,e'];simp only[List.drop_zero,Bool.or_self,cond_false];unfold OW;rw[QK,EP]
  by_cases hq:d+1+NF t.Kids<=5 /\ 1+Ep t.Kids<=24
  ·rw[if_pos hq,if_pos (by omega)]
   simp only
   congr 2
   rw[wrap_i64 (by omega) (by omega)];omega
  ·rw[if_neg hq,if_neg (by omega)]
theorem U5 {p:Int->Bool} {l:List ae} (h:l.length=1):GK p (l.getD 0 ae.zero)=OQ p l:=by
 match l,h with
 | [x],_=>simp[OQ]
theorem QM {p q:Int->Bool} (h:∀k,p k=q k):GK p=GK q:=by
 have:p=q:=funext h;rw[this]
theorem b21 (k:Int):(decide ((21:Int)<=k)&&decide (k<=21))=(k==21):=by
 rw[Bool.eq_iff_iff];simp only[Bool.and_eq_true,decide_eq_true_eq,beq_iff_eq];omega
theorem Lh (n m:Nat):(((n:Nat):Int)==((m:Nat):Int))=(n==m):=by
 rw[Bool.eq_iff_iff];simp only[beq_iff_eq];omega
theorem ZN (n:Nat):(((n:Nat):Int)==1)=(n==1):=Lh n 1
theorem ZO (n:Nat):(((n:Nat):Int)==2)=(n==2):=Lh n 2
theorem ZP (n:Nat):(((n:Nat):Int)==0)=(n==0):=Lh n 0
theorem agV (n:Nat):inB (0:Int) n=decide (0<n):=dQ 0 n
theorem afi (t:ae) (h:t.sz<=1048576):M.xm t=some (NG t):=by
 have hn:=ZM t.Name (ae.acw h);have hb:=adT t.bV (ae.QL h);have hu:=afg t h;have hh:t.Kids.length=1->M.sD (M.ae.re (List.getD t.Kids 0 ae.zero)) 21 21=some (OQ (fun k=>k==21) t.Kids):=fun h1=>by
  have hx:(t.Kids.getD 0 ae.zero).sz<t.sz:=by
   rw[getD_lt (by omega)];exact ae.Bl (List.getElem_mem _)
  rw[ae.bI,show M.sD=M.kM aF from rfl,adV 21 21 aF _ (GL (by omega)) (by omega),QM b21,U5 h1]
 unfold M.xm;simp only[ae.bI,hn,hb,hu,Option.getD_some,Option.isSome_some,Bool.true_or,Bool.and_true,Bool.true_and,cond_true,ZN,ZO,ZP,Lh,agV,Int.toNat_zero];unfold NG adS;have e0:decide ((0:Int)<((t.bV.length:Nat):Int))= !(t.bV.length==0):=by
  rw[Bool.eq_iff_iff];simp only[decide_eq_true_eq,Bool.not_eq_true',beq_eq_false_iff_ne];omega
 have e1:decide ((1:Int)<=((t.Kids.length:Nat):Int))=decide (1<=t.Kids.length):=by simp only[decide_eq_decide];omega
 have e2:decide (((t.Kids.length:Nat):Int)<=6)=decide (t.Kids.length<=6):=by simp only[decide_eq_decide];omega
 rw[e0,e1,e2];have yV:OO t.bV=true->(t.bV.length==0)=false:=fun h=>by
  simp only[OO,Bool.and_eq_true,decide_eq_true_eq] at h;rw[beq_eq_false_iff_ne];omega
 have yX:lL t.Name=true->(t.Name==[])=false:=fun h=>by
  simp only[lL,Bool.and_eq_true,decide_eq_true_eq] at h;rw[beq_eq_false_iff_ne];intro e;rw[e] at h;simp at h
 unfold abo agb;have hz:t.Kids.length=1->decide (0<t.Kids.length)=true:=fun h1=>by rw[h1];rfl
 have hl1:(t.Kids.length==1)=true->t.Kids.length=1:=fun h1=>by simpa using h1
 have hbr:(t.Kids.length==1)=true->M.sD (M.ae.re (List.getD t.Kids 0 ae.zero)) 21 21=some (OQ (fun k=>k==21) t.Kids) /\ decide (0<t.Kids.length)=true:=fun h1=>⟨hh (hl1 h1),hz (hl1 h1)⟩
 clear hn hb hu hh hz hl1;simp only[ae.bI] at hbr ⊢
 generalize hK:t.Kind=K
 generalize (t.Name==[])=nn at yX ⊢
 generalize lL t.Name=no at yX ⊢
 generalize OO t.bV=lo at yV ⊢
 generalize (t.bV.length==0)=ll at yV ⊢
 generalize M.sD (List.getD t.Kids 0 ae.zero) 21 21=o at hbr ⊢
 generalize decide (0<t.Kids.length)=z at hbr ⊢
 generalize (t.Kids.length==1)=l1 at hbr ⊢
 generalize OQ (fun k=>k==21) t.Kids=kh at hbr ⊢
 generalize t.Kids.any yP=au
 generalize (t.Kids.length==2)=l2
 generalize (t.Kids.length==0)=l0
 generalize (t.Kids.length==t.bV.length)=lk
 generalize decide (1<=t.Kids.length)=ge
 generalize decide (t.Kids.length<=6)=le
 clear hK h e0 e1 e2
 by_cases h12:K=12
 ·subst h12
  cases l1
  ·cases no<;>cases nn<;>simp at yX<;>cases lo<;>cases ll<;>simp at yV<;>simp
  ·obtain ⟨rfl,rfl⟩:=hbr rfl
   cases no<;>cases nn<;>simp at yX<;>cases lo<;>cases ll<;>simp at yV<;>simp
 by_cases h13:K=13
 ·subst h13
  cases l1
  ·cases no<;>cases nn<;>simp at yX<;>cases lo<;>cases ll<;>simp at yV<;>simp
  ·obtain ⟨rfl,rfl⟩:=hbr rfl
   cases no<;>cases nn<;>simp at yX<;>cases lo<;>cases ll<;>simp at yV<;>simp
 by_cases h14:K=14
 ·subst h14
  cases l1
  ·cases no<;>cases nn<;>simp at yX<;>cases lo<;>cases ll<;>simp at yV<;>simp
  ·obtain ⟨rfl,rfl⟩:=hbr rfl
   cases no<;>cases nn<;>simp at yX<;>cases lo<;>cases ll<;>simp at yV<;>simp
 by_cases h15:K=15
 ·subst h15
  cases l1
  ·cases no<;>cases nn<;>simp at yX<;>cases lo<;>cases ll<;>simp at yV<;>simp
  ·obtain ⟨rfl,rfl⟩:=hbr rfl
   cases no<;>cases nn<;>simp at yX<;>cases lo<;>cases ll<;>simp at yV<;>simp
 by_cases h16:K=16
 ·subst h16
  cases l1
  ·cases no<;>cases nn<;>simp at yX<;>cases lo<;>cases ll<;>simp at yV<;>simp
  ·obtain ⟨rfl,rfl⟩:=hbr rfl
   cases no<;>cases nn<;>simp at yX<;>cases lo<;>cases ll<;>simp at yV<;>simp
 by_cases h17:K=17
 ·subst h17
  cases l1
  ·cases no<;>cases nn<;>simp at yX<;>cases lo<;>cases ll<;>simp at yV<;>simp
  ·obtain ⟨rfl,rfl⟩:=hbr rfl
   cases no<;>cases nn<;>simp at yX<;>cases lo<;>cases ll<;>simp at yV<;>simp
 by_cases h18:K=18
 ·subst h18
  cases l1
  ·cases no<;>cases nn<;>simp at yX<;>cases lo<;>cases ll<;>simp at yV<;>simp
  ·obtain ⟨rfl,rfl⟩:=hbr rfl
   cases no<;>cases nn<;>simp at yX<;>cases lo<;>cases ll<;>simp at yV<;>simp
 by_cases h19:K=19
 ·subst h19
  cases l1
  ·cases no<;>cases nn<;>simp at yX<;>cases lo<;>cases ll<;>simp at yV<;>simp
  ·obtain ⟨rfl,rfl⟩:=hbr rfl
   cases no<;>cases nn<;>simp at yX<;>cases lo<;>cases ll<;>simp at yV<;>simp
 by_cases h20:K=20
 ·subst h20
  cases l1
  ·cases no<;>cases nn<;>simp at yX<;>cases lo<;>cases ll<;>simp at yV<;>simp
  ·obtain ⟨rfl,rfl⟩:=hbr rfl
   cases no<;>cases nn<;>simp at yX<;>cases lo<;>cases ll<;>simp at yV<;>simp
 by_cases h21:K=21
 ·subst h21
  cases l1
  ·cases no<;>cases nn<;>simp at yX<;>cases lo<;>cases ll<;>simp at yV<;>simp
  ·obtain ⟨rfl,rfl⟩:=hbr rfl
   cases no<;>cases nn<;>simp at yX<;>cases lo<;>cases ll<;>simp at yV<;>simp
 by_cases h22:K=22
 ·subst h22
  cases l1
  ·cases no<;>cases nn<;>simp at yX<;>cases lo<;>cases ll<;>simp at yV<;>simp
  ·obtain ⟨rfl,rfl⟩:=hbr rfl
   cases no<;>cases nn<;>simp at yX<;>cases lo<;>cases ll<;>simp at yV<;>simp
 by_cases h23:K=23
 ·subst h23
  cases l1
  ·cases no<;>cases nn<;>simp at yX<;>cases lo<;>cases ll<;>simp at yV<;>simp
  ·obtain ⟨rfl,rfl⟩:=hbr rfl
   cases no<;>cases nn<;>simp at yX<;>cases lo<;>cases ll<;>simp at yV<;>simp
 have q1:(K==20)=false:=by simpa using h20
 have q2:(K==21)=false:=by simpa using h21
 have q3:(decide ((16:Int)<=K)&&decide (K<=19))=false:=by
  rw[Bool.eq_false_iff];simp only[ne_eq,Bool.and_eq_true,decide_eq_true_eq];omega
 have q4:(K==12)=false:=by simpa using h12
 have q5:(K==13)=false:=by simpa using h13
 have q6:(K==14)=false:=by simpa using h14
 have q7:(K==15)=false:=by simpa using h15
 have q8:(K==16)=false:=by simpa using h16
 have q9:(K==17)=false:=by simpa using h17
 have q10:(K==22)=false:=by simpa using h22
 have q11:(K==23)=false:=by simpa using h23
 simp only[q1,q2,q3,q4,q5,q6,q7,q8,q9,q10,q11,h12,h13,h14,h15,h16,h17,h22,h23,or_self,if_false]
 cases nn<;>cases ll<;>simp
end M
namespace M
open Go.V (inB Jk aF dL)
theorem ZQ : ∀(m:Nat) (t:ae),t.sz<m->t.sz<=1048576->M.jg m t=some (tJ t)
 |0,t,h,_=>absurd h (Nat.not_lt_zero _)
 |m+1,t,h,hN=>by
  have hl:=ae.su hN;have e:=ZR (p:=tJ) (F:=fun f i=>M.iI (M.jg m) f i t) (e:=()) (b:=false) t.Kids (by omega) (fun f k hk=>by
   show M.iI (M.jg m) (f+1) (k:Int) t=_
   rw[M.iI];have hx:=ae.Bl (List.getElem_mem hk);simp only[ae.bI,getD_lt hk,ZQ m t.Kids[k] (by omega) (by omega),Int.toNat_natCast,dQ,Int.ofNat_lt,hk,decide_true,cond_true,Bool.true_or,Bool.true_and,Bool.and_true,gp hk (by omega:t.Kids.length<2^62),Option.getD_some,Option.isSome_some]
   cases tJ t.Kids[k]<;>rfl) (fun f=>by
   show M.iI (M.jg m) (f+1) _ t=_
   rw[M.iI];simp)
  show M.vG (M.jg m) t=_
  unfold M.vG;have e':M.iI (M.jg m) aF 0 t=_:=e;rw[ae.bI,afi t hN,e',Yc,NI]
  cases NG t<;>cases t.Kids.all tJ<;>simp
theorem ahC (t:ae) (h:t.sz<=1048576):M.Lj t=some (tOk t):=by
 unfold M.Lj;have e1:M.GM t=some (tJ t):=ZQ aF t (GL h) h;have e2:M.Ll t 1=some (OW 1 t):=adY aF 1 t (by omega) (by have:=dL;omega) h
 simp only[ae.bI,e1,e2,Option.getD_some,Option.isSome_some,Bool.true_or,Bool.and_true,cond_true];unfold tOk OW
 by_cases hq:1+lM t<=5 /\ iW t<=24
 ·rw[if_pos hq]
  have a1:decide (((lM t:Nat):Int)<=4)=decide (lM t<=4):=by simp only[decide_eq_decide];omega
  have a2:decide (((iW t:Nat):Int)<=24)=decide (iW t<=24):=by simp only[decide_eq_decide];omega
  dsimp only;rw[a1,a2]
 ·rw[if_neg hq]
  have:(decide (lM t<=4)&&decide (iW t<=24))=false:=by
   rw[Bool.eq_false_iff];simp only[ne_eq,Bool.and_eq_true,decide_eq_true_eq];omega
  rw[this];rfl
end M
namespace M
open Go.V (inB Jk aF dL)
theorem afj (l:List ae) (hl:l.length<=1048576):M.dO l=some (l.any yP):=by
 have e:=uo (p:=yP) (F:=M.dh l (l.length:Int)) (e:=()) (fun k=>k) l (by omega) (fun f k hk=>by
  rw[M.dh];simp only[getD_lt hk,Int.toNat_natCast,dQ,Int.ofNat_lt,hk,decide_true,cond_true,Bool.true_or,Bool.true_and,Bool.and_true,gp hk (by omega:l.length<2^62)]
  rfl) (fun f=>by rw[M.dh];simp)
 unfold M.dO M.fD;rw[e,oq]
 cases l.findIdx? yP<;>simp
theorem adZ (t:ae) (h:t.sz<=1048576) (n:Nat):M.vH t (n:Int)=some ((t.Kids.length==n)&& !t.Kids.any yP):=by
 unfold M.vH;rw[afj t.Kids (ae.su h)];simp only[Option.isSome_some,Bool.true_or,Bool.and_true,cond_true,Option.getD_some,Lh]
theorem afk (t:ae) (h:t.sz<=1048576) (rec:ae->Option Bool) (b:Bool) (hb:M.dF rec t.Kids=some (!b)):M.uy rec t=some (b&&NG t):=by
 have hn:=ZL t.Name (ae.acw h);have hlab:=adU t.bV (ae.QL h);have hk:=adZ t h;have hk1:M.vH t 1=some ((t.Kids.length==1)&& !t.Kids.any yP):=hk 1;have hh:t.Kids.length=1->M.pK (M.ae.re (List.getD t.Kids 0 ae.zero)) [21]=some (OQ (fun k=>k==21) t.Kids):=fun h1=>by
  have hx:(t.Kids.getD 0 ae.zero).sz<t.sz:=by
   rw[getD_lt (by omega)];exact ae.Bl (List.getElem_mem _)
  have e:GK (fun k=>[(21:Int)].any fun x=>k==x)=GK (fun k=>k==21):=QM fun k=>by simp
  rw[ae.bI,show M.pK=M.jR aF from rfl,adW [21] (by simp) aF _ (GL (by omega)) (by omega),e,U5 h1]
 unfold M.uy;simp only[ae.bI,hb,hn,hlab,hk,hk1,Option.getD_some,Option.isSome_some,Bool.true_or,Bool.and_true,Bool.true_and,cond_true,ZN,ZO,ZP,Lh,agV,Int.toNat_zero];unfold NG adS;have e0:decide ((0:Int)<((t.bV.length:Nat):Int))= !(t.bV.length==0):=by
  rw[Bool.eq_iff_iff];simp only[decide_eq_true_eq,Bool.not_eq_true',beq_eq_false_iff_ne];omega
 have e1:decide ((1:Int)<=((t.Kids.length:Nat):Int))=decide (1<=t.Kids.length):=by simp only[decide_eq_decide];omega
 have e2:decide (((t.Kids.length:Nat):Int)<=6)=decide (t.Kids.length<=6):=by simp only[decide_eq_decide];omega
 rw[e0,e1,e2];unfold abo agb;have hz:t.Kids.length=1->decide (0<t.Kids.length)=true:=fun h1=>by rw[h1];rfl
 have hl1:(t.Kids.length==1)=true->t.Kids.length=1:=fun h1=>by simpa using h1
 have hbr:(t.Kids.length==1)=true->M.pK (M.ae.re (List.getD t.Kids 0 ae.zero)) [21]=some (OQ (fun k=>k==21) t.Kids) /\ decide (0<t.Kids.length)=true:=fun h1=>⟨hh (hl1 h1),hz (hl1 h1)⟩
 clear hn hlab hk hk1 hh hz hl1 hb;simp only[ae.bI] at hbr ⊢
 generalize hK:t.Kind=K
 generalize (t.Name==[])=nn
 generalize lL t.Name=no
 generalize OO t.bV=lo
 generalize (t.bV.length==0)=ll
 generalize M.pK (List.getD t.Kids 0 ae.zero) [21]=o at hbr ⊢
 generalize decide (0<t.Kids.length)=z at hbr ⊢
 generalize (t.Kids.length==1)=l1 at hbr ⊢
 generalize OQ (fun k=>k==21) t.Kids=kh at hbr ⊢
 generalize t.Kids.any yP=au
 generalize (t.Kids.length==2)=l2
 generalize (t.Kids.length==0)=l0
 have afU:(t.Kids.length==t.Kids.length)=true:=by simp
 rw[afU]
 generalize (t.Kids.length==t.bV.length)=lk
 generalize decide (1<=t.Kids.length)=ge
 generalize decide (t.Kids.length<=6)=le
 clear hK h e0 e1 e2 afU
 cases b
 ·simp
 by_cases h12:K=12
 ·subst h12
  cases l1
  ·cases no<;>cases nn<;>cases lo<;>cases ll<;>simp
  ·obtain ⟨rfl,rfl⟩:=hbr rfl
   cases no<;>cases nn<;>cases lo<;>cases ll<;>simp
 by_cases h13:K=13
 ·subst h13
  cases l1
  ·cases no<;>cases nn<;>cases lo<;>cases ll<;>simp
  ·obtain ⟨rfl,rfl⟩:=hbr rfl
   cases no<;>cases nn<;>cases lo<;>cases ll<;>simp
 by_cases h14:K=14
 ·subst h14
  cases l1
  ·cases no<;>cases nn<;>cases lo<;>cases ll<;>simp
  ·obtain ⟨rfl,rfl⟩:=hbr rfl
   cases no<;>cases nn<;>cases lo<;>cases ll<;>simp
 by_cases h15:K=15
 ·subst h15
  cases l1
  ·cases no<;>cases nn<;>cases lo<;>cases ll<;>simp
  ·obtain ⟨rfl,rfl⟩:=hbr rfl
   cases no<;>cases nn<;>cases lo<;>cases ll<;>simp
 by_cases h16:K=16
 ·subst h16
  cases l1
  ·cases no<;>cases nn<;>cases lo<;>cases ll<;>simp
  ·obtain ⟨rfl,rfl⟩:=hbr rfl
   cases no<;>cases nn<;>cases lo<;>cases ll<;>simp
 by_cases h17:K=17
 ·subst h17
  cases l1
  ·cases no<;>cases nn<;>cases lo<;>cases ll<;>simp
  ·obtain ⟨rfl,rfl⟩:=hbr rfl
   cases no<;>cases nn<;>cases lo<;>cases ll<;>simp
 by_cases h18:K=18
 ·subst h18
  cases l1
  ·cases no<;>cases nn<;>cases lo<;>cases ll<;>simp
  ·obtain ⟨rfl,rfl⟩:=hbr rfl
   cases no<;>cases nn<;>cases lo<;>cases ll<;>simp
 by_cases h19:K=19
 ·subst h19
  cases l1
  ·cases no<;>cases nn<;>cases lo<;>cases ll<;>simp
  ·obtain ⟨rfl,rfl⟩:=hbr rfl
   cases no<;>cases nn<;>cases lo<;>cases ll<;>simp
 by_cases h20:K=20
 ·subst h20
  cases l1
  ·cases no<;>cases nn<;>cases lo<;>cases ll<;>simp
  ·obtain ⟨rfl,rfl⟩:=hbr rfl
   cases no<;>cases nn<;>cases lo<;>cases ll<;>simp
 by_cases h21:K=21
 ·subst h21
  cases l1
  ·cases no<;>cases nn<;>cases lo<;>cases ll<;>simp
  ·obtain ⟨rfl,rfl⟩:=hbr rfl
   cases no<;>cases nn<;>cases lo<;>cases ll<;>simp
 by_cases h22:K=22
 ·subst h22
  cases l1
  ·cases no<;>cases nn<;>cases lo<;>cases ll<;>simp
  ·obtain ⟨rfl,rfl⟩:=hbr rfl
   cases no<;>cases nn<;>cases lo<;>cases ll<;>simp
 by_cases h23:K=23
 ·subst h23
  cases l1
  ·cases no<;>cases nn<;>cases lo<;>cases ll<;>simp
  ·obtain ⟨rfl,rfl⟩:=hbr rfl
   cases no<;>cases nn<;>cases lo<;>cases ll<;>simp
 have q1:(K==20)=false:=by simpa using h20
 have q2:(K==21)=false:=by simpa using h21
 have q3:(decide ((16:Int)<=K)&&decide (K<=19))=false:=by
  rw[Bool.eq_false_iff];simp only[ne_eq,Bool.and_eq_true,decide_eq_true_eq];omega
 have q4:(K==12)=false:=by simpa using h12
 have q5:(K==13)=false:=by simpa using h13
 have q6:(K==14)=false:=by simpa using h14
 have q7:(K==15)=false:=by simpa using h15
 have q8:(K==16)=false:=by simpa using h16
 have q9:(K==17)=false:=by simpa using h17
 have q10:(K==22)=false:=by simpa using h22
 have q11:(K==23)=false:=by simpa using h23
 simp only[q1,q2,q3,q4,q5,q6,q7,q8,q9,q10,q11,h12,h13,h14,h15,h16,h17,h22,h23,or_self,if_false]
 cases nn<;>cases ll<;>simp
theorem ZT : ∀(m:Nat) (t:ae),t.sz<m->t.sz<=1048576->M.lV m t=some (tJ t)
 |0,t,h,_=>absurd h (Nat.not_lt_zero _)
 |m+1,t,h,hN=>by
  have hl:=ae.su hN;have e:=uo (p:=fun x=> !tJ x) (F:=M.dG (M.lV m) t.Kids (t.Kids.length:Int)) (e:=()) (fun k=>k) t.Kids (by omega) (fun f k hk=>by
   rw[M.dG];have hx:=ae.Bl (List.getElem_mem hk);have c:M.qY (M.lV m) t.Kids[k]=some (!tJ t.Kids[k]):=by
    unfold M.qY;simp only[ae.bI,ZT m t.Kids[k] (by omega) (by omega)];rfl
   simp only[ae.bI,getD_lt hk,c,Int.toNat_natCast,dQ,Int.ofNat_lt,hk,decide_true,cond_true,Bool.true_or,Bool.true_and,Bool.and_true,gp hk (by omega:t.Kids.length<2^62),Option.getD_some,Option.isSome_some]) (fun f=>by
   rw[M.dG];simp)
  have e2:M.dF (M.lV m) t.Kids=some (!NH t.Kids):=by
   unfold M.dF M.fP;have e3:(!NH t.Kids)=t.Kids.any fun x=> !tJ x:=by rw[NI,List.not_all_eq_any_not]
   rw[e,e3,oq]
   cases t.Kids.findIdx? (fun x=> !tJ x)<;>simp
  show M.uy (M.lV m) t=_
  rw[afk t hN _ _ e2,Yc,Bool.and_comm]
theorem ad1 (t:ae) (h:t.sz<=1048576):M.ES t=some (tOk t):=by
 unfold M.ES;have e1:M.Lm t=some (tJ t):=ZT aF t (GL h) h;have e2:M.YK t 4=some ((min (lM t) 5:Nat):Int):=adX aF t 4 (by have:=dL;omega) (by omega) h
 have e3:M.UU t=some ((iW t:Nat):Int):=acy aF t (GL h) h;simp only[ae.bI,e1,e2,e3,Option.getD_some,Option.isSome_some,Bool.true_or,Bool.and_true,cond_true];have a1:decide (((min (lM t) 5:Nat):Int)<=4)=decide (lM t<=4):=by simp only[decide_eq_decide];omega
 have a2:decide (((iW t:Nat):Int)<=24)=decide (iW t<=24):=by simp only[decide_eq_decide];omega
 rw[a1,a2];rfl
end M
namespace M
open Go.V (inB Jk aF dL)
theorem kb {a b:Int} (h:a≠b):(a==b)=false:=by rw[beq_eq_false_iff_ne];exact h
def ad2 (k:Int):Bool:=decide ((20:Int)<=k)&&decide (k<=23)
def ad3 (t:ae):Bool:=(tOk t&& !yP t)&& !GK ad2 t
theorem ad4 (k:Int):([(20:Int),21,22,23].any fun x=>k==x)=ad2 k:=by
 unfold ad2
 by_cases h:20<=k /\ k<=23
 ·have:k=20 \/ k=21 \/ k=22 \/ k=23:=by omega
  rcases this with rfl |rfl |rfl |rfl<;>rfl
 ·simp only[List.any_cons,List.any_nil,kb (show k≠20 by omega),kb (show k≠21 by omega),kb (show k≠22 by omega),kb (show k≠23 by omega),Bool.or_self]
  symm;rw[Bool.and_eq_false_iff]
  by_cases h0:(20:Int)<=k
  ·right;exact decide_eq_false (by omega)
  ·left;exact decide_eq_false h0
theorem agd (t:ae) (h:t.sz<=1048576):M.xn t=some (ad3 t):=by
 unfold M.xn ad3;have e:M.sD t 20 23=some (GK ad2 t):=adV 20 23 aF t (GL h) h;simp only[ae.bI,ahC t h,e,Option.getD_some,Option.isSome_some,Bool.true_or,Bool.and_true,cond_true,OU,yP]
theorem age (t:ae) (h:t.sz<=1048576):M.oN t=some (ad3 t):=by
 unfold M.oN ad3;have e:M.pK t [20,21,22,23]=some (GK ad2 t):=by
  have:=adW [20,21,22,23] (by simp) aF t (GL h) h
  rw[QM ad4] at this;exact this
 simp only[ae.bI,ad1 t h,e,Option.getD_some,Option.isSome_some,Bool.true_or,Bool.and_true,cond_true,yP]
end M
