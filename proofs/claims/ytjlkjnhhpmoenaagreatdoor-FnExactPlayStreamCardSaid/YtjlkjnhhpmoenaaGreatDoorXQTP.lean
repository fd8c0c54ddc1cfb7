/-
  NAMES AND TYPES: what is right, in plain Lean.
-/
import Derived.Test.YtjlkjnhhpmoenaaGreatDoorXQpl4
import Derived.Test.YtjlkjnhhpmoenaaGreatDoorXLSH
set_option linter.unusedVariables false
namespace M
open Go.V (inB xH aG bZ)
def abS (c:UInt8):Bool:=decide ((97:Int)<=((c.toNat:Nat):Int))&&decide (((c.toNat:Nat):Int)<=122)
def akq (c:UInt8):Bool:=decide ((48:Int)<=((c.toNat:Nat):Int))&&decide (((c.toNat:Nat):Int)<=57)
def Vb (c:UInt8):Bool:=((c.toNat:Nat):Int)==45
def yC (s:List UInt8) (k:Nat):Bool:=abS (s.getD k 0)||(decide (0<k)&&((akq (s.getD k 0)||Vb (s.getD k 0))&& !(Vb (s.getD k 0)&&Vb (s.getD (k-1) 0))))
def nY (s:List UInt8):Bool:=(List.range s.length).all (yC s)&&((decide (1<=s.length)&&decide (s.length<=12))&& !Vb (s.getD (s.length-1) 0))
def RN (l:List (List UInt8)):Bool:=(decide (1<=l.length)&&decide (l.length<=16))&&(nodupB l&&l.all nY)
mutual
def jP : ae->Nat
 | .mk _ _ _ kids=>1+Gx kids
def Gx : List ae->Nat
 | []=>0
 |x::r=>jP x+Gx r
end
mutual
def nZ : ae->Nat
 | .mk _ _ _ kids=>1+PY kids
def PY : List ae->Nat
 | []=>0
 |x::r=>max (nZ x) (PY r)
end
mutual
def Jb (p:Int->Bool):ae->Bool
 | .mk k _ _ kids=>p k||RP p kids
def RP (p:Int->Bool):List ae->Bool
 | []=>false
 |x::r=>Jb p x||RP p r
end
theorem Iq (t:ae):jP t=1+Gx t.Kids:=by cases t;rfl
theorem TY (t:ae):nZ t=1+PY t.Kids:=by cases t;rfl
theorem afB (p:Int->Bool) (t:ae):Jb p t=(p t.Kind||RP p t.Kids):=by cases t;rfl
theorem Ya (p:Int->Bool):∀l,RP p l=l.any (Jb p)
 | []=>rfl
 |x::r=>by rw[RP,List.any_cons,Ya p r]
def vN (t:ae):Bool:=t.Kind==1
def abM (t:ae):Bool:=(t.Kind==20)||(t.Kind==21)
def aje (t:ae):Bool:=decide ((16:Int)<=t.Kind)&&decide (t.Kind<=19)
def ac0 (t:ae):Bool:=
 if t.Kind=12 \/ t.Kind=13 then (t.Kids.length==1)&& !t.Kids.any vN
 else if t.Kind=14 then t.Kids.length==2
 else if t.Kind=15 then (decide (1<=t.Kids.length)&&decide (t.Kids.length<=6))&& !t.Kids.any vN
 else if t.Kind=16 then (t.Kids.length==t.aJ.length)&& !t.Kids.any vN
 else if t.Kind=17 then t.Kids.length==t.aJ.length
 else if t.Kind=22 \/ t.Kind=23 then (t.Kids.length==1)&& !RP (fun k=>k==21) t.Kids
 else (decide ((1:Int)<=t.Kind)&&decide (t.Kind<=23))&&(t.Kids.length==0)
def Ja (t:ae):Bool:=
 ((if aje t then RN t.aJ else t.aJ.length==0)&&(if abM t then nY t.Name else t.Name==[]))&&ac0 t
mutual
def jY : ae->Bool
 | .mk k n l kids=>Ja (.mk k n l kids)&&PZ kids
def PZ : List ae->Bool
 | []=>true
 |x::r=>jY x&&PZ r
end
theorem Dq (t:ae):jY t=(Ja t&&PZ t.Kids):=by cases t;rfl
theorem EG : ∀l,PZ l=l.all jY
 | []=>rfl
 |x::r=>by rw[PZ,List.all_cons,EG r]
def tOk (t:ae):Bool:=(decide (nZ t<=4)&&decide (jP t<=24))&&jY t
theorem ac8 : ∀l:List ae,l.length<=Gx l
 | []=>Nat.le_refl _
 |x::r=>by have:=ac8 r;simp only[Gx,List.length_cons,Iq x];omega
theorem aaL {l:List ae} {k:Nat} (h:k<l.length):Gx (l.drop k)=jP l[k]+Gx (l.drop (k+1)):=by rw[jS h];rfl
theorem aaM {l:List ae} {k:Nat} (h:k<l.length):PY (l.drop k)=max (nZ l[k]) (PY (l.drop (k+1))):=by rw[jS h];rfl
theorem Yb (t:ae):1<=nZ t:=by rw[TY];omega
end M
set_option linter.unusedSimpArgs false
namespace M
open Go.V (inB xH aG bZ)
theorem yD {n:Nat} (h:n<=1048576):n<aG:=by have:=bZ;omega
theorem afC {k n:Nat} (h0:0<k) (h:k<=n) (hn:n<2^62):Go.IntKind.wrap .i64 ((k:Int)-1)=((k-1:Nat):Int):=by
 rw[wrap_i64 (by omega) (by omega)];omega
theorem ac9 (s:List UInt8) (hs:s.length<=1048576):M.AL s=some (nY s):=by
 unfold M.AL;rw[Ir (p:=yC s) (F:=M.qH s (s.length:Int)) (e:=s) (b:=false) s.length (by omega) (fun f k hk=>by
  rw[M.qH];simp only[Int.toNat_natCast,dK,Int.ofNat_lt,hk,decide_true,cond_true,Bool.true_or,Bool.true_and,Bool.and_true,fZ hk (kZ hs),yC,abS,akq,Vb,oU]
  generalize decide ((97:Int)<=(((s.getD k 0).toNat:Nat):Int))=a1
  generalize decide ((((s.getD k 0).toNat:Nat):Int)<=122)=a2
  generalize decide ((48:Int)<=(((s.getD k 0).toNat:Nat):Int))=a3
  generalize decide ((((s.getD k 0).toNat:Nat):Int)<=57)=a4
  generalize ((((s.getD k 0).toNat:Nat):Int)==45)=a5
  rcases Nat.eq_zero_or_pos k with h0 |h0
  ·subst h0
   cases a1<;>cases a2<;>cases a3<;>cases a4<;>cases a5<;>simp
  ·have e0:((k:Int)==0)=false:=by rw[beq_eq_false_iff_ne];omega
   have hk1:k-1<s.length:=by omega
   simp only[e0,afC h0 (Nat.le_of_lt hk) (kZ hs),Int.toNat_natCast,dK,hk1,h0,decide_true]
   generalize ((((s.getD (k-1) 0).toNat:Nat):Int)==45)=a6
   cases a1<;>cases a2<;>cases a3<;>cases a4<;>cases a5<;>cases a6<;>simp) (fun f=>by rw[M.qH];simp)]
 unfold nY
 cases hall:(List.range s.length).all (yC s)
 ·simp
 ·simp only[if_true,oU,Bool.true_and]
  rcases Nat.eq_zero_or_pos s.length with h0 |h0
  ·simp[h0]
  ·have h1:s.length-1<s.length:=by omega
   have e1:decide ((1:Int)<=((s.length:Nat):Int))=decide (1<=s.length):=by simp only[decide_eq_decide];omega
   have e2:decide (((s.length:Nat):Int)<=12)=decide (s.length<=12):=by simp only[decide_eq_decide];omega
   simp only[afC h0 (Nat.le_refl _) (kZ hs),Int.toNat_natCast,dK,h1,decide_true,Bool.true_or,Bool.and_true,cond_true,e1,e2,Vb]
theorem ada (s:List UInt8) (hs:s.length<=1048576):M.wX s=some (nY s):=by
 unfold M.wX
 rcases Nat.eq_zero_or_pos s.length with h0 |h0
 ·have:s=[]:=List.eq_nil_of_length_eq_zero h0
  subst this;rfl
 have h1:s.length-1<s.length:=by omega
 simp only[afC h0 (Nat.le_refl _) (kZ hs),Int.toNat_natCast,dK,h1,Int.toNat_zero,decide_true,Bool.true_or,Bool.and_true,cond_true];have hz:inB (0:Int) s.length=true:=by
  show inB ((0:Nat):Int) s.length=true
  rw[dK];simpa using h0
 simp only[hz,Bool.true_or,Bool.and_true,cond_true];have e1:decide (((s.length:Nat):Int)<1)= !decide (1<=s.length):=by rw[<-decide_not];simp only[decide_eq_decide];omega
 have e2:decide ((12:Int)<((s.length:Nat):Int))= !decide (s.length<=12):=by rw[<-decide_not];simp only[decide_eq_decide];omega
 have e3:decide ((((s.getD 0 0).toNat:Nat):Int)<97)= !decide ((97:Int)<=(((s.getD 0 0).toNat:Nat):Int)):=by rw[<-decide_not];simp only[decide_eq_decide];omega
 have e4:decide ((122:Int)<(((s.getD 0 0).toNat:Nat):Int))= !decide ((((s.getD 0 0).toNat:Nat):Int)<=122):=by rw[<-decide_not];simp only[decide_eq_decide];omega
 rw[e1,e2,e3,e4]
 by_cases hlow:abS (s.getD 0 0)=true
 ·have hl:=hlow
  simp only[abS,Bool.and_eq_true] at hl;rw[Ir (p:=yC s) (F:=M.qO s) (e:=()) (b:=false) s.length (by omega) (fun f k hk=>by
   rw[M.qO];have f1:decide ((((s.getD k 0).toNat:Nat):Int)<97)= !decide ((97:Int)<=(((s.getD k 0).toNat:Nat):Int)):=by rw[<-decide_not];simp only[decide_eq_decide];omega
   have f2:decide ((122:Int)<(((s.getD k 0).toNat:Nat):Int))= !decide ((((s.getD k 0).toNat:Nat):Int)<=122):=by rw[<-decide_not];simp only[decide_eq_decide];omega
   have f3:decide ((((s.getD k 0).toNat:Nat):Int)<48)= !decide ((48:Int)<=(((s.getD k 0).toNat:Nat):Int)):=by rw[<-decide_not];simp only[decide_eq_decide];omega
   have f4:decide ((57:Int)<(((s.getD k 0).toNat:Nat):Int))= !decide ((((s.getD k 0).toNat:Nat):Int)<=57):=by rw[<-decide_not];simp only[decide_eq_decide];omega
   simp only[Int.toNat_natCast,dK,Int.ofNat_lt,hk,decide_true,cond_true,Bool.true_or,Bool.true_and,Bool.and_true,fZ hk (kZ hs),yC,abS,akq,Vb,oU,f1,f2,f3,f4];have dash:abS (s.getD k 0)=true->((((s.getD k 0).toNat:Nat):Int)==45)=false:=fun h=>by
    simp only[abS,Bool.and_eq_true,decide_eq_true_eq] at h;rw[beq_eq_false_iff_ne];omega
   simp only[abS] at dash
   rcases Nat.eq_zero_or_pos k with k0 |k0
   ·subst k0
    rw[hl.1,hl.2] at*;simp only[Bool.and_self] at dash;rw[dash trivial];simp
   ·have hk1:k-1<s.length:=by omega
    simp only[afC k0 (Nat.le_of_lt hk) (kZ hs),Int.toNat_natCast,dK,hk1,k0,decide_true]
    generalize ((((s.getD (k-1) 0).toNat:Nat):Int)==45)=a6
    revert dash
    generalize decide ((97:Int)<=(((s.getD k 0).toNat:Nat):Int))=a1
    generalize decide ((((s.getD k 0).toNat:Nat):Int)<=122)=a2
    generalize decide ((48:Int)<=(((s.getD k 0).toNat:Nat):Int))=a3
    generalize decide ((((s.getD k 0).toNat:Nat):Int)<=57)=a4
    generalize ((((s.getD k 0).toNat:Nat):Int)==45)=a5
    intro dash
    cases a1<;>cases a2<;>cases a3<;>cases a4<;>cases a5<;>cases a6<;>simp at dash ⊢) (fun f=>by rw[M.qO];simp)]
  rw[hl.1,hl.2];unfold nY Vb
  cases (List.range s.length).all (yC s)<;>cases decide (1<=s.length)<;>cases decide (s.length<=12)<;>cases ((((s.getD (s.length-1) 0).toNat:Nat):Int)==45)<;>rfl
 ·have hno:nY s=false:=by
   unfold nY;have:(List.range s.length).all (yC s)=false:=by
    rw[List.all_eq_false];refine ⟨0,by simpa using h0, ?_⟩
    simp only[Bool.not_eq_true] at hlow;simp only[yC,hlow];intro h;cases h
   rw[this];rfl
  rw[hno];simp only[Bool.not_eq_true] at hlow;simp only[abS] at hlow
  cases h3:decide ((97:Int)<=(((s.getD 0 0).toNat:Nat):Int))<;>cases h4:decide ((((s.getD 0 0).toNat:Nat):Int)<=122)<;>rw[h3,h4] at hlow<;>simp at hlow ⊢
end M
namespace M
open Go.V (inB xH aG bZ)
theorem nodup_range (l:List (List UInt8)):(List.range l.length).all (fun i=>(List.range i).all fun k=> !(l.getD k []==l.getD i []))=nodupB l:=by
 rw[Bool.eq_iff_iff,P5,List.Nodup,List.pairwise_iff_getElem];simp only[List.all_eq_true,List.mem_range,Bool.not_eq_true',beq_eq_false_iff_ne];constructor
 ·intro h i j hi hj hij e
  have:=h j hj i hij;rw[getD_lt hi,getD_lt hj] at this;exact this e
 ·intro h i hi k hk e
  rw[getD_lt hi,getD_lt (by omega)] at e
  exact h k i (by omega) hi hk e
theorem agF {α:Type} (p:α->Bool) (l:List α) (d:α):(List.range l.length).all (fun i=>p (l.getD i d))=l.all p:=by
 rw[Bool.eq_iff_iff];simp only[List.all_eq_true,List.mem_range];constructor
 ·intro h x hx
  obtain ⟨i,hi,rfl⟩:=List.getElem_of_mem hx;have:=h i hi
  rwa [getD_lt hi] at this
 ·intro h i hi
  rw[getD_lt hi];exact h _ (List.getElem_mem hi)
theorem ajk {α:Type} (p q:α->Bool) (l:List α):l.all (fun x=>p x&&q x)=(l.all p&&l.all q):=by
 induction l with
 |nil=>rfl
 |cons x r ih=>simp only[List.all_cons,ih];cases p x<;>cases q x<;>cases r.all p<;>cases r.all q<;>rfl
theorem ahK (l:List (List UInt8)) (h:iD List.length l<=1048576):M.wY l=some (RN l):=by
 have hl:=Nat.le_trans (eF List.length l) h;unfold M.wY;have e1:decide (((l.length:Nat):Int)<1)= !decide (1<=l.length):=by rw[<-decide_not];simp only[decide_eq_decide];omega
 have e2:decide ((16:Int)<((l.length:Nat):Int))= !decide (l.length<=16):=by rw[<-decide_not];simp only[decide_eq_decide];omega
 rw[e1,e2,Ir (p:=fun i=>nY (l.getD i [])&&(List.range i).all fun k=> !(l.getD k []==l.getD i [])) (F:=fun f i=>M.jr f l i) (e:=()) (b:=false) l.length (by omega) (fun f k hk=>by
  show M.jr (f+1) l (k:Int)=_
  rw[M.jr];have hn:(l.getD k []).length<=1048576:=by rw[getD_lt hk];exact Nat.le_trans (iP List.length _ _ (List.getElem_mem hk)) h
  have inner:M.iV l (k:Int) aG 0=some (if (List.range k).all (fun j=> !(l.getD j []==l.getD k [])) then .inr (l,(k:Int)) else .inl false):=
   Ir (p:=fun j=> !(l.getD j []==l.getD k [])) (F:=M.iV l (k:Int)) (e:=(l,(k:Int))) (b:=false) k (by omega) (fun f j hj=>by
    rw[M.iV];have hj':j<l.length:=by omega
    simp only[Int.toNat_natCast,dK,Int.ofNat_lt,hj,hk,hj',decide_true,cond_true,Bool.true_or,Bool.true_and,Bool.and_true,fZ hj (by omega:k<2^62)]
    cases l.getD j []==l.getD k []<;>rfl) (fun f=>by rw[M.iV];simp)
  simp only[Int.toNat_natCast,dK,Int.ofNat_lt,hk,decide_true,cond_true,Bool.true_or,Bool.true_and,Bool.and_true,fZ hk (by omega:l.length<2^62),ada _ hn,inner,Option.getD_some,Option.isSome_some]
  cases nY (l.getD k [])<;>cases (List.range k).all (fun j=> !(l.getD j []==l.getD k []))<;>simp[fZ hk (by omega:l.length<2^62)]) (fun f=>by
  show M.jr (f+1) l (l.length:Int)=_
  rw[M.jr];simp)]
 unfold RN;rw[ajk,agF,nodup_range]
 cases decide (1<=l.length)<;>cases decide (l.length<=16)<;>cases l.all nY<;>cases nodupB l<;>rfl
theorem ahL (l:List (List UInt8)) (h:iD List.length l<=1048576):M.zk l=some (RN l):=by
 have hl:=Nat.le_trans (eF List.length l) h;have c1:∀s:List UInt8,s.length<=1048576->M.rO s=some (!nY s):=fun s hs=>by
  unfold M.rO;rw[ac9 s hs];rfl
 have cf:M.dO l=some (l.any fun s=> !nY s):=by
  have e:=uN (p:=fun s=> !nY s) (F:=M.dA l (l.length:Int)) (e:=()) (fun k=>k) l (by omega) (fun f k hk=>by
   rw[M.dA];have hn:l[k].length<=1048576:=Nat.le_trans (iP List.length _ _ (List.getElem_mem hk)) h;simp only[getD_lt hk,Int.toNat_natCast,dK,Int.ofNat_lt,hk,decide_true,cond_true,Bool.true_or,Bool.true_and,Bool.and_true,fZ hk (by omega:l.length<2^62),c1 _ hn,Option.getD_some,Option.isSome_some]) (fun f=>by rw[M.dA];simp)
  unfold M.dO M.fJ;rw[e,lX]
  cases l.findIdx? (fun s=> !nY s)<;>simp
 unfold M.zk;rw[cf,aai l hl];have e1:decide ((1:Int)<=((l.length:Nat):Int))=decide (1<=l.length):=by simp only[decide_eq_decide];omega
 have e2:decide (((l.length:Nat):Int)<=16)=decide (l.length<=16):=by simp only[decide_eq_decide];omega
 have e3:(l.any fun s=> !nY s)= !l.all nY:=by rw[List.not_all_eq_any_not]
 unfold RN;simp only[Option.isSome_some,Bool.true_or,Bool.and_true,cond_true,Option.getD_some,e1,e2,e3,Bool.not_not]
 cases decide (1<=l.length)<;>cases decide (l.length<=16)<;>cases l.all nY<;>cases nodupB l<;>rfl
end M
namespace M
open Go.V (inB xH aG bZ)
theorem adb {α:Type} {f:α->Nat} {l:List α} {N:Nat} (h:iD f l<=N) {x:α} (hx:x∈l):f x<=N:=Nat.le_trans (iP f l x hx) h
theorem ae.TZ {a:ae} {N:Nat} (h:a.sz<=N):iD List.length a.aJ<=N:=by rw[ae.jR] at h;omega
theorem ae.afD {a:ae} {N:Nat} (h:a.sz<=N):a.Name.length<=N:=by rw[ae.jR] at h;omega
theorem ae.WO {a:ae} {N:Nat} (h:a.sz<=N):iD ae.sz a.Kids<=N:=by rw[ae.jR] at h;omega
theorem ae.lC {a:ae} {N:Nat} (h:a.sz<=N):a.Kids.length<=N:=Nat.le_trans (eF _ _) (ae.WO h)
theorem ae.XZ {a:ae} {N:Nat} (h:a.sz<=N):a.aJ.length<=N:=Nat.le_trans (eF _ _) (ae.TZ h)
theorem ae.uY {a x:ae} (h:x∈a.Kids):x.sz<a.sz:=by
 rw[ae.jR a];have:=sN ae.sz _ _ h;omega
theorem ajl (t:ae) (h:t.sz<=1048576):M.sU t=some (t.Kids.any vN):=by
 have hl:=ae.lC h;have e:=uN (p:=vN) (F:=fun f i=>M.je f i t) (e:=()) (fun _=>true) t.Kids (by omega) (fun f k hk=>by
  show M.je (f+1) (k:Int) t=_
  rw[M.je];simp only[ae.aT,getD_lt hk,Int.toNat_natCast,dK,Int.ofNat_lt,hk,decide_true,cond_true,Bool.true_or,Bool.true_and,Bool.and_true,fZ hk (by omega:t.Kids.length<2^62),vN]) (fun f=>by
  show M.je (f+1) _ t=_
  rw[M.je];simp)
 unfold M.sU;rw[ae.aT,lX];have e':M.je aG 0 t=_:=e;rw[e']
 cases t.Kids.findIdx? vN<;>simp
theorem ahM (lo hi:Int):∀(m:Nat) (t:ae),t.sz<m->t.sz<=1048576->M.mP m t lo hi=some (Jb (fun k=>decide (lo<=k)&&decide (k<=hi)) t)
 |0,t,h,_=>absurd h (Nat.not_lt_zero _)
 |m+1,t,h,hN=>by
  have hl:=ae.lC hN;have e:=uN (p:=Jb (fun k=>decide (lo<=k)&&decide (k<=hi))) (F:=fun f i=>M.lJ (M.mP m) lo hi f i t) (e:=()) (fun _=>true) t.Kids (by omega) (fun f k hk=>by
   show M.lJ (M.mP m) lo hi (f+1) (k:Int) t=_
   rw[M.lJ];have hx:=ae.uY (List.getElem_mem hk);simp only[ae.aT,getD_lt hk,ahM lo hi m t.Kids[k] (by omega) (by omega),Int.toNat_natCast,dK,Int.ofNat_lt,hk,decide_true,cond_true,Bool.true_or,Bool.true_and,Bool.and_true,fZ hk (by omega:t.Kids.length<2^62),Option.getD_some,Option.isSome_some]) (fun f=>by
   show M.lJ (M.mP m) lo hi (f+1) _ t=_
   rw[M.lJ];simp)
  show M.DJ (M.mP m) t lo hi=_
  unfold M.DJ;have e':M.lJ (M.mP m) lo hi aG 0 t=_:=e;rw[ae.aT,e',afB,Ya,lX]
  cases (decide (lo<=t.Kind)&&decide (t.Kind<=hi))<;>cases t.Kids.findIdx? (Jb fun k=>decide (lo<=k)&&decide (k<=hi))<;>simp
theorem aeH (l:List Int) (v:Int) (hl:l.length<2^62):M.fE l v=some (l.any fun x=>v==x):=by
 have e:=uN (p:=fun x=>v==x) (F:=M.eu l v (l.length:Int)) (e:=()) (fun k=>k) l hl (fun f k hk=>by
  rw[M.eu];simp only[getD_lt hk,Int.toNat_natCast,dK,Int.ofNat_lt,hk,decide_true,cond_true,Bool.true_or,Bool.true_and,Bool.and_true,fZ hk hl]) (fun f=>by rw[M.eu];simp)
 unfold M.fE M.iF;rw[e,lX]
 cases l.findIdx? (fun x=>v==x)<;>simp
theorem ahN (ks:List Int) (hk:ks.length<2^62):∀(m:Nat) (t:ae),t.sz<m->t.sz<=1048576->M.lQ m t ks=some (Jb (fun k=>ks.any fun x=>k==x) t)
 |0,t,h,_=>absurd h (Nat.not_lt_zero _)
 |m+1,t,h,hN=>by
  have hl:=ae.lC hN;have e:=uN (p:=Jb (fun k=>ks.any fun x=>k==x)) (F:=M.dE (M.lQ m) t.Kids ks (t.Kids.length:Int)) (e:=()) (fun k=>k) t.Kids (by omega) (fun f k hk'=>by
   rw[M.dE];have hx:=ae.uY (List.getElem_mem hk');have c:M.uB (M.lQ m) t.Kids[k] ks=some (Jb (fun k=>ks.any fun x=>k==x) t.Kids[k]):=by
    unfold M.uB;simp only[ae.aT,ahN ks hk m t.Kids[k] (by omega) (by omega)];rfl
   simp only[ae.aT,getD_lt hk',c,Int.toNat_natCast,dK,Int.ofNat_lt,hk',decide_true,cond_true,Bool.true_or,Bool.true_and,Bool.and_true,fZ hk' (by omega:t.Kids.length<2^62),Option.getD_some,Option.isSome_some]) (fun f=>by
   rw[M.dE];simp)
  have e2:M.dZ (M.lQ m) t.Kids ks=some (t.Kids.any (Jb (fun k=>ks.any fun x=>k==x))):=by
   unfold M.dZ M.fU;rw[e,lX]
   cases t.Kids.findIdx? (Jb (fun k=>ks.any fun x=>k==x))<;>simp
  show M.AP (M.lQ m) t ks=_
  unfold M.AP;rw[e2,aeH ks _ hk,afB,Ya];simp
theorem abT : ∀(l:List ae),(∀x∈l,jP x<=x.sz+1)->Gx l<=iD ae.sz l
 | [],_=>Nat.le_refl _
 |x::r,h=>by
  have:=abT r fun y hy=>h y (List.mem_cons_of_mem _ hy)
  have:=h x (List.mem_cons_self ..);simp only[Gx,iD];omega
theorem Yc : ∀(n:Nat) (t:ae),t.sz<n->jP t<=t.sz+1
 |0,t,h=>absurd h (Nat.not_lt_zero _)
 |n+1,t,h=>by
  have:=abT t.Kids fun x hx=>Yc n x (by have:=ae.uY hx;omega)
  rw[Iq,ae.jR];omega
theorem agG (t:ae):jP t<=t.sz+1:=Yc _ t (Nat.lt_succ_self _)
theorem ajm {l:List ae} {N:Nat} (h:iD ae.sz l<=N):Gx l<=N:=Nat.le_trans (abT l fun x _=>agG x) h
theorem afE : ∀(m:Nat) (t:ae),t.sz<m->t.sz<=1048576->M.xg m t=some ((jP t:Nat):Int)
 |0,t,h,_=>absurd h (Nat.not_lt_zero _)
 |m+1,t,h,hN=>by
  have hl:=ae.lC hN;have hs:=ajm (ae.WO hN);have key:∀f k (a:Nat),k<=t.Kids.length->t.Kids.length-k<f->a+Gx (t.Kids.drop k)<=1048577->M.sV (M.xg m) t.Kids (t.Kids.length:Int) f (a:Int) (k:Int)=some (((a+Gx (t.Kids.drop k):Nat)):Int):=by
   intro f
   induction f with
   |zero=>intro k a h1 h2;omega
   |succ f ih=>
    intro k a h1 h2 h3
    rcases Nat.lt_or_ge k t.Kids.length with hk |hk
    ·rw[M.sV]
     have hx:=ae.uY (List.getElem_mem hk);rw[aaL hk] at h3 ⊢;have hw:Go.IntKind.wrap .i64 ((a:Int)+((jP t.Kids[k]:Nat):Int))=((a+jP t.Kids[k]:Nat):Int):=by rw[wrap_i64 (by omega) (by omega)];omega
     simp only[ae.aT,getD_lt hk,afE m t.Kids[k] (by omega) (by omega),Int.toNat_natCast,dK,Int.ofNat_lt,hk,decide_true,cond_true,Bool.true_and,Bool.and_true,fZ hk (by omega:t.Kids.length<2^62),Option.getD_some,Option.isSome_some,hw]
     rw[ih (k+1) _ (by omega) (by omega) (by omega)]
     congr 1;omega
    ·have:k=t.Kids.length:=by omega
     subst this;rw[M.sV];simp[List.drop_length,Gx]
  show M.G9 (M.xg m) t=_
  unfold M.G9;have e:=key aG 0 1 (Nat.zero_le _) (by have:=bZ;omega) (by simp only[List.drop_zero];omega)
  have e':M.sV (M.xg m) t.Kids (t.Kids.length:Int) aG 1 0=_:=e;rw[e',Iq];rfl
theorem ahO : ∀(m:Nat) (t:ae) (L:Nat),L<m->L<=100->t.sz<=1048576->M.AA m t (L:Int)=some ((min (nZ t) (L+1):Nat):Int)
 |0,t,L,h,_,_=>absurd h (Nat.not_lt_zero _)
 |m+1,t,L,h,hL,hN=>by
  have hl:=ae.lC hN
  show M.La (M.AA m) t (L:Int)=_
  unfold M.La
  cases L with
  |zero=>
   have:=Yb t;rw[show min (nZ t) (0+1)=1 by omega];rfl
  |succ L=>
   have hw0:Go.IntKind.wrap .i64 (((L+1:Nat):Int)-1)=(L:Int):=by rw[wrap_i64 (by omega) (by omega)];omega
   have key:∀f k (a:Nat),k<=t.Kids.length->t.Kids.length-k<f->M.wZ (M.AA m) ((L+1:Nat):Int) t.Kids (t.Kids.length:Int) f (a:Int) (k:Int)=some ((max a (min (PY (t.Kids.drop k)) (L+1)):Nat):Int):=by
    intro f
    induction f with
    |zero=>intro k a h1 h2;omega
    |succ f ih=>
     intro k a h1 h2
     rcases Nat.lt_or_ge k t.Kids.length with hk |hk
     ·rw[M.wZ]
      have hx:=ae.uY (List.getElem_mem hk);simp only[ae.aT,getD_lt hk,hw0,ahO m t.Kids[k] L (by omega) (by omega) (by omega),Int.toNat_natCast,dK,Int.ofNat_lt,hk,decide_true,cond_true,Bool.true_and,Bool.and_true,fZ hk (by omega:t.Kids.length<2^62),Option.getD_some,Option.isSome_some]
      have hm:(bif decide (a<min (nZ t.Kids[k]) (L+1)) then ((min (nZ t.Kids[k]) (L+1):Nat):Int) else (a:Int))=((max a (min (nZ t.Kids[k]) (L+1)):Nat):Int):=by
       by_cases hc:a<min (nZ t.Kids[k]) (L+1)
       ·simp only[hc,decide_true,cond_true];omega
       ·simp only[hc,decide_false,cond_false];omega
      rw[hm,ih (k+1) _ (by omega) (by omega),aaM hk]
      congr 1;omega
     ·have:k=t.Kids.length:=by omega
      subst this;rw[M.wZ];simp[List.drop_length,PY]
   have e:=key aG 0 0 (Nat.zero_le _) (by have:=bZ;omega)
   have e':M.wZ (M.AA m) ((L+1:Nat):Int) t.Kids (t.Kids.length:Int) aG 0 0=_:=e;have d:(((L+1:Nat):Int)==0)=false:=by rw[beq_eq_false_iff_ne];omega
   rw[d,e',TY];simp only[cond_false,List.drop_zero];rw[wrap_i64 (by omega) (by omega)]
   congr 1;omega
end M
namespace M
open Go.V (inB xH aG bZ)
def RQ (d:Nat) (t:ae):Int×Int:=if d+nZ t<=5 /\ jP t<=24 then (((nZ t:Nat):Int),((jP t:Nat):Int)) else (5,25)
theorem ahP : ∀(m d:Nat) (t:ae),d<=5->6<=m+d->t.sz<=1048576->M.qF m t (d:Int)=some (RQ d t)
 |0,d,t,h1,h2,_=>by omega
 |m+1,d,t,h1,h2,hN=>by
  have hl:=ae.lC hN;have hdp:=Yb t
  show M.Aw (M.qF m) t (d:Int)=_
  unfold M.Aw
  by_cases h5:d=5
  ·subst h5
   have:RQ 5 t=(5,25):=by unfold RQ;rw[if_neg (by omega)]
   rw[this];rfl
  have d4:decide ((4:Int)<(d:Int))=false:=by rw[decide_eq_false_iff_not];omega
  by_cases h24:24<t.Kids.length
  ·have:RQ d t=(5,25):=by
    unfold RQ;have:=ac8 t.Kids;rw[if_neg (by rw[Iq];omega)]
   rw[this,d4];have:decide ((24:Int)<((t.Kids.length:Nat):Int))=true:=by rw[decide_eq_true_eq];omega
   rw[this];rfl
  have d24:decide ((24:Int)<((t.Kids.length:Nat):Int))=false:=by rw[decide_eq_false_iff_not];omega
  have hw:Go.IntKind.wrap .i64 ((d:Int)+1)=((d+1:Nat):Int):=by rw[wrap_i64 (by omega) (by omega)];omega
  have mx:∀a b:Nat,M.rE (a:Int) (b:Int)=some ((max a b:Nat):Int):=fun a b=>by
   unfold M.rE
   by_cases hc:b<a
   ·have:decide ((b:Int)<(a:Int))=true:=by rw[decide_eq_true_eq];omega
    rw[this];simp only[cond_true];congr 1;omega
   ·have:decide ((b:Int)<(a:Int))=false:=by rw[decide_eq_false_iff_not];omega
    rw[this];simp only[cond_false];congr 1;omega
  have key:∀f k (a p:Nat),k<=t.Kids.length->t.Kids.length-k<f->p<=24->M.oH (M.qF m) (d:Int) f (a:Int) (p:Int) (k:Int) t=
   some (if d+1+PY (t.Kids.drop k)<=5 /\ p+Gx (t.Kids.drop k)<=24 then .inr (((max a (PY (t.Kids.drop k)):Nat):Int),((p+Gx (t.Kids.drop k):Nat):Int)) else .inl (5,25)):=by
   intro f
   induction f with
   |zero=>intro k a p h1 h2;omega
   |succ f ih=>
    intro k a p h1 h2 h3
    rcases Nat.lt_or_ge k t.Kids.length with hk |hk
    ·rw[M.oH]
     have hx:=ae.uY (List.getElem_mem hk);have hc:=ahP m (d+1) t.Kids[k] (by omega) (by omega) (by omega)
     rw[aaM hk,aaL hk];simp only[ae.aT,getD_lt hk,hw,hc,Int.toNat_natCast,dK,Int.ofNat_lt,hk,decide_true,cond_true,Bool.true_and,Bool.and_true,fZ hk (by omega:t.Kids.length<2^62),Option.getD_some,Option.isSome_some]
     unfold RQ
     by_cases hv:d+1+nZ t.Kids[k]<=5 /\ jP t.Kids[k]<=24
     ·rw[if_pos hv]
      have hw2:Go.IntKind.wrap .i64 ((p:Int)+((jP t.Kids[k]:Nat):Int))=((p+jP t.Kids[k]:Nat):Int):=by rw[wrap_i64 (by omega) (by omega)];omega
      dsimp only;rw[hw2,mx]
      by_cases hp:24<p+jP t.Kids[k]
      ·have:decide ((24:Int)<((p+jP t.Kids[k]:Nat):Int))=true:=by rw[decide_eq_true_eq];omega
       rw[this,if_neg (by omega)]
       simp
      ·have:decide ((24:Int)<((p+jP t.Kids[k]:Nat):Int))=false:=by rw[decide_eq_false_iff_not];omega
       rw[this];simp only[cond_false,Option.isSome_some,Bool.true_and,cond_true,Option.getD_some];rw[ih (k+1) _ _ (by omega) (by omega) (by omega)]
       have e1:(d+1+PY (t.Kids.drop (k+1))<=5 /\ p+jP t.Kids[k]+Gx (t.Kids.drop (k+1))<=24)↔(d+1+max (nZ t.Kids[k]) (PY (t.Kids.drop (k+1)))<=5 /\ p+(jP t.Kids[k]+Gx (t.Kids.drop (k+1)))<=24):=by omega
       by_cases hq:d+1+PY (t.Kids.drop (k+1))<=5 /\ p+jP t.Kids[k]+Gx (t.Kids.drop (k+1))<=24
       ·rw[if_pos hq,if_pos (e1.1 hq)]
        congr 3
        ·omega
        ·omega
       ·rw[if_neg hq,if_neg (fun h=>hq (e1.2 h))]
     ·rw[if_neg hv,if_neg (by omega)]
      have hw2:Go.IntKind.wrap .i64 ((p:Int)+25)=(p:Int)+25:=wrap_i64 (by omega) (by omega)
      have mx5:M.rE (a:Int) 5=some ((max a 5:Nat):Int):=mx a 5;dsimp only;rw[hw2,mx5];have:decide ((24:Int)<(p:Int)+25)=true:=by rw[decide_eq_true_eq];omega
      rw[this];simp
    ·have:k=t.Kids.length:=by omega
     subst this;rw[M.oH,List.drop_length];have hq:d+1+PY []<=5 /\ p+Gx []<=24:=⟨by show d+1+0<=5;omega,by show p+0<=24;omega⟩
     rw[if_pos hq];simp[PY,Gx]
  have e:=key aG 0 0 1 (Nat.zero_le _) (by have:=bZ;omega) (by omega)
  have e':M.oH (M.qF m) (d:Int) aG 0 1 0 t=_:=e;rw[ae.aT,d4,d24,e'];simp only[List.drop_zero,Bool.or_self,cond_false];unfold RQ;rw[TY,Iq]
  by_cases hq:d+1+PY t.Kids<=5 /\ 1+Gx t.Kids<=24
  ·rw[if_pos hq,if_pos (by omega)]
   simp only
   congr 2
   rw[wrap_i64 (by omega) (by omega)];omega
  ·rw[if_neg hq,if_neg (by omega)]
theorem Yd {p:Int->Bool} {l:List ae} (h:l.length=1):Jb p (l.getD 0 ae.zero)=RP p l:=by
 match l,h with
 | [x],_=>simp[RP]
theorem Ua {p q:Int->Bool} (h:∀k,p k=q k):Jb p=Jb q:=by
 have:p=q:=funext h;rw[this]
theorem b21 (k:Int):(decide ((21:Int)<=k)&&decide (k<=21))=(k==21):=by
 rw[Bool.eq_iff_iff];simp only[Bool.and_eq_true,decide_eq_true_eq,beq_iff_eq];omega
theorem Ns (n m:Nat):(((n:Nat):Int)==((m:Nat):Int))=(n==m):=by
 rw[Bool.eq_iff_iff];simp only[beq_iff_eq];omega
theorem ade (n:Nat):(((n:Nat):Int)==1)=(n==1):=Ns n 1
theorem adf (n:Nat):(((n:Nat):Int)==2)=(n==2):=Ns n 2
theorem adg (n:Nat):(((n:Nat):Int)==0)=(n==0):=Ns n 0
theorem alH (n:Nat):inB (0:Int) n=decide (0<n):=dK 0 n
theorem ajn (t:ae) (h:t.sz<=1048576):M.zg t=some (Ja t):=by
 have hn:=ada t.Name (ae.afD h);have hb:=ahK t.aJ (ae.TZ h);have hu:=ajl t h;have hh:t.Kids.length=1->M.ve (M.ae.re (List.getD t.Kids 0 ae.zero)) 21 21=some (RP (fun k=>k==21) t.Kids):=fun h1=>by
  have hx:(t.Kids.getD 0 ae.zero).sz<t.sz:=by
   rw[getD_lt (by omega)];exact ae.uY (List.getElem_mem _)
  rw[ae.aT,show M.ve=M.mP aG from rfl,ahM 21 21 aG _ (yD (by omega)) (by omega),Ua b21,Yd h1]
 unfold M.zg;simp only[ae.aT,hn,hb,hu,Option.getD_some,Option.isSome_some,Bool.true_or,Bool.and_true,Bool.true_and,cond_true,ade,adf,adg,Ns,alH,Int.toNat_zero];unfold Ja ac0;have e0:decide ((0:Int)<((t.aJ.length:Nat):Int))= !(t.aJ.length==0):=by
  rw[Bool.eq_iff_iff];simp only[decide_eq_true_eq,Bool.not_eq_true',beq_eq_false_iff_ne];omega
 have e1:decide ((1:Int)<=((t.Kids.length:Nat):Int))=decide (1<=t.Kids.length):=by simp only[decide_eq_decide];omega
 have e2:decide (((t.Kids.length:Nat):Int)<=6)=decide (t.Kids.length<=6):=by simp only[decide_eq_decide];omega
 rw[e0,e1,e2];have Bd:RN t.aJ=true->(t.aJ.length==0)=false:=fun h=>by
  simp only[RN,Bool.and_eq_true,decide_eq_true_eq] at h;rw[beq_eq_false_iff_ne];omega
 have Be:nY t.Name=true->(t.Name==[])=false:=fun h=>by
  simp only[nY,Bool.and_eq_true,decide_eq_true_eq] at h;rw[beq_eq_false_iff_ne];intro e;rw[e] at h;simp at h
 unfold abM aje;have hz:t.Kids.length=1->decide (0<t.Kids.length)=true:=fun h1=>by rw[h1];rfl
 have hl1:(t.Kids.length==1)=true->t.Kids.length=1:=fun h1=>by simpa using h1
 have hbr:(t.Kids.length==1)=true->M.ve (M.ae.re (List.getD t.Kids 0 ae.zero)) 21 21=some (RP (fun k=>k==21) t.Kids) /\ decide (0<t.Kids.length)=true:=fun h1=>⟨hh (hl1 h1),hz (hl1 h1)⟩
 clear hn hb hu hh hz hl1;simp only[ae.aT] at hbr ⊢
 generalize hK:t.Kind=K
 generalize (t.Name==[])=nn at Be ⊢
 generalize nY t.Name=no at Be ⊢
 generalize RN t.aJ=lo at Bd ⊢
 generalize (t.aJ.length==0)=ll at Bd ⊢
 generalize M.ve (List.getD t.Kids 0 ae.zero) 21 21=o at hbr ⊢
 generalize decide (0<t.Kids.length)=z at hbr ⊢
 generalize (t.Kids.length==1)=l1 at hbr ⊢
 generalize RP (fun k=>k==21) t.Kids=kh at hbr ⊢
 generalize t.Kids.any vN=au
 generalize (t.Kids.length==2)=l2
 generalize (t.Kids.length==0)=l0
 generalize (t.Kids.length==t.aJ.length)=lk
 generalize decide (1<=t.Kids.length)=ge
 generalize decide (t.Kids.length<=6)=le
 clear hK h e0 e1 e2
 by_cases h12:K=12
 ·subst h12
  cases l1
  ·cases no<;>cases nn<;>simp at Be<;>cases lo<;>cases ll<;>simp at Bd<;>simp
  ·obtain ⟨rfl,rfl⟩:=hbr rfl
   cases no<;>cases nn<;>simp at Be<;>cases lo<;>cases ll<;>simp at Bd<;>simp
 by_cases h13:K=13
 ·subst h13
  cases l1
  ·cases no<;>cases nn<;>simp at Be<;>cases lo<;>cases ll<;>simp at Bd<;>simp
  ·obtain ⟨rfl,rfl⟩:=hbr rfl
   cases no<;>cases nn<;>simp at Be<;>cases lo<;>cases ll<;>simp at Bd<;>simp
 by_cases h14:K=14
 ·subst h14
  cases l1
  ·cases no<;>cases nn<;>simp at Be<;>cases lo<;>cases ll<;>simp at Bd<;>simp
  ·obtain ⟨rfl,rfl⟩:=hbr rfl
   cases no<;>cases nn<;>simp at Be<;>cases lo<;>cases ll<;>simp at Bd<;>simp
 by_cases h15:K=15
 ·subst h15
  cases l1
  ·cases no<;>cases nn<;>simp at Be<;>cases lo<;>cases ll<;>simp at Bd<;>simp
  ·obtain ⟨rfl,rfl⟩:=hbr rfl
   cases no<;>cases nn<;>simp at Be<;>cases lo<;>cases ll<;>simp at Bd<;>simp
 by_cases h16:K=16
 ·subst h16
  cases l1
  ·cases no<;>cases nn<;>simp at Be<;>cases lo<;>cases ll<;>simp at Bd<;>simp
  ·obtain ⟨rfl,rfl⟩:=hbr rfl
   cases no<;>cases nn<;>simp at Be<;>cases lo<;>cases ll<;>simp at Bd<;>simp
 by_cases h17:K=17
 ·subst h17
  cases l1
  ·cases no<;>cases nn<;>simp at Be<;>cases lo<;>cases ll<;>simp at Bd<;>simp
  ·obtain ⟨rfl,rfl⟩:=hbr rfl
   cases no<;>cases nn<;>simp at Be<;>cases lo<;>cases ll<;>simp at Bd<;>simp
 by_cases h18:K=18
 ·subst h18
  cases l1
  ·cases no<;>cases nn<;>simp at Be<;>cases lo<;>cases ll<;>simp at Bd<;>simp
  ·obtain ⟨rfl,rfl⟩:=hbr rfl
   cases no<;>cases nn<;>simp at Be<;>cases lo<;>cases ll<;>simp at Bd<;>simp
 by_cases h19:K=19
 ·subst h19
  cases l1
  ·cases no<;>cases nn<;>simp at Be<;>cases lo<;>cases ll<;>simp at Bd<;>simp
  ·obtain ⟨rfl,rfl⟩:=hbr rfl
   cases no<;>cases nn<;>simp at Be<;>cases lo<;>cases ll<;>simp at Bd<;>simp
 by_cases h20:K=20
 ·subst h20
  cases l1
  ·cases no<;>cases nn<;>simp at Be<;>cases lo<;>cases ll<;>simp at Bd<;>simp
  ·obtain ⟨rfl,rfl⟩:=hbr rfl
   cases no<;>cases nn<;>simp at Be<;>cases lo<;>cases ll<;>simp at Bd<;>simp
 by_cases h21:K=21
 ·subst h21
  cases l1
  ·cases no<;>cases nn<;>simp at Be<;>cases lo<;>cases ll<;>simp at Bd<;>simp
  ·obtain ⟨rfl,rfl⟩:=hbr rfl
   cases no<;>cases nn<;>simp at Be<;>cases lo<;>cases ll<;>simp at Bd<;>simp
 by_cases h22:K=22
 ·subst h22
  cases l1
  ·cases no<;>cases nn<;>simp at Be<;>cases lo<;>cases ll<;>simp at Bd<;>simp
  ·obtain ⟨rfl,rfl⟩:=hbr rfl
   cases no<;>cases nn<;>simp at Be<;>cases lo<;>cases ll<;>simp at Bd<;>simp
 by_cases h23:K=23
 ·subst h23
  cases l1
  ·cases no<;>cases nn<;>simp at Be<;>cases lo<;>cases ll<;>simp at Bd<;>simp
  ·obtain ⟨rfl,rfl⟩:=hbr rfl
   cases no<;>cases nn<;>simp at Be<;>cases lo<;>cases ll<;>simp at Bd<;>simp
 have q1:(K==20)=false:=by simpa using h20
 have q2:(K==21)=false:=by simpa using h21
 have q3:(decide ((16:Int)<=K)&&decide (K<=19))=false:=by
  rw[Bool.eq_false_iff];simp only[ne_eq,Bool.and_eq_true,decide_eq_true_eq];omega
 have q4:(K==12)=false:=by simpa using h12
 have q5:(K==13)=false:=by simpa using h13
 have q6:(K==14)=false:=by simpa using h14
 have q7:(K==15)=false:=by simpa using h15
 have q8:(K==16)=false:=by simpa using h16
 have q9:(K==17)=false:=by simpa using h17
 have q10:(K==22)=false:=by simpa using h22
 have q11:(K==23)=false:=by simpa using h23
 simp only[q1,q2,q3,q4,q5,q6,q7,q8,q9,q10,q11,h12,h13,h14,h15,h16,h17,h22,h23,or_self,if_false]
 cases nn<;>cases ll<;>simp
end M
namespace M
open Go.V (inB xH aG bZ)
theorem adh : ∀(m:Nat) (t:ae),t.sz<m->t.sz<=1048576->M.kz m t=some (jY t)
 |0,t,h,_=>absurd h (Nat.not_lt_zero _)
 |m+1,t,h,hN=>by
  have hl:=ae.lC hN;have e:=Ye (p:=jY) (F:=fun f i=>M.jf (M.kz m) f i t) (e:=()) (b:=false) t.Kids (by omega) (fun f k hk=>by
   show M.jf (M.kz m) (f+1) (k:Int) t=_
   rw[M.jf];have hx:=ae.uY (List.getElem_mem hk);simp only[ae.aT,getD_lt hk,adh m t.Kids[k] (by omega) (by omega),Int.toNat_natCast,dK,Int.ofNat_lt,hk,decide_true,cond_true,Bool.true_or,Bool.true_and,Bool.and_true,fZ hk (by omega:t.Kids.length<2^62),Option.getD_some,Option.isSome_some]
   cases jY t.Kids[k]<;>rfl) (fun f=>by
   show M.jf (M.kz m) (f+1) _ t=_
   rw[M.jf];simp)
  show M.xN (M.kz m) t=_
  unfold M.xN;have e':M.jf (M.kz m) aG 0 t=_:=e;rw[ae.aT,ajn t hN,e',Dq,EG]
  cases Ja t<;>cases t.Kids.all jY<;>simp
theorem alI (t:ae) (h:t.sz<=1048576):M.E8 t=some (tOk t):=by
 unfold M.E8;have e1:M.IJ t=some (jY t):=adh aG t (yD h) h;have e2:M.Na t 1=some (RQ 1 t):=ahP aG 1 t (by omega) (by have:=bZ;omega) h
 simp only[ae.aT,e1,e2,Option.getD_some,Option.isSome_some,Bool.true_or,Bool.and_true,cond_true];unfold tOk RQ
 by_cases hq:1+nZ t<=5 /\ jP t<=24
 ·rw[if_pos hq]
  have a1:decide (((nZ t:Nat):Int)<=4)=decide (nZ t<=4):=by simp only[decide_eq_decide];omega
  have a2:decide (((jP t:Nat):Int)<=24)=decide (jP t<=24):=by simp only[decide_eq_decide];omega
  dsimp only;rw[a1,a2]
 ·rw[if_neg hq]
  have:(decide (nZ t<=4)&&decide (jP t<=24))=false:=by
   rw[Bool.eq_false_iff];simp only[ne_eq,Bool.and_eq_true,decide_eq_true_eq];omega
  rw[this];rfl
theorem ahQ (t:ae) (h:t.sz<=1048576):M.Hm t=some (tOk t):=by
 unfold M.Hm;simp only[ae.aT,alI t h];rfl
end M
namespace M
open Go.V (inB xH aG bZ)
theorem ajo (l:List ae) (hl:l.length<=1048576):M.dY l=some (l.any vN):=by
 have e:=uN (p:=vN) (F:=M.dD l (l.length:Int)) (e:=()) (fun k=>k) l (by omega) (fun f k hk=>by
  rw[M.dD];simp only[getD_lt hk,Int.toNat_natCast,dK,Int.ofNat_lt,hk,decide_true,cond_true,Bool.true_or,Bool.true_and,Bool.and_true,fZ hk (by omega:l.length<2^62)]
  rfl) (fun f=>by rw[M.dD];simp)
 unfold M.dY M.fQ;rw[e,lX]
 cases l.findIdx? vN<;>simp
theorem ahR (t:ae) (h:t.sz<=1048576) (n:Nat):M.xU t (n:Int)=some ((t.Kids.length==n)&& !t.Kids.any vN):=by
 unfold M.xU;rw[ajo t.Kids (ae.lC h)];simp only[Option.isSome_some,Bool.true_or,Bool.and_true,cond_true,Option.getD_some,Ns]
theorem ajp (t:ae) (h:t.sz<=1048576) (rec:ae->Option Bool) (b:Bool) (hb:M.dQ rec t.Kids=some (!b)):M.xh rec t=some (b&&Ja t):=by
 have hn:=ac9 t.Name (ae.afD h);have hlab:=ahL t.aJ (ae.TZ h);have hk:=ahR t h;have hk1:M.xU t 1=some ((t.Kids.length==1)&& !t.Kids.any vN):=hk 1;have hh:t.Kids.length=1->M.rP (M.ae.re (List.getD t.Kids 0 ae.zero)) [21]=some (RP (fun k=>k==21) t.Kids):=fun h1=>by
  have hx:(t.Kids.getD 0 ae.zero).sz<t.sz:=by
   rw[getD_lt (by omega)];exact ae.uY (List.getElem_mem _)
  have e:Jb (fun k=>[(21:Int)].any fun x=>k==x)=Jb (fun k=>k==21):=Ua fun k=>by simp
  rw[ae.aT,show M.rP=M.lQ aG from rfl,ahN [21] (by simp) aG _ (yD (by omega)) (by omega),e,Yd h1]
 unfold M.xh;simp only[ae.aT,hb,hn,hlab,hk,hk1,Option.getD_some,Option.isSome_some,Bool.true_or,Bool.and_true,Bool.true_and,cond_true,ade,adf,adg,Ns,alH,Int.toNat_zero];unfold Ja ac0;have e0:decide ((0:Int)<((t.aJ.length:Nat):Int))= !(t.aJ.length==0):=by
  rw[Bool.eq_iff_iff];simp only[decide_eq_true_eq,Bool.not_eq_true',beq_eq_false_iff_ne];omega
 have e1:decide ((1:Int)<=((t.Kids.length:Nat):Int))=decide (1<=t.Kids.length):=by simp only[decide_eq_decide];omega
 have e2:decide (((t.Kids.length:Nat):Int)<=6)=decide (t.Kids.length<=6):=by simp only[decide_eq_decide];omega
 rw[e0,e1,e2];unfold abM aje;have hz:t.Kids.length=1->decide (0<t.Kids.length)=true:=fun h1=>by rw[h1];rfl
 have hl1:(t.Kids.length==1)=true->t.Kids.length=1:=fun h1=>by simpa using h1
 have hbr:(t.Kids.length==1)=true->M.rP (M.ae.re (List.getD t.Kids 0 ae.zero)) [21]=some (RP (fun k=>k==21) t.Kids) /\ decide (0<t.Kids.length)=true:=fun h1=>⟨hh (hl1 h1),hz (hl1 h1)⟩
 clear hn hlab hk hk1 hh hz hl1 hb;simp only[ae.aT] at hbr ⊢
 generalize hK:t.Kind=K
 generalize (t.Name==[])=nn
 generalize nY t.Name=no
 generalize RN t.aJ=lo
 generalize (t.aJ.length==0)=ll
 generalize M.rP (List.getD t.Kids 0 ae.zero) [21]=o at hbr ⊢
 generalize decide (0<t.Kids.length)=z at hbr ⊢
 generalize (t.Kids.length==1)=l1 at hbr ⊢
 generalize RP (fun k=>k==21) t.Kids=kh at hbr ⊢
 generalize t.Kids.any vN=au
 generalize (t.Kids.length==2)=l2
 generalize (t.Kids.length==0)=l0
 have ajZ:(t.Kids.length==t.Kids.length)=true:=by simp
 rw[ajZ]
 generalize (t.Kids.length==t.aJ.length)=lk
 generalize decide (1<=t.Kids.length)=ge
 generalize decide (t.Kids.length<=6)=le
 clear hK h e0 e1 e2 ajZ
 cases b
 ·simp
 by_cases h12:K=12
 ·subst h12
  cases l1
  ·cases no<;>cases nn<;>cases lo<;>cases ll<;>simp
  ·obtain ⟨rfl,rfl⟩:=hbr rfl
   cases no<;>cases nn<;>cases lo<;>cases ll<;>simp
 by_cases h13:K=13
 ·subst h13
  cases l1
  ·cases no<;>cases nn<;>cases lo<;>cases ll<;>simp
  ·obtain ⟨rfl,rfl⟩:=hbr rfl
   cases no<;>cases nn<;>cases lo<;>cases ll<;>simp
 by_cases h14:K=14
 ·subst h14
  cases l1
  ·cases no<;>cases nn<;>cases lo<;>cases ll<;>simp
  ·obtain ⟨rfl,rfl⟩:=hbr rfl
   cases no<;>cases nn<;>cases lo<;>cases ll<;>simp
 by_cases h15:K=15
 ·subst h15
  cases l1
  ·cases no<;>cases nn<;>cases lo<;>cases ll<;>simp
  ·obtain ⟨rfl,rfl⟩:=hbr rfl
   cases no<;>cases nn<;>cases lo<;>cases ll<;>simp
 by_cases h16:K=16
 ·subst h16
  cases l1
  ·cases no<;>cases nn<;>cases lo<;>cases ll<;>simp
  ·obtain ⟨rfl,rfl⟩:=hbr rfl
   cases no<;>cases nn<;>cases lo<;>cases ll<;>simp
 by_cases h17:K=17
 ·subst h17
  cases l1
  ·cases no<;>cases nn<;>cases lo<;>cases ll<;>simp
  ·obtain ⟨rfl,rfl⟩:=hbr rfl
   cases no<;>cases nn<;>cases lo<;>cases ll<;>simp
 by_cases h18:K=18
 ·subst h18
  cases l1
  ·cases no<;>cases nn<;>cases lo<;>cases ll<;>simp
  ·obtain ⟨rfl,rfl⟩:=hbr rfl
   cases no<;>cases nn<;>cases lo<;>cases ll<;>simp
 by_cases h19:K=19
 ·subst h19
  cases l1
  ·cases no<;>cases nn<;>cases lo<;>cases ll<;>simp
  ·obtain ⟨rfl,rfl⟩:=hbr rfl
   cases no<;>cases nn<;>cases lo<;>cases ll<;>simp
 by_cases h20:K=20
 ·subst h20
  cases l1
  ·cases no<;>cases nn<;>cases lo<;>cases ll<;>simp
  ·obtain ⟨rfl,rfl⟩:=hbr rfl
   cases no<;>cases nn<;>cases lo<;>cases ll<;>simp
 by_cases h21:K=21
 ·subst h21
  cases l1
  ·cases no<;>cases nn<;>cases lo<;>cases ll<;>simp
  ·obtain ⟨rfl,rfl⟩:=hbr rfl
   cases no<;>cases nn<;>cases lo<;>cases ll<;>simp
 by_cases h22:K=22
 ·subst h22
  cases l1
  ·cases no<;>cases nn<;>cases lo<;>cases ll<;>simp
  ·obtain ⟨rfl,rfl⟩:=hbr rfl
   cases no<;>cases nn<;>cases lo<;>cases ll<;>simp
 by_cases h23:K=23
 ·subst h23
  cases l1
  ·cases no<;>cases nn<;>cases lo<;>cases ll<;>simp
  ·obtain ⟨rfl,rfl⟩:=hbr rfl
   cases no<;>cases nn<;>cases lo<;>cases ll<;>simp
 have q1:(K==20)=false:=by simpa using h20
 have q2:(K==21)=false:=by simpa using h21
 have q3:(decide ((16:Int)<=K)&&decide (K<=19))=false:=by
  rw[Bool.eq_false_iff];simp only[ne_eq,Bool.and_eq_true,decide_eq_true_eq];omega
 have q4:(K==12)=false:=by simpa using h12
 have q5:(K==13)=false:=by simpa using h13
 have q6:(K==14)=false:=by simpa using h14
 have q7:(K==15)=false:=by simpa using h15
 have q8:(K==16)=false:=by simpa using h16
 have q9:(K==17)=false:=by simpa using h17
 have q10:(K==22)=false:=by simpa using h22
 have q11:(K==23)=false:=by simpa using h23
 simp only[q1,q2,q3,q4,q5,q6,q7,q8,q9,q10,q11,h12,h13,h14,h15,h16,h17,h22,h23,or_self,if_false]
 cases nn<;>cases ll<;>simp
theorem adi : ∀(m:Nat) (t:ae),t.sz<m->t.sz<=1048576->M.oM m t=some (jY t)
 |0,t,h,_=>absurd h (Nat.not_lt_zero _)
 |m+1,t,h,hN=>by
  have hl:=ae.lC hN;have e:=uN (p:=fun x=> !jY x) (F:=M.dP (M.oM m) t.Kids (t.Kids.length:Int)) (e:=()) (fun k=>k) t.Kids (by omega) (fun f k hk=>by
   rw[M.dP];have hx:=ae.uY (List.getElem_mem hk);have c:M.uz (M.oM m) t.Kids[k]=some (!jY t.Kids[k]):=by
    unfold M.uz;simp only[ae.aT,adi m t.Kids[k] (by omega) (by omega)];rfl
   simp only[ae.aT,getD_lt hk,c,Int.toNat_natCast,dK,Int.ofNat_lt,hk,decide_true,cond_true,Bool.true_or,Bool.true_and,Bool.and_true,fZ hk (by omega:t.Kids.length<2^62),Option.getD_some,Option.isSome_some]) (fun f=>by
   rw[M.dP];simp)
  have e2:M.dQ (M.oM m) t.Kids=some (!PZ t.Kids):=by
   unfold M.dQ M.gU;have e3:(!PZ t.Kids)=t.Kids.any fun x=> !jY x:=by rw[EG,List.not_all_eq_any_not]
   rw[e,e3,lX]
   cases t.Kids.findIdx? (fun x=> !jY x)<;>simp
  show M.xh (M.oM m) t=_
  rw[ajp t hN _ _ e2,Dq,Bool.and_comm]
theorem ahS (t:ae) (h:t.sz<=1048576):M.Hy t=some (tOk t):=by
 unfold M.Hy;have e1:M.Nc t=some (jY t):=adi aG t (yD h) h;have e2:M.abh t 4=some ((min (nZ t) 5:Nat):Int):=ahO aG t 4 (by have:=bZ;omega) (by omega) h
 have e3:M.WN t=some ((jP t:Nat):Int):=afE aG t (yD h) h;simp only[ae.aT,e1,e2,e3,Option.getD_some,Option.isSome_some,Bool.true_or,Bool.and_true,cond_true];have a1:decide (((min (nZ t) 5:Nat):Int)<=4)=decide (nZ t<=4):=by simp only[decide_eq_decide];omega
 have a2:decide (((jP t:Nat):Int)<=24)=decide (jP t<=24):=by simp only[decide_eq_decide];omega
 rw[a1,a2];rfl
end M
