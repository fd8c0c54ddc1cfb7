/-
  RUNNING NUMBERS in plain Lean: a list whose elements are marked one behind the other.
-/
import Derived.Test.YtjdnmlhfiblhdaaGreatXNpl4
import Derived.Test.YtjdnmlhfiblhdaaGreatXNZM
import Derived.Test.YtjdnmlhfiblhdaaGreatXNTP
import Derived.Test.YtjdnmlhfiblhdaaGreatXNZH
set_option linter.unusedVariables false
namespace M
open Go.V (inB Jk aF dL)
def dK {α:Type} (mk:Int->α->Int×α):Int->List α->Int×List α
 |k,[]=>(k,[])
 |k,x::r=>((dK mk (mk k x).1 r).1,(mk k x).2::(dK mk (mk k x).1 r).2)
theorem nJ {α:Type} (mk:Int->α->Int×α):∀(k:Int) (l:List α),(dK mk k l).2.length=l.length
 |k,[]=>rfl
 |k,x::r=>by simp[dK,nJ mk _ r]
theorem U6 {α:Type} {l:List α} {i:Nat} (h:i<l.length) (x d:α):(l.set i x).getD i d=x:=by
 rw[List.getD_eq_getElem?_getD,List.getElem?_set_self h];rfl
theorem Lp {α:Type} {F:Nat->Int->Int->List α->Option (Int×List α)} {mk:Int->α->Int×α} (a:List α) (ha:a.length<=1048576) (I:Nat->Int->Prop) (d:α)
 (step:∀f k i (l:List α),∀h:i<a.length,i<l.length->l.getD i d=a[i]->I i k->F (f+1) k (i:Int) l=F f (mk k a[i]).1 ((i+1:Nat):Int) (l.set i (mk k a[i]).2) /\ I (i+1) (mk k a[i]).1)
 (stop:∀f k (l:List α),l.length=a.length->F (f+1) k (a.length:Int) l=some (k,l)) (k0:Int) (h0:I 0 k0):F aF k0 0 a=some (dK mk k0 a):=by
 have key:∀f i k (l:List α),i<=a.length->a.length-i<f->l.length=a.length->(∀j,i<=j->l[j]? =a[j]?)->I i k->F f k (i:Int) l=some ((dK mk k (a.drop i)).1,l.take i++(dK mk k (a.drop i)).2):=by
  intro f
  induction f with
  |zero=>intro i k l h1 h2;omega
  |succ f ih=>
   intro i k l h1 h2 hl hj hI
   rcases Nat.lt_or_ge i a.length with hi |hi
   ·have hg:l.getD i d=a[i]:=by rw[List.getD_eq_getElem?_getD,hj i (Nat.le_refl _),List.getElem?_eq_getElem hi];rfl
    obtain ⟨e,hI'⟩:=step f k i l hi (by omega) hg hI
    rw[e,ih (i+1) _ _ (by omega) (by omega) (by simpa using hl) (fun j hj'=>by rw[List.getElem?_set,if_neg (by omega)];exact hj j (by omega)) hI',jI hi]
    simp only[dK]
    congr 2
    rw[List.take_add_one,List.getElem?_set_self (by omega),List.take_set_of_le (Nat.le_refl _)]
    simp
   ·have:i=a.length:=by omega
    subst this;rw[stop f k l hl,List.drop_length,<-hl,List.take_length];simp[dK]
 have:=key aF 0 k0 a (Nat.zero_le _) (by have:=dL;omega) rfl (fun _ _=>rfl) h0
 simpa using this
theorem QN {α E:Type} {F:Nat->Int->Int->Option (Int⊕E)} {mk:Int->α->Int×α} {fin:Int->E} (a:List α) (ha:a.length<=1048576) (I:Nat->Int->Prop) (d:α) (k0:Int) (h0:I 0 k0)
 (step:∀f k i (y:α),∀h:i<a.length,((dK mk k0 a).2).getD i d=y->y=(mk k a[i]).2->I i k->F (f+1) k (i:Int)=F f (mk k a[i]).1 ((i+1:Nat):Int) /\ I (i+1) (mk k a[i]).1)
 (stop:∀f k,F (f+1) k (a.length:Int)=some (.inr (fin k))):F aF k0 0=some (.inr (fin (dK mk k0 a).1)):=by
 have key:∀f i k,i<=a.length->a.length-i<f->(dK mk k0 a).2.drop i=(dK mk k (a.drop i)).2->(dK mk k0 a).1=(dK mk k (a.drop i)).1->I i k->F f k (i:Int)=some (.inr (fin (dK mk k (a.drop i)).1)):=by
  intro f
  induction f with
  |zero=>intro i k h1 h2;omega
  |succ f ih=>
   intro i k h1 h2 hd hk hI
   rcases Nat.lt_or_ge i a.length with hi |hi
   ·have hlen:=nJ mk k0 a
    have hi':i<(dK mk k0 a).2.length:=by omega
    have hd':=hd;rw[jI hi,dK,jI hi'] at hd;have hg:((dK mk k0 a).2).getD i d=(mk k a[i]).2:=by
     rw[getD_lt hi'];exact (List.cons.inj hd).1
    obtain ⟨e,hI'⟩:=step f k i _ hi rfl hg hI;rw[e,ih (i+1) _ (by omega) (by omega) (List.cons.inj hd).2 (by rw[hk,jI hi,dK]) hI',jI hi,dK]
   ·have:i=a.length:=by omega
    subst this;rw[stop,List.drop_length];rfl
 have:=key aF 0 k0 (Nat.zero_le _) (by have:=dL;omega) rfl rfl h0
 simpa using this
end M
set_option linter.unusedSimpArgs false
namespace M
open Go.V (inB Jk aF dL)
theorem ad5 {n:Nat} (h:n<10):Go.IntKind.wrap .u8 (Go.IntKind.wrap .i64 ((48:Int)+(n:Int)))=((48+n:Nat):Int):=by
 rw[wrap_i64 (by omega) (by omega)]
 have:∀m:Fin 10,Go.IntKind.wrap .u8 ((48:Int)+((m.val:Nat):Int))=((48+m.val:Nat):Int):=by decide
 exact this ⟨n,h⟩
theorem ZU {n:Nat} (h:n<10):Go.V.abr ((48+n:Nat):Int)=true:=by
 unfold Go.V.abr;simp only[Bool.and_eq_true,decide_eq_true_eq];omega
theorem ad6 {a b:List UInt8} (h:a.length+b.length<=100000):Go.V.adb a b=true:=by
 unfold Go.V.adb;rw[decide_eq_true_eq];omega
theorem MJ : ∀(j f k:Nat) (out:List UInt8),k<10^j->j<f->k<4611686018427387904->out.length+j<=1000->∃s,M.mD f (k:Int) out=some s /\ s.length<=out.length+j
 |j,0,k,out,_,h,_,_=>by omega
 |0,f+1,k,out,h1,h2,h3,h4=>by
  have:k=0:=by simpa using h1
  subst this;exact ⟨out,by rw[M.mD];simp,Nat.le_refl _⟩
 |j+1,f+1,k,out,h1,h2,h3,h4=>by
  rw[M.mD]
  rcases Nat.eq_zero_or_pos k with h0 |h0
  ·subst h0
   exact ⟨out,by simp,by omega⟩
  ·have hd:decide ((0:Int)<(k:Int))=true:=by rw[decide_eq_true_eq];omega
   have e3:Int.tmod (k:Int) 10=((k%10:Nat):Int):=(Int.ofNat_tmod k 10).symm;have e4:Go.IntKind.wrap .i64 (Int.tdiv (k:Int) 10)=((k/10:Nat):Int):=by
    rw[show Int.tdiv (k:Int) 10=((k/10:Nat):Int) from (Int.ofNat_tdiv k 10).symm,wrap_i64 (by omega) (by omega)]
   have hm:k%10<10:=Nat.mod_lt _ (by decide)
   obtain ⟨s,g1,g2⟩:=MJ j f (k/10) ([Go.V.ade ((48+k%10:Nat):Int)]++out) (by rw[Nat.pow_succ] at h1;omega) (by omega) (by omega) (by simp;omega)
   refine ⟨s, ?_,by simp at g2;omega⟩
   simp only[hd,e3,e4,ad5 hm,ZU hm,cond_true,List.map_cons,List.map_nil];rw[ad6 (by simp;omega)]
   exact g1
theorem ZV (k:Int) (h0:0<=k) (h1:k<=1000000000000):∃s,M.ed k=some s:=by
 obtain ⟨n,rfl⟩:=Int.eq_ofNat_of_zero_le h0;unfold M.ed
 by_cases hz:(n:Int)<=0
 ·rw[decide_eq_true hz];exact ⟨_,rfl⟩
 ·rw[decide_eq_false hz]
  obtain ⟨s,e,hl⟩:=MJ 13 aF n [] (by omega) (by have:=dL;omega) (by omega) (by simp)
  rw[e];simp only[cond_false];rw[ad6 (by simp at hl ⊢;omega)]
  exact ⟨_,rfl⟩
noncomputable def mT (k:Int):List UInt8:=(M.ed k).getD Inhabited.default
theorem afV {k:Int} (h0:0<=k) (h1:k<=1000000000000):M.ed k=some (mT k):=by
 obtain ⟨s,e⟩:=ZV k h0 h1;unfold mT;rw[e];rfl
noncomputable def mS (k:Int) (_:List UInt8):Int×List UInt8:=(k+1,mT k)
end M
namespace M
open Go.V (inB Jk aF dL)
theorem adf {α β Y:Type} {F:Nat->Int->List β->Option Y} {h:List β->Option Y} (g:α->β) (l:List α) (hn:l.length<=1048576) (LY:List β)
 (step:∀f k out,∀hk:k<l.length,out.length=LY.length+k->F (f+1) (k:Int) out=F f ((k+1:Nat):Int) (out++[g l[k]]))
 (stop:∀f out,F (f+1) (l.length:Int) out=h out):F aF 0 LY=h (LY++l.map g):=by
 have key:∀f k out,k<=l.length->l.length-k<f->out.length=LY.length+k->F f (k:Int) out=h (out++(l.drop k).map g):=by
  intro f
  induction f with
  |zero=>intro k out h1 h2;omega
  |succ f ih=>
   intro k out h1 h2 ho
   rcases Nat.lt_or_ge k l.length with hk |hk
   ·rw[step f k out hk ho,ih (k+1) _ (by omega) (by omega) (by simp[ho];omega),jI hk]
    simp only[List.map_cons,List.append_assoc,List.singleton_append]
   ·have:k=l.length:=by omega
    subst this;rw[stop,List.drop_length];simp
 have:=key aF 0 LY (Nat.zero_le _) (by have:=dL;omega) rfl
 simpa using this
theorem QO {a b:Nat} (h:a+b<=1073741824):decide (a+b<=1073741824)=true:=by rw[decide_eq_true_eq];exact h
theorem ZW : ∀(m:Nat) (t:ae),t.sz<m->t.sz<=1048576->M.lW m t=some (t.Kind,t.Name,t.bV,t.Kids)
 |0,t,h,_=>by omega
 |m+1,t,h,hN=>by
  have hs:=ae.pz t;have hkk:=iL ae.sz t.Kids;have hll:=iL List.length t.bV
  show M.vI (M.lW m) t=_
  unfold M.vI;have e1:M.uz (M.lW m) t.Kids=some t.Kids:=by
   unfold M.uz;rw[adf (F:=M.kN (M.lW m) t.Kids (t.Kids.length:Int)) (h:=some) id t.Kids (by omega) [] (fun f k out hk ho=>by
    have hmem:=jL ae.sz t.Kids t.Kids[k] (List.getElem_mem hk);have hpos:=OV ae.sz t.Kids t.Kids[k] (List.getElem_mem hk);rw[M.kN];have e:=ZW m t.Kids[k] (by omega) (by omega)
    have hc:=QO (a:=out.length) (b:=1) (by simp at ho;omega)
    simp only[ae.bI,Int.ofNat_lt,hk,decide_true,cond_true,Int.toNat_natCast,getD_lt hk,e,dQ,Option.isSome_some,Option.getD_some,ae.eta,List.length_cons,List.length_nil,Nat.zero_add,hc,Bool.true_and,Bool.and_true,gp hk (iD (show t.Kids.length<=1048576 by omega)),id]) (fun f out=>by rw[M.kN];simp)]
   simp
  have e2:M.dE t.bV=some t.bV:=by
   unfold M.dE;rw[decide_eq_true (by omega)];rfl
  simp only[e1,e2,Option.isSome_some,Option.getD_some,Bool.true_and,Bool.and_true,cond_true]
theorem agf (t:ae) (h:t.sz<=1048576):M.tK t=some (t.Kind,t.Name,t.bV,t.Kids):=
 ZW _ t (by have:=dL;omega) h
theorem afW : ∀(m:Nat) (t:ae),t.sz<m->t.sz<=1048576->M.qo m t=some t
 |0,t,h,_=>absurd h (Nat.not_lt_zero _)
 |m+1,t,h,hN=>by
  have hl:=ae.su hN;have hlb:=ae.abp hN;have key:∀f k,k<=t.Kids.length->t.Kids.length-k<f->M.oz (M.qo m) (0:Int) [] t.Kind t.Name [] [] ([]++t.bV) f (k:Int) t (t.Kids.take k)=some ((0:Int),[],t.Kind,t.Name,[],[],t.bV,t.Kids):=by
   intro f
   induction f with
   |zero=>intro k h1 h2;omega
   |succ f ih=>
    intro k h1 h2
    rcases Nat.lt_or_ge k t.Kids.length with hk |hk
    ·rw[M.oz]
     have hx:=ae.Bl (List.getElem_mem hk);have hd:decide (((t.Kids.take k).length+([t.Kids[k]]:List ae).length)<=1073741824)=true:=by
      simp only[decide_eq_true_eq,List.length_take,List.length_cons,List.length_nil];omega
     have ht:t.Kids.take k++[t.Kids[k]]=t.Kids.take (k+1):=by
      rw[List.take_add_one,List.getElem?_eq_getElem hk];rfl
     simp only[ae.bI,getD_lt hk,afW m t.Kids[k] (by omega) (by omega),Int.toNat_natCast,dQ,Int.ofNat_lt,hk,decide_true,cond_true,Bool.true_and,Bool.and_true,gp hk (by omega:t.Kids.length<2^62),Option.getD_some,Option.isSome_some,hd,ht]
     exact ih (k+1) (by omega) (by omega)
    ·have:k=t.Kids.length:=by omega
     subst this;rw[M.oz];simp
  show M.Bq (M.qo m) t=_
  unfold M.Bq;have e:=key aF 0 (Nat.zero_le _) (by have:=dL;omega)
  have e':M.oz (M.qo m) (0:Int) [] t.Kind t.Name [] [] ([]++t.bV) aF 0 t []=_:=e;have hd:decide (0+t.bV.length<=1073741824)=true:=by simp only[decide_eq_true_eq];omega
  simp only[ae.bI,e',hd,Bool.and_self,cond_true]
  cases t;rfl
end M
namespace M
open Go.V (inB Jk aF dL)
theorem ad7 (o:aT):M.Dt o=M.sF o:=by
 unfold M.Dt M.sF
 generalize aT.Kind o=k
 generalize aT.A o=a
 generalize aT.B o=b
 by_cases h:1<=k /\ k<=12
 ·have:k=1 \/ k=2 \/ k=3 \/ k=4 \/ k=5 \/ k=6 \/ k=7 \/ k=8 \/ k=9 \/ k=10 \/ k=11 \/ k=12:=by omega
  rcases this with rfl |rfl |rfl |rfl |rfl |rfl |rfl |rfl |rfl |rfl |rfl |rfl<;>simp
  all_goals (try (rw[Bool.cond_eq_ite]))
  all_goals split
  all_goals
   congr 1
   rw[Bool.eq_iff_iff];simp only[Bool.and_eq_true,Bool.or_eq_true,Bool.not_eq_true',decide_eq_true_eq,decide_eq_false_iff_not,beq_iff_eq,reduceCtorEq,iff_false,Bool.false_eq_true] at*;omega
 ·have h1:(decide (1<=k)&&decide (k<=12))=false:=by simp;omega
  simp[h1]
theorem ad8 (o:aT):∃b,M.sF o=some b:=by
 unfold M.sF
 cases (_||_:Bool)<;>simp only[cond_true,cond_false]<;>first |exact ⟨_,rfl⟩ |skip
 cases (_||_:Bool)<;>exact ⟨_,rfl⟩
noncomputable def uA (o:aT):Bool:=(M.sF o).getD false
theorem afX (o:aT):M.sF o=some (uA o):=by
 obtain ⟨b,hb⟩:=ad8 o;unfold uA;rw[hb];rfl
theorem agW (o:aT):M.Dt o=some (uA o):=by rw[ad7,afX]
theorem Xl (p:ak) (hp:p.Ops.length<2^62):M.oC p Go.V.aF 0=some (if p.Ops.all uA then .inr () else .inl false):=by
 have:=ET (F:=M.oC p) (n:=p.Ops.length) (res:=fun k=>some (if (p.Ops.drop k).all uA then .inr () else .inl false)) hp
  (fun f k hk ih=>by
    rw[M.oC,ZX _ hk];simp only[afX,getD_lt hk,Int.toNat_natCast,dQ,Int.ofNat_lt,hk,gp hk hp,ih]
    cases uA p.Ops[k]<;>simp)
  (fun f=>by rw[M.oC];simp)
 simpa using this
theorem Xm (p:ak) (hp:p.Ops.length<2^62):M.Bv p=some ((decide (1<=p.Ai)&&decide (p.Ai<=6))&&decide ((p.Ops.length:Int)<=12)&&p.Ops.all uA):=by
 unfold M.Bv;rw[Xl p hp,show decide (12<(p.Ops.length:Int))= !decide ((p.Ops.length:Int)<=12) by rw[Bool.eq_iff_iff];simp]
 cases decide (1<=p.Ai)<;>cases decide (p.Ai<=6)<;>cases decide ((p.Ops.length:Int)<=12)<;>cases p.Ops.all uA<;>rfl
theorem U7 (s:List aT) (hs:s.length<2^62):M.dn s (s.length:Int) Go.V.aF 0=some (match s.findIdx? (fun o=> !uA o) with
 |some j=> .inl (j:Int)
 |none=> .inr ()):=by
 have:=ET (F:=M.dn s (s.length:Int)) (n:=s.length) (res:=fun k=>some (match (s.drop k).findIdx? (fun o=> !uA o) with
  |some j=> .inl ((j+k:Nat):Int)
  |none=> .inr ())) hs
  (fun f k hk ih=>by
    rw[M.dn,jI hk,List.findIdx?_cons];simp only[agW,getD_lt hk,Int.toNat_natCast,dQ,Int.ofNat_lt,hk,gp hk hs,ih]
    cases uA s[k]<;>simp
    cases h:List.findIdx? (fun o=> !uA o) (List.drop (k+1) s)<;>simp
    omega)
  (fun f=>by rw[M.dn];simp)
 simpa using this
theorem YL (s:List aT) (hs:s.length<2^62):M.eH s=some (s.any fun o=> !uA o):=by
 unfold M.eH M.gJ;rw[U7 s hs]
 cases h:s.findIdx? (fun o=> !uA o) with
 |none=>
  have:s.any (fun o=> !uA o)=false:=by
   rw[List.findIdx?_eq_none_iff] at h;rw[List.any_eq_false];intro x hx;have:=h x hx;simpa using this
  simp[this]
 |some j=>
  have:s.any (fun o=> !uA o)=true:=by
   rw[List.findIdx?_eq_some_iff_getElem] at h;obtain ⟨hj,h1, -⟩:=h;rw[List.any_eq_true];exact ⟨s[j],List.getElem_mem hj,h1⟩
  simp[this]
theorem Xn (p:ak) (hp:p.Ops.length<2^62):M.Bz p=some ((decide (1<=p.Ai)&&decide (p.Ai<=6))&&decide ((p.Ops.length:Int)<=12)&&p.Ops.all uA):=by
 unfold M.Bz;rw[YL _ hp];have:(p.Ops.any fun o=> !uA o)= !p.Ops.all uA:=by rw[List.all_eq_not_any_not];simp
 simp[this]
noncomputable def Jm (p:ak):Bool:=((decide (1<=p.Ai)&&decide (p.Ai<=6))&&decide ((p.Ops.length:Int)<=12))&&p.Ops.all uA
theorem agh (p:ak) (h:p.Ops.length<=1048576):M.Bv p=some (Jm p):=Xm p (by omega)
theorem agi (p:ak) (h:p.Ops.length<=1048576):M.Bz p=some (Jm p):=Xn p (by omega)
noncomputable def GN (l:List ak):Bool:=(decide ((1:Int)<=(l.length:Int))&&decide ((l.length:Int)<=6))&&l.all Jm
theorem afl (l:List ak) (hl:l.length<=1048576) (h:∀p∈l,p.Ops.length<=1048576):M.xq l=some (GN l):=by
 have e:=ZR (p:=Jm) (F:=M.mF l) (e:=()) (b:=false) l (by omega) (fun f k hk=>by
  rw[M.mF];simp only[getD_lt hk,agh _ (h _ (List.getElem_mem hk)),Int.toNat_natCast,dQ,Int.ofNat_lt,hk,decide_true,cond_true,Bool.true_and,Bool.and_true,gp hk (by omega:l.length<2^62),Option.getD_some,Option.isSome_some]
  cases Jm l[k]<;>rfl) (fun f=>by rw[M.mF];simp)
 have e1:decide ((l.length:Int)<1)= !decide ((1:Int)<=(l.length:Int)):=by rw[<-decide_not];simp only[decide_eq_decide];omega
 have e2:decide ((6:Int)<(l.length:Int))= !decide ((l.length:Int)<=6):=by rw[<-decide_not];simp only[decide_eq_decide];omega
 unfold M.xq GN;rw[e,e1,e2]
 cases decide ((1:Int)<=(l.length:Int))<;>cases decide ((l.length:Int)<=6)<;>cases l.all Jm<;>rfl
theorem afm (l:List ak) (hl:l.length<=1048576) (h:∀p∈l,p.Ops.length<=1048576):M.AY l=some (GN l):=by
 have e:=uo (p:=fun p=> !Jm p) (F:=M.dH l (l.length:Int)) (e:=()) (fun k=>k) l (by omega) (fun f k hk=>by
  rw[M.dH];have ec:M.qZ l[k]=some (!Jm l[k]):=by unfold M.qZ;rw[agi _ (h _ (List.getElem_mem hk))];rfl
  simp only[getD_lt hk,ec,Int.toNat_natCast,dQ,Int.ofNat_lt,hk,decide_true,cond_true,Bool.true_and,Bool.and_true,gp hk (by omega:l.length<2^62),Option.getD_some,Option.isSome_some]) (fun f=>by
  rw[M.dH];simp)
 have e2:M.dV l=some (!l.all Jm):=by
  unfold M.dV M.fQ;rw[e,List.not_all_eq_any_not,oq]
  cases l.findIdx? (fun p=> !Jm p)<;>simp
 unfold M.AY GN;rw[e2];simp only[Option.isSome_some,Option.getD_some,Bool.true_or,Bool.and_self,cond_true,Bool.not_not]
end M
namespace M
open Go.V (inB Jk aF dL)
theorem YM {α β Y:Type} {F:Nat->Int->List β->Option Y} {h:List β->Option Y} {bad:Option Y} {p:α->Bool} (g:α->β) (l:List α) (hn:l.length<=1048576) (LY:List β)
 (step:∀f k out,∀hk:k<l.length,out.length=LY.length+k->F (f+1) (k:Int) out=bif p l[k] then F f ((k+1:Nat):Int) (out++[g l[k]]) else bad)
 (stop:∀f out,F (f+1) (l.length:Int) out=h out):F aF 0 LY=bif l.all p then h (LY++l.map g) else bad:=by
 have key:∀f k out,k<=l.length->l.length-k<f->out.length=LY.length+k->F f (k:Int) out=bif (l.drop k).all p then h (out++(l.drop k).map g) else bad:=by
  intro f
  induction f with
  |zero=>intro k out h1 h2;omega
  |succ f ih=>
   intro k out h1 h2 ho
   rcases Nat.lt_or_ge k l.length with hk |hk
   ·rw[step f k out hk ho,ih (k+1) _ (by omega) (by omega) (by simp[ho];omega),jI hk]
    simp only[List.map_cons,List.append_assoc,List.singleton_append,List.all_cons]
    cases p l[k]<;>rfl
   ·have:k=l.length:=by omega
    subst this;rw[stop,List.drop_length];simp
 have:=key aF 0 LY (Nat.zero_le _) (by have:=dL;omega) rfl
 simpa using this
theorem ZY {α β Y:Type} {F:Nat->Int->List β->Option Y} {h:List β->Option Y} (g:α->β) (l:List α) (hn:l.length<=1048576) (LY:List β)
 (step:∀f k out,∀hk:k<l.length,out.length=LY.length+k->F (f+1) (k:Int) out=F f ((k+1:Nat):Int) (out++[g l[k]]))
 (stop:∀f out,F (f+1) (l.length:Int) out=h out):F aF 0 LY=h (LY++l.map g):=by
 have h:=YM (F:=F) (p:=fun _=>true) (bad:=none) g l hn LY (fun f k out hk ho=>by rw[step f k out hk ho];rfl) stop
 have e:l.all (fun _=>true)=true:=by simp
 rw[e] at h;exact h
theorem sz9 : (ae.mk 9 [] [] []).sz<=1048576:=by decide
theorem ty9 : ad3 (ae.mk 9 [] [] [])=true:=by decide
theorem ahD : M.xn (ae.mk 9 [] [] [])=some true:=by rw[agd _ sz9,ty9]
theorem ahE : M.oN (ae.mk 9 [] [] [])=some true:=by rw[age _ sz9,ty9]
theorem ahF : M.OX (ae.mk 9 [] [] [])=some (ae.mk 9 [] [] []):=afW aF _ (by have:=dL;have:=sz9;omega) sz9
theorem agY : M.tK (ae.mk 9 [] [] [])=some (9,[],[],[]):=agf _ sz9
def ahG : af:=af.mk (ae.mk 0 [] [] []) 0 false [] 0 0 false false
def acz (r:Int):af:=af.mk (ae.mk 9 [] [] []) r false [] 0 0 false false
def Ig (r:Int):Bool:=decide ((1:Int)<=r)&&decide (r<=(6:Int))
theorem agZ (r:Int):M.uB (ae.mk 9 [] [] []) r=some (bif Ig r then (acz r,0) else (ahG,2)):=by
 unfold M.uB Ig;simp only[ae.bI,ahD,ahF,Option.isSome_some,Option.getD_some,Bool.not_true,cond_false,Bool.true_and,Bool.and_true]
 cases (decide ((1:Int)<=r)&&decide (r<=(6:Int)))<;>rfl
theorem ag0 (r:Int):M.uC (ae.mk 9 [] [] []) r=some (bif Ig r then (9,[],r,false,0,0,false,false,0,[],[],[]) else (0,[],0,false,0,0,false,false,2,[],[],[])):=by
 unfold M.uC Ig;simp only[ae.bI,ahE,agY,Option.isSome_some,Option.getD_some,Bool.not_true,cond_false,Bool.true_and,Bool.and_true]
 cases (decide ((1:Int)<=r)&&decide (r<=(6:Int)))<;>rfl
theorem ak.eta (p:ak):ak.mk p.Ai p.Ops=p:=rfl
theorem adg (l:List ak) (hl:l.length<=1048576) (h:∀p∈l,p.Ops.length<=1048576):M.pM l=some l:=by
 unfold M.pM;rw[ZY (F:=M.jb l) (h:=some) id l hl [] (fun f k out hk ho=>by
  rw[M.jb];have hc:=QO (a:=out.length) (b:=1) (by simp at ho;omega)
  have hp:=h l[k] (List.getElem_mem hk);have hd:=QO (a:=0) (b:=l[k].Ops.length) (by omega)
  simp only[Int.ofNat_lt,hk,decide_true,cond_true,Int.toNat_natCast,getD_lt hk,dQ,List.length_cons,List.length_nil,Nat.zero_add,List.nil_append,ak.eta,hc,Bool.true_and,Bool.and_true,gp hk (iD hl),id];simp only[Nat.zero_add] at hd;simp only[hd,cond_true]) (fun f out=>by rw[M.jb];simp)]
 simp
theorem afn (l:List ak) (hl:l.length<=1048576) (h:∀p∈l,p.Ops.length<=1048576):M.uD (aX.mk l [] [] [] [])=some (l,[],[],[],[]):=by
 have e1:M.dB []=some []:=by kernel_rfl
 have e2:M.fB []=some []:=by kernel_rfl
 unfold M.uD;simp only[e1,e2,Option.getD_some,Option.isSome_some];rw[ZY (F:=M.kP l (l.length:Int) (aX.mk l [] [] [] []) [] [] [] [] [] [] [] [] []) (h:=fun out=>some (aX.mk l [] [] [] [],[],[],[],[],[],out,[],[],[],[])) id l hl [] (fun f k out hk ho=>by
  rw[M.kP];have hc:=QO (a:=out.length) (b:=1) (by simp at ho;omega)
  have hp:=h l[k] (List.getElem_mem hk);have hd:M.fA l[k].Ops=some l[k].Ops:=by unfold M.fA;rw[decide_eq_true (by omega)];rfl
  simp only[Int.ofNat_lt,hk,decide_true,cond_true,Int.toNat_natCast,getD_lt hk,dQ,List.length_cons,List.length_nil,Nat.zero_add,hd,ak.eta,Option.getD_some,Option.isSome_some,hc,Bool.true_and,Bool.and_true,gp hk (iD hl),id]) (fun f out=>by rw[M.kP];simp)]
 have s1:∀(w:aX) (a1 a2 a3 a4 a5 a6 a7 a8 a9 a10),M.nK [] (0:Int) w a1 a2 a3 a4 a5 a6 a7 a8 a9 aF (0:Int) a10=some (w,a1,a2,a3,a4,a5,a6,a10,a7,a8,a9):=fun w a1 a2 a3 a4 a5 a6 a7 a8 a9 a10=>by
  obtain ⟨n,hn⟩:∃n,aF=n+1:=⟨aF-1,by have:=dL;omega⟩
  rw[hn,M.nK];rfl
 have s2:∀(a0 a1 a2 a3 a4 a5 a6 a7 a8 a10),M.nM [] (0:Int) a0 a1 a2 a3 a4 a5 a6 a7 a8 aF (0:Int) a10=some (a0,a1,a2,a3,a4,a5,a6,a10,a7,a8):=fun a0 a1 a2 a3 a4 a5 a6 a7 a8 a10=>by
  obtain ⟨n,hn⟩:∃n,aF=n+1:=⟨aF-1,by have:=dL;omega⟩
  rw[hn,M.nM];rfl
 simp only[List.map_id,List.nil_append,List.length_nil,Int.natCast_zero,s1,s2,Bool.true_and,cond_true,Bool.and_true]
def ad9 : aX:=aX.mk [] [] [] [] []
noncomputable def Ug (dW:List ak) (eP:List Int):aX×Int:=
 bif !GN dW then (ad9,1) else bif decide ((4:Int)<((eP.length:Nat):Int)) then (ad9,4) else bif eP.all Ig then (aX.mk dW (eP.map acz) [] [] [],0) else (ad9,2)
theorem agj (dW:List ak) (eP:List Int) (hl:dW.length<=1048576) (h:∀p∈dW,p.Ops.length<=1048576) (hr:eP.length<=1048576):M.xu dW eP=some (Ug dW eP):=by
 unfold M.xu Ug;simp only[afl dW hl h,adg dW hl h,Option.getD_some,Option.isSome_some,Bool.true_and,Bool.and_true,cond_true];rw[YM (F:=M.mG eP dW [] [] [] [] [] [] [] []) (p:=Ig) (h:=fun out=>some (.inr (dW,[],[],[],[],[],out,[],[],[]))) (bad:=some (.inl (2,[],[],[],[],[]))) acz eP hr [] (fun f k out hk ho=>by
  rw[M.mG];have hc:=QO (a:=out.length) (b:=1) (by simp at ho;omega)
  simp only[Int.ofNat_lt,hk,decide_true,cond_true,Int.toNat_natCast,getD_lt hk,dQ,agZ,Option.getD_some,Option.isSome_some,List.length_cons,List.length_nil,Nat.zero_add,hc,Bool.true_and,Bool.and_true,gp hk (iD hr)]
  cases Ig eP[k]<;>simp only[cond_true,cond_false,af.bI]<;>rfl) (fun f out=>by rw[M.mG];simp)]
 cases GN dW<;>cases decide ((4:Int)<((eP.length:Nat):Int))<;>cases eP.all Ig<;>rfl
theorem agk (dW:List ak) (eP:List Int) (hl:dW.length<=1048576) (h:∀p∈dW,p.Ops.length<=1048576) (hr:eP.length<=1048576):
 M.xw dW eP=some ((Ug dW eP).2,(Ug dW eP).1.qp,(Ug dW eP).1.gW,(Ug dW eP).1.BA,(Ug dW eP).1.Back,(Ug dW eP).1.Notes):=by
 unfold M.xw Ug;simp only[afm dW hl h,afn dW hl h,Option.getD_some,Option.isSome_some,Bool.true_and,Bool.and_true,cond_true];rw[YM (F:=M.mJ eP (eP.length:Int) [] [] [] [] [] dW [] [] []) (p:=Ig) (h:=fun out=>some (.inr ([],[],[],[],[],dW,out,[],[],[]))) (bad:=some (.inl (2,[],[],[],[],[]))) acz eP hr [] (fun f k out hk ho=>by
  rw[M.mJ];have hc:=QO (a:=out.length) (b:=1) (by simp at ho;omega)
  simp only[Int.ofNat_lt,hk,decide_true,cond_true,Int.toNat_natCast,getD_lt hk,dQ,ag0,Option.getD_some,Option.isSome_some,List.length_cons,List.length_nil,Nat.zero_add,hc,Bool.true_and,Bool.and_true,gp hk (iD hr)]
  cases Ig eP[k]<;>simp only[cond_true,cond_false]<;>rfl) (fun f out=>by rw[M.mJ];simp)]
 cases GN dW<;>cases decide ((4:Int)<((eP.length:Nat):Int))<;>cases eP.all Ig<;>rfl
end M
namespace M
open Go.V (inB Jk aF dL)
theorem xx {n:Int} (h:0<=n):decide (n<0)=false:=by rw[decide_eq_false_iff_not];omega
theorem qw : ∃n,aF=n+1:=⟨aF-1,by have:=dL;omega⟩
def NK (k:Int) (_:aT):Int×aT:=(k+1+1+1,aT.mk k (k+1) (k+1+1))
theorem acA (l:List aT) (k:Int):(dK NK k l).1=k+3*(l.length:Int):=by
 induction l generalizing k with
 |nil=>simp[dK]
 |cons x r ih=>have:=ih (k+1+1+1);simp only[dK,NK,List.length_cons] at*;omega
theorem aea (a:List aT) (ha:a.length<=1048576) (k:Int) (h0:0<=k) (h1:k<=100000000000):M.xy k a=some (dK NK k a):=by
 unfold M.xy;rw[Lp (F:=M.mM) (mk:=NK) a ha (fun i q=>q=k+3*(i:Int)) aT.zero (fun f q i l hi hl hg hI=>by
  rw[M.mM];have hlt:decide ((i:Int)<((l.length:Nat):Int))=true:=by rw[decide_eq_true_eq];omega
  have hin:inB (i:Int) l.length=true:=by rw[dQ];simpa using hl
  have w1:Go.IntKind.wrap .i64 (q+1)=q+1:=wrap_i64 (by omega) (by omega)
  have w2:Go.IntKind.wrap .i64 (q+1+1)=q+1+1:=wrap_i64 (by omega) (by omega)
  have w3:Go.IntKind.wrap .i64 (q+1+1+1)=q+1+1+1:=wrap_i64 (by omega) (by omega)
  simp only[hlt,hin,Int.toNat_natCast,cond_true,Bool.true_and,Bool.and_true,U6,hl,List.length_set,hg,w1,w2,w3,gp hi (iD ha),List.set_set];exact ⟨rfl,by simp only[NK];omega⟩) (fun f q l hl=>by rw[M.mM];simp[hl]) k (by simp)]
theorem aeb (a:List aT) (ha:a.length<=1048576) (k:Int) (h0:0<=k) (h1:k<=100000000000):M.xA (dK NK k a).2 k=some (dK NK k a).1:=by
 unfold M.xA;rw[QN (F:=M.mO (dK NK k a).2) (mk:=NK) (fin:=id) a ha (fun i q=>q=k+3*(i:Int)) aT.zero k (by simp) (fun f q i y hi e1 e2 hI=>by
  subst e2;rw[M.mO];have hlt:decide ((i:Int)<(((dK NK k a).2.length:Nat):Int))=true:=by rw[decide_eq_true_eq,nJ];omega
  have hin:inB (i:Int) (dK NK k a).2.length=true:=by rw[dQ,nJ];simpa using hi
  have w1:Go.IntKind.wrap .i64 (q+1)=q+1:=wrap_i64 (by omega) (by omega)
  have w2:Go.IntKind.wrap .i64 (q+1+1)=q+1+1:=wrap_i64 (by omega) (by omega)
  have w3:Go.IntKind.wrap .i64 (q+1+1+1)=q+1+1+1:=wrap_i64 (by omega) (by omega)
  simp only[hlt,hin,e1,NK,Int.toNat_natCast,cond_true,cond_false,Bool.true_and,Bool.and_true,w1,w2,w3,gp hi (iD ha),bne_self_eq_false];exact ⟨trivial,by omega⟩) (fun f q=>by rw[M.mO];simp[nJ])]
 rfl
def rO (k:Int) (p:ak):Int×ak:=((dK NK (k+1) p.Ops).1,ak.mk k (dK NK (k+1) p.Ops).2)
theorem YN (k:Int) (p:ak):(rO k p).1=k+1+3*(p.Ops.length:Int):=by unfold rO;rw[acA]
theorem szA : ∀l:List aT,lC aT.sz l=l.length
 | []=>rfl
 |x::r=>by simp only[lC,szA r,aT.sz,List.length_cons];omega
theorem U8 : ∀(l:List ak) (k:Int),k<=(dK rO k l).1 /\ (dK rO k l).1<=k+3*(lC ak.sz l:Int)
 | [],k=>by simp[dK,lC]
 |x::r,k=>by
  have h1:=YN k x;have h2:=U8 r (rO k x).1;have h3:ak.sz x=x.Ops.length:=szA _;simp only[dK,lC];omega
theorem Yf (a:List ak) (hz:lC ak.sz a<=1048576) (k:Int) (h0:0<=k) (h1:k<=1000000000):M.oD k a=some (dK rO k a):=by
 have ha:=iL ak.sz a;unfold M.oD;rw[Lp (F:=M.kQ) (mk:=rO) a (by omega) (fun i q=>0<=q /\ q+3*(lC ak.sz (a.drop i):Int)<=100000000000) ak.zero (fun f q i l hi hl hg hI=>by
  rw[jI hi,lC] at hI;have h3:ak.sz a[i]=a[i].Ops.length:=szA _;have hle:=YN q a[i];have hmem:=jL ak.sz a a[i] (List.getElem_mem hi);rw[M.kQ];have hlt:decide ((i:Int)<((l.length:Nat):Int))=true:=by rw[decide_eq_true_eq];omega
  have hin:inB (i:Int) l.length=true:=by rw[dQ];simpa using hl
  have w1:Go.IntKind.wrap .i64 (q+1)=q+1:=wrap_i64 (by omega) (by omega)
  have e:=aea a[i].Ops (by omega) (q+1) (by omega) (by omega)
  simp only[hlt,hin,Int.toNat_natCast,cond_true,Bool.true_and,Bool.and_true,U6,hl,List.length_set,hg,w1,e,Option.isSome_some,Option.getD_some,gp hi (iD (show a.length<=1048576 by omega)),List.set_set]
  exact ⟨rfl,by omega,by omega⟩) (fun f q l hl=>by rw[M.kQ];simp[hl]) k ⟨h0,by simp only[List.drop_zero];omega⟩]
theorem adh (a:List ak) (hz:lC ak.sz a<=1048576) (k:Int) (h0:0<=k) (h1:k<=1000000000):M.qx (dK rO k a).2 k=some (dK rO k a).1:=by
 have ha:=iL ak.sz a;unfold M.qx;rw[QN (F:=M.kR (dK rO k a).2) (mk:=rO) (fin:=id) a (by omega) (fun i q=>0<=q /\ q+3*(lC ak.sz (a.drop i):Int)<=100000000000) ak.zero k ⟨h0,by simp only[List.drop_zero];omega⟩ (fun f q i y hi e1 e2 hI=>by
  subst e2;rw[jI hi,lC] at hI;have h3:ak.sz a[i]=a[i].Ops.length:=szA _;have hle:=YN q a[i];have hmem:=jL ak.sz a a[i] (List.getElem_mem hi);rw[M.kR];have hlt:decide ((i:Int)<(((dK rO k a).2.length:Nat):Int))=true:=by rw[decide_eq_true_eq,nJ];omega
  have hin:inB (i:Int) (dK rO k a).2.length=true:=by rw[dQ,nJ];simpa using hi
  have w1:Go.IntKind.wrap .i64 (q+1)=q+1:=wrap_i64 (by omega) (by omega)
  have e:=aeb a[i].Ops (by omega) (q+1) (by omega) (by omega)
  have n1:=xx (n:=(dK NK (q+1) a[i].Ops).1) (by rw[acA];omega)
  simp only[hlt,hin,e1,rO,Int.toNat_natCast,cond_true,cond_false,Bool.true_and,Bool.and_true,w1,e,n1,Option.isSome_some,Option.getD_some,gp hi (iD (show a.length<=1048576 by omega)),bne_self_eq_false]
  simp only[rO] at hle;exact ⟨trivial,by omega,by omega⟩) (fun f q=>by rw[M.kR];simp[nJ])]
 rfl
def adi (k:Int) (_:Int):Int×Int:=(k+1,k)
theorem afo (l:List Int) (k:Int):(dK adi k l).1=k+(l.length:Int):=by
 induction l generalizing k with
 |nil=>simp[dK]
 |cons x r ih=>have:=ih (k+1);simp only[dK,adi,List.length_cons] at*;omega
theorem ZZ (a:List Int) (ha:a.length<=1048576) (k:Int) (h0:0<=k) (h1:k<=100000000000):M.gX k a=some (dK adi k a):=by
 unfold M.gX;rw[Lp (F:=M.jE) (mk:=adi) a ha (fun i q=>q=k+(i:Int)) 0 (fun f q i l hi hl hg hI=>by
  rw[M.jE];have hlt:decide ((i:Int)<((l.length:Nat):Int))=true:=by rw[decide_eq_true_eq];omega
  have hin:inB (i:Int) l.length=true:=by rw[dQ];simpa using hl
  have w1:Go.IntKind.wrap .i64 (q+1)=q+1:=wrap_i64 (by omega) (by omega)
  simp only[hlt,hin,Int.toNat_natCast,cond_true,Bool.true_and,Bool.and_true,w1,gp hi (iD ha)];exact ⟨rfl,by simp only[adi];omega⟩) (fun f q l hl=>by rw[M.jE];simp[hl]) k (by simp)]
def afY (s:af):Prop:=s.iw.bV=[] /\ s.iw.Kids=[] /\ s.Buffer=[]
noncomputable def Z4 (k:Int) (_:af):Int×af:=
 (k+1+1+1+1+1+1+1+1,af.mk (ae.mk k (mT (k+1)) [] []) (k+1+1) (Int.tmod (k+1+1+1) 3==0) [] (k+1+1+1+1) (k+1+1+1+1+1) (Int.tmod (k+1+1+1+1+1+1) 3==0) (Int.tmod (k+1+1+1+1+1+1+1) 3==0))
theorem agl (l:List af) (k:Int):(dK Z4 k l).1=k+8*(l.length:Int):=by
 induction l generalizing k with
 |nil=>simp[dK]
 |cons x r ih=>have:=ih (k+1+1+1+1+1+1+1+1);simp only[dK,Z4,List.length_cons] at*;omega
theorem ae.p1 (a b c d):(ae.mk a b c d).Kind=a:=rfl
theorem ae.p2 (a b c d):(ae.mk a b c d).Name=b:=rfl
theorem ae.p3 (a b c d):(ae.mk a b c d).bV=c:=rfl
theorem ae.p4 (a b c d):(ae.mk a b c d).Kids=d:=rfl
theorem ahH (k:Int):M.jS k []=some (k,[]):=by obtain ⟨n,hn⟩:=qw;unfold M.jS;rw[hn,M.nN];rfl
theorem ahI (k:Int):M.yY k []=some (k,[]):=by
 obtain ⟨n,hn⟩:=qw;unfold M.yY;rw[hn];show M.sG _ k []=_;unfold M.sG;rw[hn,M.qy];rfl
theorem ahJ (k:Int):M.vJ k []=some (k,[]):=by
 obtain ⟨n,hn⟩:=qw;unfold M.vJ;rw[hn];show M.qA _ k []=_;unfold M.qA;rw[hn,M.pF];rfl
theorem ahK (k:Int):M.uF k []=some (k,[]):=by obtain ⟨n,hn⟩:=qw;unfold M.uF;rw[hn,M.qB];rfl
theorem ahL (k:Int):M.uG k []=some (k,[]):=by obtain ⟨n,hn⟩:=qw;unfold M.uG;rw[hn,M.qC];rfl
theorem ahM (k:Int):M.jT [] k=some k:=by obtain ⟨n,hn⟩:=qw;unfold M.jT;rw[hn,M.nO];rfl
theorem ahN (k:Int):M.yZ [] k=some k:=by
 obtain ⟨n,hn⟩:=qw;unfold M.yZ;rw[hn];show M.sH _ [] k=_;unfold M.sH;rw[hn,M.qE];rfl
theorem ahO (k:Int):M.vK [] k=some k:=by
 obtain ⟨n,hn⟩:=qw;unfold M.vK;rw[hn];show M.qF _ [] k=_;unfold M.qF;rw[hn,M.pG];rfl
theorem ahP (k:Int):M.uH [] k=some k:=by obtain ⟨n,hn⟩:=qw;unfold M.uH;rw[hn,M.qG];rfl
theorem ahQ (k:Int):M.uI [] k=some k:=by obtain ⟨n,hn⟩:=qw;unfold M.uI;rw[hn,M.qH];rfl
theorem ahR (k:Int):M.jM [] k=some k:=by obtain ⟨n,hn⟩:=qw;unfold M.jM;rw[hn,M.pI];rfl
theorem three : ((3:Int) !=(0:Int))=true:=rfl
theorem afp (a:List af) (ha:a.length<=1048576) (hE:∀x∈a,afY x) (k:Int) (h0:0<=k) (h1:k<=100000000000):M.pO k a=some (dK Z4 k a):=by
 unfold M.pO;rw[Lp (F:=M.jc) (mk:=Z4) a ha (fun i q=>q=k+8*(i:Int)) af.zero (fun f q i l hi hl hg hI=>by
  obtain ⟨x1,x2,x3⟩:=hE a[i] (List.getElem_mem hi);rw[M.jc];have hlt:decide ((i:Int)<((l.length:Nat):Int))=true:=by rw[decide_eq_true_eq];omega
  have hin:inB (i:Int) l.length=true:=by rw[dQ];simpa using hl
  have w1:Go.IntKind.wrap .i64 (q+1)=q+1:=wrap_i64 (by omega) (by omega)
  have w2:Go.IntKind.wrap .i64 (q+1+1)=q+1+1:=wrap_i64 (by omega) (by omega)
  have w3:Go.IntKind.wrap .i64 (q+1+1+1)=q+1+1+1:=wrap_i64 (by omega) (by omega)
  have w4:Go.IntKind.wrap .i64 (q+1+1+1+1)=q+1+1+1+1:=wrap_i64 (by omega) (by omega)
  have w5:Go.IntKind.wrap .i64 (q+1+1+1+1+1)=q+1+1+1+1+1:=wrap_i64 (by omega) (by omega)
  have w6:Go.IntKind.wrap .i64 (q+1+1+1+1+1+1)=q+1+1+1+1+1+1:=wrap_i64 (by omega) (by omega)
  have w7:Go.IntKind.wrap .i64 (q+1+1+1+1+1+1+1)=q+1+1+1+1+1+1+1:=wrap_i64 (by omega) (by omega)
  have w8:Go.IntKind.wrap .i64 (q+1+1+1+1+1+1+1+1)=q+1+1+1+1+1+1+1+1:=wrap_i64 (by omega) (by omega)
  have e1:=afV (k:=q+1) (by omega) (by omega)
  simp only[hlt,hin,Int.toNat_natCast,cond_true,Bool.true_and,Bool.and_true,U6,hl,List.length_set,hg,w1,w2,w3,w4,w5,w6,w7,w8,e1,x1,x2,x3,ahH,ahI,ahJ,three,ae.bI,ae.p1,ae.p2,ae.p3,ae.p4,Option.isSome_some,Option.getD_some,gp hi (iD ha),List.set_set];exact ⟨rfl,by simp only[Z4];omega⟩) (fun f q l hl=>by rw[M.jc];simp[hl]) k (by simp)]
theorem afq (a:List af) (ha:a.length<=1048576) (k:Int) (h0:0<=k) (h1:k<=100000000000):M.mP (dK Z4 k a).2 k=some (dK Z4 k a).1:=by
 unfold M.mP;rw[QN (F:=M.jd (dK Z4 k a).2) (mk:=Z4) (fin:=id) a ha (fun i q=>q=k+8*(i:Int)) af.zero k (by simp) (fun f q i y hi e1 e2 hI=>by
  subst e2;rw[M.jd];have hlt:decide ((i:Int)<(((dK Z4 k a).2.length:Nat):Int))=true:=by rw[decide_eq_true_eq,nJ];omega
  have hin:inB (i:Int) (dK Z4 k a).2.length=true:=by rw[dQ,nJ];simpa using hi
  have w1:Go.IntKind.wrap .i64 (q+1)=q+1:=wrap_i64 (by omega) (by omega)
  have w2:Go.IntKind.wrap .i64 (q+1+1)=q+1+1:=wrap_i64 (by omega) (by omega)
  have w3:Go.IntKind.wrap .i64 (q+1+1+1)=q+1+1+1:=wrap_i64 (by omega) (by omega)
  have w4:Go.IntKind.wrap .i64 (q+1+1+1+1)=q+1+1+1+1:=wrap_i64 (by omega) (by omega)
  have w5:Go.IntKind.wrap .i64 (q+1+1+1+1+1)=q+1+1+1+1+1:=wrap_i64 (by omega) (by omega)
  have w6:Go.IntKind.wrap .i64 (q+1+1+1+1+1+1)=q+1+1+1+1+1+1:=wrap_i64 (by omega) (by omega)
  have w7:Go.IntKind.wrap .i64 (q+1+1+1+1+1+1+1)=q+1+1+1+1+1+1+1:=wrap_i64 (by omega) (by omega)
  have w8:Go.IntKind.wrap .i64 (q+1+1+1+1+1+1+1+1)=q+1+1+1+1+1+1+1+1:=wrap_i64 (by omega) (by omega)
  have m1:=afV (k:=q+1) (by omega) (by omega)
  have n1:=xx (n:=q+1+1) (by omega)
  have n2:=xx (n:=q+1+1+1+1) (by omega)
  simp only[hlt,hin,e1,Z4,Int.toNat_natCast,cond_true,cond_false,Bool.true_and,Bool.and_true,w1,w2,w3,w4,w5,w6,w7,w8,m1,n1,n2,ahM,ahN,ahO,three,ae.p1,ae.p2,ae.p3,ae.p4,Option.isSome_some,Option.getD_some,gp hi (iD ha),bne_self_eq_false,beq_self_eq_true,Bool.not_true];exact ⟨trivial,by omega⟩) (fun f q=>by rw[M.jd];simp[nJ])]
 rfl
end M
namespace M
open Go.V (inB Jk aF dL)
def WOk (w:aX):Prop:=lC ak.sz w.qp<=1000 /\ w.gW.length<=4 /\ (∀x∈w.gW,afY x /\ x.sz=0) /\ w.BA=[] /\ w.Back=[] /\ w.Notes=[]
theorem abt {α:Type} (f:α->Nat) (m:Nat):∀l:List α,(∀x∈l,f x<=m)->lC f l<=l.length*(m+1)
 | [],_=>by simp[lC]
 |x::r,h=>by
  have h1:=h x (by simp)
  have h2:=abt f m r fun y hy=>h y (by simp[hy])
  simp only[lC,List.length_cons,Nat.succ_mul];omega
theorem YO : WOk ad9:=⟨by decide,by decide,fun x hx=>absurd hx (by simp[ad9]),rfl,rfl,rfl⟩
theorem afr (dW:List ak) (eP:List Int):WOk (Ug dW eP).1:=by
 unfold Ug
 cases hp:GN dW
 ·exact YO
 ·cases hr:decide ((4:Int)<((eP.length:Nat):Int))
  ·cases ha:eP.all Ig
   ·exact YO
   ·simp only[Bool.not_true,cond_false,cond_true]
    unfold GN at hp;simp only[Bool.and_eq_true,decide_eq_true_eq,List.all_eq_true] at hp;rw[decide_eq_false_iff_not] at hr;refine ⟨?_,by simp only[List.length_map];omega,fun x hx=> ?_,rfl,rfl,rfl⟩
    ·have:=abt ak.sz 12 dW fun p hp'=>by
      have h1:=hp.2 p hp';unfold Jm at h1;simp only[Bool.and_eq_true,decide_eq_true_eq] at h1;have:ak.sz p=p.Ops.length:=szA _;omega
     show lC ak.sz dW<=1000
     omega
    ·obtain ⟨r, -,rfl⟩:=List.mem_map.1 hx
     exact ⟨⟨rfl,rfl,rfl⟩,rfl⟩
  ·exact YO
theorem WOk.sz {w:aX} (h:WOk w):w.sz<=1048576:=by
 obtain ⟨h1,h2,h3,h4,h5,h6⟩:=h;have:=abt af.sz 0 w.gW fun x hx=>by rw[(h3 x hx).2];exact Nat.le_refl _
 rw[aX.pz,h4,h5,h6];simp only[lC];omega
noncomputable def k1 (w:aX):Int:=(dK rO 1 w.qp).1
noncomputable def k2 (w:aX):Int:=(dK Z4 (k1 w) w.gW).1
theorem agn {w:aX} (h:WOk w):1<=k1 w /\ k1 w<=k2 w /\ k2 w<=10000:=by
 have h1:=U8 w.qp 1;have h2:=agl w.gW (k1 w);have:=h.1;have:=h.2.1;unfold k2 k1 at*;omega
theorem ag1 {w:aX} (h:WOk w):M.uJ 1 w.qp w.gW w.BA w.Back w.Notes=some (k2 w,(dK rO 1 w.qp).2,(dK Z4 (k1 w) w.gW).2,[],[],[]):=by
 have hk:=agn h;obtain ⟨h1,h2,h3,h4,h5,h6⟩:=h;unfold M.uJ;have e1:=Yf w.qp (by omega) 1 (by omega) (by omega)
 have e2:=afp w.gW (by omega) (fun x hx=>(h3 x hx).1) (k1 w) (by omega) (by omega)
 have e3:M.gX (k2 w) []=some (k2 w,[]):=ZZ [] (by simp) (k2 w) (by omega) (by omega)
 have e1':(dK rO 1 w.qp).1=k1 w:=rfl;have e2':(dK Z4 (k1 w) w.gW).1=k2 w:=rfl;simp only[h4,h5,h6,e1,e1',e2,e2',e3,ahK,ahL,Option.isSome_some,Option.getD_some,Bool.true_and,Bool.and_true,Bool.and_self,cond_true]
theorem ag2 {w:aX} (h:WOk w):M.uK (aX.mk (dK rO 1 w.qp).2 (dK Z4 (k1 w) w.gW).2 [] [] []) 1=some (k2 w):=by
 have hk:=agn h;obtain ⟨h1,h2,h3,h4,h5,h6⟩:=h;unfold M.uK;have e1:M.qx (dK rO 1 w.qp).2 1=some (k1 w):=adh w.qp (by omega) 1 (by omega) (by omega)
 have e2:M.mP (dK Z4 (k1 w) w.gW).2 (k1 w)=some (k2 w):=afq w.gW (by omega) (k1 w) (by omega) (by omega)
 simp only[e1,e2,ahP,ahR,ahQ,xx (show 0<=k1 w by omega),xx (show 0<=k2 w by omega),Option.isSome_some,Option.getD_some,Bool.true_and,Bool.and_true,Bool.and_self,cond_true,cond_false]
theorem szI : ∀l:List Int,lC (fun _=>0) l=l.length
 | []=>rfl
 |x::r=>by simp only[lC,szI r,List.length_cons];omega
theorem aX.eta (w:aX):aX.mk w.qp w.gW w.BA w.Back w.Notes=w:=rfl
theorem YP (dW:List ak) (eP:List Int) (hp:QP ak.Ok dW):M.jw dW eP=some true:=by
 unfold M.jw
 by_cases hr:(1048576:Int)<((eP.length:Nat):Int)
 ·rw[decide_eq_true hr];rfl
 rw[decide_eq_false hr,cond_false,aec dW 1048576 hp (by omega) (by omega)]
 by_cases h1:(lC ak.sz dW:Int)<=1048576
 ·have h:lC ak.sz dW<=1048576:=by omega
  have hl:=iL ak.sz dW;have hr':eP.length<=1048576:=by omega
  have n1:¬(1048576-(lC ak.sz dW:Int)<0):=by omega
  rw[if_pos h1];have hops:∀p∈dW,p.Ops.length<=1048576:=fun p hp'=>by
   have:=jL ak.sz dW p hp';have:ak.sz p=p.Ops.length:=szA _;omega
  have q0:=aed dW h;have q1:=adk eP (by rw[szI];omega)
  have q2:=Z5 dW h;have q3:=Lr eP (by rw[szI];omega)
  have hw:=afr dW eP;have e1:=agk dW eP (by omega) hops hr'
  have e2:=agj dW eP (by omega) hops hr'
  generalize Ug dW eP=r at hw e1 e2
  obtain ⟨w,c⟩:=r;simp only at hw e1 e2;have q4:=aee w hw.sz;have q5:=ag1 hw;have q6:=ag2 hw;have q7:=xx (show 0<=k2 w by have:=agn hw;omega)
  have q8:=Yf dW h 1 (by omega) (by omega)
  have q8':=U8 dW 1;have q9:=ZZ eP hr' (dK rO 1 dW).1 (by omega) (by omega)
  have q9':=xx (n:=(dK adi (dK rO 1 dW).1 eP).1) (by rw[afo];omega)
  simp only[q0,q1,q2,q3,q4,q5,q6,q7,q8,q9,q9',e1,e2,aX.eta,Option.getD_some,Option.isSome_some,n1,decide_false,cond_false,Bool.and_true,Bool.and_self,Bool.true_and,cond_true,beq_self_eq_true,bne_self_eq_false,Bool.not_true,Bool.or_false,Bool.false_or,Bool.true_or]
 ·rw[if_neg h1];simp
end M
