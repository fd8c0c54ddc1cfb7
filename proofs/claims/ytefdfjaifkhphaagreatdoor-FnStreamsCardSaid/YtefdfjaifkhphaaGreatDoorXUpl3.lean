/-
  NAMES: sorted, with neighbours that are equal struck out, they are as many as before just where no two are equal.
-/
import Derived.Test.YtefdfjaifkhphaaGreatDoorXUhand
import Derived.Test.YtefdfjaifkhphaaGreatDoorXUpl2
set_option linter.unusedVariables false
namespace M
open Go.V (srt zu uq)
open Go.Lib (keeps compactUpTo compact)
def nodupB : List (List UInt8)->Bool
 | []=>true
 |x::r=> !(r.any fun y=>x==y)&&nodupB r
theorem FK : ∀l,nodupB l=true↔l.Nodup
 | []=>by simp[nodupB]
 |x::r=>by
  rw[List.nodup_cons,<-FK r];simp only[nodupB,Bool.and_eq_true,Bool.not_eq_true',List.any_eq_false,beq_iff_eq];constructor
  ·rintro ⟨h,k⟩;exact ⟨fun hm=>h x hm rfl,k⟩
  ·rintro ⟨h,k⟩;exact ⟨fun y hy e=>h (e ▸ hy),k⟩
theorem EE (p:Nat->Bool):∀n,((List.range n).filter p).length<=n /\ (((List.range n).filter p).length=n↔∀j,j<n->p j=true)
 |0=>⟨by simp,by simp⟩
 |n+1=>by
  obtain ⟨h1,h2⟩:=EE p n;rw[List.range_succ,List.filter_append,List.length_append]
  by_cases hp:p n=true
  ·have e:(List.filter p [n]).length=1:=by simp[hp]
   refine ⟨by omega, ?_⟩
   rw[e];constructor
   ·intro h j hj
    rcases Nat.lt_succ_iff_lt_or_eq.1 hj with h3 |rfl
    ·exact h2.1 (by omega) j h3
    ·exact hp
   ·intro h
    have:=h2.2 fun j hj=>h j (by omega)
    omega
  ·have e:(List.filter p [n]).length=0:=by simp[hp]
   refine ⟨by omega, ?_⟩
   rw[e];constructor
   ·intro h;omega
   ·intro h;exact absurd (h n (by omega)) hp
theorem Tn (zs:List (List UInt8)):(compact zs).length=zs.length↔∀j,j<zs.length->keeps zs.toArray j=true:=by
 unfold compact compactUpTo;rw[List.length_map];exact (EE _ _).2
theorem aa6 (xs:List (List UInt8)):(srt xs).Pairwise fun a b=>a<=b:=by
 have:=List.pairwise_mergeSort (le:=fun x y:List UInt8=>decide (x<=y)) (fun a b c h k=>by simp only[decide_eq_true_eq] at*;exact List.le_trans h k) (fun a b=>by
  have:=List.le_total a b;rw[Bool.or_eq_true];simpa using this) xs
 exact this.imp fun h=>by simpa using h
theorem YB {l:List (List UInt8)} (hs:l.Pairwise fun a b=>a<=b):(∀j,j<l.length->keeps l.toArray j=true)↔l.Nodup:=by
 constructor
 ·intro h
  rw[List.Nodup,List.pairwise_iff_getElem];intro i j hi hj hij e;have hi1:i+1<l.length:=by omega
  have h1:l[i]<=l[i+1]:=List.pairwise_iff_getElem.1 hs i (i+1) hi hi1 (by omega)
  have h2:l[i+1]<=l[j]:=by
   rcases Nat.lt_or_ge (i+1) j with h3 |h3
   ·exact List.pairwise_iff_getElem.1 hs (i+1) j hi1 hj h3
   ·have:j=i+1:=by omega
    subst this;exact List.le_refl _
  have h3:l[i+1]=l[i]:=List.le_antisymm (by rw[e];exact h2) h1
  have h4:=h (i+1) hi1;unfold keeps at h4;simp only[decide_eq_true_eq] at h4
  rcases h4 with h4 |h4
  ·omega
  ·apply h4
   simp only[Nat.add_sub_cancel];rw[getElem!_pos l.toArray (i+1) (by simpa using hi1),getElem!_pos l.toArray i (by simpa using hi)]
   simpa using h3
 ·intro h j hj
  unfold keeps;rw[decide_eq_true_eq]
  rcases Nat.eq_zero_or_pos j with h0 |h0
  ·exact .inl h0
  ·right
   rw[getElem!_pos l.toArray j (by simpa using hj),getElem!_pos l.toArray (j-1) (by simp;omega)]
   intro e;have:=List.pairwise_iff_getElem.1 h (j-1) j (by omega) hj (by omega)
   exact this (by simpa using e.symm)
theorem aen (xs:List (List UInt8)):((uq xs).length==xs.length)=nodupB xs:=by
 rw[Bool.eq_iff_iff,beq_iff_eq,FK];have e:(uq xs).length=xs.length↔(srt xs).Nodup:=by
  rw[<-YB (aa6 xs),<-Tn,zu];rfl
 rw[e];exact (List.mergeSort_perm xs _).nodup_iff
theorem W9 (xs:List (List UInt8)) (h:xs.length<=1048576):M.qj xs=some (nodupB xs):=by
 unfold M.qj;have:xs.length<=1099511627776:=by omega
 simp only[this,decide_true,cond_true,aen]
end M
