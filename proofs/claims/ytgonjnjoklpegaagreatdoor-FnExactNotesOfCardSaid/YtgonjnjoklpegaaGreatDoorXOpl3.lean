/-
  NAMES: sorted, with neighbours that are equal struck out, they are as many as before just where no two are equal.
-/
import Derived.Test.YtgonjnjoklpegaaGreatDoorXOhand
import Derived.Test.YtgonjnjoklpegaaGreatDoorXOpl2
set_option linter.unusedVariables false
namespace M
open Go.V (gA lF uq)
open Go.Lib (keeps compactUpTo compact)
def nodupB:List (List UInt8)->Bool
 |[]=>true
 |x::r=> !(r.any fun y=>x==y)&&nodupB r
theorem D3:∀l,nodupB l=true↔l.Nodup
 |[]=>by simp[nodupB]
 |x::r=>by
  rw[uc,<-D3 r];simp only[nodupB,bc,eZ,List.any_eq_false,iH];constructor
  ·rintro ⟨h,k⟩;exact⟨fun hm=>h x hm rfl,k⟩
  ·rintro ⟨h,k⟩;exact⟨fun y hy e=>h (e ▸ hy),k⟩
theorem Qq(p:Nat->Bool):∀n,((List.range n).filter p).length<=n/\(((List.range n).filter p).length=n↔∀j,j<n->p j=true)
 |0=>⟨by simp,by simp⟩
 |n+1=>by
  obtain⟨h1,h2⟩:=Qq p n;rw[List.range_succ,List.filter_append,fm];by_cases hp:p n=true
  ·have e:(List.filter p [n]).length=1:=by simp[hp]
   refine⟨by omega,?_⟩;rw[e];constructor
   ·intro h j hj;rcases Nat.lt_succ_iff_lt_or_eq.1 hj with h3|rfl
    ·exact h2.1 (by omega) j h3
    ·exact hp
   ·intro h;have:=h2.2 fun j hj=>h j (by omega)
    omega
  ·have e:(List.filter p [n]).length=0:=by simp[hp]
   refine⟨by omega,?_⟩;rw[e];constructor
   ·intro h;omega
   ·intro h;exact absurd (h n (by omega)) hp
theorem aeA(zs:List (List UInt8)):(compact zs).length=zs.length↔∀j,j<zs.length->keeps zs.toArray j=true:=by
 unfold compact compactUpTo;rw[Ej];exact(Qq _ _).2
theorem aeB(xs:List (List UInt8)):(gA xs).Pairwise fun a b=>a<=b:=by
 have:=List.pairwise_mergeSort (le:=fun x y:List UInt8=>decide (x<=y)) (fun a b c h k=>by simp only[bP]at*;exact List.le_trans h k) (fun a b=>by
  have:=List.le_total a b;rw[fU];simpa using this) xs
 exact this.imp fun h=>by simpa using h
theorem aeC{l:List (List UInt8)}(hs:l.Pairwise fun a b=>a<=b):(∀j,j<l.length->keeps l.toArray j=true)↔l.Nodup:=by
 constructor
 ·intro h;rw[List.Nodup,tV];intro i j hi hj hij e;have hi1:i+1<l.length:=by omega
  have h1:l[i]<=l[i+1]:=tV.1 hs i (i+1) hi hi1 (by omega);have h2:l[i+1]<=l[j]:=by
   rcases cM (i+1) j with h3|h3
   ·exact tV.1 hs (i+1) j hi1 hj h3
   ·have:j=i+1:=by omega
    subst this;exact List.le_refl _
  have h3:l[i+1]=l[i]:=List.le_antisymm (by rw[e];exact h2) h1;have h4:=h (i+1) hi1;unfold keeps at h4;simp only[bP]at h4;rcases h4 with h4|h4
  ·omega
  ·apply h4;simp only[Nat.add_sub_cancel];rw[ug l.toArray (i+1) (by simpa using hi1),ug l.toArray i (by simpa using hi)];simpa using h3
 ·intro h j hj;unfold keeps;rw[bP];rcases iz j with h0|h0
  ·exact .inl h0
  ·right;rw[ug l.toArray j (by simpa using hj),ug l.toArray (j-1) (by simp;omega)];intro e;have:=tV.1 h (j-1) j (by omega) hj (by omega);exact this (by simpa using e.symm)
theorem aeD(xs:List (List UInt8)):((uq xs).length==xs.length)=nodupB xs:=by
 rw[jd,iH,D3];have e:(uq xs).length=xs.length↔(gA xs).Nodup:=by
  rw[<-aeC (aeB xs),<-aeA,lF];rfl
 rw[e];exact(List.mergeSort_perm xs _).nodup_iff
theorem acQ(xs:List (List UInt8))(h:xs.length<=1048576):M.mO xs=some (nodupB xs):=by
 unfold M.mO;have:xs.length<=1099511627776:=by omega
 simp only[this,cz,aT,aeD]
end M
