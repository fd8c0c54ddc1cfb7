/-
  PLAIN LEMMAS: two lists compared place by place.
-/
import Derived.Test.YtfeedngnaochdaaGreatDoorXXpl
import Derived.Test.YtfeedngnaochdaaGreatDoorXXhandA
set_option linter.unusedVariables false
namespace M
open Go.V (inB bT ai bB)
def eqL{α:Type}(p:α->α->Bool):List α->List α->Bool
 |[],[]=>true
 |x::a,y::b=>p x y&&eqL p a b
 |_,_=>false
theorem isSome_some{α:Type}(a:α):(some a).isSome=true:=rfl
end M
namespace M
open Go.V (jE oQ uq)
open Go.Lib (keeps compactUpTo compact)
def nodupB:List (List UInt8)->Bool
 |[]=>true
 |x::r=> !(r.any fun y=>x==y)&&nodupB r
theorem Bd:∀l,nodupB l=true↔l.Nodup
 |[]=>by simp[nodupB]
 |x::r=>by
  rw[wK,<-Bd r];simp only[nodupB,bz,fK,List.any_eq_false,dU];constructor
  ·rintro ⟨h,k⟩;exact⟨fun hm=>h x hm rfl,k⟩
  ·rintro ⟨h,k⟩;exact⟨fun y hy e=>h (e ▸ hy),k⟩
theorem NH(p:Nat->Bool):∀n,((List.range n).filter p).length<=n/\(((List.range n).filter p).length=n↔∀j,j<n->p j=true)
 |0=>⟨by simp,by simp⟩
 |n+1=>by
  obtain⟨h1,h2⟩:=NH p n;rw[List.range_succ,List.filter_append,cq];by_cases hp:p n=true
  ·have e:(List.filter p [n]).length=1:=by simp[hp]
   refine⟨by omega,?_⟩;rw[e];constructor
   ·intro h j hj;rcases Nat.lt_succ_iff_lt_or_eq.1 hj with h3|rfl
    ·exact h2.1 (by omega) j h3
    ·exact hp
   ·intro h;have:=h2.2 fun j hj=>h j (by omega)
    omega
  ·have e:(List.filter p [n]).length=0:=by simp[hp]
   refine⟨by omega,?_⟩;rw[e];constructor
   ·intro h;omega
   ·intro h;exact absurd (h n (by omega)) hp
theorem abT(zs:List (List UInt8)):(compact zs).length=zs.length↔∀j,j<zs.length->keeps zs.toArray j=true:=by
 unfold compact compactUpTo;rw[kW];exact(NH _ _).2
theorem abU(xs:List (List UInt8)):(jE xs).Pairwise fun a b=>a<=b:=by
 have:=List.pairwise_mergeSort (le:=fun x y:List UInt8=>decide (x<=y)) (fun a b c h k=>by simp only[bN]at*;exact List.le_trans h k) (fun a b=>by
  have:=List.le_total a b;rw[iH];simpa using this) xs
 exact this.imp fun h=>by simpa using h
theorem abV{l:List (List UInt8)}(hs:l.Pairwise fun a b=>a<=b):(∀j,j<l.length->keeps l.toArray j=true)↔l.Nodup:=by
 constructor
 ·intro h;rw[List.Nodup,uz];intro i j hi hj hij e;have hi1:i+1<l.length:=by omega
  have h1:l[i]<=l[i+1]:=uz.1 hs i (i+1) hi hi1 (by omega);have h2:l[i+1]<=l[j]:=by
   rcases cV (i+1) j with h3|h3
   ·exact uz.1 hs (i+1) j hi1 hj h3
   ·have:j=i+1:=by omega
    subst this;exact List.le_refl _
  have h3:l[i+1]=l[i]:=List.le_antisymm (by rw[e];exact h2) h1;have h4:=h (i+1) hi1;unfold keeps at h4;simp only[bN]at h4;rcases h4 with h4|h4
  ·omega
  ·apply h4;simp only[Nat.add_sub_cancel];rw[rx l.toArray (i+1) (by simpa using hi1),rx l.toArray i (by simpa using hi)];simpa using h3
 ·intro h j hj;unfold keeps;rw[bN];rcases jP j with h0|h0
  ·exact .inl h0
  ·right;rw[rx l.toArray j (by simpa using hj),rx l.toArray (j-1) (by simp;omega)];intro e;have:=uz.1 h (j-1) j (by omega) hj (by omega);exact this (by simpa using e.symm)
theorem abW(xs:List (List UInt8)):((uq xs).length==xs.length)=nodupB xs:=by
 rw[mc,dU,Bd];have e:(uq xs).length=xs.length↔(jE xs).Nodup:=by
  rw[<-abV (abU xs),<-abT,oQ];rfl
 rw[e];exact(List.mergeSort_perm xs _).nodup_iff
theorem Bf(xs:List (List UInt8))(h:xs.length<=1048576):M.mC xs=some (nodupB xs):=by
 unfold M.mC;have:xs.length<=1099511627776:=by omega
 simp only[this,gW,af,abW]
end M
namespace M
open Go.V (inB bT ai bB)
theorem He{α:Type}[BEq α](a b:α):(a !=b)= !(a==b):=rfl
@[simp] theorem ahO (b:Bool):(b==true)=b:=by cases b<;>rfl
@[simp] theorem ahP (b:Bool):(b==false)= !b:=by cases b<;>rfl
theorem Nl{E:Type}{p:Nat->Bool}{F:Nat->Int->Option (Bool⊕E)}{e:E}{b:Bool}(n:Nat)(hn:n<2^62)
 (step:∀f k,k<n->F (f+1) (k:Int)=bif p k then F f ((k+1:Nat):Int)else some (.inl b)) (stop:∀f,F (f+1) (n:Int)=some (.inr e)):
 F ai 0=some (if(List.range n).all p then .inr e else .inl b):=by
 have:=HC (F:=F) (n:=n) (res:=fun k=>some (if(List.range' k (n-k)).all p then .inr e else .inl b)) hn (fun f k hk ih=>by
  rw[step f k hk,ih];have:List.range' k (n-k)=k::List.range' (k+1) (n-(k+1)):=by
   rw[show n-k=(n-(k+1))+1 by omega];rfl
  rw[this,List.all_cons];cases p k
  ·simp
  ·rw[bc];rfl) (fun f=>by rw[stop,ru];rfl)
 rw[this,List.range_eq_range',Nat.sub_zero]
theorem Gm{α Y E:Type}{p:α->Bool}{F:Nat->Int->Option (Y⊕E)}{e:E}(g:Int->Y)(a:List α)(ha:a.length<2^62)
 (step:∀f k,∀h:k<a.length,F (f+1) (k:Int)=bif p a[k]then some (.inl (g (k:Int)))else F f ((k+1:Nat):Int)) (stop:∀f,F (f+1) (a.length:Int)=some (.inr e)):
 F ai 0=some (match a.findIdx? p with
   |some k=>.inl (g (k:Int))
   |none=>.inr e):=by
 have:=HC (F:=F) (n:=a.length) (res:=fun k=>some (match(a.drop k).findIdx? p with
  |some j=>.inl (g ((k+j:Nat):Int))
  |none=>.inr e)) ha (fun f k hk ih=>by
  rw[step f k hk,ih,gq hk,List.findIdx?_cons];cases hp:p a[k]with
  |true=>simp
  |false=>
   simp only[ar,jt,km];cases (a.drop (k+1)).findIdx? p with
   |none=>rfl
   |some j=>simp only[gk];rw[show k+1+j=k+(j+1) by omega]) (fun f=>by rw[stop,wJ];rfl)
 have h2:=this;simp only[ft,fu]at h2;exact h2
theorem Y9{α:Type}(p:α->Bool)(a:List α):a.any p=(a.findIdx? p).isSome:=by
 induction a with
 |nil=>rfl
 |cons x r ih=>
  rw[List.any_cons,List.findIdx?_cons,ih];cases p x<;>simp
end M
namespace M
end M
