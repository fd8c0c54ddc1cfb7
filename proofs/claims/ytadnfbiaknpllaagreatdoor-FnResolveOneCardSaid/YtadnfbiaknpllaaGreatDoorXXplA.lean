/-
  PLAIN LEMMAS: two lists compared place by place.
-/
import Derived.Test.YtadnfbiaknpllaaGreatDoorXXpl
import Derived.Test.YtadnfbiaknpllaaGreatDoorXXhandA
set_option linter.unusedVariables false
namespace M
open Go.V (inB bN ae aZ)
def dQ{α:Type}(p:α->α->Bool):List α->List α->Bool
 |[],[]=>true
 |x::a,y::b=>p x y&&dQ p a b
 |_,_=>false
theorem qk{α:Type}(p:α->α->Bool):∀(a b:List α),a.length≠b.length->dQ p a b=false
 |[],[],h=>absurd rfl h
 |[],_::_,_=>rfl
 |_::_,[],_=>rfl
 |x::a,y::b,h=>by
  simp only[dQ,qk p a b (by simpa using h),Bool.and_false]
theorem rZ{α:Type}{p:α->α->Bool}:∀(a:List α),(∀x∈a,p x x=true)->dQ p a a=true
 |[],_=>rfl
 |x::a,h=>by
  simp only[dQ,h x (List.mem_cons_self ..),rZ a (fun y hy=>h y (Dw _ hy)),ak]
theorem sc{α E:Type}{p:α->α->Bool}{F:Nat->Int->Option (Bool⊕E)}{e:E}(a b:List α)(ha:a.length<=1048576)(hab:a.length=b.length)
 (step:∀f k,∀h:k<a.length,∀h':k<b.length,F (f+1) (k:Int)=bif p a[k] b[k]then F f ((k+1:Nat):Int)else some (.inl false))
 (stop:∀f,F (f+1) (a.length:Int)=some (.inr e)):F ae 0=some (if dQ p a b then .inr e else .inl false):=by
 have:=Nb (F:=F) (n:=a.length) (res:=fun k=>some (if dQ p (a.drop k) (b.drop k)then .inr e else .inl false)) (by omega)
  (fun f k hk ih=>by
    rw[step f k hk (by omega),x8 hk,x8 (show k<b.length by omega)];simp only[dQ];rw[ih];by_cases hq:p a[k] b[k]=true
    ·simp[hq]
    ·simp[sQ _ ▸ hq])
  (fun f=>by rw[stop,xe,hab,xe];rfl)
 simpa using this
theorem uc{α:Type}{p:α->α->Bool}{F:Nat->Int->Option (Bool⊕Unit)}(a b:List α)(ha:a.length<=1048576)
 (step:∀f k,a.length=b.length->∀h:k<a.length,∀h':k<b.length,F (f+1) (k:Int)=bif p a[k] b[k]then F f ((k+1:Nat):Int)else some (.inl false))
 (stop:∀f,F (f+1) (a.length:Int)=some (.inr ())):
 (bif((a.length:Int) !=(b.length:Int))then some false else(match F ae 0 with
   |none=>none
   |some y=>(match y with
    |.inl b=>some b
    |.inr _=>some true)))=some (dQ p a b):=by
 by_cases h:a.length=b.length
 ·rw[sc (p:=p) (e:=()) a b ha h (fun f k=>step f k h) stop];cases dQ p a b<;>simp[h]
 ·have:((a.length:Int) !=(b.length:Int))=true:=by rw[lR];omega
  rw[this,qk p a b h];rfl
theorem isSome_some{α:Type}(a:α):(some a).isSome=true:=rfl
end M
namespace M
open Go.V (kM rF uq)
open Go.Lib (keeps compactUpTo compact)
def nodupB:List (List UInt8)->Bool
 |[]=>true
 |x::r=> !(r.any fun y=>x==y)&&nodupB r
theorem E9:∀l,nodupB l=true↔l.Nodup
 |[]=>by simp[nodupB]
 |x::r=>by
  rw[IH,<-E9 r];simp only[nodupB,bu,fb,List.any_eq_false,cL];constructor
  ·rintro ⟨h,k⟩;exact⟨fun hm=>h x hm rfl,k⟩
  ·rintro ⟨h,k⟩;exact⟨fun y hy e=>h (e ▸ hy),k⟩
theorem U5(p:Nat->Bool):∀n,((List.range n).filter p).length<=n/\(((List.range n).filter p).length=n↔∀j,j<n->p j=true)
 |0=>⟨by simp,by simp⟩
 |n+1=>by
  obtain⟨h1,h2⟩:=U5 p n;rw[List.range_succ,List.filter_append,aG];by_cases hp:p n=true
  ·have e:(List.filter p [n]).length=1:=by simp[hp]
   refine⟨by omega,?_⟩;rw[e];constructor
   ·intro h j hj;rcases Nat.lt_succ_iff_lt_or_eq.1 hj with h3|rfl
    ·exact h2.1 (by omega) j h3
    ·exact hp
   ·intro h;have:=h2.2 fun j hj=>h j (by omega)
    omega
  ·have e:(List.filter p [n]).length=0:=by simp[hp]
   refine⟨by omega,?_⟩;rw[e];constructor
   ·intro h;omega
   ·intro h;exact absurd (h n (by omega)) hp
theorem aki(zs:List (List UInt8)):(compact zs).length=zs.length↔∀j,j<zs.length->keeps zs.toArray j=true:=by
 unfold compact compactUpTo;rw[eQ];exact(U5 _ _).2
theorem akj(xs:List (List UInt8)):(kM xs).Pairwise fun a b=>a<=b:=by
 have:=List.pairwise_mergeSort (le:=fun x y:List UInt8=>decide (x<=y)) (fun a b c h k=>by simp only[bX]at*;exact List.le_trans h k) (fun a b=>by
  have:=List.le_total a b;rw[gu];simpa using this) xs
 exact this.imp fun h=>by simpa using h
theorem akk{l:List (List UInt8)}(hs:l.Pairwise fun a b=>a<=b):(∀j,j<l.length->keeps l.toArray j=true)↔l.Nodup:=by
 constructor
 ·intro h;rw[List.Nodup,xc];intro i j hi hj hij e;have hi1:i+1<l.length:=by omega
  have h1:l[i]<=l[i+1]:=xc.1 hs i (i+1) hi hi1 (by omega);have h2:l[i+1]<=l[j]:=by
   rcases cU (i+1) j with h3|h3
   ·exact xc.1 hs (i+1) j hi1 hj h3
   ·have:j=i+1:=by omega
    subst this;exact List.le_refl _
  have h3:l[i+1]=l[i]:=List.le_antisymm (by rw[e];exact h2) h1;have h4:=h (i+1) hi1;unfold keeps at h4;simp only[bX]at h4;rcases h4 with h4|h4
  ·omega
  ·apply h4;simp only[Nat.add_sub_cancel];rw[Dy l.toArray (i+1) (by simpa using hi1),Dy l.toArray i (by simpa using hi)];simpa using h3
 ·intro h j hj;unfold keeps;rw[bX];rcases pH j with h0|h0
  ·exact .inl h0
  ·right;rw[Dy l.toArray j (by simpa using hj),Dy l.toArray (j-1) (by simp;omega)];intro e;have:=xc.1 h (j-1) j (by omega) hj (by omega);exact this (by simpa using e.symm)
theorem akl(xs:List (List UInt8)):((uq xs).length==xs.length)=nodupB xs:=by
 rw[nb,cL,E9];have e:(uq xs).length=xs.length↔(kM xs).Nodup:=by
  rw[<-akk (akj xs),<-aki,rF];rfl
 rw[e];exact(List.mergeSort_perm xs _).nodup_iff
theorem Fb(xs:List (List UInt8))(h:xs.length<=1048576):M.oR xs=some (nodupB xs):=by
 unfold M.oR;have:xs.length<=1099511627776:=by omega
 simp only[this,eG,ad,akl]
end M
namespace M
open Go.V (inB bN ae aZ)
theorem yS{α:Type}[BEq α](a b:α):(a !=b)= !(a==b):=rfl
@[simp] theorem arW (b:Bool):(b==true)=b:=by cases b<;>rfl
@[simp] theorem arX (b:Bool):(b==false)= !b:=by cases b<;>rfl
theorem UM{E:Type}{p:Nat->Bool}{F:Nat->Int->Option (Bool⊕E)}{e:E}{b:Bool}(n:Nat)(hn:n<2^62)
 (step:∀f k,k<n->F (f+1) (k:Int)=bif p k then F f ((k+1:Nat):Int)else some (.inl b)) (stop:∀f,F (f+1) (n:Int)=some (.inr e)):
 F ae 0=some (if(List.range n).all p then .inr e else .inl b):=by
 have:=Nb (F:=F) (n:=n) (res:=fun k=>some (if(List.range' k (n-k)).all p then .inr e else .inl b)) hn (fun f k hk ih=>by
  rw[step f k hk,ih];have:List.range' k (n-k)=k::List.range' (k+1) (n-(k+1)):=by
   rw[show n-k=(n-(k+1))+1 by omega];rfl
  rw[this,sU];cases p k
  ·simp
  ·rw[bj];rfl) (fun f=>by rw[stop,IG];rfl)
 rw[this,List.range_eq_range',Nat.sub_zero]
theorem LD{α Y E:Type}{p:α->Bool}{F:Nat->Int->Option (Y⊕E)}{e:E}(g:Int->Y)(a:List α)(ha:a.length<2^62)
 (step:∀f k,∀h:k<a.length,F (f+1) (k:Int)=bif p a[k]then some (.inl (g (k:Int)))else F f ((k+1:Nat):Int)) (stop:∀f,F (f+1) (a.length:Int)=some (.inr e)):
 F ae 0=some (match a.findIdx? p with
   |some k=>.inl (g (k:Int))
   |none=>.inr e):=by
 have:=Nb (F:=F) (n:=a.length) (res:=fun k=>some (match(a.drop k).findIdx? p with
  |some j=>.inl (g ((k+j:Nat):Int))
  |none=>.inr e)) ha (fun f k hk ih=>by
  rw[step f k hk,ih,x8 hk,List.findIdx?_cons];cases hp:p a[k]with
  |true=>simp
  |false=>
   simp only[al,kB,lS];cases (a.drop (k+1)).findIdx? p with
   |none=>rfl
   |some j=>simp only[iP];rw[show k+1+j=k+(j+1) by omega]) (fun f=>by rw[stop,xe];rfl)
 have h2:=this;simp only[ig,dz]at h2;exact h2
theorem agL{α:Type}(p:α->Bool)(a:List α):a.any p=(a.findIdx? p).isSome:=by
 induction a with
 |nil=>rfl
 |cons x r ih=>
  rw[List.any_cons,List.findIdx?_cons,ih];cases p x<;>simp
end M
namespace M
end M
