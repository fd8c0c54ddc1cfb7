/-
  PLAIN LEMMAS: two lists compared place by place.
-/
import Derived.Test.YtdehjkmaaljlpaaGreatDoorXEpl
import Derived.Test.YtdehjkmaaljlpaaGreatDoorXEhandA
set_option linter.unusedVariables false
namespace M
open Go.V (inB cF af bV)
def eqL{α:Type}(p:α->α->Bool):List α->List α->Bool
 |[],[]=>true
 |x::a,y::b=>p x y&&eqL p a b
 |_,_=>false
theorem isSome_some{α:Type}(a:α):(some a).isSome=true:=rfl
end M
namespace M
open Go.V (jL qN uq)
open Go.Lib (keeps compactUpTo compact)
def nodupB:List (List UInt8)->Bool
 |[]=>true
 |x::r=> !(r.any fun y=>x==y)&&nodupB r
theorem xO:∀l,nodupB l=true↔l.Nodup
 |[]=>by simp[nodupB]
 |x::r=>by
  rw[AM,<-xO r];simp only[nodupB,bC,eL,List.any_eq_false,de];constructor
  ·rintro ⟨h,k⟩;exact⟨fun hm=>h x hm rfl,k⟩
  ·rintro ⟨h,k⟩;exact⟨fun y hy e=>h (e ▸ hy),k⟩
theorem ajX(p:Nat->Bool):∀n,((List.range n).filter p).length<=n/\(((List.range n).filter p).length=n↔∀j,j<n->p j=true)
 |0=>⟨by simp,by simp⟩
 |n+1=>by
  obtain⟨h1,h2⟩:=ajX p n;rw[List.range_succ,List.filter_append,bA];by_cases hp:p n=true
  ·have e:(List.filter p [n]).length=1:=by simp[hp]
   refine⟨by omega,?_⟩;rw[e];constructor
   ·intro h j hj;rcases Nat.lt_succ_iff_lt_or_eq.1 hj with h3|rfl
    ·exact h2.1 (by omega) j h3
    ·exact hp
   ·intro h;have:=h2.2 fun j hj=>h j (by omega)
    omega
  ·have e:(List.filter p [n]).length=0:=by simp[hp]
   refine⟨by omega,?_⟩;rw[e];constructor
   ·intro h;omega
   ·intro h;exact absurd (h n (by omega)) hp
theorem aCm(zs:List (List UInt8)):(compact zs).length=zs.length↔∀j,j<zs.length->keeps zs.toArray j=true:=by
 unfold compact compactUpTo;rw[cr];exact(ajX _ _).2
theorem aCn(xs:List (List UInt8)):(jL xs).Pairwise fun a b=>a<=b:=by
 have:=List.pairwise_mergeSort (le:=fun x y:List UInt8=>decide (x<=y)) (fun a b c h k=>by simp only[bq]at*;exact List.le_trans h k) (fun a b=>by
  have:=List.le_total a b;rw[eC];simpa using this) xs
 exact this.imp fun h=>by simpa using h
theorem aCo{l:List (List UInt8)}(hs:l.Pairwise fun a b=>a<=b):(∀j,j<l.length->keeps l.toArray j=true)↔l.Nodup:=by
 constructor
 ·intro h;rw[List.Nodup,wU];intro i j hi hj hij e;have hi1:i+1<l.length:=by omega
  have h1:l[i]<=l[i+1]:=wU.1 hs i (i+1) hi hi1 (by omega);have h2:l[i+1]<=l[j]:=by
   rcases cA (i+1) j with h3|h3
   ·exact wU.1 hs (i+1) j hi1 hj h3
   ·have:j=i+1:=by omega
    subst this;exact List.le_refl _
  have h3:l[i+1]=l[i]:=List.le_antisymm (by rw[e];exact h2) h1;have h4:=h (i+1) hi1;unfold keeps at h4;simp only[bq]at h4;rcases h4 with h4|h4
  ·omega
  ·apply h4;simp only[Nat.add_sub_cancel];rw[Fa l.toArray (i+1) (by simpa using hi1),Fa l.toArray i (by simpa using hi)];simpa using h3
 ·intro h j hj;unfold keeps;rw[bq];rcases lg j with h0|h0
  ·exact .inl h0
  ·right;rw[Fa l.toArray j (by simpa using hj),Fa l.toArray (j-1) (by simp;omega)];intro e;have:=wU.1 h (j-1) j (by omega) hj (by omega);exact this (by simpa using e.symm)
theorem aCp(xs:List (List UInt8)):((uq xs).length==xs.length)=nodupB xs:=by
 rw[fW,de,xO];have e:(uq xs).length=xs.length↔(jL xs).Nodup:=by
  rw[<-aCo (aCn xs),<-aCm,qN];rfl
 rw[e];exact(List.mergeSort_perm xs _).nodup_iff
theorem Gt(xs:List (List UInt8))(h:xs.length<=1048576):M.kS xs=some (nodupB xs):=by
 unfold M.kS;have:xs.length<=1099511627776:=by omega
 simp only[this,bg,aA,aCp]
end M
namespace M
open Go.V (inB cF af bV)
theorem jD{α:Type}[BEq α](a b:α):(a !=b)= !(a==b):=rfl
@[simp] theorem aE6 (b:Bool):(b==true)=b:=by cases b<;>rfl
@[simp] theorem aE7 (b:Bool):(b==false)= !b:=by cases b<;>rfl
theorem aAC{α:Type}(b:Bool)(x y:α):(bif b then x else y)=if b=true then x else y:=by cases b<;>rfl
theorem lJ{E:Type}{p:Nat->Bool}{F:Nat->Int->Option (Bool⊕E)}{e:E}{b:Bool}(n:Nat)(hn:n<2^62)
 (step:∀f k,k<n->F (f+1) (k:Int)=bif p k then F f ((k+1:Nat):Int)else some (.inl b)) (stop:∀f,F (f+1) (n:Int)=some (.inr e)):
 F af 0=some (if(List.range n).all p then .inr e else .inl b):=by
 have:=A3 (F:=F) (n:=n) (res:=fun k=>some (if(List.range' k (n-k)).all p then .inr e else .inl b)) hn (fun f k hk ih=>by
  rw[step f k hk,ih];have:List.range' k (n-k)=k::List.range' (k+1) (n-(k+1)):=by
   rw[show n-k=(n-(k+1))+1 by omega];rfl
  rw[this,kK];cases p k
  ·simp
  ·rw[aZ];rfl) (fun f=>by rw[stop,rF];rfl)
 rw[this,List.range_eq_range',Nat.sub_zero]
theorem mJ{α E:Type}{p:α->Bool}{F:Nat->Int->Option (Bool⊕E)}{e:E}{b:Bool}(a:List α)(ha:a.length<2^62)
 (step:∀f k,∀h:k<a.length,F (f+1) (k:Int)=bif p a[k]then F f ((k+1:Nat):Int)else some (.inl b)) (stop:∀f,F (f+1) (a.length:Int)=some (.inr e)):
 F af 0=some (if a.all p then .inr e else .inl b):=by
 have:=A3 (F:=F) (n:=a.length) (res:=fun k=>some (if(a.drop k).all p then .inr e else .inl b)) ha (fun f k hk ih=>by
  rw[step f k hk,ih,OG p hk];cases p a[k]<;>simp) (fun f=>by rw[stop,gP];rfl)
 simpa using this
theorem fY{α Y E:Type}{p:α->Bool}{F:Nat->Int->Option (Y⊕E)}{e:E}(g:Int->Y)(a:List α)(ha:a.length<2^62)
 (step:∀f k,∀h:k<a.length,F (f+1) (k:Int)=bif p a[k]then some (.inl (g (k:Int)))else F f ((k+1:Nat):Int)) (stop:∀f,F (f+1) (a.length:Int)=some (.inr e)):
 F af 0=some (match a.findIdx? p with
   |some k=>.inl (g (k:Int))
   |none=>.inr e):=by
 have:=A3 (F:=F) (n:=a.length) (res:=fun k=>some (match(a.drop k).findIdx? p with
  |some j=>.inl (g ((k+j:Nat):Int))
  |none=>.inr e)) ha (fun f k hk ih=>by
  rw[step f k hk,ih,fu hk,List.findIdx?_cons];cases hp:p a[k]with
  |true=>simp
  |false=>
   simp only[bN,gz,fZ];cases (a.drop (k+1)).findIdx? p with
   |none=>rfl
   |some j=>simp only[pM];rw[show k+1+j=k+(j+1) by omega]) (fun f=>by rw[stop,gP];rfl)
 have h2:=this;simp only[gm,dI]at h2;exact h2
theorem jJ{α:Type}(p:α->Bool)(a:List α):a.any p=(a.findIdx? p).isSome:=by
 induction a with
 |nil=>rfl
 |cons x r ih=>
  rw[List.any_cons,List.findIdx?_cons,ih];cases p x<;>simp
theorem MJ{α A Y:Type}{F:Nat->Int->A->Option Y}{g:A->α->A}{h:A->Y}(l:List α)(hn:l.length<2^62)(I:Nat->A->Prop)
 (step:∀f k a,∀hk:k<l.length,I k a->F (f+1) (k:Int) a=F f ((k+1:Nat):Int) (g a l[k])/\I (k+1) (g a l[k])) (stop:∀f a,I l.length a->F (f+1) (l.length:Int) a=some (h a)) (a:A) (h0:I 0 a):
 F af 0 a=some (h (l.foldl g a)):=by
 have key:∀f k a,k<=l.length->l.length-k<f->I k a->F f (k:Int) a=some (h ((l.drop k).foldl g a)):=by
  intro f
  induction f with
  |zero=>intro k a h1 h2;omega
  |succ f ih=>
   intro k a h1 h2 hI;rcases cA k l.length with hk|hk
   ·obtain⟨e,hI'⟩:=step f k a hk hI;rw[e,ih (k+1) _ (by omega) (by omega) hI',fu hk];rfl
   ·have:k=l.length:=by omega
    subst this;rw[stop f a hI,gP];rfl
 have:=key af 0 a (abo _) (by have:=bV;omega) h0;simpa using this
end M
namespace M
theorem air{α:Type}(p:α->Bool)(l:List α)(d:α):(List.range l.length).all (fun i=>p (l.getD i d))=l.all p:=by
 rw[fW];simp only[dz,zN];constructor
 ·intro h x hx;obtain⟨i,hi,rfl⟩:=pK hx;have:=h i hi
  rwa [getD_lt hi]at this
 ·intro h i hi;rw[getD_lt hi];exact h _ (bG hi)
theorem KO{α:Type}(p q:α->Bool)(l:List α):l.all (fun x=>p x&&q x)=(l.all p&&l.all q):=by
 induction l with
 |nil=>rfl
 |cons x r ih=>simp only[kK,ih];cases p x<;>cases q x<;>cases r.all p<;>cases r.all q<;>rfl
theorem aiq{α:Type}(nm:α->List UInt8)(l:List α)(d:α):(List.range l.length).all (fun i=> !((l.take i).any fun x=>nm x==nm (l.getD i d)))=nodupB (l.map nm):=by
 rw[fW,xO,List.Nodup,wU];simp only[dz,zN,eL,List.any_eq_false,de,cr,uK];constructor
 ·intro h i j hi hj hij e;have hm:l[i]∈l.take j:=by
   rw[List.mem_take_iff_getElem];exact⟨i,by omega,rfl⟩
  have:=h j hj l[i] hm;rw[getD_lt hj]at this;exact this e
 ·intro h i hi x hx e;rw[List.mem_take_iff_getElem]at hx;obtain⟨k,hk,rfl⟩:=hx;rw[getD_lt hi]at e;exact h k i (by omega) hi (by omega) e
end M
