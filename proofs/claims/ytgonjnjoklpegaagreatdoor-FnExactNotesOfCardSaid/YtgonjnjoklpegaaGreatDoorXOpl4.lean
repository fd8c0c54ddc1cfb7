/-
  PLAIN LEMMAS: loops that look for an element, loops that fold, what is left of a check.
-/
import Derived.Test.YtgonjnjoklpegaaGreatDoorXOpl3
set_option linter.unusedVariables false
namespace M
open Go.V (inB cu al cE)
theorem fK{α:Type}[BEq α](a b:α):(a !=b)= !(a==b):=rfl
@[simp] theorem ahj (b:Bool):(b==true)=b:=by cases b<;>rfl
@[simp] theorem ahk (b:Bool):(b==false)= !b:=by cases b<;>rfl
theorem kX{E:Type}{p:Nat->Bool}{F:Nat->Int->Option (Bool⊕E)}{e:E}{b:Bool}(n:Nat)(hn:n<2^62)
 (step:∀f k,k<n->F (f+1) (k:Int)=bif p k then F f ((k+1:Nat):Int)else some (.inl b)) (stop:∀f,F (f+1) (n:Int)=some (.inr e)):
 F al 0=some (if(List.range n).all p then .inr e else .inl b):=by
 have:=oe (F:=F) (n:=n) (res:=fun k=>some (if(List.range' k (n-k)).all p then .inr e else .inl b)) hn (fun f k hk ih=>by
  rw[step f k hk,ih];have:List.range' k (n-k)=k::List.range' (k+1) (n-(k+1)):=by
   rw[show n-k=(n-(k+1))+1 by omega];rfl
  rw[this,jc];cases p k
  ·simp
  ·rw[bU];rfl) (fun f=>by rw[stop,qu];rfl)
 rw[this,List.range_eq_range',Nat.sub_zero]
theorem vV{α E:Type}{p:α->Bool}{F:Nat->Int->Option (Bool⊕E)}{e:E}{b:Bool}(a:List α)(ha:a.length<2^62)
 (step:∀f k,∀h:k<a.length,F (f+1) (k:Int)=bif p a[k]then F f ((k+1:Nat):Int)else some (.inl b)) (stop:∀f,F (f+1) (a.length:Int)=some (.inr e)):
 F al 0=some (if a.all p then .inr e else .inl b):=by
 have:=oe (F:=F) (n:=a.length) (res:=fun k=>some (if(a.drop k).all p then .inr e else .inl b)) ha (fun f k hk ih=>by
  rw[step f k hk,ih,Ek p hk];cases p a[k]<;>simp) (fun f=>by rw[stop,jQ];rfl)
 simpa using this
theorem i5{α Y E:Type}{p:α->Bool}{F:Nat->Int->Option (Y⊕E)}{e:E}(g:Int->Y)(a:List α)(ha:a.length<2^62)
 (step:∀f k,∀h:k<a.length,F (f+1) (k:Int)=bif p a[k]then some (.inl (g (k:Int)))else F f ((k+1:Nat):Int)) (stop:∀f,F (f+1) (a.length:Int)=some (.inr e)):
 F al 0=some (match a.findIdx? p with
   |some k=>.inl (g (k:Int))
   |none=>.inr e):=by
 have:=oe (F:=F) (n:=a.length) (res:=fun k=>some (match(a.drop k).findIdx? p with
  |some j=>.inl (g ((k+j:Nat):Int))
  |none=>.inr e)) ha (fun f k hk ih=>by
  rw[step f k hk,ih,jP hk,List.findIdx?_cons];cases hp:p a[k]with
  |true=>simp
  |false=>
   simp only[bF,gi,dN];cases (a.drop (k+1)).findIdx? p with
   |none=>rfl
   |some j=>simp only[lh];rw[show k+1+j=k+(j+1) by omega]) (fun f=>by rw[stop,jQ];rfl)
 have h2:=this;simp only[ix,dB]at h2;exact h2
theorem jA{α:Type}(p:α->Bool)(a:List α):a.any p=(a.findIdx? p).isSome:=by
 induction a with
 |nil=>rfl
 |cons x r ih=>
  rw[List.any_cons,List.findIdx?_cons,ih];cases p x<;>simp
theorem contains_of{α:Type}{p:α->Bool}{F:Nat->Int->Option (Int⊕Unit)}(a:List α)(ha:a.length<2^62)
 (step:∀f k,∀h:k<a.length,F (f+1) (k:Int)=bif p a[k]then some (.inl (k:Int))else F f ((k+1:Nat):Int)) (stop:∀f,F (f+1) (a.length:Int)=some (.inr ())):
 (match F al 0 with
   |none=>none
   |some y=>(match y with
    |.inl b=>some b
    |.inr _=>some (-(1:Int))))=some (match a.findIdx? p with
   |some k=>(k:Int)
   |none=> -1):=by
 rw[i5 (p:=p) (e:=()) (fun k=>k) a ha step stop];cases a.findIdx? p<;>rfl
theorem index_ge{α:Type}(p:α->Bool)(a:List α):decide ((0:Int)<=(match a.findIdx? p with
 |some k=>(k:Int)
 |none=> -1))=a.any p:=by
 rw[jA];cases a.findIdx? p with
 |none=>simp
 |some k=>simp
theorem UY{α A Y:Type}{F:Nat->Int->A->Option Y}{g:A->α->A}{h:A->Y}(l:List α)(hn:l.length<2^62)(I:Nat->A->Prop)
 (step:∀f k a,∀hk:k<l.length,I k a->F (f+1) (k:Int) a=F f ((k+1:Nat):Int) (g a l[k])/\I (k+1) (g a l[k])) (stop:∀f a,I l.length a->F (f+1) (l.length:Int) a=some (h a)) (a:A) (h0:I 0 a):
 F al 0 a=some (h (l.foldl g a)):=by
 have key:∀f k a,k<=l.length->l.length-k<f->I k a->F f (k:Int) a=some (h ((l.drop k).foldl g a)):=by
  intro f
  induction f with
  |zero=>intro k a h1 h2;omega
  |succ f ih=>
   intro k a h1 h2 hI;rcases cM k l.length with hk|hk
   ·obtain⟨e,hI'⟩:=step f k a hk hI;rw[e,ih (k+1) _ (by omega) (by omega) hI',jP hk];rfl
   ·have:k=l.length:=by omega
    subst this;rw[stop f a hI,jQ];rfl
 have:=key al 0 a (ew _) (by have:=cE;omega) h0;simpa using this
end M
