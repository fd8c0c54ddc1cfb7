/-
  PLAIN LEMMAS: numbers that stay in their kind, places in lists, loops that count up.
-/
import Derived.Test.YtghkckfhaljjjaaGreatDoorXXdata
import Derived.IntWalk
set_option linter.unusedVariables false
namespace M
open Go.V (inB cg ad bz)
def I64(n:Int):Prop:= -9223372036854775808<=n/\n<=9223372036854775807
theorem wrap_i64{n:Int}(h1: -9223372036854775808<=n)(h2:n<=9223372036854775807):Go.IntKind.wrap .i64 n=n:=Go.IntWalk.i64_in n (by omega)
@[simp] theorem dD (k n:Nat):inB (k:Int) n=decide (k<n):=by
  unfold inB;by_cases h:k<n<;>simp[h]
theorem getD_lt{α:Type}{l:List α}{k:Nat}(h:k<l.length)(z:α):l.getD k z=l[k]:=by
 rw[gn,cH h];rfl
@[simp] theorem atZ (a b:Bool):(bif a then a else b)=(a||b):=by cases a<;>rfl
@[simp] theorem at1 (a b:Bool):(bif a then b else a)=(a&&b):=by cases a<;>rfl
@[simp] theorem at6 (a:Bool):(bif a then false else true)= !a:=by cases a<;>rfl
@[simp] theorem at7 (a:Bool):(bif a then true else false)=a:=by cases a<;>rfl
theorem TV{Y:Type}{F:Nat->Int->Option Y}{n:Nat}{res:Nat->Option Y}
 (step:∀f k,k<n->F f ((k+1:Nat):Int)=res (k+1)->F (f+1) (k:Int)=res k) (stop:∀f,F (f+1) (n:Int)=res n):
 ∀f k,k<=n->n-k<f->F f (k:Int)=res k
 |0,k,h1,h2=>by omega
 |f+1,k,h1,h2=>by
  rcases cP k n with hk|hk
  ·exact step f k hk (TV step stop f (k+1) (by omega) (by omega))
  ·have:k=n:=by omega
   subst this;exact stop f
theorem Fo{Y:Type}{F:Nat->Int->Option Y}{n:Nat}{res:Nat->Option Y}(hn:n<2^62)
 (step:∀f k,k<n->F f ((k+1:Nat):Int)=res (k+1)->F (f+1) (k:Int)=res k) (stop:∀f,F (f+1) (n:Int)=res n):F ad 0=res 0:=
 TV step stop ad 0 (dN _) (by have:=bz;omega)
theorem rU{α:Type}{l:List α}{k:Nat}(h:k<l.length):l.drop k=l[k]::l.drop (k+1):=by
 rw[List.drop_eq_getElem_cons h]
theorem dY{n:Nat}(h:n<=1048576):n<2^62:=by omega
theorem bZ{k n:Nat}(h:k<n)(hn:n<2^62):Go.IntKind.wrap .i64 ((k:Int)+1)=((k+1:Nat):Int):=by
 rw[wrap_i64 (by omega) (by omega)];omega
theorem aks{Y:Type}{F:Nat->Int->Option Y}{n:Nat}{y:Option Y}(hn:n<2^62)(step:∀f k,k<n->F (f+1) (k:Int)=F f ((k+1:Nat):Int))(stop:∀f,F (f+1) (n:Int)=y):F ad 0=y:=
 Fo (res:=fun _=>y) hn (fun f k hk h=>by rw[step f k hk];exact h) stop
theorem qR{α:Type}{F:Nat->Int->List α->Option (List α)}(a:List α)(ha:a.length<2^62)(step:∀f k out,k<a.length->out.length=a.length->∀h:k<a.length,F (f+1) (k:Int) out=F f ((k+1:Nat):Int) (out.set k a[k]))
 (stop:∀f out,F (f+1) (a.length:Int) out=some out) (out:List α) (ho:out.length=a.length):F ad 0 out=some a:=by
 have key:∀f k out,k<=a.length->a.length-k<f->out.length=a.length->F f (k:Int) out=some (out.take k++a.drop k):=by
  intro f
  induction f with
  |zero=>intro k out h1 h2;omega
  |succ f ih=>
   intro k out h1 h2 h3;rcases cP k a.length with hk|hk
   ·rw[step f k out hk h3 hk,ih (k+1) _ (by omega) (by omega) (by simpa using h3)];congr 1;rw[rU hk,Dt,List.take_set_of_le (fh _)];simp[h3,hk]
   ·have:k=a.length:=by omega
    subst this;rw[stop,<-h3,Du,h3,tY,ue]
 have:=key ad 0 out (dN _) (by have:=bz;omega) ho;simpa using this
def aQ{α:Type}(f:α->Nat):List α->Nat
 |[]=>0
 |x::r=>f x+1+aQ f r
theorem de{α:Type}(f:α->Nat):∀l:List α,l.length<=aQ f l
 |[]=>fh _
 |x::r=>by have:=de f r;simp only[aQ,ak];omega
theorem dL{α:Type}(f:α->Nat):∀(l:List α)(x:α),x∈l->f x<=aQ f l
 |y::r,x,h=>by
  rcases jm.1 h with rfl|h
  ·simp only[aQ];omega
  ·have:=dL f r x h;simp only[aQ];omega
theorem EO{α:Type}(f:α->Nat):∀(l:List α)(x:α),x∈l->f x<aQ f l
 |y::r,x,h=>by
  rcases jm.1 h with rfl|h
  ·simp only[aQ];omega
  ·have:=EO f r x h;simp only[aQ];omega
def mW{α:Type}(f:α->Nat):List α->Nat
 |[]=>0
 |x::r=>f x+mW f r
theorem TW{α:Type}(f:α->Nat):∀l:List α,aQ f l=l.length+mW f l
 |[]=>rfl
 |x::r=>by simp only[aQ,mW,ak,TW f r];omega
theorem akt{α:Type}{f:α->Nat}{F:Nat->Int->Int->Option (Int⊕Int)}(a:List α)(L:Int)(ha:a.length<2^62)
 (step:∀g k (l:Int),0<=l->l<=L->∀h:k<a.length,F (g+1) l (k:Int)=if(f a[k]:Int)<=l then F g (l-f a[k]) ((k+1:Nat):Int)else some (.inl (-1)))
 (stop:∀g l,F (g+1) l (a.length:Int)=some (.inr l)) (left:Int) (h0:0<=left) (h1:left<=L):F ad left 0=some (if(mW f a:Int)<=left then .inr (left-mW f a)else .inl (-1)):=by
 have key:∀g k (left:Int),k<=a.length->a.length-k<g->0<=left->left<=L->F g left (k:Int)=some (if(mW f (a.drop k):Int)<=left then .inr (left-mW f (a.drop k))else .inl (-1)):=by
  intro g
  induction g with
  |zero=>intro k left h1 h2;omega
  |succ g ih=>
   intro k left h1 h2 h3 h4;rcases cP k a.length with hk|hk
   ·have e:mW f (a.drop k)=f a[k]+mW f (a.drop (k+1)):=by rw[rU hk];rfl
    rw[step g k left h3 h4 hk,e];by_cases hc:(f a[k]:Int)<=left
    ·rw[aY hc,ih (k+1) _ (by omega) (by omega) (by omega) (by omega)];congr 1;by_cases h5:(mW f (a.drop (k+1)):Int)<=left-f a[k]
     ·rw[aY h5,aY (by push_cast;omega)];congr 1;push_cast;omega
     ·rw[aT h5,aT (by push_cast;omega)]
    ·rw[aT hc,aT (by push_cast;omega)]
   ·have:k=a.length:=by omega
    subst this;rw[stop,tY];simp[mW,h3]
 have:=key ad 0 left (dN _) (by have:=bz;omega) h0 h1;simpa using this
theorem qS{α:Type}{f:α->Nat}{F:Nat->Int->Int->Option (Int⊕Int)}(a:List α)(left:Int)(h0:0<=left)(h1:left<=1048576)
 (step:∀g k (l:Int),0<=l->l<=left-a.length->∀h:k<a.length,F (g+1) l (k:Int)=if(f a[k]:Int)<=l then F g (l-f a[k]) ((k+1:Nat):Int)else some (.inl (-1)))
 (stop:∀g l,F (g+1) l (a.length:Int)=some (.inr l)):(bif decide (left-(a.length:Int)<0)then some (-1)else(match F ad (left-(a.length:Int)) 0 with
   |none=>none
   |some y=>(match y with
    |.inl b=>some b
    |.inr b=>some b)))=some (if(aQ f a:Int)<=left then left-aQ f a else -1):=by
 have e:=TW f a;by_cases c:(a.length:Int)<=left
 ·have n:¬(left-(a.length:Int)<0):=by omega
  rw[akt a (left-a.length) (by omega) step stop _ (by omega) (Int.le_refl _)];by_cases d:(mW f a:Int)<=left-a.length
  ·rw[aY (show(aQ f a:Int)<=left by omega)];simp only[n,gU,aR,aY d];congr 1;omega
  ·rw[aT (show ¬(aQ f a:Int)<=left by omega)];simp only[n,gU,aR,aT d]
 ·have n:left-(a.length:Int)<0:=by omega
  rw[aT (show ¬(aQ f a:Int)<=left by omega)];simp only[n,ed,ae]
theorem qT{α:Type}{F:Nat->Int->Option (Bool⊕Unit)}(a:List α)(ha:a.length<=1048576)(step:∀f k,∀h:k<a.length,F (f+1) (k:Int)=F f ((k+1:Nat):Int))(stop:∀f,F (f+1) (a.length:Int)=some (.inr ())):
 (bif((a.length:Int) !=(a.length:Int))then some false else(match F ad 0 with
   |none=>none
   |some y=>(match y with
    |.inl b=>some b
    |.inr _=>some true)))=some true:=by
 rw[aks (by omega) step stop];simp
end M
