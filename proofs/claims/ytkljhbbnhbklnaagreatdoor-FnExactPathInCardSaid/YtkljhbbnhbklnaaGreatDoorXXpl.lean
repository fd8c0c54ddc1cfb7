/-
  PLAIN LEMMAS: numbers that stay in their kind, places in lists, loops that count up.
-/
import Derived.Test.YtkljhbbnhbklnaaGreatDoorXXdata
import Derived.IntWalk
set_option linter.unusedVariables false
namespace M
open Go.V (inB bV ah bq)
def I64(n:Int):Prop:= -9223372036854775808<=n/\n<=9223372036854775807
theorem wrap_i64{n:Int}(h1: -9223372036854775808<=n)(h2:n<=9223372036854775807):Go.IntKind.wrap .i64 n=n:=Go.IntWalk.i64_in n (by omega)
@[simp] theorem dA (k n:Nat):inB (k:Int) n=decide (k<n):=by
  unfold inB;by_cases h:k<n<;>simp[h]
theorem getD_lt{α:Type}{l:List α}{k:Nat}(h:k<l.length)(z:α):l.getD k z=l[k]:=by
 rw[gd,cF h];rfl
@[simp] theorem awG (a b:Bool):(bif a then a else b)=(a||b):=by cases a<;>rfl
@[simp] theorem awH (a b:Bool):(bif a then b else a)=(a&&b):=by cases a<;>rfl
@[simp] theorem awI (a:Bool):(bif a then false else true)= !a:=by cases a<;>rfl
@[simp] theorem awJ (a:Bool):(bif a then true else false)=a:=by cases a<;>rfl
theorem Vn{Y:Type}{F:Nat->Int->Option Y}{n:Nat}{res:Nat->Option Y}
 (step:∀f k,k<n->F f ((k+1:Nat):Int)=res (k+1)->F (f+1) (k:Int)=res k) (stop:∀f,F (f+1) (n:Int)=res n):
 ∀f k,k<=n->n-k<f->F f (k:Int)=res k
 |0,k,h1,h2=>by omega
 |f+1,k,h1,h2=>by
  rcases cN k n with hk|hk
  ·exact step f k hk (Vn step stop f (k+1) (by omega) (by omega))
  ·have:k=n:=by omega
   subst this;exact stop f
theorem Gp{Y:Type}{F:Nat->Int->Option Y}{n:Nat}{res:Nat->Option Y}(hn:n<2^62)
 (step:∀f k,k<n->F f ((k+1:Nat):Int)=res (k+1)->F (f+1) (k:Int)=res k) (stop:∀f,F (f+1) (n:Int)=res n):F ah 0=res 0:=
 Vn step stop ah 0 (dL _) (by have:=bq;omega)
theorem sn{α:Type}{l:List α}{k:Nat}(h:k<l.length):l.drop k=l[k]::l.drop (k+1):=by
 rw[List.drop_eq_getElem_cons h]
theorem dZ{n:Nat}(h:n<=1048576):n<2^62:=by omega
theorem bS{k n:Nat}(h:k<n)(hn:n<2^62):Go.IntKind.wrap .i64 ((k:Int)+1)=((k+1:Nat):Int):=by
 rw[wrap_i64 (by omega) (by omega)];omega
theorem amz{Y:Type}{F:Nat->Int->Option Y}{n:Nat}{y:Option Y}(hn:n<2^62)(step:∀f k,k<n->F (f+1) (k:Int)=F f ((k+1:Nat):Int))(stop:∀f,F (f+1) (n:Int)=y):F ah 0=y:=
 Gp (res:=fun _=>y) hn (fun f k hk h=>by rw[step f k hk];exact h) stop
theorem rl{α:Type}{F:Nat->Int->List α->Option (List α)}(a:List α)(ha:a.length<2^62)(step:∀f k out,k<a.length->out.length=a.length->∀h:k<a.length,F (f+1) (k:Int) out=F f ((k+1:Nat):Int) (out.set k a[k]))
 (stop:∀f out,F (f+1) (a.length:Int) out=some out) (out:List α) (ho:out.length=a.length):F ah 0 out=some a:=by
 have key:∀f k out,k<=a.length->a.length-k<f->out.length=a.length->F f (k:Int) out=some (out.take k++a.drop k):=by
  intro f
  induction f with
  |zero=>intro k out h1 h2;omega
  |succ f ih=>
   intro k out h1 h2 h3;rcases cN k a.length with hk|hk
   ·rw[step f k out hk h3 hk,ih (k+1) _ (by omega) (by omega) (by simpa using h3)];congr 1;rw[sn hk,DG,List.take_set_of_le (ct _)];simp[h3,hk]
   ·have:k=a.length:=by omega
    subst this;rw[stop,<-h3,DI,h3,ue,uf]
 have:=key ah 0 out (dL _) (by have:=bq;omega) ho;simpa using this
def aT{α:Type}(f:α->Nat):List α->Nat
 |[]=>0
 |x::r=>f x+1+aT f r
theorem df{α:Type}(f:α->Nat):∀l:List α,l.length<=aT f l
 |[]=>ct _
 |x::r=>by have:=df f r;simp only[aT,aU];omega
theorem dK{α:Type}(f:α->Nat):∀(l:List α)(x:α),x∈l->f x<=aT f l
 |y::r,x,h=>by
  rcases gp.1 h with rfl|h
  ·simp only[aT];omega
  ·have:=dK f r x h;simp only[aT];omega
theorem Fz{α:Type}(f:α->Nat):∀(l:List α)(x:α),x∈l->f x<aT f l
 |y::r,x,h=>by
  rcases gp.1 h with rfl|h
  ·simp only[aT];omega
  ·have:=Fz f r x h;simp only[aT];omega
def m8{α:Type}(f:α->Nat):List α->Nat
 |[]=>0
 |x::r=>f x+m8 f r
theorem Vo{α:Type}(f:α->Nat):∀l:List α,aT f l=l.length+m8 f l
 |[]=>rfl
 |x::r=>by simp only[aT,m8,aU,Vo f r];omega
theorem amA{α:Type}{f:α->Nat}{F:Nat->Int->Int->Option (Int⊕Int)}(a:List α)(L:Int)(ha:a.length<2^62)
 (step:∀g k (l:Int),0<=l->l<=L->∀h:k<a.length,F (g+1) l (k:Int)=if(f a[k]:Int)<=l then F g (l-f a[k]) ((k+1:Nat):Int)else some (.inl (-1)))
 (stop:∀g l,F (g+1) l (a.length:Int)=some (.inr l)) (left:Int) (h0:0<=left) (h1:left<=L):F ah left 0=some (if(m8 f a:Int)<=left then .inr (left-m8 f a)else .inl (-1)):=by
 have key:∀g k (left:Int),k<=a.length->a.length-k<g->0<=left->left<=L->F g left (k:Int)=some (if(m8 f (a.drop k):Int)<=left then .inr (left-m8 f (a.drop k))else .inl (-1)):=by
  intro g
  induction g with
  |zero=>intro k left h1 h2;omega
  |succ g ih=>
   intro k left h1 h2 h3 h4;rcases cN k a.length with hk|hk
   ·have e:m8 f (a.drop k)=f a[k]+m8 f (a.drop (k+1)):=by rw[sn hk];rfl
    rw[step g k left h3 h4 hk,e];by_cases hc:(f a[k]:Int)<=left
    ·rw[ba hc,ih (k+1) _ (by omega) (by omega) (by omega) (by omega)];congr 1;by_cases h5:(m8 f (a.drop (k+1)):Int)<=left-f a[k]
     ·rw[ba h5,ba (by push_cast;omega)];congr 1;push_cast;omega
     ·rw[aX h5,aX (by push_cast;omega)]
    ·rw[aX hc,aX (by push_cast;omega)]
   ·have:k=a.length:=by omega
    subst this;rw[stop,ue];simp[m8,h3]
 have:=key ah 0 left (dL _) (by have:=bq;omega) h0 h1;simpa using this
theorem rm{α:Type}{f:α->Nat}{F:Nat->Int->Int->Option (Int⊕Int)}(a:List α)(left:Int)(h0:0<=left)(h1:left<=1048576)
 (step:∀g k (l:Int),0<=l->l<=left-a.length->∀h:k<a.length,F (g+1) l (k:Int)=if(f a[k]:Int)<=l then F g (l-f a[k]) ((k+1:Nat):Int)else some (.inl (-1)))
 (stop:∀g l,F (g+1) l (a.length:Int)=some (.inr l)):(bif decide (left-(a.length:Int)<0)then some (-1)else(match F ah (left-(a.length:Int)) 0 with
   |none=>none
   |some y=>(match y with
    |.inl b=>some b
    |.inr b=>some b)))=some (if(aT f a:Int)<=left then left-aT f a else -1):=by
 have e:=Vo f a;by_cases c:(a.length:Int)<=left
 ·have n:¬(left-(a.length:Int)<0):=by omega
  rw[amA a (left-a.length) (by omega) step stop _ (by omega) (Int.le_refl _)];by_cases d:(m8 f a:Int)<=left-a.length
  ·rw[ba (show(aT f a:Int)<=left by omega)];simp only[n,lp,ak,ba d];congr 1;omega
  ·rw[aX (show ¬(aT f a:Int)<=left by omega)];simp only[n,lp,ak,aX d]
 ·have n:left-(a.length:Int)<0:=by omega
  rw[aX (show ¬(aT f a:Int)<=left by omega)];simp only[n,ed,ad]
theorem rn{α:Type}{F:Nat->Int->Option (Bool⊕Unit)}(a:List α)(ha:a.length<=1048576)(step:∀f k,∀h:k<a.length,F (f+1) (k:Int)=F f ((k+1:Nat):Int))(stop:∀f,F (f+1) (a.length:Int)=some (.inr ())):
 (bif((a.length:Int) !=(a.length:Int))then some false else(match F ah 0 with
   |none=>none
   |some y=>(match y with
    |.inl b=>some b
    |.inr _=>some true)))=some true:=by
 rw[amz (by omega) step stop];simp
end M
