/-
  PLAIN LEMMAS: numbers that stay in their kind, places in lists, loops that count up.
-/
import Derived.Test.YtalddlopgnfpaaaGreatDoorXIdata
import Derived.IntWalk
set_option linter.unusedVariables false
namespace M
open Go.V (inB bV ah cC)
def I64(n:Int):Prop:= -9223372036854775808<=n/\n<=9223372036854775807
theorem wrap_i64{n:Int}(h1: -9223372036854775808<=n)(h2:n<=9223372036854775807):Go.IntKind.wrap .i64 n=n:=Go.IntWalk.i64_in n (by omega)
@[simp] theorem cq (k n:Nat):inB (k:Int) n=decide (k<n):=by
  unfold inB;by_cases h:k<n<;>simp[h]
theorem getD_lt{α:Type}{l:List α}{k:Nat}(h:k<l.length)(z:α):l.getD k z=l[k]:=by
 rw[g9,bZ h];rfl
@[simp] theorem qu (a b:Bool):(bif a then a else b)=(a||b):=by cases a<;>rfl
@[simp] theorem apW (a b:Bool):(bif a then b else a)=(a&&b):=by cases a<;>rfl
@[simp] theorem apX (a:Bool):(bif a then false else true)= !a:=by cases a<;>rfl
@[simp] theorem apY (a:Bool):(bif a then true else false)=a:=by cases a<;>rfl
theorem Zg{Y:Type}{F:Nat->Int->Option Y}{n:Nat}{res:Nat->Option Y}
 (step:∀f k,k<n->F f ((k+1:Nat):Int)=res (k+1)->F (f+1) (k:Int)=res k) (stop:∀f,F (f+1) (n:Int)=res n):
 ∀f k,k<=n->n-k<f->F f (k:Int)=res k
 |0,k,h1,h2=>by omega
 |f+1,k,h1,h2=>by
  rcases cO k n with hk|hk
  ·exact step f k hk (Zg step stop f (k+1) (by omega) (by omega))
  ·have:k=n:=by omega
   subst this;exact stop f
theorem yp{Y:Type}{F:Nat->Int->Option Y}{n:Nat}{res:Nat->Option Y}(hn:n<2^62)
 (step:∀f k,k<n->F f ((k+1:Nat):Int)=res (k+1)->F (f+1) (k:Int)=res k) (stop:∀f,F (f+1) (n:Int)=res n):F ah 0=res 0:=
 Zg step stop ah 0 (cU _) (by have:=cC;omega)
theorem dZ{α:Type}{l:List α}{k:Nat}(h:k<l.length):l.drop k=l[k]::l.drop (k+1):=by
 rw[List.drop_eq_getElem_cons h]
theorem am4{α:Type}(p:α->Bool){l:List α}{k:Nat}(h:k<l.length):(l.drop k).all p=(p l[k]&&(l.drop (k+1)).all p):=by rw[dZ h];rfl
theorem gU{n:Nat}(h:n<=1048576):n<2^62:=by omega
theorem cm{k n:Nat}(h:k<n)(hn:n<2^62):Go.IntKind.wrap .i64 ((k:Int)+1)=((k+1:Nat):Int):=by
 rw[wrap_i64 (by omega) (by omega)];omega
theorem Ku{Y:Type}{F:Nat->Int->Option Y}{n:Nat}{y:Option Y}(hn:n<2^62)(step:∀f k,k<n->F (f+1) (k:Int)=F f ((k+1:Nat):Int))(stop:∀f,F (f+1) (n:Int)=y):F ah 0=y:=
 yp (res:=fun _=>y) hn (fun f k hk h=>by rw[step f k hk];exact h) stop
theorem EP{α:Type}{F:Nat->Int->List α->Option (List α)}(a:List α)(ha:a.length<2^62)(step:∀f k out,k<a.length->out.length=a.length->∀h:k<a.length,F (f+1) (k:Int) out=F f ((k+1:Nat):Int) (out.set k a[k]))
 (stop:∀f out,F (f+1) (a.length:Int) out=some out) (out:List α) (ho:out.length=a.length):F ah 0 out=some a:=by
 have key:∀f k out,k<=a.length->a.length-k<f->out.length=a.length->F f (k:Int) out=some (out.take k++a.drop k):=by
  intro f
  induction f with
  |zero=>intro k out h1 h2;omega
  |succ f ih=>
   intro k out h1 h2 h3;rcases cO k a.length with hk|hk
   ·rw[step f k out hk h3 hk,ih (k+1) _ (by omega) (by omega) (by simpa using h3)];congr 1;rw[dZ hk,KB,List.take_set_of_le (bg _)];simp[h3,hk]
   ·have:k=a.length:=by omega
    subst this;rw[stop,<-h3,vf,h3,hC,mb]
 have:=key ah 0 out (cU _) (by have:=cC;omega) ho;simpa using this
def aR{α:Type}(f:α->Nat):List α->Nat
 |[]=>0
 |x::r=>f x+1+aR f r
theorem ed{α:Type}(f:α->Nat):∀l:List α,l.length<=aR f l
 |[]=>bg _
 |x::r=>by have:=ed f r;simp only[aR,bX];omega
theorem ij{α:Type}(f:α->Nat):∀(l:List α)(x:α),x∈l->f x<=aR f l
 |y::r,x,h=>by
  rcases dY.1 h with rfl|h
  ·simp only[aR];omega
  ·have:=ij f r x h;simp only[aR];omega
theorem j5{α:Type}(f:α->Nat):∀(l:List α)(x:α),x∈l->f x<aR f l
 |y::r,x,h=>by
  rcases dY.1 h with rfl|h
  ·simp only[aR];omega
  ·have:=j5 f r x h;simp only[aR];omega
def kR{α:Type}(f:α->Nat):List α->Nat
 |[]=>0
 |x::r=>f x+kR f r
theorem Ls{α:Type}(f:α->Nat):∀l:List α,aR f l=l.length+kR f l
 |[]=>rfl
 |x::r=>by simp only[aR,kR,bX,Ls f r];omega
theorem am5{α:Type}{f:α->Nat}{F:Nat->Int->Int->Option (Int⊕Int)}(a:List α)(L:Int)(ha:a.length<2^62)
 (step:∀g k (l:Int),0<=l->l<=L->∀h:k<a.length,F (g+1) l (k:Int)=if(f a[k]:Int)<=l then F g (l-f a[k]) ((k+1:Nat):Int)else some (.inl (-1)))
 (stop:∀g l,F (g+1) l (a.length:Int)=some (.inr l)) (left:Int) (h0:0<=left) (h1:left<=L):F ah left 0=some (if(kR f a:Int)<=left then .inr (left-kR f a)else .inl (-1)):=by
 have key:∀g k (left:Int),k<=a.length->a.length-k<g->0<=left->left<=L->F g left (k:Int)=some (if(kR f (a.drop k):Int)<=left then .inr (left-kR f (a.drop k))else .inl (-1)):=by
  intro g
  induction g with
  |zero=>intro k left h1 h2;omega
  |succ g ih=>
   intro k left h1 h2 h3 h4;rcases cO k a.length with hk|hk
   ·have e:kR f (a.drop k)=f a[k]+kR f (a.drop (k+1)):=by rw[dZ hk];rfl
    rw[step g k left h3 h4 hk,e];by_cases hc:(f a[k]:Int)<=left
    ·rw[av hc,ih (k+1) _ (by omega) (by omega) (by omega) (by omega)];congr 1;by_cases h5:(kR f (a.drop (k+1)):Int)<=left-f a[k]
     ·rw[av h5,av (by push_cast;omega)];congr 1;push_cast;omega
     ·rw[an h5,an (by push_cast;omega)]
    ·rw[an hc,an (by push_cast;omega)]
   ·have:k=a.length:=by omega
    subst this;rw[stop,hC];simp[kR,h3]
 have:=key ah 0 left (cU _) (by have:=cC;omega) h0 h1;simpa using this
theorem JC{α:Type}{f:α->Nat}{F:Nat->Int->Int->Option (Int⊕Int)}(a:List α)(left:Int)(h0:0<=left)(h1:left<=1048576)
 (step:∀g k (l:Int),0<=l->l<=left-a.length->∀h:k<a.length,F (g+1) l (k:Int)=if(f a[k]:Int)<=l then F g (l-f a[k]) ((k+1:Nat):Int)else some (.inl (-1)))
 (stop:∀g l,F (g+1) l (a.length:Int)=some (.inr l)):(bif decide (left-(a.length:Int)<0)then some (-1)else(match F ah (left-(a.length:Int)) 0 with
   |none=>none
   |some y=>(match y with
    |.inl b=>some b
    |.inr b=>some b)))=some (if(aR f a:Int)<=left then left-aR f a else -1):=by
 have e:=Ls f a;by_cases c:(a.length:Int)<=left
 ·have n:¬(left-(a.length:Int)<0):=by omega
  rw[am5 a (left-a.length) (by omega) step stop _ (by omega) (Int.le_refl _)];by_cases d:(kR f a:Int)<=left-a.length
  ·rw[av (show(aR f a:Int)<=left by omega)];simp only[n,vo,aT,av d];congr 1;omega
  ·rw[an (show ¬(aR f a:Int)<=left by omega)];simp only[n,vo,aT,an d]
 ·have n:left-(a.length:Int)<0:=by omega
  rw[an (show ¬(aR f a:Int)<=left by omega)];simp only[n,cn,aA]
theorem ajj{α:Type}{f:α->Nat}(hf:∀x,f x=0)(a:List α)(left:Int)(h0:0<=left):(bif decide (left-(a.length:Int)<0)then some (-1)else some (left-(a.length:Int)))=some (if(aR f a:Int)<=left then left-aR f a else -1):=by
 have e:aR f a=a.length:=by
  rw[Ls];have:∀l:List α,kR f l=0:=fun l=>by
   induction l with
   |nil=>rfl
   |cons x r ih=>simp only[kR,hf,ih]
  rw[this];omega
 rw[e];by_cases c:(a.length:Int)<=left
 ·have n:¬(left-(a.length:Int)<0):=by omega
  rw[av c];simp only[n,vo,aT]
 ·have n:left-(a.length:Int)<0:=by omega
  rw[an c];simp only[n,cn,aA]
theorem ER{α:Type}{F:Nat->Int->Option (Bool⊕Unit)}(a:List α)(ha:a.length<=1048576)(step:∀f k,∀h:k<a.length,F (f+1) (k:Int)=F f ((k+1:Nat):Int))(stop:∀f,F (f+1) (a.length:Int)=some (.inr ())):
 (bif((a.length:Int) !=(a.length:Int))then some false else(match F ah 0 with
   |none=>none
   |some y=>(match y with
    |.inl b=>some b
    |.inr _=>some true)))=some true:=by
 rw[Ku (by omega) step stop];simp
end M
