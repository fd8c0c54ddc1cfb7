/-
  PLAIN LEMMAS: numbers that stay in their kind, places in lists, loops that count up.
-/
import Derived.Test.YtalddlopgnfpaaaGreatDoorXIdata
import Derived.IntWalk
set_option linter.unusedVariables false
namespace M
open Go.V (inB bK ah cH)
def I64(n:Int):Prop:= -9223372036854775808<=n/\n<=9223372036854775807
theorem wrap_i64{n:Int}(h1: -9223372036854775808<=n)(h2:n<=9223372036854775807):Go.IntKind.wrap .i64 n=n:=Go.IntWalk.i64_in n (by omega)
@[simp] theorem cB (k n:Nat):inB (k:Int) n=decide (k<n):=by
  unfold inB;by_cases h:k<n<;>simp[h]
theorem getD_lt{α:Type}{l:List α}{k:Nat}(h:k<l.length)(z:α):l.getD k z=l[k]:=by
 rw[cK,bY h];rfl
@[simp] theorem se (a b:Bool):(bif a then a else b)=(a||b):=by cases a<;>rfl
@[simp] theorem anE (a b:Bool):(bif a then b else a)=(a&&b):=by cases a<;>rfl
@[simp] theorem anF (a:Bool):(bif a then false else true)= !a:=by cases a<;>rfl
@[simp] theorem anG (a:Bool):(bif a then true else false)=a:=by cases a<;>rfl
theorem XH{Y:Type}{F:Nat->Int->Option Y}{n:Nat}{res:Nat->Option Y}
 (step:∀f k,k<n->F f ((k+1:Nat):Int)=res (k+1)->F (f+1) (k:Int)=res k) (stop:∀f,F (f+1) (n:Int)=res n):
 ∀f k,k<=n->n-k<f->F f (k:Int)=res k
 |0,k,h1,h2=>by omega
 |f+1,k,h1,h2=>by
  rcases cQ k n with hk|hk
  ·exact step f k hk (XH step stop f (k+1) (by omega) (by omega))
  ·have:k=n:=by omega
   subst this;exact stop f
theorem xM{Y:Type}{F:Nat->Int->Option Y}{n:Nat}{res:Nat->Option Y}(hn:n<2^62)
 (step:∀f k,k<n->F f ((k+1:Nat):Int)=res (k+1)->F (f+1) (k:Int)=res k) (stop:∀f,F (f+1) (n:Int)=res n):F ah 0=res 0:=
 XH step stop ah 0 (cU _) (by have:=cH;omega)
theorem dX{α:Type}{l:List α}{k:Nat}(h:k<l.length):l.drop k=l[k]::l.drop (k+1):=by
 rw[List.drop_eq_getElem_cons h]
theorem akI{α:Type}(p:α->Bool){l:List α}{k:Nat}(h:k<l.length):(l.drop k).all p=(p l[k]&&(l.drop (k+1)).all p):=by rw[dX h];rfl
theorem gC{n:Nat}(h:n<=1048576):n<2^62:=by omega
theorem cm{k n:Nat}(h:k<n)(hn:n<2^62):Go.IntKind.wrap .i64 ((k:Int)+1)=((k+1:Nat):Int):=by
 rw[wrap_i64 (by omega) (by omega)];omega
theorem Jp{Y:Type}{F:Nat->Int->Option Y}{n:Nat}{y:Option Y}(hn:n<2^62)(step:∀f k,k<n->F (f+1) (k:Int)=F f ((k+1:Nat):Int))(stop:∀f,F (f+1) (n:Int)=y):F ah 0=y:=
 xM (res:=fun _=>y) hn (fun f k hk h=>by rw[step f k hk];exact h) stop
theorem D8{α:Type}{F:Nat->Int->List α->Option (List α)}(a:List α)(ha:a.length<2^62)(step:∀f k out,k<a.length->out.length=a.length->∀h:k<a.length,F (f+1) (k:Int) out=F f ((k+1:Nat):Int) (out.set k a[k]))
 (stop:∀f out,F (f+1) (a.length:Int) out=some out) (out:List α) (ho:out.length=a.length):F ah 0 out=some a:=by
 have key:∀f k out,k<=a.length->a.length-k<f->out.length=a.length->F f (k:Int) out=some (out.take k++a.drop k):=by
  intro f
  induction f with
  |zero=>intro k out h1 h2;omega
  |succ f ih=>
   intro k out h1 h2 h3;rcases cQ k a.length with hk|hk
   ·rw[step f k out hk h3 hk,ih (k+1) _ (by omega) (by omega) (by simpa using h3)];congr 1;rw[dX hk,Jt,List.take_set_of_le (bj _)];simp[h3,hk]
   ·have:k=a.length:=by omega
    subst this;rw[stop,<-h3,uJ,h3,gU,ma]
 have:=key ah 0 out (cU _) (by have:=cH;omega) ho;simpa using this
def aZ{α:Type}(f:α->Nat):List α->Nat
 |[]=>0
 |x::r=>f x+1+aZ f r
theorem fx{α:Type}(f:α->Nat):∀l:List α,l.length<=aZ f l
 |[]=>bj _
 |x::r=>by have:=fx f r;simp only[aZ,bQ];omega
theorem jU{α:Type}(f:α->Nat):∀(l:List α)(x:α),x∈l->f x<=aZ f l
 |y::r,x,h=>by
  rcases dW.1 h with rfl|h
  ·simp only[aZ];omega
  ·have:=jU f r x h;simp only[aZ];omega
theorem jV{α:Type}(f:α->Nat):∀(l:List α)(x:α),x∈l->f x<aZ f l
 |y::r,x,h=>by
  rcases dW.1 h with rfl|h
  ·simp only[aZ];omega
  ·have:=jV f r x h;simp only[aZ];omega
def kO{α:Type}(f:α->Nat):List α->Nat
 |[]=>0
 |x::r=>f x+kO f r
theorem Ko{α:Type}(f:α->Nat):∀l:List α,aZ f l=l.length+kO f l
 |[]=>rfl
 |x::r=>by simp only[aZ,kO,bQ,Ko f r];omega
theorem akJ{α:Type}{f:α->Nat}{F:Nat->Int->Int->Option (Int⊕Int)}(a:List α)(L:Int)(ha:a.length<2^62)
 (step:∀g k (l:Int),0<=l->l<=L->∀h:k<a.length,F (g+1) l (k:Int)=if(f a[k]:Int)<=l then F g (l-f a[k]) ((k+1:Nat):Int)else some (.inl (-1)))
 (stop:∀g l,F (g+1) l (a.length:Int)=some (.inr l)) (left:Int) (h0:0<=left) (h1:left<=L):F ah left 0=some (if(kO f a:Int)<=left then .inr (left-kO f a)else .inl (-1)):=by
 have key:∀g k (left:Int),k<=a.length->a.length-k<g->0<=left->left<=L->F g left (k:Int)=some (if(kO f (a.drop k):Int)<=left then .inr (left-kO f (a.drop k))else .inl (-1)):=by
  intro g
  induction g with
  |zero=>intro k left h1 h2;omega
  |succ g ih=>
   intro k left h1 h2 h3 h4;rcases cQ k a.length with hk|hk
   ·have e:kO f (a.drop k)=f a[k]+kO f (a.drop (k+1)):=by rw[dX hk];rfl
    rw[step g k left h3 h4 hk,e];by_cases hc:(f a[k]:Int)<=left
    ·rw[av hc,ih (k+1) _ (by omega) (by omega) (by omega) (by omega)];congr 1;by_cases h5:(kO f (a.drop (k+1)):Int)<=left-f a[k]
     ·rw[av h5,av (by push_cast;omega)];congr 1;push_cast;omega
     ·rw[ak h5,ak (by push_cast;omega)]
    ·rw[ak hc,ak (by push_cast;omega)]
   ·have:k=a.length:=by omega
    subst this;rw[stop,gU];simp[kO,h3]
 have:=key ah 0 left (cU _) (by have:=cH;omega) h0 h1;simpa using this
theorem IK{α:Type}{f:α->Nat}{F:Nat->Int->Int->Option (Int⊕Int)}(a:List α)(left:Int)(h0:0<=left)(h1:left<=1048576)
 (step:∀g k (l:Int),0<=l->l<=left-a.length->∀h:k<a.length,F (g+1) l (k:Int)=if(f a[k]:Int)<=l then F g (l-f a[k]) ((k+1:Nat):Int)else some (.inl (-1)))
 (stop:∀g l,F (g+1) l (a.length:Int)=some (.inr l)):(bif decide (left-(a.length:Int)<0)then some (-1)else(match F ah (left-(a.length:Int)) 0 with
   |none=>none
   |some y=>(match y with
    |.inl b=>some b
    |.inr b=>some b)))=some (if(aZ f a:Int)<=left then left-aZ f a else -1):=by
 have e:=Ko f a;by_cases c:(a.length:Int)<=left
 ·have n:¬(left-(a.length:Int)<0):=by omega
  rw[akJ a (left-a.length) (by omega) step stop _ (by omega) (Int.le_refl _)];by_cases d:(kO f a:Int)<=left-a.length
  ·rw[av (show(aZ f a:Int)<=left by omega)];simp only[n,uR,aR,av d];congr 1;omega
  ·rw[ak (show ¬(aZ f a:Int)<=left by omega)];simp only[n,uR,aR,ak d]
 ·have n:left-(a.length:Int)<0:=by omega
  rw[ak (show ¬(aZ f a:Int)<=left by omega)];simp only[n,cr,aA]
theorem aha{α:Type}{f:α->Nat}(hf:∀x,f x=0)(a:List α)(left:Int)(h0:0<=left):(bif decide (left-(a.length:Int)<0)then some (-1)else some (left-(a.length:Int)))=some (if(aZ f a:Int)<=left then left-aZ f a else -1):=by
 have e:aZ f a=a.length:=by
  rw[Ko];have:∀l:List α,kO f l=0:=fun l=>by
   induction l with
   |nil=>rfl
   |cons x r ih=>simp only[kO,hf,ih]
  rw[this];omega
 rw[e];by_cases c:(a.length:Int)<=left
 ·have n:¬(left-(a.length:Int)<0):=by omega
  rw[av c];simp only[n,uR,aR]
 ·have n:left-(a.length:Int)<0:=by omega
  rw[ak c];simp only[n,cr,aA]
theorem D9{α:Type}{F:Nat->Int->Option (Bool⊕Unit)}(a:List α)(ha:a.length<=1048576)(step:∀f k,∀h:k<a.length,F (f+1) (k:Int)=F f ((k+1:Nat):Int))(stop:∀f,F (f+1) (a.length:Int)=some (.inr ())):
 (bif((a.length:Int) !=(a.length:Int))then some false else(match F ah 0 with
   |none=>none
   |some y=>(match y with
    |.inl b=>some b
    |.inr _=>some true)))=some true:=by
 rw[Jp (by omega) step stop];simp
end M
