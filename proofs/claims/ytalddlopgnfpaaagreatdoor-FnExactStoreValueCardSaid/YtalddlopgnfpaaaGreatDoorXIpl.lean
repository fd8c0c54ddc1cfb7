/-
  PLAIN LEMMAS: numbers that stay in their kind, places in lists, loops that count up.
-/
import Derived.Test.YtalddlopgnfpaaaGreatDoorXIdata
import Derived.IntWalk
set_option linter.unusedVariables false
namespace M
open Go.V (inB bF ai cJ)
def I64(n:Int):Prop:= -9223372036854775808<=n/\n<=9223372036854775807
theorem wrap_i64{n:Int}(h1: -9223372036854775808<=n)(h2:n<=9223372036854775807):Go.IntKind.wrap .i64 n=n:=Go.IntWalk.i64_in n (by omega)
@[simp] theorem cD (k n:Nat):inB (k:Int) n=decide (k<n):=by
  unfold inB;by_cases h:k<n<;>simp[h]
theorem getD_lt{α:Type}{l:List α}{k:Nat}(h:k<l.length)(z:α):l.getD k z=l[k]:=by
 rw[fR,bI h];rfl
@[simp] theorem vb (a b:Bool):(bif a then a else b)=(a||b):=by cases a<;>rfl
@[simp] theorem aiG (a b:Bool):(bif a then b else a)=(a&&b):=by cases a<;>rfl
@[simp] theorem aiH (a:Bool):(bif a then false else true)= !a:=by cases a<;>rfl
@[simp] theorem aiI (a:Bool):(bif a then true else false)=a:=by cases a<;>rfl
theorem SX{Y:Type}{F:Nat->Int->Option Y}{n:Nat}{res:Nat->Option Y}
 (step:∀f k,k<n->F f ((k+1:Nat):Int)=res (k+1)->F (f+1) (k:Int)=res k) (stop:∀f,F (f+1) (n:Int)=res n):
 ∀f k,k<=n->n-k<f->F f (k:Int)=res k
 |0,k,h1,h2=>by omega
 |f+1,k,h1,h2=>by
  rcases du k n with hk|hk
  ·exact step f k hk (SX step stop f (k+1) (by omega) (by omega))
  ·have:k=n:=by omega
   subst this;exact stop f
theorem vg{Y:Type}{F:Nat->Int->Option Y}{n:Nat}{res:Nat->Option Y}(hn:n<2^62)
 (step:∀f k,k<n->F f ((k+1:Nat):Int)=res (k+1)->F (f+1) (k:Int)=res k) (stop:∀f,F (f+1) (n:Int)=res n):F ai 0=res 0:=
 SX step stop ai 0 (dM _) (by have:=cJ;omega)
theorem fe{α:Type}{l:List α}{k:Nat}(h:k<l.length):l.drop k=l[k]::l.drop (k+1):=by
 rw[List.drop_eq_getElem_cons h]
theorem afD{α:Type}(p:α->Bool){l:List α}{k:Nat}(h:k<l.length):(l.drop k).all p=(p l[k]&&(l.drop (k+1)).all p):=by rw[fe h];rfl
theorem gJ{n:Nat}(h:n<=1048576):n<2^62:=by omega
theorem cq{k n:Nat}(h:k<n)(hn:n<2^62):Go.IntKind.wrap .i64 ((k:Int)+1)=((k+1:Nat):Int):=by
 rw[wrap_i64 (by omega) (by omega)];omega
theorem Q7{Y:Type}{F:Nat->Int->Option Y}{n:Nat}{y:Option Y}(hn:n<2^62)(step:∀f k,k<n->F (f+1) (k:Int)=F f ((k+1:Nat):Int))(stop:∀f,F (f+1) (n:Int)=y):F ai 0=y:=
 vg (res:=fun _=>y) hn (fun f k hk h=>by rw[step f k hk];exact h) stop
theorem AK{α:Type}{F:Nat->Int->List α->Option (List α)}(a:List α)(ha:a.length<2^62)(step:∀f k out,k<a.length->out.length=a.length->∀h:k<a.length,F (f+1) (k:Int) out=F f ((k+1:Nat):Int) (out.set k a[k]))
 (stop:∀f out,F (f+1) (a.length:Int) out=some out) (out:List α) (ho:out.length=a.length):F ai 0 out=some a:=by
 have key:∀f k out,k<=a.length->a.length-k<f->out.length=a.length->F f (k:Int) out=some (out.take k++a.drop k):=by
  intro f
  induction f with
  |zero=>intro k out h1 h2;omega
  |succ f ih=>
   intro k out h1 h2 h3;rcases du k a.length with hk|hk
   ·rw[step f k out hk h3 hk,ih (k+1) _ (by omega) (by omega) (by simpa using h3)];congr 1;rw[fe hk,Gn,List.take_set_of_le (bn _)];simp[h3,hk]
   ·have:k=a.length:=by omega
    subst this;rw[stop,<-h3,sj,h3,j9,mV]
 have:=key ai 0 out (dM _) (by have:=cJ;omega) ho;simpa using this
def bc{α:Type}(f:α->Nat):List α->Nat
 |[]=>0
 |x::r=>f x+1+bc f r
theorem eR{α:Type}(f:α->Nat):∀l:List α,l.length<=bc f l
 |[]=>bn _
 |x::r=>by have:=eR f r;simp only[bc,bY];omega
theorem jg{α:Type}(f:α->Nat):∀(l:List α)(x:α),x∈l->f x<=bc f l
 |y::r,x,h=>by
  rcases dP.1 h with rfl|h
  ·simp only[bc];omega
  ·have:=jg f r x h;simp only[bc];omega
theorem om{α:Type}(f:α->Nat):∀(l:List α)(x:α),x∈l->f x<bc f l
 |y::r,x,h=>by
  rcases dP.1 h with rfl|h
  ·simp only[bc];omega
  ·have:=om f r x h;simp only[bc];omega
def jL{α:Type}(f:α->Nat):List α->Nat
 |[]=>0
 |x::r=>f x+jL f r
theorem G9{α:Type}(f:α->Nat):∀l:List α,bc f l=l.length+jL f l
 |[]=>rfl
 |x::r=>by simp only[bc,jL,bY,G9 f r];omega
theorem afE{α:Type}{f:α->Nat}{F:Nat->Int->Int->Option (Int⊕Int)}(a:List α)(L:Int)(ha:a.length<2^62)
 (step:∀g k (l:Int),0<=l->l<=L->∀h:k<a.length,F (g+1) l (k:Int)=if(f a[k]:Int)<=l then F g (l-f a[k]) ((k+1:Nat):Int)else some (.inl (-1)))
 (stop:∀g l,F (g+1) l (a.length:Int)=some (.inr l)) (left:Int) (h0:0<=left) (h1:left<=L):F ai left 0=some (if(jL f a:Int)<=left then .inr (left-jL f a)else .inl (-1)):=by
 have key:∀g k (left:Int),k<=a.length->a.length-k<g->0<=left->left<=L->F g left (k:Int)=some (if(jL f (a.drop k):Int)<=left then .inr (left-jL f (a.drop k))else .inl (-1)):=by
  intro g
  induction g with
  |zero=>intro k left h1 h2;omega
  |succ g ih=>
   intro k left h1 h2 h3 h4;rcases du k a.length with hk|hk
   ·have e:jL f (a.drop k)=f a[k]+jL f (a.drop (k+1)):=by rw[fe hk];rfl
    rw[step g k left h3 h4 hk,e];by_cases hc:(f a[k]:Int)<=left
    ·rw[bG hc,ih (k+1) _ (by omega) (by omega) (by omega) (by omega)];congr 1;by_cases h5:(jL f (a.drop (k+1)):Int)<=left-f a[k]
     ·rw[bG h5,bG (by push_cast;omega)];congr 1;push_cast;omega
     ·rw[bH h5,bH (by push_cast;omega)]
    ·rw[bH hc,bH (by push_cast;omega)]
   ·have:k=a.length:=by omega
    subst this;rw[stop,j9];simp[jL,h3]
 have:=key ai 0 left (dM _) (by have:=cJ;omega) h0 h1;simpa using this
theorem Ff{α:Type}{f:α->Nat}{F:Nat->Int->Int->Option (Int⊕Int)}(a:List α)(left:Int)(h0:0<=left)(h1:left<=1048576)
 (step:∀g k (l:Int),0<=l->l<=left-a.length->∀h:k<a.length,F (g+1) l (k:Int)=if(f a[k]:Int)<=l then F g (l-f a[k]) ((k+1:Nat):Int)else some (.inl (-1)))
 (stop:∀g l,F (g+1) l (a.length:Int)=some (.inr l)):(bif decide (left-(a.length:Int)<0)then some (-1)else(match F ai (left-(a.length:Int)) 0 with
   |none=>none
   |some y=>(match y with
    |.inl b=>some b
    |.inr b=>some b)))=some (if(bc f a:Int)<=left then left-bc f a else -1):=by
 have e:=G9 f a;by_cases c:(a.length:Int)<=left
 ·have n:¬(left-(a.length:Int)<0):=by omega
  rw[afE a (left-a.length) (by omega) step stop _ (by omega) (Int.le_refl _)];by_cases d:(jL f a:Int)<=left-a.length
  ·rw[bG (show(bc f a:Int)<=left by omega)];simp only[n,Bt,aW,bG d];congr 1;omega
  ·rw[bH (show ¬(bc f a:Int)<=left by omega)];simp only[n,Bt,aW,bH d]
 ·have n:left-(a.length:Int)<0:=by omega
  rw[bH (show ¬(bc f a:Int)<=left by omega)];simp only[n,gQ,cE]
theorem ab3{α:Type}{f:α->Nat}(hf:∀x,f x=0)(a:List α)(left:Int)(h0:0<=left):(bif decide (left-(a.length:Int)<0)then some (-1)else some (left-(a.length:Int)))=some (if(bc f a:Int)<=left then left-bc f a else -1):=by
 have e:bc f a=a.length:=by
  rw[G9];have:∀l:List α,jL f l=0:=fun l=>by
   induction l with
   |nil=>rfl
   |cons x r ih=>simp only[jL,hf,ih]
  rw[this];omega
 rw[e];by_cases c:(a.length:Int)<=left
 ·have n:¬(left-(a.length:Int)<0):=by omega
  rw[bG c];simp only[n,Bt,aW]
 ·have n:left-(a.length:Int)<0:=by omega
  rw[bH c];simp only[n,gQ,cE]
theorem AL{α:Type}{F:Nat->Int->Option (Bool⊕Unit)}(a:List α)(ha:a.length<=1048576)(step:∀f k,∀h:k<a.length,F (f+1) (k:Int)=F f ((k+1:Nat):Int))(stop:∀f,F (f+1) (a.length:Int)=some (.inr ())):
 (bif((a.length:Int) !=(a.length:Int))then some false else(match F ai 0 with
   |none=>none
   |some y=>(match y with
    |.inl b=>some b
    |.inr _=>some true)))=some true:=by
 rw[Q7 (by omega) step stop];simp
end M
