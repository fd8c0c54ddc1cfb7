/-
  PLAIN LEMMAS: numbers that stay in their kind, places in lists, loops that count up.
-/
import Derived.Test.YtfeedngnaochdaaGreatDoorXXdata
import Derived.IntWalk
set_option linter.unusedVariables false
namespace M
open Go.V (inB bT ai bB)
def I64(n:Int):Prop:= -9223372036854775808<=n/\n<=9223372036854775807
theorem wrap_i64{n:Int}(h1: -9223372036854775808<=n)(h2:n<=9223372036854775807):Go.IntKind.wrap .i64 n=n:=Go.IntWalk.i64_in n (by omega)
@[simp] theorem dK (k n:Nat):inB (k:Int) n=decide (k<n):=by
  unfold inB;by_cases h:k<n<;>simp[h]
theorem getD_lt{α:Type}{l:List α}{k:Nat}(h:k<l.length)(z:α):l.getD k z=l[k]:=by
 rw[fB,bY h];rfl
@[simp] theorem ahK (a b:Bool):(bif a then a else b)=(a||b):=by cases a<;>rfl
@[simp] theorem ahL (a b:Bool):(bif a then b else a)=(a&&b):=by cases a<;>rfl
@[simp] theorem ahM (a:Bool):(bif a then false else true)= !a:=by cases a<;>rfl
@[simp] theorem ahN (a:Bool):(bif a then true else false)=a:=by cases a<;>rfl
theorem NG{Y:Type}{F:Nat->Int->Option Y}{n:Nat}{res:Nat->Option Y}
 (step:∀f k,k<n->F f ((k+1:Nat):Int)=res (k+1)->F (f+1) (k:Int)=res k) (stop:∀f,F (f+1) (n:Int)=res n):
 ∀f k,k<=n->n-k<f->F f (k:Int)=res k
 |0,k,h1,h2=>by omega
 |f+1,k,h1,h2=>by
  rcases cV k n with hk|hk
  ·exact step f k hk (NG step stop f (k+1) (by omega) (by omega))
  ·have:k=n:=by omega
   subst this;exact stop f
theorem HC{Y:Type}{F:Nat->Int->Option Y}{n:Nat}{res:Nat->Option Y}(hn:n<2^62)
 (step:∀f k,k<n->F f ((k+1:Nat):Int)=res (k+1)->F (f+1) (k:Int)=res k) (stop:∀f,F (f+1) (n:Int)=res n):F ai 0=res 0:=
 NG step stop ai 0 (eY _) (by have:=bB;omega)
theorem gq{α:Type}{l:List α}{k:Nat}(h:k<l.length):l.drop k=l[k]::l.drop (k+1):=by
 rw[List.drop_eq_getElem_cons h]
theorem fc{n:Nat}(h:n<=1048576):n<2^62:=by omega
theorem dB{k n:Nat}(h:k<n)(hn:n<2^62):Go.IntKind.wrap .i64 ((k:Int)+1)=((k+1:Nat):Int):=by
 rw[wrap_i64 (by omega) (by omega)];omega
theorem abQ{Y:Type}{F:Nat->Int->Option Y}{n:Nat}{y:Option Y}(hn:n<2^62)(step:∀f k,k<n->F (f+1) (k:Int)=F f ((k+1:Nat):Int))(stop:∀f,F (f+1) (n:Int)=y):F ai 0=y:=
 HC (res:=fun _=>y) hn (fun f k hk h=>by rw[step f k hk];exact h) stop
def aV{α:Type}(f:α->Nat):List α->Nat
 |[]=>0
 |x::r=>f x+1+aV f r
theorem de{α:Type}(f:α->Nat):∀l:List α,l.length<=aV f l
 |[]=>bH _
 |x::r=>by have:=de f r;simp only[aV,dH];omega
theorem gh{α:Type}(f:α->Nat):∀(l:List α)(x:α),x∈l->f x<=aV f l
 |y::r,x,h=>by
  rcases fW.1 h with rfl|h
  ·simp only[aV];omega
  ·have:=gh f r x h;simp only[aV];omega
theorem Bq{α:Type}(f:α->Nat):∀(l:List α)(x:α),x∈l->f x<aV f l
 |y::r,x,h=>by
  rcases fW.1 h with rfl|h
  ·simp only[aV];omega
  ·have:=Bq f r x h;simp only[aV];omega
def suL{α:Type}(f:α->Nat):List α->Nat
 |[]=>0
 |x::r=>f x+suL f r
theorem qV{α:Type}{F:Nat->Int->Option (Bool⊕Unit)}(a:List α)(ha:a.length<=1048576)(step:∀f k,∀h:k<a.length,F (f+1) (k:Int)=F f ((k+1:Nat):Int))(stop:∀f,F (f+1) (a.length:Int)=some (.inr ())):
 (bif((a.length:Int) !=(a.length:Int))then some false else(match F ai 0 with
   |none=>none
   |some y=>(match y with
    |.inl b=>some b
    |.inr _=>some true)))=some true:=by
 rw[abQ (by omega) step stop];simp
end M
