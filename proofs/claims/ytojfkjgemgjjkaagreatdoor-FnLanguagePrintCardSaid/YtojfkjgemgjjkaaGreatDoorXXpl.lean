/-
  PLAIN LEMMAS: numbers that stay in their kind, places in lists, loops that count up.
-/
import Derived.Test.YtojfkjgemgjjkaaGreatDoorXXdata
import Derived.IntWalk
set_option linter.unusedVariables false
namespace M
open Go.V (inB bS ae bf)
def I64(n:Int):Prop:= -9223372036854775808<=n/\n<=9223372036854775807
theorem wrap_i64{n:Int}(h1: -9223372036854775808<=n)(h2:n<=9223372036854775807):Go.IntKind.wrap .i64 n=n:=Go.IntWalk.i64_in n (by omega)
@[simp] theorem cZ (k n:Nat):inB (k:Int) n=decide (k<n):=by
  unfold inB;by_cases h:k<n<;>simp[h]
theorem getD_lt{α:Type}{l:List α}{k:Nat}(h:k<l.length)(z:α):l.getD k z=l[k]:=by
 rw[gK,cH h];rfl
@[simp] theorem ap8 (a b:Bool):(bif a then a else b)=(a||b):=by cases a<;>rfl
@[simp] theorem ap9 (a b:Bool):(bif a then b else a)=(a&&b):=by cases a<;>rfl
@[simp] theorem aqa (a:Bool):(bif a then false else true)= !a:=by cases a<;>rfl
@[simp] theorem aqb (a:Bool):(bif a then true else false)=a:=by cases a<;>rfl
theorem Ur{Y:Type}{F:Nat->Int->Option Y}{n:Nat}{res:Nat->Option Y}
 (step:∀f k,k<n->F f ((k+1:Nat):Int)=res (k+1)->F (f+1) (k:Int)=res k) (stop:∀f,F (f+1) (n:Int)=res n):
 ∀f k,k<=n->n-k<f->F f (k:Int)=res k
 |0,k,h1,h2=>by omega
 |f+1,k,h1,h2=>by
  rcases cQ k n with hk|hk
  ·exact step f k hk (Ur step stop f (k+1) (by omega) (by omega))
  ·have:k=n:=by omega
   subst this;exact stop f
theorem ME{Y:Type}{F:Nat->Int->Option Y}{n:Nat}{res:Nat->Option Y}(hn:n<2^62)
 (step:∀f k,k<n->F f ((k+1:Nat):Int)=res (k+1)->F (f+1) (k:Int)=res k) (stop:∀f,F (f+1) (n:Int)=res n):F ae 0=res 0:=
 Ur step stop ae 0 (cM _) (by have:=bf;omega)
theorem xR{α:Type}{l:List α}{k:Nat}(h:k<l.length):l.drop k=l[k]::l.drop (k+1):=by
 rw[List.drop_eq_getElem_cons h]
theorem iO{n:Nat}(h:n<=1048576):n<2^62:=by omega
theorem da{k n:Nat}(h:k<n)(hn:n<2^62):Go.IntKind.wrap .i64 ((k:Int)+1)=((k+1:Nat):Int):=by
 rw[wrap_i64 (by omega) (by omega)];omega
def bH{α:Type}(f:α->Nat):List α->Nat
 |[]=>0
 |x::r=>f x+1+bH f r
theorem d6{α:Type}(f:α->Nat):∀l:List α,l.length<=bH f l
 |[]=>cu _
 |x::r=>by have:=d6 f r;simp only[bH,aC];omega
theorem gA{α:Type}(f:α->Nat):∀(l:List α)(x:α),x∈l->f x<=bH f l
 |y::r,x,h=>by
  rcases eY.1 h with rfl|h
  ·simp only[bH];omega
  ·have:=gA f r x h;simp only[bH];omega
theorem RV{α:Type}(f:α->Nat):∀(l:List α)(x:α),x∈l->f x<bH f l
 |y::r,x,h=>by
  rcases eY.1 h with rfl|h
  ·simp only[bH];omega
  ·have:=RV f r x h;simp only[bH];omega
def suL{α:Type}(f:α->Nat):List α->Nat
 |[]=>0
 |x::r=>f x+suL f r
end M
