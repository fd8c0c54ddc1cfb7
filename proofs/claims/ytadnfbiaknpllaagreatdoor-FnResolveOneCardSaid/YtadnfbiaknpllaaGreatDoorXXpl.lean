/-
  PLAIN LEMMAS: numbers that stay in their kind, places in lists, loops that count up.
-/
import Derived.Test.YtadnfbiaknpllaaGreatDoorXXdata
import Derived.IntWalk
set_option linter.unusedVariables false
namespace M
open Go.V (inB bN ae aZ)
def I64(n:Int):Prop:= -9223372036854775808<=n/\n<=9223372036854775807
theorem wrap_i64{n:Int}(h1: -9223372036854775808<=n)(h2:n<=9223372036854775807):Go.IntKind.wrap .i64 n=n:=Go.IntWalk.i64_in n (by omega)
@[simp] theorem db (k n:Nat):inB (k:Int) n=decide (k<n):=by
  unfold inB;by_cases h:k<n<;>simp[h]
theorem getD_lt{α:Type}{l:List α}{k:Nat}(h:k<l.length)(z:α):l.getD k z=l[k]:=by
 rw[gp,cJ h];rfl
@[simp] theorem arS (a b:Bool):(bif a then a else b)=(a||b):=by cases a<;>rfl
@[simp] theorem arT (a b:Bool):(bif a then b else a)=(a&&b):=by cases a<;>rfl
@[simp] theorem arU (a:Bool):(bif a then false else true)= !a:=by cases a<;>rfl
@[simp] theorem arV (a:Bool):(bif a then true else false)=a:=by cases a<;>rfl
theorem U4{Y:Type}{F:Nat->Int->Option Y}{n:Nat}{res:Nat->Option Y}
 (step:∀f k,k<n->F f ((k+1:Nat):Int)=res (k+1)->F (f+1) (k:Int)=res k) (stop:∀f,F (f+1) (n:Int)=res n):
 ∀f k,k<=n->n-k<f->F f (k:Int)=res k
 |0,k,h1,h2=>by omega
 |f+1,k,h1,h2=>by
  rcases cU k n with hk|hk
  ·exact step f k hk (U4 step stop f (k+1) (by omega) (by omega))
  ·have:k=n:=by omega
   subst this;exact stop f
theorem Nb{Y:Type}{F:Nat->Int->Option Y}{n:Nat}{res:Nat->Option Y}(hn:n<2^62)
 (step:∀f k,k<n->F f ((k+1:Nat):Int)=res (k+1)->F (f+1) (k:Int)=res k) (stop:∀f,F (f+1) (n:Int)=res n):F ae 0=res 0:=
 U4 step stop ae 0 (cN _) (by have:=aZ;omega)
theorem x8{α:Type}{l:List α}{k:Nat}(h:k<l.length):l.drop k=l[k]::l.drop (k+1):=by
 rw[List.drop_eq_getElem_cons h]
theorem iJ{n:Nat}(h:n<=1048576):n<2^62:=by omega
theorem cT{k n:Nat}(h:k<n)(hn:n<2^62):Go.IntKind.wrap .i64 ((k:Int)+1)=((k+1:Nat):Int):=by
 rw[wrap_i64 (by omega) (by omega)];omega
def bJ{α:Type}(f:α->Nat):List α->Nat
 |[]=>0
 |x::r=>f x+1+bJ f r
theorem d3{α:Type}(f:α->Nat):∀l:List α,l.length<=bJ f l
 |[]=>cq _
 |x::r=>by have:=d3 f r;simp only[bJ,aE];omega
theorem gk{α:Type}(f:α->Nat):∀(l:List α)(x:α),x∈l->f x<=bJ f l
 |y::r,x,h=>by
  rcases fe.1 h with rfl|h
  ·simp only[bJ];omega
  ·have:=gk f r x h;simp only[bJ];omega
theorem SY{α:Type}(f:α->Nat):∀(l:List α)(x:α),x∈l->f x<bJ f l
 |y::r,x,h=>by
  rcases fe.1 h with rfl|h
  ·simp only[bJ];omega
  ·have:=SY f r x h;simp only[bJ];omega
def suL{α:Type}(f:α->Nat):List α->Nat
 |[]=>0
 |x::r=>f x+suL f r
end M
