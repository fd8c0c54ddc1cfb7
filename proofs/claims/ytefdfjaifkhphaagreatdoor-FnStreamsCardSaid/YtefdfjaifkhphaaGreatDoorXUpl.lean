/-
  PLAIN LEMMAS: numbers that stay in their kind, places in lists, loops that count up.
-/
import Derived.Test.YtefdfjaifkhphaaGreatDoorXUdata
import Derived.IntWalk
set_option linter.unusedVariables false
namespace M
open Go.V (inB qg aP bG)
def I64 (n:Int):Prop:= -9223372036854775808<=n /\ n<=9223372036854775807
theorem wrap_i64 {n:Int} (h1: -9223372036854775808<=n) (h2:n<=9223372036854775807):Go.IntKind.wrap .i64 n=n:=Go.IntWalk.i64_in n (by omega)
@[simp] theorem dM (k n:Nat):inB (k:Int) n=decide (k<n):=by
  unfold inB
  by_cases h:k<n<;>simp[h]
theorem getD_lt {α:Type} {l:List α} {k:Nat} (h:k<l.length) (z:α):l.getD k z=l[k]:=by
 rw[List.getD_eq_getElem?_getD,List.getElem?_eq_getElem h];rfl
@[simp] theorem afA (a b:Bool):(bif a then a else b)=(a||b):=by cases a<;>rfl
@[simp] theorem ae3 (a b:Bool):(bif a then b else a)=(a&&b):=by cases a<;>rfl
@[simp] theorem aid (a:Bool):(bif a then false else true)= !a:=by cases a<;>rfl
@[simp] theorem aie (a:Bool):(bif a then true else false)=a:=by cases a<;>rfl
theorem acd {Y:Type} {F:Nat->Int->Option Y} {n:Nat} {res:Nat->Option Y}
 (step:∀f k,k<n->F f ((k+1:Nat):Int)=res (k+1)->F (f+1) (k:Int)=res k) (stop:∀f,F (f+1) (n:Int)=res n):
 ∀f k,k<=n->n-k<f->F f (k:Int)=res k
 |0,k,h1,h2=>by omega
 |f+1,k,h1,h2=>by
  rcases Nat.lt_or_ge k n with hk |hk
  ·exact step f k hk (acd step stop f (k+1) (by omega) (by omega))
  ·have:k=n:=by omega
   subst this;exact stop f
theorem U2 {Y:Type} {F:Nat->Int->Option Y} {n:Nat} {res:Nat->Option Y} (hn:n<2^62)
 (step:∀f k,k<n->F f ((k+1:Nat):Int)=res (k+1)->F (f+1) (k:Int)=res k) (stop:∀f,F (f+1) (n:Int)=res n):F aP 0=res 0:=
 acd step stop aP 0 (Nat.zero_le _) (by have:=bG;omega)
theorem Dt {α:Type} {l:List α} {k:Nat} (h:k<l.length):l.drop k=l[k]::l.drop (k+1):=by
 rw[List.drop_eq_getElem_cons h]
theorem aem {α:Type} (p:α->Bool) {l:List α} {k:Nat} (h:k<l.length):(l.drop k).all p=(p l[k]&&(l.drop (k+1)).all p):=by rw[Dt h];rfl
theorem Cm {n:Nat} (h:n<=1048576):n<2^62:=by omega
theorem nM {k n:Nat} (h:k<n) (hn:n<2^62):Go.IntKind.wrap .i64 ((k:Int)+1)=((k+1:Nat):Int):=by
 rw[wrap_i64 (by omega) (by omega)];omega
def lI {α:Type} (f:α->Nat):List α->Nat
 | []=>0
 |x::r=>f x+1+lI f r
theorem lC {α:Type} (f:α->Nat):∀l:List α,l.length<=lI f l
 | []=>Nat.le_refl _
 |x::r=>by have:=lC f r;simp only[lI,List.length_cons];omega
theorem zA {α:Type} (f:α->Nat):∀(l:List α) (x:α),x∈l->f x<=lI f l
 |y::r,x,h=>by
  rcases List.mem_cons.1 h with rfl |h
  ·simp only[lI];omega
  ·have:=zA f r x h;simp only[lI];omega
theorem Jk {α:Type} (f:α->Nat):∀(l:List α) (x:α),x∈l->f x<lI f l
 |y::r,x,h=>by
  rcases List.mem_cons.1 h with rfl |h
  ·simp only[lI];omega
  ·have:=Jk f r x h;simp only[lI];omega
def suL {α:Type} (f:α->Nat):List α->Nat
 | []=>0
 |x::r=>f x+suL f r
end M
