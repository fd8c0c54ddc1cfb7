/-
  PLAIN LEMMAS: numbers that stay in their kind, places in lists, loops that count up.
-/
import Derived.Test.YtdehjkmaaljlpaaGreatDoorXEdata
import Derived.IntWalk
set_option linter.unusedVariables false
namespace M
open Go.V (inB cF af bV)
def I64(n:Int):Prop:= -9223372036854775808<=n/\n<=9223372036854775807
theorem wrap_i64{n:Int}(h1: -9223372036854775808<=n)(h2:n<=9223372036854775807):Go.IntKind.wrap .i64 n=n:=Go.IntWalk.i64_in n (by omega)
@[simp] theorem bp (k n:Nat):inB (k:Int) n=decide (k<n):=by
  unfold inB;by_cases h:k<n<;>simp[h]
theorem getD_lt{α:Type}{l:List α}{k:Nat}(h:k<l.length)(z:α):l.getD k z=l[k]:=by
 rw[dG,ct h];rfl
@[simp] theorem aE2 (a b:Bool):(bif a then a else b)=(a||b):=by cases a<;>rfl
@[simp] theorem aE3 (a b:Bool):(bif a then b else a)=(a&&b):=by cases a<;>rfl
@[simp] theorem aE4 (a:Bool):(bif a then false else true)= !a:=by cases a<;>rfl
@[simp] theorem aE5 (a:Bool):(bif a then true else false)=a:=by cases a<;>rfl
theorem ajW{Y:Type}{F:Nat->Int->Option Y}{n:Nat}{res:Nat->Option Y}
 (step:∀f k,k<n->F f ((k+1:Nat):Int)=res (k+1)->F (f+1) (k:Int)=res k) (stop:∀f,F (f+1) (n:Int)=res n):
 ∀f k,k<=n->n-k<f->F f (k:Int)=res k
 |0,k,h1,h2=>by omega
 |f+1,k,h1,h2=>by
  rcases cA k n with hk|hk
  ·exact step f k hk (ajW step stop f (k+1) (by omega) (by omega))
  ·have:k=n:=by omega
   subst this;exact stop f
theorem A3{Y:Type}{F:Nat->Int->Option Y}{n:Nat}{res:Nat->Option Y}(hn:n<2^62)
 (step:∀f k,k<n->F f ((k+1:Nat):Int)=res (k+1)->F (f+1) (k:Int)=res k) (stop:∀f,F (f+1) (n:Int)=res n):F af 0=res 0:=
 ajW step stop af 0 (abo _) (by have:=bV;omega)
theorem fu{α:Type}{l:List α}{k:Nat}(h:k<l.length):l.drop k=l[k]::l.drop (k+1):=by
 rw[List.drop_eq_getElem_cons h]
theorem OG{α:Type}(p:α->Bool){l:List α}{k:Nat}(h:k<l.length):(l.drop k).all p=(p l[k]&&(l.drop (k+1)).all p):=by rw[fu h];rfl
theorem TK{α:Type}(p:α->Bool){l:List α}{k:Nat}(h:k<l.length):(l.drop k).any p=(p l[k]||(l.drop (k+1)).any p):=by rw[fu h];rfl
theorem cC{n:Nat}(h:n<=1048576):n<2^62:=by omega
theorem bw{k n:Nat}(h:k<n)(hn:n<2^62):Go.IntKind.wrap .i64 ((k:Int)+1)=((k+1:Nat):Int):=by
 rw[wrap_i64 (by omega) (by omega)];omega
theorem aCj{Y:Type}{F:Nat->Int->Option Y}{n:Nat}{y:Option Y}(hn:n<2^62)(step:∀f k,k<n->F (f+1) (k:Int)=F f ((k+1:Nat):Int))(stop:∀f,F (f+1) (n:Int)=y):F af 0=y:=
 A3 (res:=fun _=>y) hn (fun f k hk h=>by rw[step f k hk];exact h) stop
theorem m3{α:Type}{F:Nat->Int->List α->Option (List α)}(a:List α)(ha:a.length<2^62)(step:∀f k out,k<a.length->out.length=a.length->∀h:k<a.length,F (f+1) (k:Int) out=F f ((k+1:Nat):Int) (out.set k a[k]))
 (stop:∀f out,F (f+1) (a.length:Int) out=some out) (out:List α) (ho:out.length=a.length):F af 0 out=some a:=by
 have key:∀f k out,k<=a.length->a.length-k<f->out.length=a.length->F f (k:Int) out=some (out.take k++a.drop k):=by
  intro f
  induction f with
  |zero=>intro k out h1 h2;omega
  |succ f ih=>
   intro k out h1 h2 h3;rcases cA k a.length with hk|hk
   ·rw[step f k out hk h3 hk,ih (k+1) _ (by omega) (by omega) (by simpa using h3)];congr 1;rw[fu hk,ka,List.take_set_of_le (bY _)];simp[h3,hk]
   ·have:k=a.length:=by omega
    subst this;rw[stop,<-h3,iJ,h3,gP,K7]
 have:=key af 0 out (abo _) (by have:=bV;omega) ho;simpa using this
def az{α:Type}(f:α->Nat):List α->Nat
 |[]=>0
 |x::r=>f x+1+az f r
theorem cm{α:Type}(f:α->Nat):∀l:List α,l.length<=az f l
 |[]=>bY _
 |x::r=>by have:=cm f r;simp only[az,aO];omega
theorem dr{α:Type}(f:α->Nat):∀(l:List α)(x:α),x∈l->f x<=az f l
 |y::r,x,h=>by
  rcases fi.1 h with rfl|h
  ·simp only[az];omega
  ·have:=dr f r x h;simp only[az];omega
theorem wL{α:Type}(f:α->Nat):∀(l:List α)(x:α),x∈l->f x<az f l
 |y::r,x,h=>by
  rcases fi.1 h with rfl|h
  ·simp only[az];omega
  ·have:=wL f r x h;simp only[az];omega
def lx{α:Type}(f:α->Nat):List α->Nat
 |[]=>0
 |x::r=>f x+lx f r
theorem Qg{α:Type}(f:α->Nat):∀l:List α,az f l=l.length+lx f l
 |[]=>rfl
 |x::r=>by simp only[az,lx,aO,Qg f r];omega
theorem aCk{α:Type}{f:α->Nat}{F:Nat->Int->Int->Option (Int⊕Int)}(a:List α)(L:Int)(ha:a.length<2^62)
 (step:∀g k (l:Int),0<=l->l<=L->∀h:k<a.length,F (g+1) l (k:Int)=if(f a[k]:Int)<=l then F g (l-f a[k]) ((k+1:Nat):Int)else some (.inl (-1)))
 (stop:∀g l,F (g+1) l (a.length:Int)=some (.inr l)) (left:Int) (h0:0<=left) (h1:left<=L):F af left 0=some (if(lx f a:Int)<=left then .inr (left-lx f a)else .inl (-1)):=by
 have key:∀g k (left:Int),k<=a.length->a.length-k<g->0<=left->left<=L->F g left (k:Int)=some (if(lx f (a.drop k):Int)<=left then .inr (left-lx f (a.drop k))else .inl (-1)):=by
  intro g
  induction g with
  |zero=>intro k left h1 h2;omega
  |succ g ih=>
   intro k left h1 h2 h3 h4;rcases cA k a.length with hk|hk
   ·have e:lx f (a.drop k)=f a[k]+lx f (a.drop (k+1)):=by rw[fu hk];rfl
    rw[step g k left h3 h4 hk,e];by_cases hc:(f a[k]:Int)<=left
    ·rw[aE hc,ih (k+1) _ (by omega) (by omega) (by omega) (by omega)];congr 1;by_cases h5:(lx f (a.drop (k+1)):Int)<=left-f a[k]
     ·rw[aE h5,aE (by push_cast;omega)];congr 1;push_cast;omega
     ·rw[av h5,av (by push_cast;omega)]
    ·rw[av hc,av (by push_cast;omega)]
   ·have:k=a.length:=by omega
    subst this;rw[stop,gP];simp[lx,h3]
 have:=key af 0 left (abo _) (by have:=bV;omega) h0 h1;simpa using this
theorem pF{α:Type}{f:α->Nat}{F:Nat->Int->Int->Option (Int⊕Int)}(a:List α)(left:Int)(h0:0<=left)(h1:left<=1048576)
 (step:∀g k (l:Int),0<=l->l<=left-a.length->∀h:k<a.length,F (g+1) l (k:Int)=if(f a[k]:Int)<=l then F g (l-f a[k]) ((k+1:Nat):Int)else some (.inl (-1)))
 (stop:∀g l,F (g+1) l (a.length:Int)=some (.inr l)):(bif decide (left-(a.length:Int)<0)then some (-1)else(match F af (left-(a.length:Int)) 0 with
   |none=>none
   |some y=>(match y with
    |.inl b=>some b
    |.inr b=>some b)))=some (if(az f a:Int)<=left then left-az f a else -1):=by
 have e:=Qg f a;by_cases c:(a.length:Int)<=left
 ·have n:¬(left-(a.length:Int)<0):=by omega
  rw[aCk a (left-a.length) (by omega) step stop _ (by omega) (Int.le_refl _)];by_cases d:(lx f a:Int)<=left-a.length
  ·rw[aE (show(az f a:Int)<=left by omega)];simp only[n,j0,bN,aE d];congr 1;omega
  ·rw[av (show ¬(az f a:Int)<=left by omega)];simp only[n,j0,bN,av d]
 ·have n:left-(a.length:Int)<0:=by omega
  rw[av (show ¬(az f a:Int)<=left by omega)];simp only[n,bg,aA]
theorem ayX{α:Type}{f:α->Nat}(hf:∀x,f x=0)(a:List α)(left:Int)(h0:0<=left):(bif decide (left-(a.length:Int)<0)then some (-1)else some (left-(a.length:Int)))=some (if(az f a:Int)<=left then left-az f a else -1):=by
 have e:az f a=a.length:=by
  rw[Qg];have:∀l:List α,lx f l=0:=fun l=>by
   induction l with
   |nil=>rfl
   |cons x r ih=>simp only[lx,hf,ih]
  rw[this];omega
 rw[e];by_cases c:(a.length:Int)<=left
 ·have n:¬(left-(a.length:Int)<0):=by omega
  rw[aE c];simp only[n,j0,bN]
 ·have n:left-(a.length:Int)<0:=by omega
  rw[av c];simp only[n,bg,aA]
theorem m4{α:Type}{F:Nat->Int->Option (Bool⊕Unit)}(a:List α)(ha:a.length<=1048576)(step:∀f k,∀h:k<a.length,F (f+1) (k:Int)=F f ((k+1:Nat):Int))(stop:∀f,F (f+1) (a.length:Int)=some (.inr ())):
 (bif((a.length:Int) !=(a.length:Int))then some false else(match F af 0 with
   |none=>none
   |some y=>(match y with
    |.inl b=>some b
    |.inr _=>some true)))=some true:=by
 rw[aCj (by omega) step stop];simp
end M
