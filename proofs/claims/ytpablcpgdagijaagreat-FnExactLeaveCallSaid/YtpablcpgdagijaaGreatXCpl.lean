/-
  PLAIN LEMMAS: numbers that stay in their kind, places in lists, loops that count up.
-/
import Derived.Test.YtpablcpgdagijaaGreatXCdata
import Derived.IntWalk
set_option linter.unusedVariables false
namespace M
open Go.V (inB bV ak b9)
def I64(n:Int):Prop:= -9223372036854775808<=n/\n<=9223372036854775807
theorem wrap_i64{n:Int}(h1: -9223372036854775808<=n)(h2:n<=9223372036854775807):Go.IntKind.wrap .i64 n=n:=Go.IntWalk.i64_in n (by omega)
@[simp] theorem bF (k n:Nat):inB (k:Int) n=decide (k<n):=by
  unfold inB;by_cases h:k<n<;>simp[h]
theorem getD_lt{α:Type}{l:List α}{k:Nat}(h:k<l.length)(z:α):l.getD k z=l[k]:=by
 rw[List.getD_eq_getElem?_getD,List.getElem?_eq_getElem h];rfl
@[simp] theorem adL (a b:Bool):(bif a then a else b)=(a||b):=by cases a<;>rfl
@[simp] theorem adM (a b:Bool):(bif a then b else a)=(a&&b):=by cases a<;>rfl
@[simp] theorem adN (a:Bool):(bif a then false else true)= !a:=by cases a<;>rfl
@[simp] theorem adO (a:Bool):(bif a then true else false)=a:=by cases a<;>rfl
theorem Fe{Y:Type}{F:Nat->Int->Option Y}{n:Nat}{res:Nat->Option Y}
 (step:∀f k,k<n->F f ((k+1:Nat):Int)=res (k+1)->F (f+1) (k:Int)=res k) (stop:∀f,F (f+1) (n:Int)=res n):
 ∀f k,k<=n->n-k<f->F f (k:Int)=res k
 |0,k,h1,h2=>by omega
 |f+1,k,h1,h2=>by
  rcases Nat.lt_or_ge k n with hk|hk
  ·exact step f k hk (Fe step stop f (k+1) (by omega) (by omega))
  ·have:k=n:=by omega
   subst this;exact stop f
theorem uS{Y:Type}{F:Nat->Int->Option Y}{n:Nat}{res:Nat->Option Y}(hn:n<2^62)
 (step:∀f k,k<n->F f ((k+1:Nat):Int)=res (k+1)->F (f+1) (k:Int)=res k) (stop:∀f,F (f+1) (n:Int)=res n):F ak 0=res 0:=
 Fe step stop ak 0 (Nat.zero_le _) (by have:=b9;omega)
theorem cm{α:Type}{l:List α}{k:Nat}(h:k<l.length):l.drop k=l[k]::l.drop (k+1):=by
 rw[List.drop_eq_getElem_cons h]
theorem QU{α:Type}(p:α->Bool){l:List α}{k:Nat}(h:k<l.length):(l.drop k).all p=(p l[k]&&(l.drop (k+1)).all p):=by rw[cm h];rfl
theorem dw{n:Nat}(h:n<=1048576):n<2^62:=by omega
theorem bn{k n:Nat}(h:k<n)(hn:n<2^62):Go.IntKind.wrap .i64 ((k:Int)+1)=((k+1:Nat):Int):=by
 rw[wrap_i64 (by omega) (by omega)];omega
theorem QV{Y:Type}{F:Nat->Int->Option Y}{n:Nat}{y:Option Y}(hn:n<2^62)(step:∀f k,k<n->F (f+1) (k:Int)=F f ((k+1:Nat):Int))(stop:∀f,F (f+1) (n:Int)=y):F ak 0=y:=
 uS (res:=fun _=>y) hn (fun f k hk h=>by rw[step f k hk];exact h) stop
theorem oy{α:Type}{F:Nat->Int->List α->Option (List α)}(a:List α)(ha:a.length<2^62)(step:∀f k out,k<a.length->out.length=a.length->∀h:k<a.length,F (f+1) (k:Int) out=F f ((k+1:Nat):Int) (out.set k a[k]))
 (stop:∀f out,F (f+1) (a.length:Int) out=some out) (out:List α) (ho:out.length=a.length):F ak 0 out=some a:=by
 have key:∀f k out,k<=a.length->a.length-k<f->out.length=a.length->F f (k:Int) out=some (out.take k++a.drop k):=by
  intro f
  induction f with
  |zero=>intro k out h1 h2;omega
  |succ f ih=>
   intro k out h1 h2 h3;rcases Nat.lt_or_ge k a.length with hk|hk
   ·rw[step f k out hk h3 hk,ih (k+1) _ (by omega) (by omega) (by simpa using h3)];congr 1;rw[cm hk,List.take_add_one,List.take_set_of_le (Nat.le_refl _)];simp[h3,hk]
   ·have:k=a.length:=by omega
    subst this;rw[stop,<-h3,List.take_length,h3,List.drop_length,List.append_nil]
 have:=key ak 0 out (Nat.zero_le _) (by have:=b9;omega) ho;simpa using this
def aH{α:Type}(f:α->Nat):List α->Nat
 |[]=>0
 |x::r=>f x+1+aH f r
theorem cw{α:Type}(f:α->Nat):∀l:List α,l.length<=aH f l
 |[]=>Nat.le_refl _
 |x::r=>by have:=cw f r;simp only[aH,List.length_cons];omega
theorem dC{α:Type}(f:α->Nat):∀(l:List α)(x:α),x∈l->f x<=aH f l
 |y::r,x,h=>by
  rcases List.mem_cons.1 h with rfl|h
  ·simp only[aH];omega
  ·have:=dC f r x h;simp only[aH];omega
def fC{α:Type}(f:α->Nat):List α->Nat
 |[]=>0
 |x::r=>f x+fC f r
theorem yp{α:Type}(f:α->Nat):∀l:List α,aH f l=l.length+fC f l
 |[]=>rfl
 |x::r=>by simp only[aH,fC,List.length_cons,yp f r];omega
theorem QW{α:Type}{f:α->Nat}{F:Nat->Int->Int->Option (Int⊕Int)}(a:List α)(L:Int)(ha:a.length<2^62)
 (step:∀g k (l:Int),0<=l->l<=L->∀h:k<a.length,F (g+1) l (k:Int)=if(f a[k]:Int)<=l then F g (l-f a[k]) ((k+1:Nat):Int)else some (.inl (-1)))
 (stop:∀g l,F (g+1) l (a.length:Int)=some (.inr l)) (left:Int) (h0:0<=left) (h1:left<=L):F ak left 0=some (if(fC f a:Int)<=left then .inr (left-fC f a)else .inl (-1)):=by
 have key:∀g k (left:Int),k<=a.length->a.length-k<g->0<=left->left<=L->F g left (k:Int)=some (if(fC f (a.drop k):Int)<=left then .inr (left-fC f (a.drop k))else .inl (-1)):=by
  intro g
  induction g with
  |zero=>intro k left h1 h2;omega
  |succ g ih=>
   intro k left h1 h2 h3 h4;rcases Nat.lt_or_ge k a.length with hk|hk
   ·have e:fC f (a.drop k)=f a[k]+fC f (a.drop (k+1)):=by rw[cm hk];rfl
    rw[step g k left h3 h4 hk,e];by_cases hc:(f a[k]:Int)<=left
    ·rw[if_pos hc,ih (k+1) _ (by omega) (by omega) (by omega) (by omega)];congr 1;by_cases h5:(fC f (a.drop (k+1)):Int)<=left-f a[k]
     ·rw[if_pos h5,if_pos (by push_cast;omega)];congr 1;push_cast;omega
     ·rw[if_neg h5,if_neg (by push_cast;omega)]
    ·rw[if_neg hc,if_neg (by push_cast;omega)]
   ·have:k=a.length:=by omega
    subst this;rw[stop,List.drop_length];simp[fC,h3]
 have:=key ak 0 left (Nat.zero_le _) (by have:=b9;omega) h0 h1;simpa using this
theorem Ff{α:Type}{f:α->Nat}{F:Nat->Int->Int->Option (Int⊕Int)}(a:List α)(left:Int)(h0:0<=left)(h1:left<=1048576)
 (step:∀g k (l:Int),0<=l->l<=left-a.length->∀h:k<a.length,F (g+1) l (k:Int)=if(f a[k]:Int)<=l then F g (l-f a[k]) ((k+1:Nat):Int)else some (.inl (-1)))
 (stop:∀g l,F (g+1) l (a.length:Int)=some (.inr l)):(bif decide (left-(a.length:Int)<0)then some (-1)else(match F ak (left-(a.length:Int)) 0 with
   |none=>none
   |some y=>(match y with
    |.inl b=>some b
    |.inr b=>some b)))=some (if(aH f a:Int)<=left then left-aH f a else -1):=by
 have e:=yp f a;by_cases c:(a.length:Int)<=left
 ·have n:¬(left-(a.length:Int)<0):=by omega
  rw[QW a (left-a.length) (by omega) step stop _ (by omega) (Int.le_refl _)];by_cases d:(fC f a:Int)<=left-a.length
  ·rw[if_pos (show(aH f a:Int)<=left by omega)];simp only[n,decide_false,cond_false,if_pos d];congr 1;omega
  ·rw[if_neg (show ¬(aH f a:Int)<=left by omega)];simp only[n,decide_false,cond_false,if_neg d]
 ·have n:left-(a.length:Int)<0:=by omega
  rw[if_neg (show ¬(aH f a:Int)<=left by omega)];simp only[n,decide_true,cond_true]
theorem uT{α:Type}{f:α->Nat}(hf:∀x,f x=0)(a:List α)(left:Int)(h0:0<=left):(bif decide (left-(a.length:Int)<0)then some (-1)else some (left-(a.length:Int)))=some (if(aH f a:Int)<=left then left-aH f a else -1):=by
 have e:aH f a=a.length:=by
  rw[yp];have:∀l:List α,fC f l=0:=fun l=>by
   induction l with
   |nil=>rfl
   |cons x r ih=>simp only[fC,hf,ih]
  rw[this];omega
 rw[e];by_cases c:(a.length:Int)<=left
 ·have n:¬(left-(a.length:Int)<0):=by omega
  rw[if_pos c];simp only[n,decide_false,cond_false]
 ·have n:left-(a.length:Int)<0:=by omega
  rw[if_neg c];simp only[n,decide_true,cond_true]
theorem oz{α:Type}{F:Nat->Int->Option (Bool⊕Unit)}(a:List α)(ha:a.length<=1048576)(step:∀f k,∀h:k<a.length,F (f+1) (k:Int)=F f ((k+1:Nat):Int))(stop:∀f,F (f+1) (a.length:Int)=some (.inr ())):
 (bif((a.length:Int) !=(a.length:Int))then some false else(match F ak 0 with
   |none=>none
   |some y=>(match y with
    |.inl b=>some b
    |.inr _=>some true)))=some true:=by
 rw[QV (by omega) step stop];simp
end M
