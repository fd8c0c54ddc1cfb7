/-
  RUNNING NUMBERS in plain Lean: a list whose elements are marked one behind the other.
-/
import Derived.Test.YtjlkjnhhpmoenaaGreatDoorXQpl4
set_option linter.unusedVariables false
namespace M
open Go.V (inB xH aG bZ)
def bP {α:Type} (mk:Int->α->Int×α):Int->List α->Int×List α
 |k,[]=>(k,[])
 |k,x::r=>((bP mk (mk k x).1 r).1,(mk k x).2::(bP mk (mk k x).1 r).2)
theorem qw {α:Type} (mk:Int->α->Int×α):∀(k:Int) (l:List α),(bP mk k l).2.length=l.length
 |k,[]=>rfl
 |k,x::r=>by simp[bP,qw mk _ r]
theorem XQ {α:Type} {l:List α} {i:Nat} (h:i<l.length) (x d:α):(l.set i x).getD i d=x:=by
 rw[List.getD_eq_getElem?_getD,List.getElem?_set_self h];rfl
theorem Np {α:Type} {F:Nat->Int->Int->List α->Option (Int×List α)} {mk:Int->α->Int×α} (a:List α) (ha:a.length<=1048576) (I:Nat->Int->Prop) (d:α)
 (step:∀f k i (l:List α),∀h:i<a.length,i<l.length->l.getD i d=a[i]->I i k->F (f+1) k (i:Int) l=F f (mk k a[i]).1 ((i+1:Nat):Int) (l.set i (mk k a[i]).2) /\ I (i+1) (mk k a[i]).1)
 (stop:∀f k (l:List α),l.length=a.length->F (f+1) k (a.length:Int) l=some (k,l)) (k0:Int) (h0:I 0 k0):F aG k0 0 a=some (bP mk k0 a):=by
 have key:∀f i k (l:List α),i<=a.length->a.length-i<f->l.length=a.length->(∀j,i<=j->l[j]? =a[j]?)->I i k->F f k (i:Int) l=some ((bP mk k (a.drop i)).1,l.take i++(bP mk k (a.drop i)).2):=by
  intro f
  induction f with
  |zero=>intro i k l h1 h2;omega
  |succ f ih=>
   intro i k l h1 h2 hl hj hI
   rcases Nat.lt_or_ge i a.length with hi |hi
   ·have hg:l.getD i d=a[i]:=by rw[List.getD_eq_getElem?_getD,hj i (Nat.le_refl _),List.getElem?_eq_getElem hi];rfl
    obtain ⟨e,hI'⟩:=step f k i l hi (by omega) hg hI
    rw[e,ih (i+1) _ _ (by omega) (by omega) (by simpa using hl) (fun j hj'=>by rw[List.getElem?_set,if_neg (by omega)];exact hj j (by omega)) hI',jS hi]
    simp only[bP]
    congr 2
    rw[List.take_add_one,List.getElem?_set_self (by omega),List.take_set_of_le (Nat.le_refl _)]
    simp
   ·have:i=a.length:=by omega
    subst this;rw[stop f k l hl,List.drop_length,<-hl,List.take_length];simp[bP]
 have:=key aG 0 k0 a (Nat.zero_le _) (by have:=bZ;omega) rfl (fun _ _=>rfl) h0
 simpa using this
theorem TU {α E:Type} {F:Nat->Int->Int->Option (Int⊕E)} {mk:Int->α->Int×α} {fin:Int->E} (a:List α) (ha:a.length<=1048576) (I:Nat->Int->Prop) (d:α) (k0:Int) (h0:I 0 k0)
 (step:∀f k i (y:α),∀h:i<a.length,((bP mk k0 a).2).getD i d=y->y=(mk k a[i]).2->I i k->F (f+1) k (i:Int)=F f (mk k a[i]).1 ((i+1:Nat):Int) /\ I (i+1) (mk k a[i]).1)
 (stop:∀f k,F (f+1) k (a.length:Int)=some (.inr (fin k))):F aG k0 0=some (.inr (fin (bP mk k0 a).1)):=by
 have key:∀f i k,i<=a.length->a.length-i<f->(bP mk k0 a).2.drop i=(bP mk k (a.drop i)).2->(bP mk k0 a).1=(bP mk k (a.drop i)).1->I i k->F f k (i:Int)=some (.inr (fin (bP mk k (a.drop i)).1)):=by
  intro f
  induction f with
  |zero=>intro i k h1 h2;omega
  |succ f ih=>
   intro i k h1 h2 hd hk hI
   rcases Nat.lt_or_ge i a.length with hi |hi
   ·have hlen:=qw mk k0 a
    have hi':i<(bP mk k0 a).2.length:=by omega
    have hd':=hd;rw[jS hi,bP,jS hi'] at hd;have hg:((bP mk k0 a).2).getD i d=(mk k a[i]).2:=by
     rw[getD_lt hi'];exact (List.cons.inj hd).1
    obtain ⟨e,hI'⟩:=step f k i _ hi rfl hg hI;rw[e,ih (i+1) _ (by omega) (by omega) (List.cons.inj hd).2 (by rw[hk,jS hi,bP]) hI',jS hi,bP]
   ·have:i=a.length:=by omega
    subst this;rw[stop,List.drop_length];rfl
 have:=key aG 0 k0 (Nat.zero_le _) (by have:=bZ;omega) rfl rfl h0
 simpa using this
end M
