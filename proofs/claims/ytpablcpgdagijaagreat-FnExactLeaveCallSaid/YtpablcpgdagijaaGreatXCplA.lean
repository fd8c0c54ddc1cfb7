/-
  PLAIN LEMMAS: two lists compared place by place.
-/
import Derived.Test.YtpablcpgdagijaaGreatXCpl
import Derived.Test.YtpablcpgdagijaaGreatXChandA
set_option linter.unusedVariables false
namespace M
open Go.V (inB bV ak b9)
def QX{α:Type}(p:α->α->Bool):List α->List α->Bool
 |[],[]=>true
 |x::a,y::b=>p x y&&QX p a b
 |_,_=>false
theorem isSome_some{α:Type}(a:α):(some a).isSome=true:=rfl
end M
namespace M
open Go.V (ye QC uq)
open Go.Lib (keeps compactUpTo compact)
def nodupB:List (List UInt8)->Bool
 |[]=>true
 |x::r=> !(r.any fun y=>x==y)&&nodupB r
end M
namespace M
open Go.V (inB bV ak b9)
theorem eS{α:Type}[BEq α](a b:α):(a !=b)= !(a==b):=rfl
@[simp] theorem adP (b:Bool):(b==true)=b:=by cases b<;>rfl
@[simp] theorem adQ (b:Bool):(b==false)= !b:=by cases b<;>rfl
theorem l7{E:Type}{p:Nat->Bool}{F:Nat->Int->Option (Bool⊕E)}{e:E}{b:Bool}(n:Nat)(hn:n<2^62)
 (step:∀f k,k<n->F (f+1) (k:Int)=bif p k then F f ((k+1:Nat):Int)else some (.inl b)) (stop:∀f,F (f+1) (n:Int)=some (.inr e)):
 F ak 0=some (if(List.range n).all p then .inr e else .inl b):=by
 have:=uS (F:=F) (n:=n) (res:=fun k=>some (if(List.range' k (n-k)).all p then .inr e else .inl b)) hn (fun f k hk ih=>by
  rw[step f k hk,ih];have:List.range' k (n-k)=k::List.range' (k+1) (n-(k+1)):=by
   rw[show n-k=(n-(k+1))+1 by omega];rfl
  rw[this,List.all_cons];cases p k
  ·simp
  ·rw[Bool.true_and];rfl) (fun f=>by rw[stop,Nat.sub_self];rfl)
 rw[this,List.range_eq_range',Nat.sub_zero]
theorem l8{α E:Type}{p:α->Bool}{F:Nat->Int->Option (Bool⊕E)}{e:E}{b:Bool}(a:List α)(ha:a.length<2^62)
 (step:∀f k,∀h:k<a.length,F (f+1) (k:Int)=bif p a[k]then F f ((k+1:Nat):Int)else some (.inl b)) (stop:∀f,F (f+1) (a.length:Int)=some (.inr e)):
 F ak 0=some (if a.all p then .inr e else .inl b):=by
 have:=uS (F:=F) (n:=a.length) (res:=fun k=>some (if(a.drop k).all p then .inr e else .inl b)) ha (fun f k hk ih=>by
  rw[step f k hk,ih,QU p hk];cases p a[k]<;>simp) (fun f=>by rw[stop,List.drop_length];rfl)
 simpa using this
theorem yq{α Y E:Type}{p:α->Bool}{F:Nat->Int->Option (Y⊕E)}{e:E}(g:Int->Y)(a:List α)(ha:a.length<2^62)
 (step:∀f k,∀h:k<a.length,F (f+1) (k:Int)=bif p a[k]then some (.inl (g (k:Int)))else F f ((k+1:Nat):Int)) (stop:∀f,F (f+1) (a.length:Int)=some (.inr e)):
 F ak 0=some (match a.findIdx? p with
   |some k=>.inl (g (k:Int))
   |none=>.inr e):=by
 have:=uS (F:=F) (n:=a.length) (res:=fun k=>some (match(a.drop k).findIdx? p with
  |some j=>.inl (g ((k+j:Nat):Int))
  |none=>.inr e)) ha (fun f k hk ih=>by
  rw[step f k hk,ih,cm hk,List.findIdx?_cons];cases hp:p a[k]with
  |true=>simp
  |false=>
   simp only[cond_false,Bool.false_eq_true,if_false];cases (a.drop (k+1)).findIdx? p with
   |none=>rfl
   |some j=>simp only[Option.map_some];rw[show k+1+j=k+(j+1) by omega]) (fun f=>by rw[stop,List.drop_length];rfl)
 have h2:=this;simp only[List.drop_zero,Nat.zero_add]at h2;exact h2
theorem yt{α:Type}(p:α->Bool)(a:List α):a.any p=(a.findIdx? p).isSome:=by
 induction a with
 |nil=>rfl
 |cons x r ih=>
  rw[List.any_cons,List.findIdx?_cons,ih];cases p x<;>simp
theorem contains_of{α:Type}{p:α->Bool}{F:Nat->Int->Option (Int⊕Unit)}(a:List α)(ha:a.length<2^62)
 (step:∀f k,∀h:k<a.length,F (f+1) (k:Int)=bif p a[k]then some (.inl (k:Int))else F f ((k+1:Nat):Int)) (stop:∀f,F (f+1) (a.length:Int)=some (.inr ())):
 (match F ak 0 with
   |none=>none
   |some y=>(match y with
    |.inl b=>some b
    |.inr _=>some (-(1:Int))))=some (match a.findIdx? p with
   |some k=>(k:Int)
   |none=> -1):=by
 rw[yq (p:=p) (e:=()) (fun k=>k) a ha step stop];cases a.findIdx? p<;>rfl
theorem index_ge{α:Type}(p:α->Bool)(a:List α):decide ((0:Int)<=(match a.findIdx? p with
 |some k=>(k:Int)
 |none=> -1))=a.any p:=by
 rw[yt];cases a.findIdx? p with
 |none=>simp
 |some k=>simp
theorem yu{α A Y:Type}{F:Nat->Int->A->Option Y}{g:A->α->A}{h:A->Y}(l:List α)(hn:l.length<2^62)(I:Nat->A->Prop)
 (step:∀f k a,∀hk:k<l.length,I k a->F (f+1) (k:Int) a=F f ((k+1:Nat):Int) (g a l[k])/\I (k+1) (g a l[k])) (stop:∀f a,I l.length a->F (f+1) (l.length:Int) a=some (h a)) (a:A) (h0:I 0 a):
 F ak 0 a=some (h (l.foldl g a)):=by
 have key:∀f k a,k<=l.length->l.length-k<f->I k a->F f (k:Int) a=some (h ((l.drop k).foldl g a)):=by
  intro f
  induction f with
  |zero=>intro k a h1 h2;omega
  |succ f ih=>
   intro k a h1 h2 hI;rcases Nat.lt_or_ge k l.length with hk|hk
   ·obtain⟨e,hI'⟩:=step f k a hk hI;rw[e,ih (k+1) _ (by omega) (by omega) hI',cm hk];rfl
   ·have:k=l.length:=by omega
    subst this;rw[stop f a hI,List.drop_length];rfl
 have:=key ak 0 a (Nat.zero_le _) (by have:=b9;omega) h0;simpa using this
end M
namespace M
theorem Fg{α:Type}(p:α->Bool)(l:List α)(d:α):(List.range l.length).all (fun i=>p (l.getD i d))=l.all p:=by
 rw[Bool.eq_iff_iff];simp only[List.all_eq_true,List.mem_range];constructor
 ·intro h x hx;obtain⟨i,hi,rfl⟩:=List.getElem_of_mem hx;have:=h i hi
  rwa [getD_lt hi]at this
 ·intro h i hi;rw[getD_lt hi];exact h _ (List.getElem_mem hi)
theorem oC{α:Type}(p q:α->Bool)(l:List α):l.all (fun x=>p x&&q x)=(l.all p&&l.all q):=by
 induction l with
 |nil=>rfl
 |cons x r ih=>simp only[List.all_cons,ih];cases p x<;>cases q x<;>cases r.all p<;>cases r.all q<;>rfl
end M
