/-
  PLAIN LEMMAS: two lists compared place by place.
-/
import Derived.Test.YtcnhfiflhplokaaGreatDoorXQpl
set_option linter.unusedVariables false
namespace M
open Go.V (inB CO aG cZ)
def eqL {α:Type} (p:α->α->Bool):List α->List α->Bool
 | [],[]=>true
 |x::a,y::b=>p x y&&eqL p a b
 |_,_=>false
theorem adt {α:Type} (p:α->α->Bool):∀(a b:List α),a.length≠b.length->eqL p a b=false
 | [],[],h=>absurd rfl h
 | [],_::_,_=>rfl
 |_::_,[],_=>rfl
 |x::a,y::b,h=>by
  simp only[eqL,adt p a b (by simpa using h),Bool.and_false]
theorem afF {α:Type} {p:α->α->Bool}:∀(a:List α),(∀x∈a,p x x=true)->eqL p a a=true
 | [],_=>rfl
 |x::a,h=>by
  simp only[eqL,h x (List.mem_cons_self ..),afF a (fun y hy=>h y (List.mem_cons_of_mem _ hy)),Bool.and_self]
theorem afG {α:Type} {p q:α->α->Bool}:∀(a b:List α),(∀x∈a,∀y,p x y=q x y)->eqL p a b=eqL q a b
 | [],[],h=>rfl
 | [],_::_,h=>rfl
 |_::_,[],h=>rfl
 |x::a,y::b,h=>by
  simp only[eqL,h x (List.mem_cons_self ..),afG a b (fun z hz=>h z (List.mem_cons_of_mem _ hz))]
theorem afH {α E:Type} {p:α->α->Bool} {F:Nat->Int->Option (Bool⊕E)} {e:E} (a b:List α) (ha:a.length<=1048576) (hab:a.length=b.length)
 (step:∀f k,∀h:k<a.length,∀h':k<b.length,F (f+1) (k:Int)=bif p a[k] b[k] then F f ((k+1:Nat):Int) else some (.inl false))
 (stop:∀f,F (f+1) (a.length:Int)=some (.inr e)):F aG 0=some (if eqL p a b then .inr e else .inl false):=by
 have:=Jz (F:=F) (n:=a.length) (res:=fun k=>some (if eqL p (a.drop k) (b.drop k) then .inr e else .inl false)) (by omega)
  (fun f k hk ih=>by
    rw[step f k hk (by omega),iy hk,iy (show k<b.length by omega)]
    simp only[eqL];rw[ih]
    by_cases hq:p a[k] b[k]=true
    ·simp[hq]
    ·simp[Bool.not_eq_true _ ▸ hq])
  (fun f=>by rw[stop,List.drop_length,hab,List.drop_length];rfl)
 simpa using this
theorem ajy {α:Type} {p:α->α->Bool} {F:Nat->Int->Option (Bool⊕Unit)} (a b:List α) (ha:a.length<=1048576)
 (step:∀f k,a.length=b.length->∀h:k<a.length,∀h':k<b.length,F (f+1) (k:Int)=bif p a[k] b[k] then F f ((k+1:Nat):Int) else some (.inl false))
 (stop:∀f,F (f+1) (a.length:Int)=some (.inr ())):
 (bif ((a.length:Int) !=(b.length:Int)) then some false else (match F aG 0 with
   |none=>none
   |some y=>(match y with
    | .inl b=>some b
    | .inr _=>some true)))=some (eqL p a b):=by
 by_cases h:a.length=b.length
 ·rw[afH (p:=p) (e:=()) a b ha h (fun f k=>step f k h) stop]
  cases eqL p a b<;>simp[h]
 ·have:((a.length:Int) !=(b.length:Int))=true:=by rw[bne_iff_ne];omega
  rw[this,adt p a b h];rfl
theorem isSome_some {α:Type} (a:α):(some a).isSome=true:=rfl
end M
