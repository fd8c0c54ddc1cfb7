/-
  Part of the proof of the claim.
-/
import Derived.Test.YtefdfjaifkhphaaGreatDoorXUQM
import Derived.Test.YtefdfjaifkhphaaGreatDoorXUlaw
import Derived.Test.YtefdfjaifkhphaaGreatDoorXUpl
set_option linter.unusedVariables false
set_option linter.unusedSimpArgs false
namespace M
def adI (s:List UInt8):Prop:=s.length<=9223372036854775807
def LOk {α:Type} (p:α->Prop) (l:List α):Prop:=l.length<=9223372036854775807 /\ ∀x∈l,p x
mutual
def ae.sz :ae->Nat
 | .mk v0 v1 v2 v3=>(v1).length+lI List.length (v2)+ae.szs v3
def ae.szs :List ae->Nat
 | []=>0
 |t::r=>ae.sz t+1+ae.szs r
end
theorem ae.UM :∀l:List ae,ae.szs l=lI ae.sz l
 | []=>rfl
 |t::r=>by simp only[ae.szs,lI,ae.UM r]
theorem ae.jO (a:ae):a.sz=(a.Name).length+lI List.length (a.aQ)+lI ae.sz (a.Kids):=by cases a;simp only[ae.sz,ae.UM];rfl
mutual
def ae.Ok :ae->Prop
 | .mk v0 v1 v2 v3=>I64 (v0) /\ adI (v1) /\ LOk adI (v2) /\ (v3.length<=9223372036854775807 /\ ae.Oks v3) /\ True
def ae.Oks :List ae->Prop
 | []=>True
 |t::r=>ae.Ok t /\ ae.Oks r
end
mutual
def af.sz :af->Nat
 | .mk v0 v1 v2 v3=>(v2).length+af.szs v3
def af.szs :List af->Nat
 | []=>0
 |t::r=>af.sz t+1+af.szs r
end
theorem af.UM :∀l:List af,af.szs l=lI af.sz l
 | []=>rfl
 |t::r=>by simp only[af.szs,lI,af.UM r]
theorem af.jO (a:af):a.sz=(a.Text).length+lI af.sz (a.Kids):=by cases a;simp only[af.sz,af.UM];rfl
mutual
def af.Ok :af->Prop
 | .mk v0 v1 v2 v3=>I64 (v0) /\ I64 (v1) /\ adI (v2) /\ (v3.length<=9223372036854775807 /\ af.Oks v3) /\ True
def af.Oks :List af->Prop
 | []=>True
 |t::r=>af.Ok t /\ af.Oks r
end
def ah.sz (a:ah):Nat:=(a.aO).sz+lI af.sz (a.Buffer)
theorem ah.jO (a:ah):a.sz=(a.aO).sz+lI af.sz (a.Buffer):=rfl
def ah.Ok (a:ah):Prop:=ae.Ok (a.aO) /\ I64 (a.Room) /\ True /\ LOk af.Ok (a.Buffer) /\ I64 (a.Put) /\ I64 (a.qM) /\ True /\ True /\ True
def dZ.sz (a:dZ):Nat:=0
theorem dZ.jO (a:dZ):a.sz=0:=rfl
def dZ.Ok (a:dZ):Prop:=True /\ True /\ I64 (a.XV) /\ True
end M
