/-
  Part of the proof of the claim.
-/
import Derived.Test.YtadnfbiaknpllaaGreatDoorXZSM
import Derived.Test.YtadnfbiaknpllaaGreatDoorXXlaw
import Derived.Test.YtadnfbiaknpllaaGreatDoorXXpl
set_option linter.unusedVariables false
set_option linter.unusedSimpArgs false
namespace M
def na(s:List UInt8):Prop:=s.length<=9223372036854775807
def wY{α:Type}(p:α->Prop)(l:List α):Prop:=l.length<=9223372036854775807/\∀x∈l,p x
def aI.sz(a:aI):Nat:=(a.ba).length+(a.Name).length+(a.Version).length
theorem aI.cY(a:aI):a.sz=(a.ba).length+(a.Name).length+(a.Version).length:=rfl
def aN.sz(a:aN):Nat:=(a.Path).sz
theorem aN.cY(a:aN):a.sz=(a.Path).sz:=rfl
def aS.sz(a:aS):Nat:=(a.Name).length+bJ aN.sz (a.Items)
theorem aS.cY(a:aS):a.sz=(a.Name).length+bJ aN.sz (a.Items):=rfl
def aW.sz(a:aW):Nat:=(a.Name).length+(a.As).length
theorem aW.cY(a:aW):a.sz=(a.Name).length+(a.As).length:=rfl
mutual
def aa.sz:aa->Nat
 |.mk v0 v1 v2 v3=>(v1).length+bJ List.length (v2)+aa.IB v3
def aa.IB:List aa->Nat
 |[]=>0
 |t::r=>aa.sz t+1+aa.IB r
end
theorem aa.acX:∀l:List aa,aa.IB l=bJ aa.sz l
 |[]=>rfl
 |t::r=>by simp only[aa.IB,bJ,aa.acX r]
theorem aa.cY(a:aa):a.sz=(a.Name).length+bJ List.length (a.bq)+bJ aa.sz (a.Kids):=by cases a;simp only[aa.sz,aa.acX];rfl
def aV.sz(a:aV):Nat:=(a.Name).length+(a.Term).sz
theorem aV.cY(a:aV):a.sz=(a.Name).length+(a.Term).sz:=rfl
def ai.sz(a:ai):Nat:=(a.Name).length+(a.Term).sz+bJ aV.sz (a.Params)+(a.From).sz+bJ aW.sz (a.Uses)
theorem ai.cY(a:ai):a.sz=(a.Name).length+(a.Term).sz+bJ aV.sz (a.Params)+(a.From).sz+bJ aW.sz (a.Uses):=rfl
def aF.sz(a:aF):Nat:=(a.Name).length+bJ ai.sz (a.Items)
theorem aF.cY(a:aF):a.sz=(a.Name).length+bJ ai.sz (a.Items):=rfl
def ah.sz(a:ah):Nat:=(a.Name).length+(a.Version).length+bJ aF.sz (a.aD)+bJ aS.sz (a.Worlds)
theorem ah.cY(a:ah):a.sz=(a.Name).length+(a.Version).length+bJ aF.sz (a.aD)+bJ aS.sz (a.Worlds):=rfl
end M
