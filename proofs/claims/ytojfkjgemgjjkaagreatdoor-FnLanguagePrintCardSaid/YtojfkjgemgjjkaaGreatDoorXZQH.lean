/-
  Part of the proof of the claim.
-/
import Derived.Test.YtojfkjgemgjjkaaGreatDoorXZQM
import Derived.Test.YtojfkjgemgjjkaaGreatDoorXXlaw
import Derived.Test.YtojfkjgemgjjkaaGreatDoorXXpl
set_option linter.unusedVariables false
set_option linter.unusedSimpArgs false
namespace M
def m7(s:List UInt8):Prop:=s.length<=9223372036854775807
def wQ{α:Type}(p:α->Prop)(l:List α):Prop:=l.length<=9223372036854775807/\∀x∈l,p x
def aI.sz(a:aI):Nat:=(a.bD).length+(a.Name).length+(a.Version).length
theorem aI.cV(a:aI):a.sz=(a.bD).length+(a.Name).length+(a.Version).length:=rfl
def aI.Ok(a:aI):Prop:=m7 (a.bD)/\m7 (a.Name)/\m7 (a.Version)/\True
def aO.sz(a:aO):Nat:=(a.Path).sz
theorem aO.cV(a:aO):a.sz=(a.Path).sz:=rfl
def aO.Ok(a:aO):Prop:=I64 (a.Kind)/\aI.Ok (a.Path)/\True
def aQ.sz(a:aQ):Nat:=(a.Name).length+bH aO.sz (a.Items)
theorem aQ.cV(a:aQ):a.sz=(a.Name).length+bH aO.sz (a.Items):=rfl
def aQ.Ok(a:aQ):Prop:=m7 (a.Name)/\wQ aO.Ok (a.Items)/\True
mutual
def aa.sz:aa->Nat
 |.mk v0 v1 v2 v3=>(v1).length+bH List.length (v2)+aa.HU v3
def aa.HU:List aa->Nat
 |[]=>0
 |t::r=>aa.sz t+1+aa.HU r
end
theorem aa.abE:∀l:List aa,aa.HU l=bH aa.sz l
 |[]=>rfl
 |t::r=>by simp only[aa.HU,bH,aa.abE r]
theorem aa.cV(a:aa):a.sz=(a.Name).length+bH List.length (a.bn)+bH aa.sz (a.Kids):=by cases a;simp only[aa.sz,aa.abE];rfl
mutual
def aa.Ok:aa->Prop
 |.mk v0 v1 v2 v3=>I64 (v0)/\m7 (v1)/\wQ m7 (v2)/\(v3.length<=9223372036854775807/\aa.C3 v3)/\True
def aa.C3:List aa->Prop
 |[]=>True
 |t::r=>aa.Ok t/\aa.C3 r
end
def aV.sz(a:aV):Nat:=(a.Name).length+(a.Term).sz
theorem aV.cV(a:aV):a.sz=(a.Name).length+(a.Term).sz:=rfl
def aV.Ok(a:aV):Prop:=m7 (a.Name)/\aa.Ok (a.Term)/\True
def aX.sz(a:aX):Nat:=(a.Name).length+(a.As).length
theorem aX.cV(a:aX):a.sz=(a.Name).length+(a.As).length:=rfl
def aX.Ok(a:aX):Prop:=m7 (a.Name)/\m7 (a.As)/\True
def ai.sz(a:ai):Nat:=(a.Name).length+(a.Term).sz+bH aV.sz (a.Params)+(a.From).sz+bH aX.sz (a.Uses)
theorem ai.cV(a:ai):a.sz=(a.Name).length+(a.Term).sz+bH aV.sz (a.Params)+(a.From).sz+bH aX.sz (a.Uses):=rfl
def ai.Ok(a:ai):Prop:=I64 (a.Kind)/\m7 (a.Name)/\aa.Ok (a.Term)/\wQ aV.Ok (a.Params)/\True/\aI.Ok (a.From)/\wQ aX.Ok (a.Uses)/\True
def aG.sz(a:aG):Nat:=(a.Name).length+bH ai.sz (a.Items)
theorem aG.cV(a:aG):a.sz=(a.Name).length+bH ai.sz (a.Items):=rfl
def aG.Ok(a:aG):Prop:=m7 (a.Name)/\wQ ai.Ok (a.Items)/\True
def aw.sz(a:aw):Nat:=(a.Name).length+(a.Version).length+bH aG.sz (a.aD)+bH aQ.sz (a.Worlds)
theorem aw.cV(a:aw):a.sz=(a.Name).length+(a.Version).length+bH aG.sz (a.aD)+bH aQ.sz (a.Worlds):=rfl
def aw.Ok(a:aw):Prop:=m7 (a.Name)/\m7 (a.Version)/\wQ aG.Ok (a.aD)/\wQ aQ.Ok (a.Worlds)/\True
theorem aI.jP(a:aI)(h:∀m,Go.V.my m .Path a):a.Ok:=⟨(h 0).1,(h 0).2.1,(h 0).2.2.1,trivial⟩
theorem aO.jP(a:aO)(h:∀m,Go.V.my m .fD a):a.Ok:=⟨(h 0).1,(aI.jP (a.Path) (fun m=>by cases m with|zero=>exact⟨(h 0).2.1,(h 0).2.2.1,(h 0).2.2.2.1,trivial⟩|succ m=>exact⟨(h (m+1)).2.1,(h (m+1)).2.2.1,(h (m+1)).2.2.2.1,trivial⟩)),trivial⟩
theorem aQ.jP(a:aQ)(h:∀m,Go.V.my m .dN a):a.Ok:=⟨(h 0).1,⟨((h 0).2.1).1,fun y hy=>aO.jP y (fun m=>((h (m+1)).2.1).2 y hy)⟩,trivial⟩
mutual
theorem aa.jP:∀(a:aa),(∀m,Go.V.my m .Term a)->a.Ok
 |.mk v0 v1 v2 v3,h=>by
   simp only[aa.Ok];exact⟨(h 0).1,(h 0).2.1,⟨((h 0).2.2.1).1,fun y hy=>((fun m=>((h (m+1)).2.2.1).2 y hy) 0).1⟩,⟨((h 0).2.2.2.1).1,(aa.abG _ fun y hy m=>((h (m+1)).2.2.2.1).2 y hy)⟩,trivial⟩
theorem aa.abG:∀(l:List aa),(∀y∈l,∀m,Go.V.my m .Term y)->aa.C3 l
 |[],_=>by simp only[aa.C3]
 |t::r,h=>by
  simp only[aa.C3];exact⟨aa.jP t (h t (by simp)),aa.abG r fun y hy=>h y (by simp[hy])⟩
end
theorem aV.jP(a:aV)(h:∀m,Go.V.my m .d3 a):a.Ok:=⟨(h 0).1,(aa.jP (a.Term) (fun m=>by cases m with|zero=>exact⟨(h 0).2.1,(h 0).2.2.1,(h 0).2.2.2.1,(h 0).2.2.2.2.1,trivial⟩|succ m=>exact⟨(h (m+1)).2.1,(h (m+1)).2.2.1,(h (m+1)).2.2.2.1,(h (m+1)).2.2.2.2.1,trivial⟩)),trivial⟩
theorem aX.jP(a:aX)(h:∀m,Go.V.my m .eg a):a.Ok:=⟨(h 0).1,(h 0).2.1,trivial⟩
theorem ai.jP(a:ai)(h:∀m,Go.V.my m .Item a):a.Ok:=⟨(h 0).1,(h 0).2.1,(aa.jP (a.Term) (fun m=>by cases m with|zero=>exact⟨(h 0).2.2.1,(h 0).2.2.2.1,(h 0).2.2.2.2.1,(h 0).2.2.2.2.2.1,trivial⟩|succ m=>exact⟨(h (m+1)).2.2.1,(h (m+1)).2.2.2.1,(h (m+1)).2.2.2.2.1,(h (m+1)).2.2.2.2.2.1,trivial⟩)),⟨((h 0).2.2.2.2.2.2.1).1,fun y hy=>aV.jP y (fun m=>((h (m+1)).2.2.2.2.2.2.1).2 y hy)⟩,trivial,(aI.jP (a.From) (fun m=>by cases m with|zero=>exact⟨(h 0).2.2.2.2.2.2.2.2.1,(h 0).2.2.2.2.2.2.2.2.2.1,(h 0).2.2.2.2.2.2.2.2.2.2.1,trivial⟩|succ m=>exact⟨(h (m+1)).2.2.2.2.2.2.2.2.1,(h (m+1)).2.2.2.2.2.2.2.2.2.1,(h (m+1)).2.2.2.2.2.2.2.2.2.2.1,trivial⟩)),⟨((h 0).2.2.2.2.2.2.2.2.2.2.2.1).1,fun y hy=>aX.jP y (fun m=>((h (m+1)).2.2.2.2.2.2.2.2.2.2.2.1).2 y hy)⟩,trivial⟩
theorem aG.jP(a:aG)(h:∀m,Go.V.my m .dk a):a.Ok:=⟨(h 0).1,⟨((h 0).2.1).1,fun y hy=>ai.jP y (fun m=>((h (m+1)).2.1).2 y hy)⟩,trivial⟩
theorem aw.jP(a:aw)(h:∀m,Go.V.my m .bD a):a.Ok:=⟨(h 0).1,(h 0).2.1,⟨((h 0).2.2.1).1,fun y hy=>aG.jP y (fun m=>((h (m+1)).2.2.1).2 y hy)⟩,⟨((h 0).2.2.2.1).1,fun y hy=>aQ.jP y (fun m=>((h (m+1)).2.2.2.1).2 y hy)⟩,trivial⟩
end M
