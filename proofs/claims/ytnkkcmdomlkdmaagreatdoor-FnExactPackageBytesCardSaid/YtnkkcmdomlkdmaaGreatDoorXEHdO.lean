/-
  A section's own name is never asked for: a contract that promises nothing.
-/
import Derived.Test.YtnkkcmdomlkdmaaGreatDoorXEhandJ
import Derived.Test.YtnkkcmdomlkdmaaGreatDoorProg
set_option linter.unusedVariables false
noncomputable def ab4(m:List UInt8->Option Bool):Go.V.an Go.V.K:={f:=231,sh:=⟨[.str],[]⟩,R:=Bool,run:=fun x=>m x.1.1,dflt:=default,out:=fun r=>(Go.V.Sh.enc Go.V.D (.bool) r,Go.V.bk.encs Go.V.D [] ())}
theorem auK:(ab4 M.GY).Ok Go.V.D Go.Proofs.Tryz.prog:=Go.V.iG fun _=>rfl
