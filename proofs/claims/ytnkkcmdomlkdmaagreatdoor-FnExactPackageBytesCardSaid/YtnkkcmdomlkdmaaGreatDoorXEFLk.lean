/-
  For every argument the law FnExactPackageBytes returns true, and its arguments read behind the call as they read before. Conditions: none beside those of the given row.
-/
import Derived.Test.YtnkkcmdomlkdmaaGreatDoorXEFLkg
import Derived.Test.YtnkkcmdomlkdmaaGreatDoorXEFLkb
set_option linter.unusedVariables false
set_option maxRecDepth 100000
namespace Go.Proofs.YtnkkcmdomlkdmaaGreatDoor
open Go Go.V Go.Shelf Go.RowKit
theorem fnExactPackageBytes_holds:Rows.FnExactPackageBytesCardSaid:=
 Claim7.holds_tied_plain_at .later [] [.data,.data,.data,.data,.sentinel,.sentinel,.pinned] true (true, "487cad64e205a3df4990854a5676f799f0142bb219a99cb76851f4526fe1c505") true
  over (fun _ h=>by cases h) (by kernel_rfl) (fun _ h=>by cases h) fnExactPackageBytes_row_tie rfl ⟨rfl,rfl⟩ (by kernel_rfl) rfl
  (fun f fn hf hfn=>by
    obtain rfl:f=4:=jl ((show Tryz.prog.funcNamed "loop.example/g00901/laws.FnExactPackageBytes" =some 4 by kernel_rfl).symm.trans hf) |>.symm
    obtain rfl:fn=Tryz.f4:=(jl (Tryz.func4.symm.trans hfn)).symm;exact⟨by kernel_rfl,fun j t ht=>by
     rw[Tryz.params4]at ht;have hm:t∈[47]:=by simpa using Array.mem_of_getElem? ht
     have hall:([47].all fun u=> !Tryz.prog.wantsStandIn u)=true:=by kernel_rfl
     exact(show Tryz.prog.wantsStandIn t=false by simpa using dr.1 hall t hm)⟩)
  aBF
end Go.Proofs.YtnkkcmdomlkdmaaGreatDoor
