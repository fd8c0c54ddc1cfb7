/-
  For every argument the law FnExactComponentBytes returns true, and its arguments read behind the call as they read before. Conditions: none beside those of the given row.
-/
import Derived.Test.YtnkkcmdomlkdmaaGreatDoorXEFLcg
import Derived.Test.YtnkkcmdomlkdmaaGreatDoorXEFLcb
set_option linter.unusedVariables false
set_option maxRecDepth 100000
namespace Go.Proofs.YtnkkcmdomlkdmaaGreatDoor
open Go Go.V Go.Shelf Go.RowKit
theorem fnExactComponentBytes_holds:Rows.FnExactComponentBytesCardSaid:=
 Claim7.holds_tied_plain_at .later [] [.data,.data,.data,.data,.sentinel,.sentinel,.pinned] true (true, "487cad64e205a3df4990854a5676f799f0142bb219a99cb76851f4526fe1c505") true
  over (fun _ h=>by cases h) (by kernel_rfl) (fun _ h=>by cases h) fnExactComponentBytes_row_tie rfl ⟨rfl,rfl⟩ (by kernel_rfl) rfl
  (fun f fn hf hfn=>by
    obtain rfl:f=3:=ib ((show Tryz.prog.funcNamed "loop.example/g00901/laws.FnExactComponentBytes" =some 3 by kernel_rfl).symm.trans hf) |>.symm
    obtain rfl:fn=Tryz.f3:=(ib (Tryz.func3.symm.trans hfn)).symm;exact⟨by kernel_rfl,fun j t ht=>by
     rw[Tryz.params3]at ht;have hm:t∈[31]:=by simpa using Array.mem_of_getElem? ht
     have hall:([31].all fun u=> !Tryz.prog.wantsStandIn u)=true:=by kernel_rfl
     exact(show Tryz.prog.wantsStandIn t=false by simpa using dB.1 hall t hm)⟩)
  aBF
end Go.Proofs.YtnkkcmdomlkdmaaGreatDoor
