/-
  For every argument the law FnExactComponentNeeds returns true, and its arguments read behind the call as they read before. Conditions: none beside those of the given row.
-/
import Derived.Test.YtjgokmknlclpgaaGreatDoorXGLng
import Derived.Test.YtjgokmknlclpgaaGreatDoorXGLnb
set_option linter.unusedVariables false
set_option maxRecDepth 100000
namespace Go.Proofs.YtjgokmknlclpgaaGreatDoor
open Go Go.V Go.Shelf Go.RowKit
theorem fnExactComponentNeeds_holds:Rows.FnExactComponentNeedsCardSaid:=
 Claim7.holds_tied_plain_at .later [] [.data,.data,.data,.data,.sentinel,.sentinel,.pinned] true (true, "cfd8865344d20a77ad2efa8f1988c350f2a44d26a1d3f38ec2d7ee453f1f30c0") true
  over (fun _ h=>by cases h) (by kernel_rfl) (fun _ h=>by cases h) fnExactComponentNeeds_row_tie rfl ⟨rfl,rfl⟩ (by kernel_rfl) rfl
  (fun f fn hf hfn=>by
    obtain rfl:f=4:=VG ((show Tryz.prog.funcNamed "loop.example/g00901/laws.FnExactComponentNeeds" =some 4 by kernel_rfl).symm.trans hf) |>.symm
    obtain rfl:fn=Tryz.f4:=(VG (Tryz.func4.symm.trans hfn)).symm;exact⟨by kernel_rfl,fun j t ht=>by
     rw[Tryz.params4]at ht;have hm:t∈[31]:=by simpa using Array.mem_of_getElem? ht
     have hall:([31].all fun u=> !Tryz.prog.wantsStandIn u)=true:=by kernel_rfl
     exact(show Tryz.prog.wantsStandIn t=false by simpa using zG.1 hall t hm)⟩)
  aIc
end Go.Proofs.YtjgokmknlclpgaaGreatDoor
