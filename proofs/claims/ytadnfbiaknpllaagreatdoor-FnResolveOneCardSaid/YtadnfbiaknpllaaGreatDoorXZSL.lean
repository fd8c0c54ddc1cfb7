/-
  For every argument the law FnResolveOne returns true, and its arguments read behind the call as they read before. Conditions: none beside those of the given row.
-/
import Derived.Test.YtadnfbiaknpllaaGreatDoorXZSLg
import Derived.Test.YtadnfbiaknpllaaGreatDoorXZSLb
set_option linter.unusedVariables false
set_option maxRecDepth 100000
namespace Go.Proofs.YtadnfbiaknpllaaGreatDoor
open Go Go.V Go.Shelf Go.RowKit
theorem fnResolveOne_holds:Rows.FnResolveOneCardSaid:=
 Claim7.holds_tied_plain_at .later [] [.data,.data,.data,.data,.sentinel,.sentinel,.pinned] true (true, "a4220f9c462bfe781660617035b8a454c8b95538582a0a14ec37599c97f722f8") true
  over (fun _ h=>by cases h) (by kernel_rfl) (fun _ h=>by cases h) fnResolveOne_row_tie rfl ⟨rfl,rfl⟩ (by kernel_rfl) rfl
  (fun f fn hf hfn=>by
    obtain rfl:f=3:=ie ((show Tryz.prog.funcNamed "loop.example/g00901/laws.FnResolveOne" =some 3 by kernel_rfl).symm.trans hf) |>.symm
    obtain rfl:fn=Tryz.f3:=(ie (Tryz.func3.symm.trans hfn)).symm;exact⟨by kernel_rfl,fun j t ht=>by
     rw[Tryz.params3]at ht;have hm:t∈[22]:=by simpa using Array.mem_of_getElem? ht
     have hall:([22].all fun u=> !Tryz.prog.wantsStandIn u)=true:=by kernel_rfl
     exact(show Tryz.prog.wantsStandIn t=false by simpa using fO.1 hall t hm)⟩)
  aru
end Go.Proofs.YtadnfbiaknpllaaGreatDoor
