/-
  For every argument the law FnExactLowerAt returns true, and its arguments read behind the call as they read before. Conditions: none beside those of the given row.
-/
import Derived.Test.YthggbkhhdgnmaaaGreatDoorXLLwg
import Derived.Test.YthggbkhhdgnmaaaGreatDoorXLLwb
set_option linter.unusedVariables false
set_option maxRecDepth 100000
namespace Go.Proofs.YthggbkhhdgnmaaaGreatDoor
open Go Go.V Go.Shelf Go.RowKit
theorem fnExactLowerAt_holds:Rows.FnExactLowerAtCardSaid:=
 Claim7.holds_tied_plain_at .later [] [.data,.data,.data,.data,.sentinel,.sentinel,.pinned] true (true, "7784edcaf0a2a7bd9c3b4f0f4b5b5f4143fcfa9dab3e8217eff1f0478213c44e") true
  over (fun _ h=>by cases h) (by kernel_rfl) (fun _ h=>by cases h) fnExactLowerAt_row_tie rfl ⟨rfl,rfl⟩ (by kernel_rfl) rfl
  (fun f fn hf hfn=>by
    obtain rfl:f=4:=ig ((show Tryz.prog.funcNamed "loop.example/g00901/laws.FnExactLowerAt" =some 4 by kernel_rfl).symm.trans hf) |>.symm
    obtain rfl:fn=Tryz.f4:=(ig (Tryz.func4.symm.trans hfn)).symm;exact⟨by kernel_rfl,fun j t ht=>by
     rw[Tryz.params4]at ht;have hm:t∈[31,9]:=by simpa using Array.mem_of_getElem? ht
     have hall:([31,9].all fun u=> !Tryz.prog.wantsStandIn u)=true:=by kernel_rfl
     exact(show Tryz.prog.wantsStandIn t=false by simpa using ee.1 hall t hm)⟩)
  aAx
end Go.Proofs.YthggbkhhdgnmaaaGreatDoor
