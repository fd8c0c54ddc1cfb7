/-
  For every argument the law FnExactLiftAt returns true, and its arguments read behind the call as they read before. Conditions: none beside those of the given row.
-/
import Derived.Test.YthggbkhhdgnmaaaGreatDoorXLLlg
import Derived.Test.YthggbkhhdgnmaaaGreatDoorXLLlb
set_option linter.unusedVariables false
set_option maxRecDepth 100000
namespace Go.Proofs.YthggbkhhdgnmaaaGreatDoor
open Go Go.V Go.Shelf Go.RowKit
theorem fnExactLiftAt_holds:Rows.FnExactLiftAtCardSaid:=
 Claim7.holds_tied_plain_at .later [] [.data,.data,.data,.data,.sentinel,.sentinel,.pinned] true (true, "7784edcaf0a2a7bd9c3b4f0f4b5b5f4143fcfa9dab3e8217eff1f0478213c44e") true
  over (fun _ h=>by cases h) (by kernel_rfl) (fun _ h=>by cases h) fnExactLiftAt_row_tie rfl ⟨rfl,rfl⟩ (by kernel_rfl) rfl
  (fun f fn hf hfn=>by
    obtain rfl:f=3:=ig ((show Tryz.prog.funcNamed "loop.example/g00901/laws.FnExactLiftAt" =some 3 by kernel_rfl).symm.trans hf) |>.symm
    obtain rfl:fn=Tryz.f3:=(ig (Tryz.func3.symm.trans hfn)).symm;exact⟨by kernel_rfl,fun j t ht=>by
     rw[Tryz.params3]at ht;have hm:t∈[31,9,9]:=by simpa using Array.mem_of_getElem? ht
     have hall:([31,9,9].all fun u=> !Tryz.prog.wantsStandIn u)=true:=by kernel_rfl
     exact(show Tryz.prog.wantsStandIn t=false by simpa using ee.1 hall t hm)⟩)
  aAx
end Go.Proofs.YthggbkhhdgnmaaaGreatDoor
