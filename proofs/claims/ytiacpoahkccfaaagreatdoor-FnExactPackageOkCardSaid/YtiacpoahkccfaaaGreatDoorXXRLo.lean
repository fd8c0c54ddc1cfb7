/-
  For every argument the law FnExactPackageOk returns true, and its arguments read behind the call as they read before. Conditions: none beside those of the given row.
-/
import Derived.Test.YtiacpoahkccfaaaGreatDoorXXRLog
import Derived.Test.YtiacpoahkccfaaaGreatDoorXXRLob
set_option linter.unusedVariables false
set_option maxRecDepth 100000
namespace Go.Proofs.YtiacpoahkccfaaaGreatDoor
open Go Go.V Go.Shelf Go.RowKit
theorem fnExactPackageOk_holds:Rows.FnExactPackageOkCardSaid:=
 Claim7.holds_tied_plain_at .later [] [.data,.data,.data,.data,.sentinel,.sentinel,.pinned] true (true, "bdda8ac0d3a77ca6dace492be23a1c7700e1a8f3850761077c28f46f8fafc157") true
  over (fun _ h=>by cases h) (by kernel_rfl) (fun _ h=>by cases h) fnExactPackageOk_row_tie rfl ⟨rfl,rfl⟩ (by kernel_rfl) rfl
  (fun f fn hf hfn=>by
    obtain rfl:f=5:=iP ((show Tryz.prog.funcNamed "loop.example/g00901/laws.FnExactPackageOk" =some 5 by kernel_rfl).symm.trans hf) |>.symm
    obtain rfl:fn=Tryz.f5:=(iP (Tryz.func5.symm.trans hfn)).symm;exact⟨by kernel_rfl,fun j t ht=>by
     rw[Tryz.params5]at ht;have hm:t∈[39]:=by simpa using Array.mem_of_getElem? ht
     have hall:([39].all fun u=> !Tryz.prog.wantsStandIn u)=true:=by kernel_rfl
     exact(show Tryz.prog.wantsStandIn t=false by simpa using fb.1 hall t hm)⟩)
  asK
end Go.Proofs.YtiacpoahkccfaaaGreatDoor
