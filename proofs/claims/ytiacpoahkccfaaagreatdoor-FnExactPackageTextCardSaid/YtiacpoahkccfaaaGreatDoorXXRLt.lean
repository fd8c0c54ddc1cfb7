/-
  For every argument the law FnExactPackageText returns true, and its arguments read behind the call as they read before. Conditions: none beside those of the given row.
-/
import Derived.Test.YtiacpoahkccfaaaGreatDoorXXRLtg
import Derived.Test.YtiacpoahkccfaaaGreatDoorXXRLtb
set_option linter.unusedVariables false
set_option maxRecDepth 100000
namespace Go.Proofs.YtiacpoahkccfaaaGreatDoor
open Go Go.V Go.Shelf Go.RowKit
theorem fnExactPackageText_holds:Rows.FnExactPackageTextCardSaid:=
 Claim7.holds_tied_plain_at .later [] [.data,.data,.data,.data,.sentinel,.sentinel,.pinned] true (true, "bdda8ac0d3a77ca6dace492be23a1c7700e1a8f3850761077c28f46f8fafc157") true
  over (fun _ h=>by cases h) (by kernel_rfl) (fun _ h=>by cases h) fnExactPackageText_row_tie rfl ⟨rfl,rfl⟩ (by kernel_rfl) rfl
  (fun f fn hf hfn=>by
    obtain rfl:f=7:=iP ((show Tryz.prog.funcNamed "loop.example/g00901/laws.FnExactPackageText" =some 7 by kernel_rfl).symm.trans hf) |>.symm
    obtain rfl:fn=Tryz.f7:=(iP (Tryz.func7.symm.trans hfn)).symm;exact⟨by kernel_rfl,fun j t ht=>by
     rw[Tryz.params7]at ht;have hm:t∈[39]:=by simpa using Array.mem_of_getElem? ht
     have hall:([39].all fun u=> !Tryz.prog.wantsStandIn u)=true:=by kernel_rfl
     exact(show Tryz.prog.wantsStandIn t=false by simpa using fb.1 hall t hm)⟩)
  asK
end Go.Proofs.YtiacpoahkccfaaaGreatDoor
