/-
  For every argument the law FnExactPackagesCode returns true, and its arguments read behind the call as they read before. Conditions: none beside those of the given row.
-/
import Derived.Test.YtghkckfhaljjjaaGreatDoorXYCLcg
import Derived.Test.YtghkckfhaljjjaaGreatDoorXYCLcb
set_option linter.unusedVariables false
set_option maxRecDepth 100000
namespace Go.Proofs.YtghkckfhaljjjaaGreatDoor
open Go Go.V Go.Shelf Go.RowKit
theorem fnExactPackagesCode_holds:Rows.FnExactPackagesCodeCardSaid:=
 Claim7.holds_tied_plain_at .later [] [.data,.data,.data,.data,.sentinel,.sentinel,.pinned] true (true, "974f6a4d640bb59ed941f53bede332949696740d59be30ce65da638492cff8c3") true
  over (fun _ h=>by cases h) (by kernel_rfl) (fun _ h=>by cases h) fnExactPackagesCode_row_tie rfl ⟨rfl,rfl⟩ (by kernel_rfl) rfl
  (fun f fn hf hfn=>by
    obtain rfl:f=3:=hZ ((show Tryz.prog.funcNamed "loop.example/g00901/laws.FnExactPackagesCode" =some 3 by kernel_rfl).symm.trans hf) |>.symm
    obtain rfl:fn=Tryz.f3:=(hZ (Tryz.func3.symm.trans hfn)).symm;exact⟨by kernel_rfl,fun j t ht=>by
     rw[Tryz.params3]at ht;have hm:t∈[22]:=by simpa using Array.mem_of_getElem? ht
     have hall:([22].all fun u=> !Tryz.prog.wantsStandIn u)=true:=by kernel_rfl
     exact(show Tryz.prog.wantsStandIn t=false by simpa using fk.1 hall t hm)⟩)
  atB
end Go.Proofs.YtghkckfhaljjjaaGreatDoor
