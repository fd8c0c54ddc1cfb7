/-
  For every argument the law FnExactPickPackage returns true, and its arguments read behind the call as they read before. Conditions: none beside those of the given row.
-/
import Derived.Test.YtghkckfhaljjjaaGreatDoorXYCLpg
import Derived.Test.YtghkckfhaljjjaaGreatDoorXYCLpb
set_option linter.unusedVariables false
set_option maxRecDepth 100000
namespace Go.Proofs.YtghkckfhaljjjaaGreatDoor
open Go Go.V Go.Shelf Go.RowKit
theorem fnExactPickPackage_holds:Rows.FnExactPickPackageCardSaid:=
 Claim7.holds_tied_plain_at .later [] [.data,.data,.data,.data,.sentinel,.sentinel,.pinned] true (true, "974f6a4d640bb59ed941f53bede332949696740d59be30ce65da638492cff8c3") true
  over (fun _ h=>by cases h) (by kernel_rfl) (fun _ h=>by cases h) fnExactPickPackage_row_tie rfl ⟨rfl,rfl⟩ (by kernel_rfl) rfl
  (fun f fn hf hfn=>by
    obtain rfl:f=4:=fA ((show Tryz.prog.funcNamed "loop.example/g00901/laws.FnExactPickPackage" =some 4 by kernel_rfl).symm.trans hf) |>.symm
    obtain rfl:fn=Tryz.f4:=(fA (Tryz.func4.symm.trans hfn)).symm;exact⟨by kernel_rfl,fun j t ht=>by
     rw[Tryz.params4]at ht;have hm:t∈[22,9,9]:=by simpa using Array.mem_of_getElem? ht
     have hall:([22,9,9].all fun u=> !Tryz.prog.wantsStandIn u)=true:=by kernel_rfl
     exact(show Tryz.prog.wantsStandIn t=false by simpa using fN.1 hall t hm)⟩)
  atB
end Go.Proofs.YtghkckfhaljjjaaGreatDoor
