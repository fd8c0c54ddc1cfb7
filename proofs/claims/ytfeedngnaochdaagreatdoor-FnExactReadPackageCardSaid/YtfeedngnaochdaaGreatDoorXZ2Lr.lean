/-
  For every argument the law FnExactReadPackage returns true, and its arguments read behind the call as they read before. Conditions: none beside those of the given row.
-/
import Derived.Test.YtfeedngnaochdaaGreatDoorXZ2Lrg
import Derived.Test.YtfeedngnaochdaaGreatDoorXZ2Lrb
set_option linter.unusedVariables false
set_option maxRecDepth 100000
namespace Go.Proofs.YtfeedngnaochdaaGreatDoor
open Go Go.V Go.Shelf Go.RowKit
theorem fnExactReadPackage_holds:Rows.FnExactReadPackageCardSaid:=
 Claim7.holds_tied_plain_at .later [] [.data,.data,.data,.data,.sentinel,.sentinel,.pinned] true (true, "6e9b3cfd5845b0e6102c1dd1912f8c165ff9cffb1bdf9f47c948cdb5cd1f0edf") true
  over (fun _ h=>by cases h) (by kernel_rfl) (fun _ h=>by cases h) fnExactReadPackage_row_tie rfl ⟨rfl,rfl⟩ (by kernel_rfl) rfl
  (fun f fn hf hfn=>by
    obtain rfl:f=3:=gU ((show Tryz.prog.funcNamed "loop.example/g00901/laws.FnExactReadPackage" =some 3 by kernel_rfl).symm.trans hf) |>.symm
    obtain rfl:fn=Tryz.f3:=(gU (Tryz.func3.symm.trans hfn)).symm;exact⟨by kernel_rfl,fun j t ht=>by
     rw[Tryz.params3]at ht;have hm:t∈[9]:=by simpa using Array.mem_of_getElem? ht
     have hall:([9].all fun u=> !Tryz.prog.wantsStandIn u)=true:=by kernel_rfl
     exact(show Tryz.prog.wantsStandIn t=false by simpa using ig.1 hall t hm)⟩)
  ahn
end Go.Proofs.YtfeedngnaochdaaGreatDoor
