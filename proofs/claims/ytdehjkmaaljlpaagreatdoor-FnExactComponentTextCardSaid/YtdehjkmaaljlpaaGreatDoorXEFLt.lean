/-
  For every argument the law FnExactComponentText returns true, and its arguments read behind the call as they read before. Conditions: none beside those of the given row.
-/
import Derived.Test.YtdehjkmaaljlpaaGreatDoorXEFLtg
import Derived.Test.YtdehjkmaaljlpaaGreatDoorXEFLtb
set_option linter.unusedVariables false
set_option maxRecDepth 100000
namespace Go.Proofs.YtdehjkmaaljlpaaGreatDoor
open Go Go.V Go.Shelf Go.RowKit
theorem fnExactComponentText_holds:Rows.FnExactComponentTextCardSaid:=
 Claim7.holds_tied_plain_at .later [] [.data,.data,.data,.data,.sentinel,.sentinel,.listed,.data,.pinned] true (true, "e38b6861c422d9aa8de7417c9e76a1c789e0bf74daf0aa427ab89bdda99087cd") true
  over (fun _ h=>by cases h) (by kernel_rfl) (fun _ h=>by cases h) fnExactComponentText_row_tie rfl ⟨rfl,rfl⟩ (by kernel_rfl) rfl
  (fun f fn hf hfn=>by
    obtain rfl:f=3:=f6 ((show Tryz.prog.funcNamed "loop.example/g00901/laws.FnExactComponentText" =some 3 by kernel_rfl).symm.trans hf) |>.symm
    obtain rfl:fn=Tryz.f3:=(f6 (Tryz.func3.symm.trans hfn)).symm;exact⟨by kernel_rfl,fun j t ht=>by
     rw[Tryz.params3]at ht;have hm:t∈[31]:=by simpa using Array.mem_of_getElem? ht
     have hall:([31].all fun u=> !Tryz.prog.wantsStandIn u)=true:=by kernel_rfl
     exact(show Tryz.prog.wantsStandIn t=false by simpa using dz.1 hall t hm)⟩)
  azi
end Go.Proofs.YtdehjkmaaljlpaaGreatDoor
