/-
  For every argument the law FnExactPathIn returns true, and its arguments read behind the call as they read before. Conditions: none beside those of the given row.
-/
import Derived.Test.YtkljhbbnhbklnaaGreatDoorXZCLig
import Derived.Test.YtkljhbbnhbklnaaGreatDoorXZCLib
set_option linter.unusedVariables false
set_option maxRecDepth 100000
namespace Go.Proofs.YtkljhbbnhbklnaaGreatDoor
open Go Go.V Go.Shelf Go.RowKit
theorem fnExactPathIn_holds:Rows.FnExactPathInCardSaid:=
 Claim7.holds_tied_plain_at .later [] [.data,.data,.data,.data,.sentinel,.sentinel,.pinned] true (true, "76cdcba6d9359d3195451ce15f094e8c86800a769b1549cfd96a0dc609b9beb6") true
  over (fun _ h=>by cases h) (by kernel_rfl) (fun _ h=>by cases h) fnExactPathIn_row_tie rfl ⟨rfl,rfl⟩ (by kernel_rfl) rfl
  (fun f fn hf hfn=>by
    obtain rfl:f=3:=gW ((show Tryz.prog.funcNamed "loop.example/g00901/laws.FnExactPathIn" =some 3 by kernel_rfl).symm.trans hf) |>.symm
    obtain rfl:fn=Tryz.f3:=(gW (Tryz.func3.symm.trans hfn)).symm;exact⟨by kernel_rfl,fun j t ht=>by
     rw[Tryz.params3]at ht;have hm:t∈[22,2,24]:=by simpa using Array.mem_of_getElem? ht
     have hall:([22,2,24].all fun u=> !Tryz.prog.wantsStandIn u)=true:=by kernel_rfl
     exact(show Tryz.prog.wantsStandIn t=false by simpa using fj.1 hall t hm)⟩)
  awg
end Go.Proofs.YtkljhbbnhbklnaaGreatDoor
