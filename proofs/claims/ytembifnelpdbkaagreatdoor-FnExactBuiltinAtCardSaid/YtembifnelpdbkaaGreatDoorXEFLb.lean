/-
  For every argument the law FnExactBuiltinAt returns true, and its arguments read behind the call as they read before. Conditions: none beside those of the given row.
-/
import Derived.Test.YtembifnelpdbkaaGreatDoorXEFLbg
import Derived.Test.YtembifnelpdbkaaGreatDoorXEFLbb
set_option linter.unusedVariables false
set_option maxRecDepth 100000
namespace Go.Proofs.YtembifnelpdbkaaGreatDoor
open Go Go.V Go.Shelf Go.RowKit
theorem fnExactBuiltinAt_holds : Rows.FnExactBuiltinAtCardSaid:=
 Claim7.holds_tied_plain_at .later [] [.data, .data, .data, .data, .sentinel, .sentinel, .pinned] true (true, "0152c19b78ac1c94f5eb9f1973bdcdf173309973465f3d72ea9da68e653da09f") true
  over (fun _ h=>by cases h) (by kernel_rfl) (fun _ h=>by cases h) fnExactBuiltinAt_row_tie rfl ⟨rfl,rfl⟩ (by kernel_rfl) rfl
  (fun f fn hf hfn=>by
    obtain rfl:f=5:=Option.some.inj ((show Tryz.prog.funcNamed "loop.example/g00901/laws.FnExactBuiltinAt" =some 5 by kernel_rfl).symm.trans hf) |>.symm
    obtain rfl:fn=Tryz.f5:=(Option.some.inj (Tryz.func5.symm.trans hfn)).symm;exact ⟨by kernel_rfl,fun j t ht=>by
     rw[Tryz.params5] at ht;have hm:t∈[31,9]:=by simpa using Array.mem_of_getElem? ht
     have hall:([31,9].all fun u=> !Tryz.prog.wantsStandIn u)=true:=by kernel_rfl
     exact (show Tryz.prog.wantsStandIn t=false by simpa using List.all_eq_true.1 hall t hm)⟩)
  aDe
end Go.Proofs.YtembifnelpdbkaaGreatDoor
