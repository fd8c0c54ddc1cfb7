/-
  For every argument the law FnLanguagePrint returns true, and its arguments read behind the call as they read before. Conditions: none beside those of the given row.
-/
import Derived.Test.YtojfkjgemgjjkaaGreatDoorXZQLg
import Derived.Test.YtojfkjgemgjjkaaGreatDoorXZQLb
set_option linter.unusedVariables false
set_option maxRecDepth 100000
namespace Go.Proofs.YtojfkjgemgjjkaaGreatDoor
open Go Go.V Go.Shelf Go.RowKit
theorem fnLanguagePrint_holds:Rows.FnLanguagePrintCardSaid:=
 Claim7.holds_tied_plain_at .later [] [.data,.data,.data,.data,.sentinel,.sentinel,.pinned] true (true, "329352b8a5f9683dcef6fa4b707779800ff4443f2402e942681d514dcc3eb0ee") true
  over (fun _ h=>by cases h) (by kernel_rfl) (fun _ h=>by cases h) fnLanguagePrint_row_tie rfl ⟨rfl,rfl⟩ (by kernel_rfl) rfl
  (fun f fn hf hfn=>by
    obtain rfl:f=3:=iv ((show Tryz.prog.funcNamed "loop.example/g00901/laws.FnLanguagePrint" =some 3 by kernel_rfl).symm.trans hf) |>.symm
    obtain rfl:fn=Tryz.f3:=(iv (Tryz.func3.symm.trans hfn)).symm;exact⟨by kernel_rfl,fun j t ht=>by
     rw[Tryz.params3]at ht;have hm:t∈[22]:=by simpa using Array.mem_of_getElem? ht
     have hall:([22].all fun u=> !Tryz.prog.wantsStandIn u)=true:=by kernel_rfl
     exact(show Tryz.prog.wantsStandIn t=false by simpa using fG.1 hall t hm)⟩)
  apL
end Go.Proofs.YtojfkjgemgjjkaaGreatDoor
