/-
  For every argument the law FnExactNewAsync returns true, and its arguments read behind the call as they read before. Conditions: none beside those of the given row.
-/
import Derived.Test.YtjdnmlhfiblhdaaGreatXNZC
import Derived.Test.YtjdnmlhfiblhdaaGreatXNlaw2
import Derived.Test.YtjdnmlhfiblhdaaGreatXNV
import Derived.Test.YtjdnmlhfiblhdaaGreatRows
set_option linter.unusedVariables false
set_option maxRecDepth 100000
namespace Go.Proofs.YtjdnmlhfiblhdaaGreat
open Go Go.V
theorem own : ownKnob Tryz.prog.godebug=none:=by kernel_rfl
theorem laid : laidOutB Tryz.prog=true:=by kernel_rfl
def tab : List Nat:=[2,3,4,5,6,9,10,11,12,21,22,23,25,26,27,28,30,43,45,48,49,51,52,54,57,59,80,83,86,98,108,110,140,142,151,153,154,170,171,174,175]
theorem ag3 : ado Tryz.prog abu tab=true:=by kernel_rfl
theorem ag4 : ∀e c,abu e=some c->e∈tab:=aaq _
theorem Kt (x1:List M.ak) (hx1:∀m,Val m [.bD U.Prog] (x1,())) (x2:List Int) (hx2:∀m,Val m [.bD U.i64] (x2,())):M.jw x1 x2=some true:=M.YP x1 x2 ⟨(hx1 0).1.1,fun y hy=>M.ak.zo y (fun m=>(hx1 (m+1)).1.2 y hy)⟩
theorem lifted (os:Os) (started:os.Started) (H:Type) (enc:TypeId×Value->H):
 ReturnsInHanded {} Tryz.checked os 3 .any (Rows.fnExactNewAsyncSpec.pre6 enc Tryz.prog Tryz.f3 Rows.fnExactNewAsyncRow.domain false) (Rows.fnExactNewAsyncSpec.post enc Tryz.prog Tryz.f3 false true false false):=by
 refine returnsInHanded_of_change (C:=Tryz.checked) own started (by kernel_rfl) Tryz.func3
  (ChangeSpec.witness6 (enc:=enc) (C:=Tryz.checked) false ⟨#[], #[.slice none 0 0, .slice none 0 0],[]⟩ 8 (by kernel_rfl) (by kernel_rfl) (by kernel_rfl) (by kernel_rfl)) ?_
 intro W base args ds gs before hval hW _ _;exact aei (C:=Tryz.checked) (c:=pY M.jw) laid ag3 ag4 (by kernel_rfl) rfl (fun | [d1,d2],_=>rfl) rfl Tryz.underlying4 rfl Kr rfl (by kernel_rfl)
  ⟨true,rfl,fun x y h=>Kt x.1 (fun m=>(h m).1) x.2.1 (fun m=>(h m).2.1)⟩ hval hW trivial
theorem over : Rows.fnExactNewAsyncRow.holds Tryz.pinned (OpenSpec.ofChange Rows.fnExactNewAsyncSpec):=
 OpenClaim.holds_of_wide 3 Tryz.f3 rfl rfl rfl rfl rfl rfl rfl ⟨rfl,rfl,rfl,rfl,rfl⟩ rfl rfl rfl rfl rfl (by kernel_rfl) Tryz.func3 (by kernel_rfl)
  (of_decide_eq_true (by kernel_rfl)) (by unfold Func.isWrapper;first |(rw[if_pos (by decide+kernel)];kernel_rfl) |(rw[if_neg (by decide+kernel)];exact ⟨rfl,rfl⟩))
  (fun os started H enc _=>lifted os started H enc)
theorem fnExactNewAsync_holds : Rows.FnExactNewAsyncSaid:=over
end Go.Proofs.YtjdnmlhfiblhdaaGreat
