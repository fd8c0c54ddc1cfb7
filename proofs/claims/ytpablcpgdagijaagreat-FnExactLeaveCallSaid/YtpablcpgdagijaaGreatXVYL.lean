/-
  For every argument the law FnExactLeaveCall returns true, and its arguments read behind the call as they read before. Conditions: none beside those of the given row.
-/
import Derived.Test.YtpablcpgdagijaaGreatXVYC
import Derived.Test.YtpablcpgdagijaaGreatXClaw2
import Derived.Test.YtpablcpgdagijaaGreatXVPb
import Derived.Test.YtpablcpgdagijaaGreatRows
set_option linter.unusedVariables false
set_option maxRecDepth 100000
namespace Go.Proofs.YtpablcpgdagijaaGreat
open Go Go.V
theorem own:ownKnob Tryz.prog.godebug=none:=by kernel_rfl
theorem laid:laidOutB Tryz.prog=true:=by kernel_rfl
def tab:List Nat:=[2,3,4,5,6,9,10,11,12,21,22,23,25,26,27,29,30,33,34,36,37,39,43,63,65,80,86,88,90,110,117,119,122,127,135,178,190,191,192,195,196]
theorem aax:ou Tryz.prog i5 tab=true:=by kernel_rfl
theorem aay:∀e c,i5 e=some c->e∈tab:=E9 _
theorem aaz(x1:M.af)(hx1:∀m,gV m U.aS x1)(x2:List M.aB)(hx2:∀m,Val m [.au U.Pass] (x2,())):M.k9 x1 x2=some true:=M.TW x1 x2 (M.af.gh x1 hx1) ⟨(hx2 0).1.1,fun y hy=>M.aB.gh y (fun m=>(hx2 (m+1)).1.2 y hy)⟩
theorem lifted(os:Os)(started:os.Started)(H:Type)(enc:TypeId×Value->H):
 ReturnsInHanded {} Tryz.checked os 3 .any (Rows.fnExactLeaveCallSpec.pre6 enc Tryz.prog Tryz.f3 Rows.fnExactLeaveCallRow.domain false) (Rows.fnExactLeaveCallSpec.post enc Tryz.prog Tryz.f3 false true false false):=by
 refine returnsInHanded_of_change (C:=Tryz.checked) own started (by kernel_rfl) Tryz.func3
  (ChangeSpec.witness6 (enc:=enc) (C:=Tryz.checked) false ⟨#[], #[.agg #[.int .i64 0,.slice none 0 0,.slice none 0 0,.slice none 0 0,.int .i64 0,.slice none 0 0],.slice none 0 0],[]⟩ 8 (by kernel_rfl) (by kernel_rfl) (by kernel_rfl) (by kernel_rfl)) ?_
 intro W base args ds gs before hval hW _ _;exact QO (C:=Tryz.checked) (c:=BG M.k9) laid aax aay (by kernel_rfl) rfl (fun|[d1,d2],_=>rfl) rfl Tryz.underlying4 rfl Z8 rfl (by kernel_rfl)
  ⟨true,rfl,fun x y h=>aaz x.1 (fun m=>(h m).1) x.2.1 (fun m=>(h m).2.1)⟩ hval hW trivial
theorem over:Rows.fnExactLeaveCallRow.holds Tryz.pinned (OpenSpec.ofChange Rows.fnExactLeaveCallSpec):=
 OpenClaim.holds_of_wide 3 Tryz.f3 rfl rfl rfl rfl rfl rfl rfl ⟨rfl,rfl,rfl,rfl,rfl⟩ rfl rfl rfl rfl rfl (by kernel_rfl) Tryz.func3 (by kernel_rfl)
  (of_decide_eq_true (by kernel_rfl)) (by unfold Func.isWrapper;first|(rw[if_pos (by decide+kernel)];kernel_rfl)|(rw[if_neg (by decide+kernel)];exact⟨rfl,rfl⟩))
  (fun os started H enc _=>lifted os started H enc)
theorem fnExactLeaveCall_holds:Rows.FnExactLeaveCallSaid:=over
end Go.Proofs.YtpablcpgdagijaaGreat
