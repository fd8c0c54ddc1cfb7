/-
  For every argument the law FnExactLowerParams returns true, and its arguments read behind the call as they read before. Conditions: none beside those of the given row.
-/
import Derived.Test.YtalddlopgnfpaaaGreatDoorXIGC
import Derived.Test.YtalddlopgnfpaaaGreatDoorXIlaw2
import Derived.Test.YtalddlopgnfpaaaGreatDoorXIR
import Derived.Test.YtalddlopgnfpaaaGreatDoorRows
import Derived.Test.YtalddlopgnfpaaaGreatDoorTie
import Derived.Test.YtalddlopgnfpaaaGreatDoorCards
import Derived.ProofKit
import Derived.LaidMore
import Derived.OpenShut
import Derived.Stop.Joined
import Derived.PinnedBridge
import Derived.Lay
import Derived.LaidOnce
import Derived.SevenTiedAt
import Derived.Lib.LaidU8T
import Derived.Lib.LaidIn
set_option linter.unusedVariables false
set_option maxRecDepth 100000
namespace Go.Proofs.YtalddlopgnfpaaaGreatDoor
open Go Go.V
theorem own:ownKnob Tryz.prog.godebug=none:=by kernel_rfl
theorem laid:laidOutB Tryz.prog=true:=by kernel_rfl
def tab:List Nat:=[2,3,4,5,6,9,10,11,12,21,22,24,25,26,28,29,31,35,37,41,43,45,47,56,82,122,124,128,131,149,184,185,190,206,216,232,233,236,237]
theorem ajA:yf Tryz.prog B9 tab=true:=by kernel_rfl
theorem ajB:∀e c,B9 e=some c->e∈tab:=WN _
theorem ajC(x1:M.aB)(hx1:∀m,mQ m U.dR x1)(x2:Int)(x3:List M.aa)(hx3:∀m,Val m [.aj U.Type] (x3,()))(x4:List M.ae)(hx4:∀m,Val m [.aj U.Value] (x4,())):M.ql x1 x2 x3 x4=some true:=M.ajD x1 x2 x3 x4 (M.aB.qo x1 hx1) ⟨(hx3 0).1.1,fun y hy=>M.aa.qo y (fun m=>(hx3 (m+1)).1.2 y hy)⟩ ⟨(hx4 0).1.1,fun y hy=>M.ae.qo y (fun m=>(hx4 (m+1)).1.2 y hy)⟩
theorem apJ:Rows.fnExactLowerParamsRow.laid=[("unicode/utf8.acceptRanges",Rows.laid_unicode_utf8_acceptRanges),("unicode/utf8.first",Rows.laid_unicode_utf8_first)]:=rfl
theorem tabs{W:World}(hL:laidMetH Tryz.prog Rows.fnExactLowerParamsRow.laid W):Go.V.D.base.inv (Old W) W:=by
 rw[MakeChecks.laidMetH_plain _ _ _ (by kernel_rfl)]at hL;have e1:(Rows.laid_unicode_utf8_acceptRanges:DataW Unit)=Lib.acceptData:=by kernel_rfl
 have r1:Lib.VarReads Tryz.prog W "unicode/utf8.first" Lib.firstData:=by
  have:=Lib.laidMet.reads hL (.tail _ (.head _));rw[show(Rows.laid_unicode_utf8_first:DataW Unit)=Lib.firstData from Pinned.utf8First_eq]at this;exact this
 have r2:Lib.VarReads Tryz.prog W "unicode/utf8.acceptRanges" Lib.acceptData:=by
  have:=Lib.laidMet.reads hL (.head _);rw[e1]at this;exact this
 have hT:Lib.Utf8Tabs 0 1 W:=utf8Tabs_of_readsT (U8Types.of196 Tryz.laysValid) ⟨by kernel_rfl,by kernel_rfl,by kernel_rfl,by kernel_rfl,by kernel_rfl,by kernel_rfl,by kernel_rfl⟩ r1 r2;have hlt:∀(b:Nat)(v:Value),W.cell? ⟨b,0,none⟩=some v->b<W.heap.size:=fun b v h=>by
  rcases cO b W.heap.size with h'|h'
  ·exact h'
  ·simp[World.cell?,uY h']at h
 exact⟨hlt 0 _ (hT.1 0 (by decide)),hlt 1 _ (hT.2 0 (by decide)).1,hT⟩
theorem lifted(os:Os)(started:os.Started)(H:Type)(enc:TypeId×Value->H):
 ReturnsInHanded {} Tryz.checked os 6 .any (fun w args=>(Rows.fnExactLowerParamsSpec.pre enc Tryz.prog Tryz.f6 [] false w args/\laidMetH Tryz.prog Rows.fnExactLowerParamsRow.laid w)/\sizedMet enc Tryz.prog Tryz.f6 (OpenSpec.ofChange Rows.fnExactLowerParamsSpec) false w args) (Rows.fnExactLowerParamsSpec.post enc Tryz.prog Tryz.f6 false true false false):=by
 refine returnsInHanded_of_change_and (C:=Tryz.checked) (X:=fun w _=>laidMetH Tryz.prog Rows.fnExactLowerParamsRow.laid w) (fun _ _ _ hh h=>h.of_heap hh) own started (by kernel_rfl) Tryz.func6
  (ChangeSpec.witness_shaped (enc:=enc) (C:=Tryz.checked) (os:=os) (X:=fun w _=>laidMetH Tryz.prog Rows.fnExactLowerParamsRow.laid w) false (World.laidAll Tryz.prog os Rows.fnExactLowerParamsRow.laid) #[.agg #[.string ⟨#[]⟩,.slice none 0 0],.int .i64 0,.slice none 0 0,.slice none 0 0] 8 (World.laidAll_os _ _ _)
    (World.shaped_of_ZipB (by kernel_rfl) (by kernel_rfl)) (by kernel_rfl) (by kernel_rfl) (by kernel_rfl)
    (by rw[MakeChecks.laidMetH_plain _ _ _ (by kernel_rfl)];exact laidMet_laidAll _ (by kernel_rfl) (by kernel_rfl))) ?_
 intro W base args ds gs before hval hW _ _ hL _;exact ajE (C:=Tryz.checked) (c:=JB M.ql) laid ajA ajB (by kernel_rfl) rfl (fun|[d1,d2,d3,d4],_=>rfl) rfl Tryz.underlying4 rfl ajc rfl (by kernel_rfl)
  ⟨true,rfl,fun x y h=>ajC x.1 (fun m=>(h m).1) x.2.1 x.2.2.1 (fun m=>(h m).2.2.1) x.2.2.2.1 (fun m=>(h m).2.2.2.1)⟩ hval hW (tabs hL)
theorem over:Rows.fnExactLowerParamsRow.holds Tryz.pinned (OpenSpec.ofChange Rows.fnExactLowerParamsSpec):=
 OpenClaim.holds_of_wide 6 Tryz.f6 rfl rfl rfl rfl rfl rfl rfl ⟨rfl,rfl,rfl,rfl,rfl⟩ rfl rfl rfl rfl rfl (by kernel_rfl) Tryz.func6 (by kernel_rfl)
  (JD (by kernel_rfl)) (by unfold Func.isWrapper;first|(rw[av (by decide+kernel)];kernel_rfl)|(rw[an (by decide+kernel)];exact⟨rfl,rfl⟩))
  (fun os started H enc _=>lifted os started H enc)
theorem fnExactLowerParams_holds:Rows.FnExactLowerParamsCardSaid:=
 Claim7.holds_tied_plain_at .later [] [.data,.pinned] true (true, "4891c6bd9488d79db541eb8cdf8bbaf7fa58b4b4dba4a97d7a09484ed05e8321") false
  over (fun _ h=>by cases h) (by kernel_rfl) (fun _ h=>by cases h) fnExactLowerParams_row_tie rfl ⟨rfl,rfl⟩ (by kernel_rfl) rfl
  (fun f fn hf hfn=>by
    obtain rfl:f=6:=ft ((show Tryz.prog.funcNamed "loop.example/g00901/laws.FnExactLowerParams" =some 6 by kernel_rfl).symm.trans hf) |>.symm
    obtain rfl:fn=Tryz.f6:=(ft (Tryz.func6.symm.trans hfn)).symm;exact⟨by kernel_rfl,fun j t ht=>by
     rw[Tryz.params6]at ht;have hm:t∈[24,2,26,29]:=by simpa using Array.mem_of_getElem? ht
     have hall:([24,2,26,29].all fun u=> !Tryz.prog.wantsStandIn u)=true:=by kernel_rfl
     exact(show Tryz.prog.wantsStandIn t=false by simpa using eP.1 hall t hm)⟩)
  (by kernel_rfl)
end Go.Proofs.YtalddlopgnfpaaaGreatDoor
