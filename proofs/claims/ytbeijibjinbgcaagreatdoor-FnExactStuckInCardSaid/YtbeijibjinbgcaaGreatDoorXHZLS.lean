/-
  For every argument the law FnExactStuckIn returns true, and its arguments read behind the call as they read before. Conditions: none beside those of the given row.
-/
import Derived.Test.YtbeijibjinbgcaaGreatDoorXHZC
import Derived.Test.YtbeijibjinbgcaaGreatDoorXHlaw2
import Derived.Test.YtbeijibjinbgcaaGreatDoorXHS
import Derived.Test.YtbeijibjinbgcaaGreatDoorRows
import Derived.Test.YtbeijibjinbgcaaGreatDoorTie
import Derived.Test.YtbeijibjinbgcaaGreatDoorCards
import Derived.ProofKit
import Derived.LaidMore
import Derived.OpenShut
import Derived.Stop.Joined
import Derived.PinnedBridge
import Derived.Lay
import Derived.LaidOnce
import Derived.SevenTiedAt
import Derived.Lib.LaidU8T
import Derived.Lib.LaidIn
set_option linter.unusedVariables false
set_option maxRecDepth 100000
namespace Go.Proofs.YtbeijibjinbgcaaGreatDoor
open Go Go.V
theorem own:ownKnob Tryz.prog.godebug=none:=by kernel_rfl
theorem laid:laidOutB Tryz.prog=true:=by kernel_rfl
def tab:List Nat:=[2,3,4,5,6,9,10,11,12,21,22,23,24,25,26,28,31,32,33,34,36,61,68,76,78,80,81,83,84,86,88,91,93,94,96,100,104,106,112,117,158,172,176,183,221,237,238,256,266,282,283,286,287]
theorem aiR:vJ Tryz.prog zW tab=true:=by kernel_rfl
theorem aiS:∀e c,zW e=some c->e∈tab:=UK _
theorem apc(x1:M.ai)(hx1:∀m,iU m U.Async x1):M.amB x1=some true:=M.aov x1 (M.ai.ie x1 hx1)
theorem alW:Rows.fnExactStuckInRow.laid=[("unicode/utf8.acceptRanges",Rows.laid_unicode_utf8_acceptRanges),("unicode/utf8.first",Rows.laid_unicode_utf8_first)]:=rfl
theorem tabs{W:World}(hL:laidMetH Tryz.prog Rows.fnExactStuckInRow.laid W):Go.V.D.base.inv (Old W) W:=by
 rw[MakeChecks.laidMetH_plain _ _ _ (by kernel_rfl)]at hL;have e1:(Rows.laid_unicode_utf8_acceptRanges:DataW Unit)=Lib.acceptData:=by kernel_rfl
 have r1:Lib.VarReads Tryz.prog W "unicode/utf8.first" Lib.firstData:=by
  have:=Lib.laidMet.reads hL (.tail _ (.head _));rw[show(Rows.laid_unicode_utf8_first:DataW Unit)=Lib.firstData from Pinned.utf8First_eq]at this;exact this
 have r2:Lib.VarReads Tryz.prog W "unicode/utf8.acceptRanges" Lib.acceptData:=by
  have:=Lib.laidMet.reads hL (.head _);rw[e1]at this;exact this
 have hT:Lib.Utf8Tabs 0 1 W:=utf8Tabs_of_readsT (U8Types.of196 Tryz.laysValid) ⟨by kernel_rfl,by kernel_rfl,by kernel_rfl,by kernel_rfl,by kernel_rfl,by kernel_rfl,by kernel_rfl⟩ r1 r2;have hlt:∀(b:Nat)(v:Value),W.cell? ⟨b,0,none⟩=some v->b<W.heap.size:=fun b v h=>by
  rcases fY b W.heap.size with h'|h'
  ·exact h'
  ·simp[World.cell?,rX h']at h
 exact⟨hlt 0 _ (hT.1 0 (by decide)),hlt 1 _ (hT.2 0 (by decide)).1,hT⟩
theorem lifted(os:Os)(started:os.Started)(H:Type)(enc:TypeId×Value->H):
 ReturnsInHanded {} Tryz.checked os 4 .any (fun w args=>(Rows.fnExactStuckInSpec.pre enc Tryz.prog Tryz.f4 [] false w args/\laidMetH Tryz.prog Rows.fnExactStuckInRow.laid w)/\sizedMet enc Tryz.prog Tryz.f4 (OpenSpec.ofChange Rows.fnExactStuckInSpec) false w args) (Rows.fnExactStuckInSpec.post enc Tryz.prog Tryz.f4 false true false false):=by
 refine returnsInHanded_of_change_and (C:=Tryz.checked) (X:=fun w _=>laidMetH Tryz.prog Rows.fnExactStuckInRow.laid w) (fun _ _ _ hh h=>h.of_heap hh) own started (by kernel_rfl) Tryz.func4
  (ChangeSpec.witness_shaped (enc:=enc) (C:=Tryz.checked) (os:=os) (X:=fun w _=>laidMetH Tryz.prog Rows.fnExactStuckInRow.laid w) false (World.laidAll Tryz.prog os Rows.fnExactStuckInRow.laid) #[.agg #[.slice none 0 0,.slice none 0 0,.slice none 0 0,.slice none 0 0,.slice none 0 0]] 8 (World.laidAll_os _ _ _)
    (World.shaped_of_ZipB (by kernel_rfl) (by kernel_rfl)) (by kernel_rfl) (by kernel_rfl) (by kernel_rfl)
    (by rw[MakeChecks.laidMetH_plain _ _ _ (by kernel_rfl)];exact laidMet_laidAll _ (by kernel_rfl) (by kernel_rfl))) ?_
 intro W base args ds gs before hval hW _ _ hL _;exact aiU (C:=Tryz.checked) (c:=anh M.amB) laid aiR aiS (by kernel_rfl) rfl (fun|[d1],_=>rfl) rfl Tryz.underlying4 rfl apb rfl (by kernel_rfl)
  ⟨true,rfl,fun x y h=>apc x.1 (fun m=>(h m).1)⟩ hval hW (tabs hL)
theorem over:Rows.fnExactStuckInRow.holds Tryz.pinned (OpenSpec.ofChange Rows.fnExactStuckInSpec):=
 OpenClaim.holds_of_wide 4 Tryz.f4 rfl rfl rfl rfl rfl rfl rfl ⟨rfl,rfl,rfl,rfl,rfl⟩ rfl rfl rfl rfl rfl (by kernel_rfl) Tryz.func4 (by kernel_rfl)
  (DF (by kernel_rfl)) (by unfold Func.isWrapper;first|(rw[aF (by decide+kernel)];kernel_rfl)|(rw[bF (by decide+kernel)];exact⟨rfl,rfl⟩))
  (fun os started H enc _=>lifted os started H enc)
theorem fnExactStuckIn_holds:Rows.FnExactStuckInCardSaid:=
 Claim7.holds_tied_plain_at .later [] [.data,.pinned] true (true, "96005260f8c2fbbec7ebeff3431b594570e0e9c6dfa24c8ebd33bb3d97b4b62d") false
  over (fun _ h=>by cases h) (by kernel_rfl) (fun _ h=>by cases h) fnExactStuckIn_row_tie rfl ⟨rfl,rfl⟩ (by kernel_rfl) rfl
  (fun f fn hf hfn=>by
    obtain rfl:f=4:=mm ((show Tryz.prog.funcNamed "loop.example/g00901/laws.FnExactStuckIn" =some 4 by kernel_rfl).symm.trans hf) |>.symm
    obtain rfl:fn=Tryz.f4:=(mm (Tryz.func4.symm.trans hfn)).symm;exact⟨by kernel_rfl,fun j t ht=>by
     rw[Tryz.params4]at ht;have hm:t∈[28]:=by simpa using Array.mem_of_getElem? ht
     have hall:([28].all fun u=> !Tryz.prog.wantsStandIn u)=true:=by kernel_rfl
     exact(show Tryz.prog.wantsStandIn t=false by simpa using dW.1 hall t hm)⟩)
  (by kernel_rfl)
end Go.Proofs.YtbeijibjinbgcaaGreatDoor
