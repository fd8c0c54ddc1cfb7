/-
  For every argument the law FnStreams returns true, and its arguments read behind the call as they read before. Conditions: none beside those of the given row.
-/
import Derived.Test.YtefdfjaifkhphaaGreatDoorXUQC
import Derived.Test.YtefdfjaifkhphaaGreatDoorXUlaw2
import Derived.Test.YtefdfjaifkhphaaGreatDoorXUX
import Derived.Test.YtefdfjaifkhphaaGreatDoorRows
import Derived.Test.YtefdfjaifkhphaaGreatDoorTie
import Derived.Test.YtefdfjaifkhphaaGreatDoorCards
import Derived.ProofKit
import Derived.LaidMore
import Derived.OpenShut
import Derived.Stop.Joined
import Derived.PinnedBridge
import Derived.Lay
import Derived.LaidOnce
import Derived.SevenTiedAt
import Derived.Lib.LaidU8T
import Derived.Lib.LaidIn
set_option linter.unusedVariables false
set_option maxRecDepth 100000
namespace Go.Proofs.YtefdfjaifkhphaaGreatDoor
open Go Go.V
theorem own : ownKnob Tryz.prog.godebug=none:=by kernel_rfl
theorem laid : laidOutB Tryz.prog=true:=by kernel_rfl
def tab : List Nat:=[2,3,4,5,6,9,10,11,12,21,22,24,25,27,28,30,31,38,52,54,73,75,90,134,152,162,178,179,182,183]
theorem ahd : acM Tryz.prog aaR tab=true:=by kernel_rfl
theorem ahe : ∀e c,aaR e=some c->e∈tab:=Zw _
theorem ak3 (x1:List UInt8) (hx1:∀m,Val m [.bn U.u8] (x1,())):M.aif x1=some true:=M.alp x1
theorem ag2 : Rows.fnStreamsRow.laid=[("unicode/utf8.acceptRanges",Rows.laid_unicode_utf8_acceptRanges),("unicode/utf8.first",Rows.laid_unicode_utf8_first)]:=rfl
theorem tabs {W:World} (hL:laidMetH Tryz.prog Rows.fnStreamsRow.laid W):Go.V.D.base.inv (Old W) W:=by
 rw[MakeChecks.laidMetH_plain _ _ _ (by kernel_rfl)] at hL
 have e1:(Rows.laid_unicode_utf8_acceptRanges:DataW Unit)=Lib.acceptData:=by kernel_rfl
 have r1:Lib.VarReads Tryz.prog W "unicode/utf8.first" Lib.firstData:=by
  have:=Lib.laidMet.reads hL (.tail _ (.head _));rw[show (Rows.laid_unicode_utf8_first:DataW Unit)=Lib.firstData from Pinned.utf8First_eq] at this
  exact this
 have r2:Lib.VarReads Tryz.prog W "unicode/utf8.acceptRanges" Lib.acceptData:=by
  have:=Lib.laidMet.reads hL (.head _);rw[e1] at this;exact this
 have hT:Lib.Utf8Tabs 0 1 W:=utf8Tabs_of_readsT (U8Types.of196 Tryz.laysValid) ⟨by kernel_rfl,by kernel_rfl,by kernel_rfl,by kernel_rfl,by kernel_rfl,by kernel_rfl,by kernel_rfl⟩ r1 r2
 have hlt:∀(b:Nat) (v:Value),W.cell? ⟨b,0,none⟩=some v->b<W.heap.size:=fun b v h=>by
  rcases Nat.lt_or_ge b W.heap.size with h' |h'
  ·exact h'
  ·simp[World.cell?,Array.getElem?_eq_none h'] at h
 exact ⟨hlt 0 _ (hT.1 0 (by decide)),hlt 1 _ (hT.2 0 (by decide)).1,hT⟩
theorem lifted (os:Os) (started:os.Started) (H:Type) (enc:TypeId×Value->H):
 ReturnsInHanded {} Tryz.checked os 3 .any (fun w args=>(Rows.fnStreamsSpec.pre enc Tryz.prog Tryz.f3 [] false w args /\ laidMetH Tryz.prog Rows.fnStreamsRow.laid w) /\ sizedMet enc Tryz.prog Tryz.f3 (OpenSpec.ofChange Rows.fnStreamsSpec) false w args) (Rows.fnStreamsSpec.post enc Tryz.prog Tryz.f3 false true false false):=by
 refine returnsInHanded_of_change_and (C:=Tryz.checked) (X:=fun w _=>laidMetH Tryz.prog Rows.fnStreamsRow.laid w) (fun _ _ _ hh h=>h.of_heap hh) own started (by kernel_rfl) Tryz.func3
  (ChangeSpec.witness_shaped (enc:=enc) (C:=Tryz.checked) (os:=os) (X:=fun w _=>laidMetH Tryz.prog Rows.fnStreamsRow.laid w) false (World.laidAll Tryz.prog os Rows.fnStreamsRow.laid) #[.slice none 0 0] 8 (World.laidAll_os _ _ _)
    (World.shaped_of_ZipB (by kernel_rfl) (by kernel_rfl)) (by kernel_rfl) (by kernel_rfl) (by kernel_rfl)
    (by rw[MakeChecks.laidMetH_plain _ _ _ (by kernel_rfl)];exact laidMet_laidAll _ (by kernel_rfl) (by kernel_rfl))) ?_
 intro W base args ds gs before hval hW _ _ hL _;exact adJ (C:=Tryz.checked) (c:=aiR M.aif) laid ahd ahe (by kernel_rfl) rfl (fun | [d1],_=>rfl) rfl Tryz.underlying4 rfl ak2 rfl (by kernel_rfl)
  ⟨true,rfl,fun x y h=>ak3 x.1 (fun m=>(h m).1)⟩ hval hW (tabs hL)
theorem over : Rows.fnStreamsRow.holds Tryz.pinned (OpenSpec.ofChange Rows.fnStreamsSpec):=
 OpenClaim.holds_of_wide 3 Tryz.f3 rfl rfl rfl rfl rfl rfl rfl ⟨rfl,rfl,rfl,rfl,rfl⟩ rfl rfl rfl rfl rfl (by kernel_rfl) Tryz.func3 (by kernel_rfl)
  (of_decide_eq_true (by kernel_rfl)) (by unfold Func.isWrapper;first |(rw[if_pos (by decide+kernel)];kernel_rfl) |(rw[if_neg (by decide+kernel)];exact ⟨rfl,rfl⟩))
  (fun os started H enc _=>lifted os started H enc)
theorem fnStreams_holds : Rows.FnStreamsCardSaid:=
 Claim7.holds_tied_plain_at .later [] [.data, .pinned] true (true, "58e5a2fddd16576daa48984a6285018d2c05c01d92fd149b81d9587b8c08a752") false
  over (fun _ h=>by cases h) (by kernel_rfl) (fun _ h=>by cases h) fnStreams_row_tie rfl ⟨rfl,rfl⟩ (by kernel_rfl) rfl
  (fun f fn hf hfn=>by
    obtain rfl:f=3:=Option.some.inj ((show Tryz.prog.funcNamed "loop.example/g00901/laws.FnStreams" =some 3 by kernel_rfl).symm.trans hf) |>.symm
    obtain rfl:fn=Tryz.f3:=(Option.some.inj (Tryz.func3.symm.trans hfn)).symm;exact ⟨by kernel_rfl,fun j t ht=>by
     rw[Tryz.params3] at ht;have hm:t∈[22]:=by simpa using Array.mem_of_getElem? ht
     have hall:([22].all fun u=> !Tryz.prog.wantsStandIn u)=true:=by kernel_rfl
     exact (show Tryz.prog.wantsStandIn t=false by simpa using List.all_eq_true.1 hall t hm)⟩)
  (by kernel_rfl)
end Go.Proofs.YtefdfjaifkhphaaGreatDoor
