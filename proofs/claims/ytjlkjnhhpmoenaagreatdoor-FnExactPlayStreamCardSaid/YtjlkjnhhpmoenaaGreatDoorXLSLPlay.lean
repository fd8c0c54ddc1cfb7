/-
  For every argument the law FnExactPlayStream returns true, and its arguments read behind the call as they read before. Conditions: none beside those of the given row.
-/
import Derived.Test.YtjlkjnhhpmoenaaGreatDoorXLSC
import Derived.Test.YtjlkjnhhpmoenaaGreatDoorXQlaw2
import Derived.Test.YtjlkjnhhpmoenaaGreatDoorXMK
import Derived.Test.YtjlkjnhhpmoenaaGreatDoorRows
import Derived.Test.YtjlkjnhhpmoenaaGreatDoorTie
import Derived.Test.YtjlkjnhhpmoenaaGreatDoorCards
import Derived.ProofKit
import Derived.LaidMore
import Derived.OpenShut
import Derived.Stop.Joined
import Derived.PinnedBridge
import Derived.Lay
import Derived.LaidOnce
import Derived.SevenTiedAt
import Derived.Lib.LaidU8T
import Derived.Lib.LaidIn
set_option linter.unusedVariables false
set_option maxRecDepth 100000
namespace Go.Proofs.YtjlkjnhhpmoenaaGreatDoor
open Go Go.V
theorem own : ownKnob Tryz.prog.godebug=none:=by kernel_rfl
theorem laid : laidOutB Tryz.prog=true:=by kernel_rfl
def tab : List Nat:=[2,3,4,5,6,9,10,11,12,21,22,23,25,26,28,29,32,34,35,37,41,50,55,65,75,96,103,120,122,133,168,186,196,212,213,216,217]
theorem alj : agm Tryz.prog aeh tab=true:=by kernel_rfl
theorem alk : ∀e c,aeh e=some c->e∈tab:=acO _
theorem I7 (x1:M.ah) (hx1:∀m,XH m U.Stream x1) (x2:Int) (x3:List M.ai) (hx3:∀m,Val m [.bV U.aU] (x3,())):M.jH x1 x2 x3=some true:=M.XM x1 x2 x3 (M.ah.Ry x1 hx1) ⟨(hx3 0).1.1,fun y hy=>M.ai.Ry y (fun m=>(hx3 (m+1)).1.2 y hy)⟩
theorem ak4 : Rows.fnExactPlayStreamRow.laid=[("unicode/utf8.acceptRanges",Rows.laid_unicode_utf8_acceptRanges),("unicode/utf8.first",Rows.laid_unicode_utf8_first)]:=rfl
theorem tabs {W:World} (hL:laidMetH Tryz.prog Rows.fnExactPlayStreamRow.laid W):Go.V.D.base.inv (Old W) W:=by
 rw[MakeChecks.laidMetH_plain _ _ _ (by kernel_rfl)] at hL
 have e1:(Rows.laid_unicode_utf8_acceptRanges:DataW Unit)=Lib.acceptData:=by kernel_rfl
 have r1:Lib.VarReads Tryz.prog W "unicode/utf8.first" Lib.firstData:=by
  have:=Lib.laidMet.reads hL (.tail _ (.head _));rw[show (Rows.laid_unicode_utf8_first:DataW Unit)=Lib.firstData from Pinned.utf8First_eq] at this
  exact this
 have r2:Lib.VarReads Tryz.prog W "unicode/utf8.acceptRanges" Lib.acceptData:=by
  have:=Lib.laidMet.reads hL (.head _);rw[e1] at this;exact this
 have hT:Lib.Utf8Tabs 0 1 W:=utf8Tabs_of_readsT (U8Types.of196 Tryz.laysValid) ⟨by kernel_rfl,by kernel_rfl,by kernel_rfl,by kernel_rfl,by kernel_rfl,by kernel_rfl,by kernel_rfl⟩ r1 r2
 have hlt:∀(b:Nat) (v:Value),W.cell? ⟨b,0,none⟩=some v->b<W.heap.size:=fun b v h=>by
  rcases Nat.lt_or_ge b W.heap.size with h' |h'
  ·exact h'
  ·simp[World.cell?,Array.getElem?_eq_none h'] at h
 exact ⟨hlt 0 _ (hT.1 0 (by decide)),hlt 1 _ (hT.2 0 (by decide)).1,hT⟩
theorem lifted (os:Os) (started:os.Started) (H:Type) (enc:TypeId×Value->H):
 ReturnsInHanded {} Tryz.checked os 3 .any (fun w args=>(Rows.fnExactPlayStreamSpec.pre enc Tryz.prog Tryz.f3 [] false w args /\ laidMetH Tryz.prog Rows.fnExactPlayStreamRow.laid w) /\ sizedMet enc Tryz.prog Tryz.f3 (OpenSpec.ofChange Rows.fnExactPlayStreamSpec) false w args) (Rows.fnExactPlayStreamSpec.post enc Tryz.prog Tryz.f3 false true false false):=by
 refine returnsInHanded_of_change_and (C:=Tryz.checked) (X:=fun w _=>laidMetH Tryz.prog Rows.fnExactPlayStreamRow.laid w) (fun _ _ _ hh h=>h.of_heap hh) own started (by kernel_rfl) Tryz.func3
  (ChangeSpec.witness_shaped (enc:=enc) (C:=Tryz.checked) (os:=os) (X:=fun w _=>laidMetH Tryz.prog Rows.fnExactPlayStreamRow.laid w) false (World.laidAll Tryz.prog os Rows.fnExactPlayStreamRow.laid) #[.agg #[.int .i64 0, .string ⟨#[]⟩, .slice none 0 0, .slice none 0 0, .int .i64 0, .bool false, .slice none 0 0, .int .i64 0, .int .i64 0, .bool false, .bool false], .int .i64 0, .slice none 0 0] 8 (World.laidAll_os _ _ _)
    (World.shaped_of_ZipB (by kernel_rfl) (by kernel_rfl)) (by kernel_rfl) (by kernel_rfl) (by kernel_rfl)
    (by rw[MakeChecks.laidMetH_plain _ _ _ (by kernel_rfl)];exact laidMet_laidAll _ (by kernel_rfl) (by kernel_rfl))) ?_
 intro W base args ds gs before hval hW _ _ hL _;exact ahb (C:=Tryz.checked) (c:=qp M.jH) laid alj alk (by kernel_rfl) rfl (fun | [d1,d2,d3],_=>rfl) rfl Tryz.underlying4 rfl I5 rfl (by kernel_rfl)
  ⟨true,rfl,fun x y h=>I7 x.1 (fun m=>(h m).1) x.2.1 x.2.2.1 (fun m=>(h m).2.2.1)⟩ hval hW (tabs hL)
theorem over : Rows.fnExactPlayStreamRow.holds Tryz.pinned (OpenSpec.ofChange Rows.fnExactPlayStreamSpec):=
 OpenClaim.holds_of_wide 3 Tryz.f3 rfl rfl rfl rfl rfl rfl rfl ⟨rfl,rfl,rfl,rfl,rfl⟩ rfl rfl rfl rfl rfl (by kernel_rfl) Tryz.func3 (by kernel_rfl)
  (of_decide_eq_true (by kernel_rfl)) (by unfold Func.isWrapper;first |(rw[if_pos (by decide+kernel)];kernel_rfl) |(rw[if_neg (by decide+kernel)];exact ⟨rfl,rfl⟩))
  (fun os started H enc _=>lifted os started H enc)
theorem fnExactPlayStream_holds : Rows.FnExactPlayStreamCardSaid:=
 Claim7.holds_tied_plain_at .later [] [.data, .pinned] true (true, "a0eed1cd50af9f0dc0f6325662d3d8f532215af30f32588064670c23c3695834") false
  over (fun _ h=>by cases h) (by kernel_rfl) (fun _ h=>by cases h) fnExactPlayStream_row_tie rfl ⟨rfl,rfl⟩ (by kernel_rfl) rfl
  (fun f fn hf hfn=>by
    obtain rfl:f=3:=Option.some.inj ((show Tryz.prog.funcNamed "loop.example/g00901/laws.FnExactPlayStream" =some 3 by kernel_rfl).symm.trans hf) |>.symm
    obtain rfl:fn=Tryz.f3:=(Option.some.inj (Tryz.func3.symm.trans hfn)).symm;exact ⟨by kernel_rfl,fun j t ht=>by
     rw[Tryz.params3] at ht;have hm:t∈[28,2,29]:=by simpa using Array.mem_of_getElem? ht
     have hall:([28,2,29].all fun u=> !Tryz.prog.wantsStandIn u)=true:=by kernel_rfl
     exact (show Tryz.prog.wantsStandIn t=false by simpa using List.all_eq_true.1 hall t hm)⟩)
  (by kernel_rfl)
end Go.Proofs.YtjlkjnhhpmoenaaGreatDoor
