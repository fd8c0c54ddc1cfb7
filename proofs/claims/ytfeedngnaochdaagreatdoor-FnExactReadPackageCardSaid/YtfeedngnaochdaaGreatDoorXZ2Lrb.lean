/-
  For every argument the law FnExactReadPackage returns true, and its arguments read behind the call as they read before. Conditions: none beside those of the given row.
-/
import Derived.Test.YtfeedngnaochdaaGreatDoorXZ2Lra
set_option linter.unusedVariables false
set_option maxRecDepth 100000
namespace Go.Proofs.YtfeedngnaochdaaGreatDoor
open Go Go.V Go.Shelf Go.RowKit
theorem both{a b:Bool}(h:a=true)(k:b=true):(a&&b)=true:=by rw[h,k];rfl
theorem j1:(Rows.fnExactReadPackageRow.wf (OpenSpec.ofChange Rows.fnExactReadPackageSpec))=true:=by kernel_rfl
theorem j2:(laidOutB Tryz.prog)=true:=by kernel_rfl
theorem j3:(mapsRowed Tryz.prog)=true:=by kernel_rfl
theorem j4:(Tryz.f3.params.all (Tryz.prog.readableRec ·))=true:=by kernel_rfl
theorem j5:(namedTie Tryz.prog Rows.fnExactReadPackageRow.named Rows.fnExactReadPackageSpec.vars)=true:=by kernel_rfl
theorem j6:((Rows.fnExactReadPackageRow.stops==[]))=true:=by kernel_rfl
theorem j7:((Tryz.prog.stops==[]))=true:=by kernel_rfl
theorem j8:((Rows.fnExactReadPackageRow.knobs==[]))=true:=by kernel_rfl
theorem j9:((Tryz.prog.stopKnobs==[]))=true:=by kernel_rfl
theorem j10:((Rows.fnExactReadPackageRow.inPlace==Tryz.prog.inPlace 3))=true:=by kernel_rfl
theorem j11:((Rows.fnExactReadPackageRow.unfollowed==Tryz.prog.unfollowed 3))=true:=by kernel_rfl
theorem j12:((Rows.fnExactReadPackageRow.recurses==Tryz.prog.recurses 3))=true:=by kernel_rfl
theorem j13:((Rows.fnExactReadPackageRow.named==Tryz.prog.varsNamed 3))=true:=by kernel_rfl
theorem j14:((Rows.fnExactReadPackageRow.maps==(Tryz.f3.params.toList++Rows.fnExactReadPackageSpec.plain.varTypes Tryz.prog).any (Tryz.prog.mapsRec ·)))=true:=by kernel_rfl
theorem j15:((Rows.fnExactReadPackageRow.ifaces==(Tryz.f3.params.toList++Rows.fnExactReadPackageSpec.plain.varTypes Tryz.prog).any (Tryz.prog.ifacesRec ·)))=true:=by kernel_rfl
theorem j16:((Rows.fnExactReadPackageRow.mapsOut==Tryz.prog.mapsAmong Tryz.f3.resultTypes.toList))=true:=by kernel_rfl
theorem j17:((Rows.fnExactReadPackageRow.loops==(Tryz.f3.params.toList++Rows.fnExactReadPackageSpec.plain.varTypes Tryz.prog).any (Tryz.prog.loopsFrom ·)))=true:=by kernel_rfl
theorem j18:((Rows.fnExactReadPackageRow.wideKeys==(Tryz.f3.params.toList++Rows.fnExactReadPackageSpec.plain.varTypes Tryz.prog++Tryz.f3.resultTypes.toList).any (Tryz.prog.wideKeysFrom ·)))=true:=by kernel_rfl
theorem j19:(Rows.fnExactReadPackageSpec.vars.all (Tryz.prog.varReadable ·))=true:=by kernel_rfl
theorem j20:(Tryz.f3.resultTypes.all (fun t=>Tryz.prog.readableRec t&&decide (t<Tryz.prog.types.size)))=true:=by kernel_rfl
theorem j21:((Rows.fnExactReadPackageRow.ifacesOut==Tryz.f3.resultTypes.toList.any (Tryz.prog.ifacesRec ·)))=true:=by kernel_rfl
theorem j22:((Rows.fnExactReadPackageRow.loopsOut==Tryz.f3.resultTypes.toList.any (Tryz.prog.loopsFrom ·)))=true:=by kernel_rfl
theorem j23:((Rows.fnExactReadPackageRow.plainKeys==Tryz.prog.plainKeys))=true:=by kernel_rfl
theorem j24:(Rows.fnExactReadPackageRow.shortTexts.isNone)=true:=by kernel_rfl
theorem j25:(Tryz.prog.stopsHeard)=true:=by kernel_rfl
theorem j26:(Tryz.prog.mayEnter)=true:=by kernel_rfl
theorem j27:((Rows.fnExactReadPackageRow.lifted==Tryz.prog.liftsFinal))=true:=by kernel_rfl
theorem j28:((Tryz.prog.make==some Rows.fnExactReadPackageRow.make))=true:=by kernel_rfl
theorem j29:((Rows.fnExactReadPackageRow.kinds==(if Rows.fnExactReadPackageRow.domain.isEmpty then[]else Tryz.f3.params.toList.map fun t=>match Tryz.prog.underlying t with|some (.int k)=>some k|_=>none)))=true:=by kernel_rfl
theorem j30:((Rows.fnExactReadPackageRow.pinned==Rows.fnExactReadPackageRow.pinnedBy))=true:=by kernel_rfl
theorem j31:((Rows.fnExactReadPackageRow.veiled==(Tryz.f3.params.toList++Rows.fnExactReadPackageSpec.plain.varTypes Tryz.prog++Tryz.f3.resultTypes.toList).any (Tryz.prog.veiledRec ·)))=true:=by kernel_rfl
theorem j32:(Rows.fnExactReadPackageRow.veiledFits Tryz.prog Tryz.f3.params.toList (Tryz.f3.params.toList++Rows.fnExactReadPackageSpec.plain.varTypes Tryz.prog++Tryz.f3.resultTypes.toList))=true:=by kernel_rfl
theorem joined:joinedFacts Tryz.prog 3 Tryz.f3 Rows.fnExactReadPackageSpec Rows.fnExactReadPackageRow=true:=by
 unfold joinedFacts;exact(both (both (both (both (both (both (both (both (both (both (both (both (both (both (both (both (both (both (both (both (both (both (both (both (both (both (both (both (both (both (both j1 j2) j3) j4) j5) j6) j7) j8) j9) j10) j11) j12) j13) j14) j15) j16) j17) j18) j19) j20) j21) j22) j23) j24) j25) j26) j27) j28) j29) j30) j31) j32)
theorem over:Rows.fnExactReadPackageRow.holds Tryz.pinned (OpenSpec.ofChange Rows.fnExactReadPackageSpec):=
 OpenClaim.holds_of_wide 3 Tryz.f3 rfl rfl rfl rfl rfl rfl rfl ⟨rfl,rfl,rfl,rfl,rfl⟩ rfl rfl rfl rfl rfl (by kernel_rfl) Tryz.func3 joined
  (jQ (by kernel_rfl)) (by unfold Func.isWrapper;first|(rw[aO (by decide+kernel)];kernel_rfl)|(rw[aX (by decide+kernel)];exact⟨rfl,rfl⟩))
  (fun os started H enc _=>lifted os started H enc)
end Go.Proofs.YtfeedngnaochdaaGreatDoor
