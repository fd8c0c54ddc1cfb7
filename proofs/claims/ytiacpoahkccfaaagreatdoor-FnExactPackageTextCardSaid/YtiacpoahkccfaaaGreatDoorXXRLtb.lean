/-
  For every argument the law FnExactPackageText returns true, and its arguments read behind the call as they read before. Conditions: none beside those of the given row.
-/
import Derived.Test.YtiacpoahkccfaaaGreatDoorXXRLta
set_option linter.unusedVariables false
set_option maxRecDepth 100000
namespace Go.Proofs.YtiacpoahkccfaaaGreatDoor
open Go Go.V Go.Shelf Go.RowKit
theorem both{a b:Bool}(h:a=true)(k:b=true):(a&&b)=true:=by rw[h,k];rfl
theorem j1:(Rows.fnExactPackageTextRow.wf (OpenSpec.ofChange Rows.fnExactPackageTextSpec))=true:=by kernel_rfl
theorem j2:(laidOutB Tryz.prog)=true:=by kernel_rfl
theorem j3:(mapsRowed Tryz.prog)=true:=by kernel_rfl
theorem j4:(Tryz.f7.params.all (Tryz.prog.readableRec ·))=true:=by kernel_rfl
theorem j5:(namedTie Tryz.prog Rows.fnExactPackageTextRow.named Rows.fnExactPackageTextSpec.vars)=true:=by kernel_rfl
theorem j6:((Rows.fnExactPackageTextRow.stops==[]))=true:=by kernel_rfl
theorem j7:((Tryz.prog.stops==[]))=true:=by kernel_rfl
theorem j8:((Rows.fnExactPackageTextRow.knobs==[]))=true:=by kernel_rfl
theorem j9:((Tryz.prog.stopKnobs==[]))=true:=by kernel_rfl
theorem j10:((Rows.fnExactPackageTextRow.inPlace==Tryz.prog.inPlace 7))=true:=by kernel_rfl
theorem j11:((Rows.fnExactPackageTextRow.unfollowed==Tryz.prog.unfollowed 7))=true:=by kernel_rfl
theorem j12:((Rows.fnExactPackageTextRow.recurses==Tryz.prog.recurses 7))=true:=by kernel_rfl
theorem j13:((Rows.fnExactPackageTextRow.named==Tryz.prog.varsNamed 7))=true:=by kernel_rfl
theorem j14:((Rows.fnExactPackageTextRow.maps==(Tryz.f7.params.toList++Rows.fnExactPackageTextSpec.plain.varTypes Tryz.prog).any (Tryz.prog.mapsRec ·)))=true:=by kernel_rfl
theorem j15:((Rows.fnExactPackageTextRow.ifaces==(Tryz.f7.params.toList++Rows.fnExactPackageTextSpec.plain.varTypes Tryz.prog).any (Tryz.prog.ifacesRec ·)))=true:=by kernel_rfl
theorem j16:((Rows.fnExactPackageTextRow.mapsOut==Tryz.prog.mapsAmong Tryz.f7.resultTypes.toList))=true:=by kernel_rfl
theorem j17:((Rows.fnExactPackageTextRow.loops==(Tryz.f7.params.toList++Rows.fnExactPackageTextSpec.plain.varTypes Tryz.prog).any (Tryz.prog.loopsFrom ·)))=true:=by kernel_rfl
theorem j18:((Rows.fnExactPackageTextRow.wideKeys==(Tryz.f7.params.toList++Rows.fnExactPackageTextSpec.plain.varTypes Tryz.prog++Tryz.f7.resultTypes.toList).any (Tryz.prog.wideKeysFrom ·)))=true:=by kernel_rfl
theorem j19:(Rows.fnExactPackageTextSpec.vars.all (Tryz.prog.varReadable ·))=true:=by kernel_rfl
theorem j20:(Tryz.f7.resultTypes.all (fun t=>Tryz.prog.readableRec t&&decide (t<Tryz.prog.types.size)))=true:=by kernel_rfl
theorem j21:((Rows.fnExactPackageTextRow.ifacesOut==Tryz.f7.resultTypes.toList.any (Tryz.prog.ifacesRec ·)))=true:=by kernel_rfl
theorem j22:((Rows.fnExactPackageTextRow.loopsOut==Tryz.f7.resultTypes.toList.any (Tryz.prog.loopsFrom ·)))=true:=by kernel_rfl
theorem j23:((Rows.fnExactPackageTextRow.plainKeys==Tryz.prog.plainKeys))=true:=by kernel_rfl
theorem j24:(Rows.fnExactPackageTextRow.shortTexts.isNone)=true:=by kernel_rfl
theorem j25:(Tryz.prog.stopsHeard)=true:=by kernel_rfl
theorem j26:(Tryz.prog.mayEnter)=true:=by kernel_rfl
theorem j27:((Rows.fnExactPackageTextRow.lifted==Tryz.prog.liftsFinal))=true:=by kernel_rfl
theorem j28:((Tryz.prog.make==some Rows.fnExactPackageTextRow.make))=true:=by kernel_rfl
theorem j29:((Rows.fnExactPackageTextRow.kinds==(if Rows.fnExactPackageTextRow.domain.isEmpty then[]else Tryz.f7.params.toList.map fun t=>match Tryz.prog.underlying t with|some (.int k)=>some k|_=>none)))=true:=by kernel_rfl
theorem j30:((Rows.fnExactPackageTextRow.pinned==Rows.fnExactPackageTextRow.pinnedBy))=true:=by kernel_rfl
theorem j31:((Rows.fnExactPackageTextRow.veiled==(Tryz.f7.params.toList++Rows.fnExactPackageTextSpec.plain.varTypes Tryz.prog++Tryz.f7.resultTypes.toList).any (Tryz.prog.veiledRec ·)))=true:=by kernel_rfl
theorem j32:(Rows.fnExactPackageTextRow.veiledFits Tryz.prog Tryz.f7.params.toList (Tryz.f7.params.toList++Rows.fnExactPackageTextSpec.plain.varTypes Tryz.prog++Tryz.f7.resultTypes.toList))=true:=by kernel_rfl
theorem joined:joinedFacts Tryz.prog 7 Tryz.f7 Rows.fnExactPackageTextSpec Rows.fnExactPackageTextRow=true:=by
 unfold joinedFacts;exact(both (both (both (both (both (both (both (both (both (both (both (both (both (both (both (both (both (both (both (both (both (both (both (both (both (both (both (both (both (both (both j1 j2) j3) j4) j5) j6) j7) j8) j9) j10) j11) j12) j13) j14) j15) j16) j17) j18) j19) j20) j21) j22) j23) j24) j25) j26) j27) j28) j29) j30) j31) j32)
theorem over:Rows.fnExactPackageTextRow.holds Tryz.pinned (OpenSpec.ofChange Rows.fnExactPackageTextSpec):=
 OpenClaim.holds_of_wide 7 Tryz.f7 rfl rfl rfl rfl rfl rfl rfl ⟨rfl,rfl,rfl,rfl,rfl⟩ rfl rfl rfl rfl rfl (by kernel_rfl) Tryz.func7 joined
  (iN (by kernel_rfl)) (by unfold Func.isWrapper;first|(rw[dP (by decide+kernel)];kernel_rfl)|(rw[gq (by decide+kernel)];exact⟨rfl,rfl⟩))
  (fun os started H enc _=>lifted os started H enc)
end Go.Proofs.YtiacpoahkccfaaaGreatDoor
