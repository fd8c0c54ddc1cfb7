/-
  For every argument the law FnExactPackageBytes returns true, and its arguments read behind the call as they read before. Conditions: none beside those of the given row.
-/
import Derived.Test.YtnkkcmdomlkdmaaGreatDoorXEFLka
set_option linter.unusedVariables false
set_option maxRecDepth 100000
namespace Go.Proofs.YtnkkcmdomlkdmaaGreatDoor
open Go Go.V Go.Shelf Go.RowKit
theorem both{a b:Bool}(h:a=true)(k:b=true):(a&&b)=true:=by rw[h,k];rfl
theorem j1:(Rows.fnExactPackageBytesRow.wf (OpenSpec.ofChange Rows.fnExactPackageBytesSpec))=true:=by kernel_rfl
theorem j2:(laidOutB Tryz.prog)=true:=by kernel_rfl
theorem j3:(mapsRowed Tryz.prog)=true:=by kernel_rfl
theorem j4:(Tryz.f4.params.all (Tryz.prog.readableRec ·))=true:=by kernel_rfl
theorem j5:(namedTie Tryz.prog Rows.fnExactPackageBytesRow.named Rows.fnExactPackageBytesSpec.vars)=true:=by kernel_rfl
theorem j6:((Rows.fnExactPackageBytesRow.stops==[]))=true:=by kernel_rfl
theorem j7:((Tryz.prog.stops==[]))=true:=by kernel_rfl
theorem j8:((Rows.fnExactPackageBytesRow.knobs==[]))=true:=by kernel_rfl
theorem j9:((Tryz.prog.stopKnobs==[]))=true:=by kernel_rfl
theorem j10:((Rows.fnExactPackageBytesRow.inPlace==Tryz.prog.inPlace 4))=true:=by kernel_rfl
theorem j11:((Rows.fnExactPackageBytesRow.unfollowed==Tryz.prog.unfollowed 4))=true:=by kernel_rfl
theorem j12:((Rows.fnExactPackageBytesRow.recurses==Tryz.prog.recurses 4))=true:=by kernel_rfl
theorem j13:((Rows.fnExactPackageBytesRow.named==Tryz.prog.varsNamed 4))=true:=by kernel_rfl
theorem j14:((Rows.fnExactPackageBytesRow.maps==(Tryz.f4.params.toList++Rows.fnExactPackageBytesSpec.plain.varTypes Tryz.prog).any (Tryz.prog.mapsRec ·)))=true:=by kernel_rfl
theorem j15:((Rows.fnExactPackageBytesRow.ifaces==(Tryz.f4.params.toList++Rows.fnExactPackageBytesSpec.plain.varTypes Tryz.prog).any (Tryz.prog.ifacesRec ·)))=true:=by kernel_rfl
theorem j16:((Rows.fnExactPackageBytesRow.mapsOut==Tryz.prog.mapsAmong Tryz.f4.resultTypes.toList))=true:=by kernel_rfl
theorem j17:((Rows.fnExactPackageBytesRow.loops==(Tryz.f4.params.toList++Rows.fnExactPackageBytesSpec.plain.varTypes Tryz.prog).any (Tryz.prog.loopsFrom ·)))=true:=by kernel_rfl
theorem j18:((Rows.fnExactPackageBytesRow.wideKeys==(Tryz.f4.params.toList++Rows.fnExactPackageBytesSpec.plain.varTypes Tryz.prog++Tryz.f4.resultTypes.toList).any (Tryz.prog.wideKeysFrom ·)))=true:=by kernel_rfl
theorem j19:(Rows.fnExactPackageBytesSpec.vars.all (Tryz.prog.varReadable ·))=true:=by kernel_rfl
theorem j20:(Tryz.f4.resultTypes.all (fun t=>Tryz.prog.readableRec t&&decide (t<Tryz.prog.types.size)))=true:=by kernel_rfl
theorem j21:((Rows.fnExactPackageBytesRow.ifacesOut==Tryz.f4.resultTypes.toList.any (Tryz.prog.ifacesRec ·)))=true:=by kernel_rfl
theorem j22:((Rows.fnExactPackageBytesRow.loopsOut==Tryz.f4.resultTypes.toList.any (Tryz.prog.loopsFrom ·)))=true:=by kernel_rfl
theorem j23:((Rows.fnExactPackageBytesRow.plainKeys==Tryz.prog.plainKeys))=true:=by kernel_rfl
theorem j24:(Rows.fnExactPackageBytesRow.shortTexts.isNone)=true:=by kernel_rfl
theorem j25:(Tryz.prog.stopsHeard)=true:=by kernel_rfl
theorem j26:(Tryz.prog.mayEnter)=true:=by kernel_rfl
theorem j27:((Rows.fnExactPackageBytesRow.lifted==Tryz.prog.liftsFinal))=true:=by kernel_rfl
theorem j28:((Tryz.prog.make==some Rows.fnExactPackageBytesRow.make))=true:=by kernel_rfl
theorem j29:((Rows.fnExactPackageBytesRow.kinds==(if Rows.fnExactPackageBytesRow.domain.isEmpty then[]else Tryz.f4.params.toList.map fun t=>match Tryz.prog.underlying t with|some (.int k)=>some k|_=>none)))=true:=by kernel_rfl
theorem j30:((Rows.fnExactPackageBytesRow.pinned==Rows.fnExactPackageBytesRow.pinnedBy))=true:=by kernel_rfl
theorem j31:((Rows.fnExactPackageBytesRow.veiled==(Tryz.f4.params.toList++Rows.fnExactPackageBytesSpec.plain.varTypes Tryz.prog++Tryz.f4.resultTypes.toList).any (Tryz.prog.veiledRec ·)))=true:=by kernel_rfl
theorem j32:(Rows.fnExactPackageBytesRow.veiledFits Tryz.prog Tryz.f4.params.toList (Tryz.f4.params.toList++Rows.fnExactPackageBytesSpec.plain.varTypes Tryz.prog++Tryz.f4.resultTypes.toList))=true:=by kernel_rfl
theorem joined:joinedFacts Tryz.prog 4 Tryz.f4 Rows.fnExactPackageBytesSpec Rows.fnExactPackageBytesRow=true:=by
 unfold joinedFacts;exact(both (both (both (both (both (both (both (both (both (both (both (both (both (both (both (both (both (both (both (both (both (both (both (both (both (both (both (both (both (both (both j1 j2) j3) j4) j5) j6) j7) j8) j9) j10) j11) j12) j13) j14) j15) j16) j17) j18) j19) j20) j21) j22) j23) j24) j25) j26) j27) j28) j29) j30) j31) j32)
theorem over:Rows.fnExactPackageBytesRow.holds Tryz.pinned (OpenSpec.ofChange Rows.fnExactPackageBytesSpec):=
 OpenClaim.holds_of_wide 4 Tryz.f4 rfl rfl rfl rfl rfl rfl rfl ⟨rfl,rfl,rfl,rfl,rfl⟩ rfl rfl rfl rfl rfl (by kernel_rfl) Tryz.func4 joined
  (yC (by kernel_rfl)) (by unfold Func.isWrapper;first|(rw[cz (by decide+kernel)];kernel_rfl)|(rw[aw (by decide+kernel)];exact⟨rfl,rfl⟩))
  (fun os started H enc _=>lifted os started H enc)
end Go.Proofs.YtnkkcmdomlkdmaaGreatDoor
