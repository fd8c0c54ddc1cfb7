/-
  DERIVED. GIVEN WITH THE SEED: THE CARDS: each row of YtnkkcmdomlkdmaaGreatDoorRows.lean that lists a variable, with what it lists TIED to the program's text (the seventh form; the later family's looks); each row that meets fmt, with fmt's text TOLD by the authors' own Lean function (tested against real Go, not proved from fmt's source: count such statements apart). THE CARD IS WHAT COUNTS. Prove the row's statement (the work); the ties are given (YtnkkcmdomlkdmaaGreatDoorTie.lean); close each card by the builder's one call (the guide's Derived/Test/ToyasCard.lean, 'card_holds'). Laid BY PROGRAM, IN A SANDBOX (cutbox-door.mjs). By AI agents, Wed Nov 11 2026. No macro, syntax, notation, axiom, sorry.
-/
import Derived.Test.YtnkkcmdomlkdmaaGreatDoorRows
import GoSem.ClaimSeven
namespace Go.Proofs.YtnkkcmdomlkdmaaGreatDoor
namespace Rows

/-- THE TIED CARD OF 'laws.FnExactComponentBytes'. -/
def fnExactComponentBytesCard : Claim7 := { stood := { row := fnExactComponentBytesRow, standIns := [], harness := (true, "487cad64e205a3df4990854a5676f799f0142bb219a99cb76851f4526fe1c505"), looks := true }, kinds := [], alts := [], laidByText := true, laidKinds := [.data, .data, .data, .data, .sentinel, .sentinel, .pinned], laidTests := true, laidLooks := .later }
def FnExactComponentBytesCardSaid : Prop := Claim7.holds Tryz.pinned (.plain (OpenSpec.ofChange fnExactComponentBytesSpec)) fnExactComponentBytesCard

/-- THE TIED CARD OF 'laws.FnExactPackageBytes'. -/
def fnExactPackageBytesCard : Claim7 := { stood := { row := fnExactPackageBytesRow, standIns := [], harness := (true, "487cad64e205a3df4990854a5676f799f0142bb219a99cb76851f4526fe1c505"), looks := true }, kinds := [], alts := [], laidByText := true, laidKinds := [.data, .data, .data, .data, .sentinel, .sentinel, .pinned], laidTests := true, laidLooks := .later }
def FnExactPackageBytesCardSaid : Prop := Claim7.holds Tryz.pinned (.plain (OpenSpec.ofChange fnExactPackageBytesSpec)) fnExactPackageBytesCard

/-- THE SECOND FORM's CARD OF 'laws.FnExactComponentBytes'. -/
def fnExactComponentBytesUptoCard : Claim7 := { stood := { row := fnExactComponentBytesUptoRow, standIns := [], harness := (true, "487cad64e205a3df4990854a5676f799f0142bb219a99cb76851f4526fe1c505"), looks := true }, kinds := [], alts := [], laidByText := true, laidKinds := [.data, .data, .data, .data, .sentinel, .sentinel, .pinned], laidTests := true, laidLooks := .later }
def FnExactComponentBytesUptoCardSaid : Prop := Claim7.holds Tryz.pinned (.plain (OpenSpec.upto fnExactComponentBytesSpec)) fnExactComponentBytesUptoCard

/-- THE SECOND FORM's CARD OF 'laws.FnExactPackageBytes'. -/
def fnExactPackageBytesUptoCard : Claim7 := { stood := { row := fnExactPackageBytesUptoRow, standIns := [], harness := (true, "487cad64e205a3df4990854a5676f799f0142bb219a99cb76851f4526fe1c505"), looks := true }, kinds := [], alts := [], laidByText := true, laidKinds := [.data, .data, .data, .data, .sentinel, .sentinel, .pinned], laidTests := true, laidLooks := .later }
def FnExactPackageBytesUptoCardSaid : Prop := Claim7.holds Tryz.pinned (.plain (OpenSpec.upto fnExactPackageBytesSpec)) fnExactPackageBytesUptoCard
end Rows
end Go.Proofs.YtnkkcmdomlkdmaaGreatDoor
