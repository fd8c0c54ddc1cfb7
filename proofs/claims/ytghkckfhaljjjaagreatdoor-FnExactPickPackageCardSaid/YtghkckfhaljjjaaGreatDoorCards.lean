/-
  DERIVED. GIVEN WITH THE SEED: THE CARDS: each row of YtghkckfhaljjjaaGreatDoorRows.lean that lists a variable, with what it lists TIED to the program's text (the seventh form; the later family's looks); each row that meets fmt, with fmt's text TOLD by the authors' own Lean function (tested against real Go, not proved from fmt's source: count such statements apart). THE CARD IS WHAT COUNTS. Prove the row's statement (the work); the ties are given (YtghkckfhaljjjaaGreatDoorTie.lean); close each card by the builder's one call (the guide's Derived/Test/ToyasCard.lean, 'card_holds'). Laid BY PROGRAM, IN A SANDBOX (cutbox-door.mjs). By AI agents, Wed Nov 11 2026. No macro, syntax, notation, axiom, sorry.
-/
import Derived.Test.YtghkckfhaljjjaaGreatDoorRows
import GoSem.ClaimSeven
namespace Go.Proofs.YtghkckfhaljjjaaGreatDoor
namespace Rows

/-- THE TIED CARD OF 'laws.FnExactPackagesCode'. -/
def fnExactPackagesCodeCard : Claim7 := { stood := { row := fnExactPackagesCodeRow, standIns := [], harness := (true, "974f6a4d640bb59ed941f53bede332949696740d59be30ce65da638492cff8c3"), looks := true }, kinds := [], alts := [], laidByText := true, laidKinds := [.data, .data, .data, .data, .sentinel, .sentinel, .pinned], laidTests := true, laidLooks := .later }
def FnExactPackagesCodeCardSaid : Prop := Claim7.holds Tryz.pinned (.plain (OpenSpec.ofChange fnExactPackagesCodeSpec)) fnExactPackagesCodeCard

/-- THE TIED CARD OF 'laws.FnExactPickPackage'. -/
def fnExactPickPackageCard : Claim7 := { stood := { row := fnExactPickPackageRow, standIns := [], harness := (true, "974f6a4d640bb59ed941f53bede332949696740d59be30ce65da638492cff8c3"), looks := true }, kinds := [], alts := [], laidByText := true, laidKinds := [.data, .data, .data, .data, .sentinel, .sentinel, .pinned], laidTests := true, laidLooks := .later }
def FnExactPickPackageCardSaid : Prop := Claim7.holds Tryz.pinned (.plain (OpenSpec.ofChange fnExactPickPackageSpec)) fnExactPickPackageCard

/-- THE SECOND FORM's CARD OF 'laws.FnExactPackagesCode'. -/
def fnExactPackagesCodeUptoCard : Claim7 := { stood := { row := fnExactPackagesCodeUptoRow, standIns := [], harness := (true, "974f6a4d640bb59ed941f53bede332949696740d59be30ce65da638492cff8c3"), looks := true }, kinds := [], alts := [], laidByText := true, laidKinds := [.data, .data, .data, .data, .sentinel, .sentinel, .pinned], laidTests := true, laidLooks := .later }
def FnExactPackagesCodeUptoCardSaid : Prop := Claim7.holds Tryz.pinned (.plain (OpenSpec.upto fnExactPackagesCodeSpec)) fnExactPackagesCodeUptoCard

/-- THE SECOND FORM's CARD OF 'laws.FnExactPickPackage'. -/
def fnExactPickPackageUptoCard : Claim7 := { stood := { row := fnExactPickPackageUptoRow, standIns := [], harness := (true, "974f6a4d640bb59ed941f53bede332949696740d59be30ce65da638492cff8c3"), looks := true }, kinds := [], alts := [], laidByText := true, laidKinds := [.data, .data, .data, .data, .sentinel, .sentinel, .pinned], laidTests := true, laidLooks := .later }
def FnExactPickPackageUptoCardSaid : Prop := Claim7.holds Tryz.pinned (.plain (OpenSpec.upto fnExactPickPackageSpec)) fnExactPickPackageUptoCard
end Rows
end Go.Proofs.YtghkckfhaljjjaaGreatDoor
