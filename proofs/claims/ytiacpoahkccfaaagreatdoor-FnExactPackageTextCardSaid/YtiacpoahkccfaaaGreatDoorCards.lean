/-
  DERIVED. GIVEN WITH THE SEED: THE CARDS: each row of YtiacpoahkccfaaaGreatDoorRows.lean that lists a variable, with what it lists TIED to the program's text (the seventh form; the later family's looks); each row that meets fmt, with fmt's text TOLD by the authors' own Lean function (tested against real Go, not proved from fmt's source: count such statements apart). THE CARD IS WHAT COUNTS. Prove the row's statement (the work); the ties are given (YtiacpoahkccfaaaGreatDoorTie.lean); close each card by the builder's one call (the guide's Derived/Test/ToyasCard.lean, 'card_holds'). Laid BY PROGRAM, IN A SANDBOX (cutbox-door.mjs). By AI agents, Wed Nov 11 2026. No macro, syntax, notation, axiom, sorry.
-/
import Derived.Test.YtiacpoahkccfaaaGreatDoorRows
import GoSem.ClaimSeven
namespace Go.Proofs.YtiacpoahkccfaaaGreatDoor
namespace Rows

/-- THE TIED CARD OF 'laws.FnExactReadPackage'. -/
def fnExactReadPackageCard : Claim7 := { stood := { row := fnExactReadPackageRow, standIns := [], harness := (true, "bdda8ac0d3a77ca6dace492be23a1c7700e1a8f3850761077c28f46f8fafc157"), looks := true }, kinds := [], alts := [], laidByText := true, laidKinds := [.data, .data, .data, .data, .sentinel, .sentinel, .pinned], laidTests := true, laidLooks := .later }
def FnExactReadPackageCardSaid : Prop := Claim7.holds Tryz.pinned (.plain (OpenSpec.ofChange fnExactReadPackageSpec)) fnExactReadPackageCard

/-- THE TIED CARD OF 'laws.FnLanguagePrint'. -/
def fnLanguagePrintCard : Claim7 := { stood := { row := fnLanguagePrintRow, standIns := [], harness := (true, "bdda8ac0d3a77ca6dace492be23a1c7700e1a8f3850761077c28f46f8fafc157"), looks := true }, kinds := [], alts := [], laidByText := true, laidKinds := [.data, .data, .data, .data, .sentinel, .sentinel, .pinned], laidTests := true, laidLooks := .later }
def FnLanguagePrintCardSaid : Prop := Claim7.holds Tryz.pinned (.plain (OpenSpec.ofChange fnLanguagePrintSpec)) fnLanguagePrintCard

/-- THE TIED CARD OF 'laws.FnExactPackageOk'. -/
def fnExactPackageOkCard : Claim7 := { stood := { row := fnExactPackageOkRow, standIns := [], harness := (true, "bdda8ac0d3a77ca6dace492be23a1c7700e1a8f3850761077c28f46f8fafc157"), looks := true }, kinds := [], alts := [], laidByText := true, laidKinds := [.data, .data, .data, .data, .sentinel, .sentinel, .pinned], laidTests := true, laidLooks := .later }
def FnExactPackageOkCardSaid : Prop := Claim7.holds Tryz.pinned (.plain (OpenSpec.ofChange fnExactPackageOkSpec)) fnExactPackageOkCard

/-- THE TIED CARD OF 'laws.FnExactSamePackage'. -/
def fnExactSamePackageCard : Claim7 := { stood := { row := fnExactSamePackageRow, standIns := [], harness := (true, "bdda8ac0d3a77ca6dace492be23a1c7700e1a8f3850761077c28f46f8fafc157"), looks := true }, kinds := [], alts := [], laidByText := true, laidKinds := [.data, .data, .data, .data, .sentinel, .sentinel, .pinned], laidTests := true, laidLooks := .later }
def FnExactSamePackageCardSaid : Prop := Claim7.holds Tryz.pinned (.plain (OpenSpec.ofChange fnExactSamePackageSpec)) fnExactSamePackageCard

/-- THE TIED CARD OF 'laws.FnExactPackageText'. -/
def fnExactPackageTextCard : Claim7 := { stood := { row := fnExactPackageTextRow, standIns := [], harness := (true, "bdda8ac0d3a77ca6dace492be23a1c7700e1a8f3850761077c28f46f8fafc157"), looks := true }, kinds := [], alts := [], laidByText := true, laidKinds := [.data, .data, .data, .data, .sentinel, .sentinel, .pinned], laidTests := true, laidLooks := .later }
def FnExactPackageTextCardSaid : Prop := Claim7.holds Tryz.pinned (.plain (OpenSpec.ofChange fnExactPackageTextSpec)) fnExactPackageTextCard

/-- THE SECOND FORM's CARD OF 'laws.FnExactReadPackage'. -/
def fnExactReadPackageUptoCard : Claim7 := { stood := { row := fnExactReadPackageUptoRow, standIns := [], harness := (true, "bdda8ac0d3a77ca6dace492be23a1c7700e1a8f3850761077c28f46f8fafc157"), looks := true }, kinds := [], alts := [], laidByText := true, laidKinds := [.data, .data, .data, .data, .sentinel, .sentinel, .pinned], laidTests := true, laidLooks := .later }
def FnExactReadPackageUptoCardSaid : Prop := Claim7.holds Tryz.pinned (.plain (OpenSpec.upto fnExactReadPackageSpec)) fnExactReadPackageUptoCard

/-- THE SECOND FORM's CARD OF 'laws.FnLanguagePrint'. -/
def fnLanguagePrintUptoCard : Claim7 := { stood := { row := fnLanguagePrintUptoRow, standIns := [], harness := (true, "bdda8ac0d3a77ca6dace492be23a1c7700e1a8f3850761077c28f46f8fafc157"), looks := true }, kinds := [], alts := [], laidByText := true, laidKinds := [.data, .data, .data, .data, .sentinel, .sentinel, .pinned], laidTests := true, laidLooks := .later }
def FnLanguagePrintUptoCardSaid : Prop := Claim7.holds Tryz.pinned (.plain (OpenSpec.upto fnLanguagePrintSpec)) fnLanguagePrintUptoCard

/-- THE SECOND FORM's CARD OF 'laws.FnExactPackageOk'. -/
def fnExactPackageOkUptoCard : Claim7 := { stood := { row := fnExactPackageOkUptoRow, standIns := [], harness := (true, "bdda8ac0d3a77ca6dace492be23a1c7700e1a8f3850761077c28f46f8fafc157"), looks := true }, kinds := [], alts := [], laidByText := true, laidKinds := [.data, .data, .data, .data, .sentinel, .sentinel, .pinned], laidTests := true, laidLooks := .later }
def FnExactPackageOkUptoCardSaid : Prop := Claim7.holds Tryz.pinned (.plain (OpenSpec.upto fnExactPackageOkSpec)) fnExactPackageOkUptoCard

/-- THE SECOND FORM's CARD OF 'laws.FnExactSamePackage'. -/
def fnExactSamePackageUptoCard : Claim7 := { stood := { row := fnExactSamePackageUptoRow, standIns := [], harness := (true, "bdda8ac0d3a77ca6dace492be23a1c7700e1a8f3850761077c28f46f8fafc157"), looks := true }, kinds := [], alts := [], laidByText := true, laidKinds := [.data, .data, .data, .data, .sentinel, .sentinel, .pinned], laidTests := true, laidLooks := .later }
def FnExactSamePackageUptoCardSaid : Prop := Claim7.holds Tryz.pinned (.plain (OpenSpec.upto fnExactSamePackageSpec)) fnExactSamePackageUptoCard

/-- THE SECOND FORM's CARD OF 'laws.FnExactPackageText'. -/
def fnExactPackageTextUptoCard : Claim7 := { stood := { row := fnExactPackageTextUptoRow, standIns := [], harness := (true, "bdda8ac0d3a77ca6dace492be23a1c7700e1a8f3850761077c28f46f8fafc157"), looks := true }, kinds := [], alts := [], laidByText := true, laidKinds := [.data, .data, .data, .data, .sentinel, .sentinel, .pinned], laidTests := true, laidLooks := .later }
def FnExactPackageTextUptoCardSaid : Prop := Claim7.holds Tryz.pinned (.plain (OpenSpec.upto fnExactPackageTextSpec)) fnExactPackageTextUptoCard
end Rows
end Go.Proofs.YtiacpoahkccfaaaGreatDoor
