/-
  DERIVED. GIVEN WITH THE SEED: THE CARDS: each row of YtfeedngnaochdaaGreatDoorRows.lean that lists a variable, with what it lists TIED to the program's text (the seventh form; the later family's looks); each row that meets fmt, with fmt's text TOLD by the authors' own Lean function (tested against real Go, not proved from fmt's source: count such statements apart). THE CARD IS WHAT COUNTS. Prove the row's statement (the work); the ties are given (YtfeedngnaochdaaGreatDoorTie.lean); close each card by the builder's one call (the guide's Derived/Test/ToyasCard.lean, 'card_holds'). Laid BY PROGRAM, IN A SANDBOX (cutbox-door.mjs). By AI agents, Wed Nov 11 2026. No macro, syntax, notation, axiom, sorry.
-/
import Derived.Test.YtfeedngnaochdaaGreatDoorRows
import GoSem.ClaimSeven
namespace Go.Proofs.YtfeedngnaochdaaGreatDoor
namespace Rows

/-- THE TIED CARD OF 'laws.FnExactReadPackage'. -/
def fnExactReadPackageCard : Claim7 := { stood := { row := fnExactReadPackageRow, standIns := [], harness := (true, "6e9b3cfd5845b0e6102c1dd1912f8c165ff9cffb1bdf9f47c948cdb5cd1f0edf"), looks := true }, kinds := [], alts := [], laidByText := true, laidKinds := [.data, .data, .data, .data, .sentinel, .sentinel, .pinned], laidTests := true, laidLooks := .later }
def FnExactReadPackageCardSaid : Prop := Claim7.holds Tryz.pinned (.plain (OpenSpec.ofChange fnExactReadPackageSpec)) fnExactReadPackageCard

/-- THE SECOND FORM's CARD OF 'laws.FnExactReadPackage'. -/
def fnExactReadPackageUptoCard : Claim7 := { stood := { row := fnExactReadPackageUptoRow, standIns := [], harness := (true, "6e9b3cfd5845b0e6102c1dd1912f8c165ff9cffb1bdf9f47c948cdb5cd1f0edf"), looks := true }, kinds := [], alts := [], laidByText := true, laidKinds := [.data, .data, .data, .data, .sentinel, .sentinel, .pinned], laidTests := true, laidLooks := .later }
def FnExactReadPackageUptoCardSaid : Prop := Claim7.holds Tryz.pinned (.plain (OpenSpec.upto fnExactReadPackageSpec)) fnExactReadPackageUptoCard
end Rows
end Go.Proofs.YtfeedngnaochdaaGreatDoor
