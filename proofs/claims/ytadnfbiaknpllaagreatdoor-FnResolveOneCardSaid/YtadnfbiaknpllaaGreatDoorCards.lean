/-
  DERIVED. GIVEN WITH THE SEED: THE CARDS: each row of YtadnfbiaknpllaaGreatDoorRows.lean that lists a variable, with what it lists TIED to the program's text (the seventh form; the later family's looks); each row that meets fmt, with fmt's text TOLD by the authors' own Lean function (tested against real Go, not proved from fmt's source: count such statements apart). THE CARD IS WHAT COUNTS. Prove the row's statement (the work); the ties are given (YtadnfbiaknpllaaGreatDoorTie.lean); close each card by the builder's one call (the guide's Derived/Test/ToyasCard.lean, 'card_holds'). Laid BY PROGRAM, IN A SANDBOX (cutbox-door.mjs). By AI agents, Wed Nov 11 2026. No macro, syntax, notation, axiom, sorry.
-/
import Derived.Test.YtadnfbiaknpllaaGreatDoorRows
import GoSem.ClaimSeven
namespace Go.Proofs.YtadnfbiaknpllaaGreatDoor
namespace Rows

/-- THE TIED CARD OF 'laws.FnResolveOne'. -/
def fnResolveOneCard : Claim7 := { stood := { row := fnResolveOneRow, standIns := [], harness := (true, "a4220f9c462bfe781660617035b8a454c8b95538582a0a14ec37599c97f722f8"), looks := true }, kinds := [], alts := [], laidByText := true, laidKinds := [.data, .data, .data, .data, .sentinel, .sentinel, .pinned], laidTests := true, laidLooks := .later }
def FnResolveOneCardSaid : Prop := Claim7.holds Tryz.pinned (.plain (OpenSpec.ofChange fnResolveOneSpec)) fnResolveOneCard

/-- THE SECOND FORM's CARD OF 'laws.FnResolveOne'. -/
def fnResolveOneUptoCard : Claim7 := { stood := { row := fnResolveOneUptoRow, standIns := [], harness := (true, "a4220f9c462bfe781660617035b8a454c8b95538582a0a14ec37599c97f722f8"), looks := true }, kinds := [], alts := [], laidByText := true, laidKinds := [.data, .data, .data, .data, .sentinel, .sentinel, .pinned], laidTests := true, laidLooks := .later }
def FnResolveOneUptoCardSaid : Prop := Claim7.holds Tryz.pinned (.plain (OpenSpec.upto fnResolveOneSpec)) fnResolveOneUptoCard
end Rows
end Go.Proofs.YtadnfbiaknpllaaGreatDoor
