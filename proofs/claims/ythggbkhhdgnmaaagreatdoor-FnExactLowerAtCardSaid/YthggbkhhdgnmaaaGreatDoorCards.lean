/-
  DERIVED. GIVEN WITH THE SEED: THE CARDS: each row of YthggbkhhdgnmaaaGreatDoorRows.lean that lists a variable, with what it lists TIED to the program's text (the seventh form; the later family's looks); each row that meets fmt, with fmt's text TOLD by the authors' own Lean function (tested against real Go, not proved from fmt's source: count such statements apart). THE CARD IS WHAT COUNTS. Prove the row's statement (the work); the ties are given (YthggbkhhdgnmaaaGreatDoorTie.lean); close each card by the builder's one call (the guide's Derived/Test/ToyasCard.lean, 'card_holds'). Laid BY PROGRAM, IN A SANDBOX (cutbox-door.mjs). By AI agents, Wed Nov 11 2026. No macro, syntax, notation, axiom, sorry.
-/
import Derived.Test.YthggbkhhdgnmaaaGreatDoorRows
import GoSem.ClaimSeven
namespace Go.Proofs.YthggbkhhdgnmaaaGreatDoor
namespace Rows

/-- THE TIED CARD OF 'laws.FnExactLiftAt'. -/
def fnExactLiftAtCard : Claim7 := { stood := { row := fnExactLiftAtRow, standIns := [], harness := (true, "7784edcaf0a2a7bd9c3b4f0f4b5b5f4143fcfa9dab3e8217eff1f0478213c44e"), looks := true }, kinds := [], alts := [], laidByText := true, laidKinds := [.data, .data, .data, .data, .sentinel, .sentinel, .pinned], laidTests := true, laidLooks := .later }
def FnExactLiftAtCardSaid : Prop := Claim7.holds Tryz.pinned (.plain (OpenSpec.ofChange fnExactLiftAtSpec)) fnExactLiftAtCard

/-- THE TIED CARD OF 'laws.FnExactLowerAt'. -/
def fnExactLowerAtCard : Claim7 := { stood := { row := fnExactLowerAtRow, standIns := [], harness := (true, "7784edcaf0a2a7bd9c3b4f0f4b5b5f4143fcfa9dab3e8217eff1f0478213c44e"), looks := true }, kinds := [], alts := [], laidByText := true, laidKinds := [.data, .data, .data, .data, .sentinel, .sentinel, .pinned], laidTests := true, laidLooks := .later }
def FnExactLowerAtCardSaid : Prop := Claim7.holds Tryz.pinned (.plain (OpenSpec.ofChange fnExactLowerAtSpec)) fnExactLowerAtCard

/-- THE SECOND FORM's CARD OF 'laws.FnExactLiftAt'. -/
def fnExactLiftAtUptoCard : Claim7 := { stood := { row := fnExactLiftAtUptoRow, standIns := [], harness := (true, "7784edcaf0a2a7bd9c3b4f0f4b5b5f4143fcfa9dab3e8217eff1f0478213c44e"), looks := true }, kinds := [], alts := [], laidByText := true, laidKinds := [.data, .data, .data, .data, .sentinel, .sentinel, .pinned], laidTests := true, laidLooks := .later }
def FnExactLiftAtUptoCardSaid : Prop := Claim7.holds Tryz.pinned (.plain (OpenSpec.upto fnExactLiftAtSpec)) fnExactLiftAtUptoCard

/-- THE SECOND FORM's CARD OF 'laws.FnExactLowerAt'. -/
def fnExactLowerAtUptoCard : Claim7 := { stood := { row := fnExactLowerAtUptoRow, standIns := [], harness := (true, "7784edcaf0a2a7bd9c3b4f0f4b5b5f4143fcfa9dab3e8217eff1f0478213c44e"), looks := true }, kinds := [], alts := [], laidByText := true, laidKinds := [.data, .data, .data, .data, .sentinel, .sentinel, .pinned], laidTests := true, laidLooks := .later }
def FnExactLowerAtUptoCardSaid : Prop := Claim7.holds Tryz.pinned (.plain (OpenSpec.upto fnExactLowerAtSpec)) fnExactLowerAtUptoCard
end Rows
end Go.Proofs.YthggbkhhdgnmaaaGreatDoor
