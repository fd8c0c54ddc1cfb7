/-
  DERIVED. GIVEN WITH THE SEED: THE CARDS: each row of YtkljhbbnhbklnaaGreatDoorRows.lean that lists a variable, with what it lists TIED to the program's text (the seventh form; the later family's looks); each row that meets fmt, with fmt's text TOLD by the authors' own Lean function (tested against real Go, not proved from fmt's source: count such statements apart). THE CARD IS WHAT COUNTS. Prove the row's statement (the work); the ties are given (YtkljhbbnhbklnaaGreatDoorTie.lean); close each card by the builder's one call (the guide's Derived/Test/ToyasCard.lean, 'card_holds'). Laid BY PROGRAM, IN A SANDBOX (cutbox-door.mjs). By AI agents, Wed Nov 11 2026. No macro, syntax, notation, axiom, sorry.
-/
import Derived.Test.YtkljhbbnhbklnaaGreatDoorRows
import GoSem.ClaimSeven
namespace Go.Proofs.YtkljhbbnhbklnaaGreatDoor
namespace Rows

/-- THE TIED CARD OF 'laws.FnExactPathIn'. -/
def fnExactPathInCard : Claim7 := { stood := { row := fnExactPathInRow, standIns := [], harness := (true, "76cdcba6d9359d3195451ce15f094e8c86800a769b1549cfd96a0dc609b9beb6"), looks := true }, kinds := [], alts := [], laidByText := true, laidKinds := [.data, .data, .data, .data, .sentinel, .sentinel, .pinned], laidTests := true, laidLooks := .later }
def FnExactPathInCardSaid : Prop := Claim7.holds Tryz.pinned (.plain (OpenSpec.ofChange fnExactPathInSpec)) fnExactPathInCard

/-- THE SECOND FORM's CARD OF 'laws.FnExactPathIn'. -/
def fnExactPathInUptoCard : Claim7 := { stood := { row := fnExactPathInUptoRow, standIns := [], harness := (true, "76cdcba6d9359d3195451ce15f094e8c86800a769b1549cfd96a0dc609b9beb6"), looks := true }, kinds := [], alts := [], laidByText := true, laidKinds := [.data, .data, .data, .data, .sentinel, .sentinel, .pinned], laidTests := true, laidLooks := .later }
def FnExactPathInUptoCardSaid : Prop := Claim7.holds Tryz.pinned (.plain (OpenSpec.upto fnExactPathInSpec)) fnExactPathInUptoCard
end Rows
end Go.Proofs.YtkljhbbnhbklnaaGreatDoor
