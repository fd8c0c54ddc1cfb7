/-
  DERIVED. GIVEN WITH THE SEED: THE CARDS: each row of YtjgokmknlclpgaaGreatDoorRows.lean that lists a variable, with what it lists TIED to the program's text (the seventh form; the later family's looks); each row that meets fmt, with fmt's text TOLD by the authors' own Lean function (tested against real Go, not proved from fmt's source: count such statements apart). THE CARD IS WHAT COUNTS. Prove the row's statement (the work); the ties are given (YtjgokmknlclpgaaGreatDoorTie.lean); close each card by the builder's one call (the guide's Derived/Test/ToyasCard.lean, 'card_holds'). Laid BY PROGRAM, IN A SANDBOX (cutbox-door.mjs). By AI agents, Wed Nov 11 2026. No macro, syntax, notation, axiom, sorry.
-/
import Derived.Test.YtjgokmknlclpgaaGreatDoorRows
import GoSem.ClaimSeven
namespace Go.Proofs.YtjgokmknlclpgaaGreatDoor
namespace Rows

/-- THE TIED CARD OF 'laws.FnExactComponentGives'. -/
def fnExactComponentGivesCard : Claim7 := { stood := { row := fnExactComponentGivesRow, standIns := [], harness := (true, "cfd8865344d20a77ad2efa8f1988c350f2a44d26a1d3f38ec2d7ee453f1f30c0"), looks := true }, kinds := [], alts := [], laidByText := true, laidKinds := [.data, .data, .data, .data, .sentinel, .sentinel, .pinned], laidTests := true, laidLooks := .later }
def FnExactComponentGivesCardSaid : Prop := Claim7.holds Tryz.pinned (.plain (OpenSpec.ofChange fnExactComponentGivesSpec)) fnExactComponentGivesCard

/-- THE TIED CARD OF 'laws.FnExactComponentNeeds'. -/
def fnExactComponentNeedsCard : Claim7 := { stood := { row := fnExactComponentNeedsRow, standIns := [], harness := (true, "cfd8865344d20a77ad2efa8f1988c350f2a44d26a1d3f38ec2d7ee453f1f30c0"), looks := true }, kinds := [], alts := [], laidByText := true, laidKinds := [.data, .data, .data, .data, .sentinel, .sentinel, .pinned], laidTests := true, laidLooks := .later }
def FnExactComponentNeedsCardSaid : Prop := Claim7.holds Tryz.pinned (.plain (OpenSpec.ofChange fnExactComponentNeedsSpec)) fnExactComponentNeedsCard

/-- THE SECOND FORM's CARD OF 'laws.FnExactComponentGives'. -/
def fnExactComponentGivesUptoCard : Claim7 := { stood := { row := fnExactComponentGivesUptoRow, standIns := [], harness := (true, "cfd8865344d20a77ad2efa8f1988c350f2a44d26a1d3f38ec2d7ee453f1f30c0"), looks := true }, kinds := [], alts := [], laidByText := true, laidKinds := [.data, .data, .data, .data, .sentinel, .sentinel, .pinned], laidTests := true, laidLooks := .later }
def FnExactComponentGivesUptoCardSaid : Prop := Claim7.holds Tryz.pinned (.plain (OpenSpec.upto fnExactComponentGivesSpec)) fnExactComponentGivesUptoCard

/-- THE SECOND FORM's CARD OF 'laws.FnExactComponentNeeds'. -/
def fnExactComponentNeedsUptoCard : Claim7 := { stood := { row := fnExactComponentNeedsUptoRow, standIns := [], harness := (true, "cfd8865344d20a77ad2efa8f1988c350f2a44d26a1d3f38ec2d7ee453f1f30c0"), looks := true }, kinds := [], alts := [], laidByText := true, laidKinds := [.data, .data, .data, .data, .sentinel, .sentinel, .pinned], laidTests := true, laidLooks := .later }
def FnExactComponentNeedsUptoCardSaid : Prop := Claim7.holds Tryz.pinned (.plain (OpenSpec.upto fnExactComponentNeedsSpec)) fnExactComponentNeedsUptoCard
end Rows
end Go.Proofs.YtjgokmknlclpgaaGreatDoor
