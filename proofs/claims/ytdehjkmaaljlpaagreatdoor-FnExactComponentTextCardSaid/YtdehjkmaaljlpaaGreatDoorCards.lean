/-
  DERIVED. GIVEN WITH THE SEED: THE CARDS: each row of YtdehjkmaaljlpaaGreatDoorRows.lean that lists a variable, with what it lists TIED to the program's text (the seventh form; the later family's looks); each row that meets fmt, with fmt's text TOLD by the authors' own Lean function (tested against real Go, not proved from fmt's source: count such statements apart). THE CARD IS WHAT COUNTS. Prove the row's statement (the work); the ties are given (YtdehjkmaaljlpaaGreatDoorTie.lean); close each card by the builder's one call (the guide's Derived/Test/ToyasCard.lean, 'card_holds'). Laid BY PROGRAM, IN A SANDBOX (cutbox-door.mjs). By AI agents, Wed Nov 11 2026. No macro, syntax, notation, axiom, sorry.
-/
import Derived.Test.YtdehjkmaaljlpaaGreatDoorRows
import GoSem.ClaimSeven
namespace Go.Proofs.YtdehjkmaaljlpaaGreatDoor
namespace Rows

/-- THE TIED CARD OF 'laws.FnExactComponentText'. -/
def fnExactComponentTextCard : Claim7 := { stood := { row := fnExactComponentTextRow, standIns := [], harness := (true, "e38b6861c422d9aa8de7417c9e76a1c789e0bf74daf0aa427ab89bdda99087cd"), looks := true }, kinds := [], alts := [], laidByText := true, laidKinds := [.data, .data, .data, .data, .sentinel, .sentinel, .listed, .data, .pinned], laidTests := true, laidLooks := .later }
def FnExactComponentTextCardSaid : Prop := Claim7.holds Tryz.pinned (.plain (OpenSpec.ofChange fnExactComponentTextSpec)) fnExactComponentTextCard

/-- THE SECOND FORM's CARD OF 'laws.FnExactComponentText'. -/
def fnExactComponentTextUptoCard : Claim7 := { stood := { row := fnExactComponentTextUptoRow, standIns := [], harness := (true, "e38b6861c422d9aa8de7417c9e76a1c789e0bf74daf0aa427ab89bdda99087cd"), looks := true }, kinds := [], alts := [], laidByText := true, laidKinds := [.data, .data, .data, .data, .sentinel, .sentinel, .listed, .data, .pinned], laidTests := true, laidLooks := .later }
def FnExactComponentTextUptoCardSaid : Prop := Claim7.holds Tryz.pinned (.plain (OpenSpec.upto fnExactComponentTextSpec)) fnExactComponentTextUptoCard
end Rows
end Go.Proofs.YtdehjkmaaljlpaaGreatDoor
