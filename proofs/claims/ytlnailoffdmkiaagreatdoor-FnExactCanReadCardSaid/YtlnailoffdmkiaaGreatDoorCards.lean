/-
  DERIVED. GIVEN WITH THE SEED: THE CARDS: each row of YtlnailoffdmkiaaGreatDoorRows.lean that lists a variable, with what it lists TIED to the program's text (the seventh form; the later family's looks); each row that meets fmt, with fmt's text TOLD by the authors' own Lean function (tested against real Go, not proved from fmt's source: count such statements apart). THE CARD IS WHAT COUNTS. Prove the row's statement (the work); the ties are given (YtlnailoffdmkiaaGreatDoorTie.lean); close each card by the builder's one call (the guide's Derived/Test/ToyasCard.lean, 'card_holds'). Laid BY PROGRAM, IN A SANDBOX (cutbox-door.mjs). By AI agents, Wed Nov 11 2026. No macro, syntax, notation, axiom, sorry.
-/
import Derived.Test.YtlnailoffdmkiaaGreatDoorRows
import GoSem.ClaimSeven
namespace Go.Proofs.YtlnailoffdmkiaaGreatDoor
namespace Rows

/-- THE TIED CARD OF 'laws.FnExactStreamOk'. -/
def fnExactStreamOkCard : Claim7 := { stood := { row := fnExactStreamOkRow, standIns := [], harness := (true, "75125ed6e1818fdcf35d249f7082767dd8179b7d319a2fe8edc983a5dabfa14a"), looks := false }, kinds := [], alts := [], laidByText := true, laidKinds := [.data, .pinned], laidTests := true, laidLooks := .later }
def FnExactStreamOkCardSaid : Prop := Claim7.holds Tryz.pinned (.plain (OpenSpec.ofChange fnExactStreamOkSpec)) fnExactStreamOkCard

/-- THE TIED CARD OF 'laws.FnExactIsOver'. -/
def fnExactIsOverCard : Claim7 := { stood := { row := fnExactIsOverRow, standIns := [], harness := (true, "75125ed6e1818fdcf35d249f7082767dd8179b7d319a2fe8edc983a5dabfa14a"), looks := false }, kinds := [], alts := [], laidByText := true, laidKinds := [.data, .pinned], laidTests := true, laidLooks := .later }
def FnExactIsOverCardSaid : Prop := Claim7.holds Tryz.pinned (.plain (OpenSpec.ofChange fnExactIsOverSpec)) fnExactIsOverCard

/-- THE TIED CARD OF 'laws.FnExactCanRead'. -/
def fnExactCanReadCard : Claim7 := { stood := { row := fnExactCanReadRow, standIns := [], harness := (true, "75125ed6e1818fdcf35d249f7082767dd8179b7d319a2fe8edc983a5dabfa14a"), looks := false }, kinds := [], alts := [], laidByText := true, laidKinds := [.data, .pinned], laidTests := true, laidLooks := .later }
def FnExactCanReadCardSaid : Prop := Claim7.holds Tryz.pinned (.plain (OpenSpec.ofChange fnExactCanReadSpec)) fnExactCanReadCard

/-- THE TIED CARD OF 'laws.FnExactCanWrite'. -/
def fnExactCanWriteCard : Claim7 := { stood := { row := fnExactCanWriteRow, standIns := [], harness := (true, "75125ed6e1818fdcf35d249f7082767dd8179b7d319a2fe8edc983a5dabfa14a"), looks := false }, kinds := [], alts := [], laidByText := true, laidKinds := [.data, .pinned], laidTests := true, laidLooks := .later }
def FnExactCanWriteCardSaid : Prop := Claim7.holds Tryz.pinned (.plain (OpenSpec.ofChange fnExactCanWriteSpec)) fnExactCanWriteCard

/-- THE SECOND FORM's CARD OF 'laws.FnExactStreamOk'. -/
def fnExactStreamOkUptoCard : Claim7 := { stood := { row := fnExactStreamOkUptoRow, standIns := [], harness := (true, "75125ed6e1818fdcf35d249f7082767dd8179b7d319a2fe8edc983a5dabfa14a"), looks := false }, kinds := [], alts := [], laidByText := true, laidKinds := [.data, .pinned], laidTests := true, laidLooks := .later }
def FnExactStreamOkUptoCardSaid : Prop := Claim7.holds Tryz.pinned (.plain (OpenSpec.upto fnExactStreamOkSpec)) fnExactStreamOkUptoCard

/-- THE SECOND FORM's CARD OF 'laws.FnExactIsOver'. -/
def fnExactIsOverUptoCard : Claim7 := { stood := { row := fnExactIsOverUptoRow, standIns := [], harness := (true, "75125ed6e1818fdcf35d249f7082767dd8179b7d319a2fe8edc983a5dabfa14a"), looks := false }, kinds := [], alts := [], laidByText := true, laidKinds := [.data, .pinned], laidTests := true, laidLooks := .later }
def FnExactIsOverUptoCardSaid : Prop := Claim7.holds Tryz.pinned (.plain (OpenSpec.upto fnExactIsOverSpec)) fnExactIsOverUptoCard

/-- THE SECOND FORM's CARD OF 'laws.FnExactCanRead'. -/
def fnExactCanReadUptoCard : Claim7 := { stood := { row := fnExactCanReadUptoRow, standIns := [], harness := (true, "75125ed6e1818fdcf35d249f7082767dd8179b7d319a2fe8edc983a5dabfa14a"), looks := false }, kinds := [], alts := [], laidByText := true, laidKinds := [.data, .pinned], laidTests := true, laidLooks := .later }
def FnExactCanReadUptoCardSaid : Prop := Claim7.holds Tryz.pinned (.plain (OpenSpec.upto fnExactCanReadSpec)) fnExactCanReadUptoCard

/-- THE SECOND FORM's CARD OF 'laws.FnExactCanWrite'. -/
def fnExactCanWriteUptoCard : Claim7 := { stood := { row := fnExactCanWriteUptoRow, standIns := [], harness := (true, "75125ed6e1818fdcf35d249f7082767dd8179b7d319a2fe8edc983a5dabfa14a"), looks := false }, kinds := [], alts := [], laidByText := true, laidKinds := [.data, .pinned], laidTests := true, laidLooks := .later }
def FnExactCanWriteUptoCardSaid : Prop := Claim7.holds Tryz.pinned (.plain (OpenSpec.upto fnExactCanWriteSpec)) fnExactCanWriteUptoCard
end Rows
end Go.Proofs.YtlnailoffdmkiaaGreatDoor
