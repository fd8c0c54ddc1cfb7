/-
  DERIVED. GIVEN WITH THE SEED: THE CARDS: each row of YtojfkjgemgjjkaaGreatDoorRows.lean that lists a variable, with what it lists TIED to the program's text (the seventh form; the later family's looks); each row that meets fmt, with fmt's text TOLD by the authors' own Lean function (tested against real Go, not proved from fmt's source: count such statements apart). THE CARD IS WHAT COUNTS. Prove the row's statement (the work); the ties are given (YtojfkjgemgjjkaaGreatDoorTie.lean); close each card by the builder's one call (the guide's Derived/Test/ToyasCard.lean, 'card_holds'). Laid BY PROGRAM, IN A SANDBOX (cutbox-door.mjs). By AI agents, Wed Nov 11 2026. No macro, syntax, notation, axiom, sorry.
-/
import Derived.Test.YtojfkjgemgjjkaaGreatDoorRows
import GoSem.ClaimSeven
namespace Go.Proofs.YtojfkjgemgjjkaaGreatDoor
namespace Rows

/-- THE TIED CARD OF 'laws.FnLanguagePrint'. -/
def fnLanguagePrintCard : Claim7 := { stood := { row := fnLanguagePrintRow, standIns := [], harness := (true, "329352b8a5f9683dcef6fa4b707779800ff4443f2402e942681d514dcc3eb0ee"), looks := true }, kinds := [], alts := [], laidByText := true, laidKinds := [.data, .data, .data, .data, .sentinel, .sentinel, .pinned], laidTests := true, laidLooks := .later }
def FnLanguagePrintCardSaid : Prop := Claim7.holds Tryz.pinned (.plain (OpenSpec.ofChange fnLanguagePrintSpec)) fnLanguagePrintCard

/-- THE SECOND FORM's CARD OF 'laws.FnLanguagePrint'. -/
def fnLanguagePrintUptoCard : Claim7 := { stood := { row := fnLanguagePrintUptoRow, standIns := [], harness := (true, "329352b8a5f9683dcef6fa4b707779800ff4443f2402e942681d514dcc3eb0ee"), looks := true }, kinds := [], alts := [], laidByText := true, laidKinds := [.data, .data, .data, .data, .sentinel, .sentinel, .pinned], laidTests := true, laidLooks := .later }
def FnLanguagePrintUptoCardSaid : Prop := Claim7.holds Tryz.pinned (.plain (OpenSpec.upto fnLanguagePrintSpec)) fnLanguagePrintUptoCard
end Rows
end Go.Proofs.YtojfkjgemgjjkaaGreatDoor
