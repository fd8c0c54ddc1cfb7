/-
  DERIVED. GIVEN WITH THE SEED: THE CARDS: each row of YtalddlopgnfpaaaGreatDoorRows.lean that lists a variable, with what it lists TIED to the program's text (the seventh form; the later family's looks); each row that meets fmt, with fmt's text TOLD by the authors' own Lean function (tested against real Go, not proved from fmt's source: count such statements apart). THE CARD IS WHAT COUNTS. Prove the row's statement (the work); the ties are given (YtalddlopgnfpaaaGreatDoorTie.lean); close each card by the builder's one call (the guide's Derived/Test/ToyasCard.lean, 'card_holds'). Laid BY PROGRAM, IN A SANDBOX (cutbox-door.mjs). By AI agents, Wed Nov 11 2026. No macro, syntax, notation, axiom, sorry.
-/
import Derived.Test.YtalddlopgnfpaaaGreatDoorRows
import GoSem.ClaimSeven
namespace Go.Proofs.YtalddlopgnfpaaaGreatDoor
namespace Rows

/-- THE TIED CARD OF 'laws.FnExactStoreValue'. -/
def fnExactStoreValueCard : Claim7 := { stood := { row := fnExactStoreValueRow, standIns := [], harness := (true, "4891c6bd9488d79db541eb8cdf8bbaf7fa58b4b4dba4a97d7a09484ed05e8321"), looks := false }, kinds := [], alts := [], laidByText := true, laidKinds := [.data, .pinned], laidTests := true, laidLooks := .later }
def FnExactStoreValueCardSaid : Prop := Claim7.holds Tryz.pinned (.plain (OpenSpec.ofChange fnExactStoreValueSpec)) fnExactStoreValueCard

/-- THE TIED CARD OF 'laws.FnExactLowerFlat'. -/
def fnExactLowerFlatCard : Claim7 := { stood := { row := fnExactLowerFlatRow, standIns := [], harness := (true, "4891c6bd9488d79db541eb8cdf8bbaf7fa58b4b4dba4a97d7a09484ed05e8321"), looks := false }, kinds := [], alts := [], laidByText := true, laidKinds := [.data, .pinned], laidTests := true, laidLooks := .later }
def FnExactLowerFlatCardSaid : Prop := Claim7.holds Tryz.pinned (.plain (OpenSpec.ofChange fnExactLowerFlatSpec)) fnExactLowerFlatCard

/-- THE TIED CARD OF 'laws.FnExactLowerResult'. -/
def fnExactLowerResultCard : Claim7 := { stood := { row := fnExactLowerResultRow, standIns := [], harness := (true, "4891c6bd9488d79db541eb8cdf8bbaf7fa58b4b4dba4a97d7a09484ed05e8321"), looks := false }, kinds := [], alts := [], laidByText := true, laidKinds := [.data, .pinned], laidTests := true, laidLooks := .later }
def FnExactLowerResultCardSaid : Prop := Claim7.holds Tryz.pinned (.plain (OpenSpec.ofChange fnExactLowerResultSpec)) fnExactLowerResultCard

/-- THE TIED CARD OF 'laws.FnExactLowerParams'. -/
def fnExactLowerParamsCard : Claim7 := { stood := { row := fnExactLowerParamsRow, standIns := [], harness := (true, "4891c6bd9488d79db541eb8cdf8bbaf7fa58b4b4dba4a97d7a09484ed05e8321"), looks := false }, kinds := [], alts := [], laidByText := true, laidKinds := [.data, .pinned], laidTests := true, laidLooks := .later }
def FnExactLowerParamsCardSaid : Prop := Claim7.holds Tryz.pinned (.plain (OpenSpec.ofChange fnExactLowerParamsSpec)) fnExactLowerParamsCard

/-- THE SECOND FORM's CARD OF 'laws.FnExactStoreValue'. -/
def fnExactStoreValueUptoCard : Claim7 := { stood := { row := fnExactStoreValueUptoRow, standIns := [], harness := (true, "4891c6bd9488d79db541eb8cdf8bbaf7fa58b4b4dba4a97d7a09484ed05e8321"), looks := false }, kinds := [], alts := [], laidByText := true, laidKinds := [.data, .pinned], laidTests := true, laidLooks := .later }
def FnExactStoreValueUptoCardSaid : Prop := Claim7.holds Tryz.pinned (.plain (OpenSpec.upto fnExactStoreValueSpec)) fnExactStoreValueUptoCard

/-- THE SECOND FORM's CARD OF 'laws.FnExactLowerFlat'. -/
def fnExactLowerFlatUptoCard : Claim7 := { stood := { row := fnExactLowerFlatUptoRow, standIns := [], harness := (true, "4891c6bd9488d79db541eb8cdf8bbaf7fa58b4b4dba4a97d7a09484ed05e8321"), looks := false }, kinds := [], alts := [], laidByText := true, laidKinds := [.data, .pinned], laidTests := true, laidLooks := .later }
def FnExactLowerFlatUptoCardSaid : Prop := Claim7.holds Tryz.pinned (.plain (OpenSpec.upto fnExactLowerFlatSpec)) fnExactLowerFlatUptoCard

/-- THE SECOND FORM's CARD OF 'laws.FnExactLowerResult'. -/
def fnExactLowerResultUptoCard : Claim7 := { stood := { row := fnExactLowerResultUptoRow, standIns := [], harness := (true, "4891c6bd9488d79db541eb8cdf8bbaf7fa58b4b4dba4a97d7a09484ed05e8321"), looks := false }, kinds := [], alts := [], laidByText := true, laidKinds := [.data, .pinned], laidTests := true, laidLooks := .later }
def FnExactLowerResultUptoCardSaid : Prop := Claim7.holds Tryz.pinned (.plain (OpenSpec.upto fnExactLowerResultSpec)) fnExactLowerResultUptoCard

/-- THE SECOND FORM's CARD OF 'laws.FnExactLowerParams'. -/
def fnExactLowerParamsUptoCard : Claim7 := { stood := { row := fnExactLowerParamsUptoRow, standIns := [], harness := (true, "4891c6bd9488d79db541eb8cdf8bbaf7fa58b4b4dba4a97d7a09484ed05e8321"), looks := false }, kinds := [], alts := [], laidByText := true, laidKinds := [.data, .pinned], laidTests := true, laidLooks := .later }
def FnExactLowerParamsUptoCardSaid : Prop := Claim7.holds Tryz.pinned (.plain (OpenSpec.upto fnExactLowerParamsSpec)) fnExactLowerParamsUptoCard
end Rows
end Go.Proofs.YtalddlopgnfpaaaGreatDoor
