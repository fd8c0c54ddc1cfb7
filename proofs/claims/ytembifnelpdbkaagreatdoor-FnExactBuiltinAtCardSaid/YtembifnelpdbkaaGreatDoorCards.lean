/-
  DERIVED. GIVEN WITH THE SEED: THE CARDS: each row of YtembifnelpdbkaaGreatDoorRows.lean that lists a variable, with what it lists TIED to the program's text (the seventh form; the later family's looks); each row that meets fmt, with fmt's text TOLD by the authors' own Lean function (tested against real Go, not proved from fmt's source: count such statements apart). THE CARD IS WHAT COUNTS. Prove the row's statement (the work); the ties are given (YtembifnelpdbkaaGreatDoorTie.lean); close each card by the builder's one call (the guide's Derived/Test/ToyasCard.lean, 'card_holds'). Laid BY PROGRAM, IN A SANDBOX (cutbox-door.mjs). By AI agents, Wed Nov 11 2026. No macro, syntax, notation, axiom, sorry.
-/
import Derived.Test.YtembifnelpdbkaaGreatDoorRows
import GoSem.ClaimSeven
namespace Go.Proofs.YtembifnelpdbkaaGreatDoor
namespace Rows

/-- THE TIED CARD OF 'laws.FnExactComponentFault'. -/
def fnExactComponentFaultCard : Claim7 := { stood := { row := fnExactComponentFaultRow, standIns := [], harness := (true, "0152c19b78ac1c94f5eb9f1973bdcdf173309973465f3d72ea9da68e653da09f"), looks := true }, kinds := [], alts := [], laidByText := true, laidKinds := [.data, .data, .data, .data, .sentinel, .sentinel, .pinned], laidTests := true, laidLooks := .later }
def FnExactComponentFaultCardSaid : Prop := Claim7.holds Tryz.pinned (.plain (OpenSpec.ofChange fnExactComponentFaultSpec)) fnExactComponentFaultCard

/-- THE TIED CARD OF 'laws.FnExactComponentOk'. -/
def fnExactComponentOkCard : Claim7 := { stood := { row := fnExactComponentOkRow, standIns := [], harness := (true, "0152c19b78ac1c94f5eb9f1973bdcdf173309973465f3d72ea9da68e653da09f"), looks := true }, kinds := [], alts := [], laidByText := true, laidKinds := [.data, .data, .data, .data, .sentinel, .sentinel, .pinned], laidTests := true, laidLooks := .later }
def FnExactComponentOkCardSaid : Prop := Claim7.holds Tryz.pinned (.plain (OpenSpec.ofChange fnExactComponentOkSpec)) fnExactComponentOkCard

/-- THE TIED CARD OF 'laws.FnExactBuiltinAt'. -/
def fnExactBuiltinAtCard : Claim7 := { stood := { row := fnExactBuiltinAtRow, standIns := [], harness := (true, "0152c19b78ac1c94f5eb9f1973bdcdf173309973465f3d72ea9da68e653da09f"), looks := true }, kinds := [], alts := [], laidByText := true, laidKinds := [.data, .data, .data, .data, .sentinel, .sentinel, .pinned], laidTests := true, laidLooks := .later }
def FnExactBuiltinAtCardSaid : Prop := Claim7.holds Tryz.pinned (.plain (OpenSpec.ofChange fnExactBuiltinAtSpec)) fnExactBuiltinAtCard

/-- THE SECOND FORM's CARD OF 'laws.FnExactComponentFault'. -/
def fnExactComponentFaultUptoCard : Claim7 := { stood := { row := fnExactComponentFaultUptoRow, standIns := [], harness := (true, "0152c19b78ac1c94f5eb9f1973bdcdf173309973465f3d72ea9da68e653da09f"), looks := true }, kinds := [], alts := [], laidByText := true, laidKinds := [.data, .data, .data, .data, .sentinel, .sentinel, .pinned], laidTests := true, laidLooks := .later }
def FnExactComponentFaultUptoCardSaid : Prop := Claim7.holds Tryz.pinned (.plain (OpenSpec.upto fnExactComponentFaultSpec)) fnExactComponentFaultUptoCard

/-- THE SECOND FORM's CARD OF 'laws.FnExactComponentOk'. -/
def fnExactComponentOkUptoCard : Claim7 := { stood := { row := fnExactComponentOkUptoRow, standIns := [], harness := (true, "0152c19b78ac1c94f5eb9f1973bdcdf173309973465f3d72ea9da68e653da09f"), looks := true }, kinds := [], alts := [], laidByText := true, laidKinds := [.data, .data, .data, .data, .sentinel, .sentinel, .pinned], laidTests := true, laidLooks := .later }
def FnExactComponentOkUptoCardSaid : Prop := Claim7.holds Tryz.pinned (.plain (OpenSpec.upto fnExactComponentOkSpec)) fnExactComponentOkUptoCard

/-- THE SECOND FORM's CARD OF 'laws.FnExactBuiltinAt'. -/
def fnExactBuiltinAtUptoCard : Claim7 := { stood := { row := fnExactBuiltinAtUptoRow, standIns := [], harness := (true, "0152c19b78ac1c94f5eb9f1973bdcdf173309973465f3d72ea9da68e653da09f"), looks := true }, kinds := [], alts := [], laidByText := true, laidKinds := [.data, .data, .data, .data, .sentinel, .sentinel, .pinned], laidTests := true, laidLooks := .later }
def FnExactBuiltinAtUptoCardSaid : Prop := Claim7.holds Tryz.pinned (.plain (OpenSpec.upto fnExactBuiltinAtSpec)) fnExactBuiltinAtUptoCard
end Rows
end Go.Proofs.YtembifnelpdbkaaGreatDoor
