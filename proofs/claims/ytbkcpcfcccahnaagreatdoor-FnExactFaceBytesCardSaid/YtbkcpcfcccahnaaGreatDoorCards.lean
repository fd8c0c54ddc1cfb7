/-
  DERIVED. GIVEN WITH THE SEED: THE CARDS: each row of YtbkcpcfcccahnaaGreatDoorRows.lean that lists a variable, with what it lists TIED to the program's text (the seventh form; the later family's looks); each row that meets fmt, with fmt's text TOLD by the authors' own Lean function (tested against real Go, not proved from fmt's source: count such statements apart). THE CARD IS WHAT COUNTS. Prove the row's statement (the work); the ties are given (YtbkcpcfcccahnaaGreatDoorTie.lean); close each card by the builder's one call (the guide's Derived/Test/ToyasCard.lean, 'card_holds'). Laid BY PROGRAM, IN A SANDBOX (cutbox-door.mjs). By AI agents, Wed Nov 11 2026. No macro, syntax, notation, axiom, sorry.
-/
import Derived.Test.YtbkcpcfcccahnaaGreatDoorRows
import GoSem.ClaimSeven
namespace Go.Proofs.YtbkcpcfcccahnaaGreatDoor
namespace Rows

/-- THE TIED CARD OF 'laws.FnExactFaceName'. -/
def fnExactFaceNameCard : Claim7 := { stood := { row := fnExactFaceNameRow, standIns := [], harness := (true, "1ba05ef55ebc6a1010522b70bc42bd21900dda361e60e2cf6fa72d29760a64ce"), looks := true }, kinds := [], alts := [], laidByText := true, laidKinds := [.data, .data, .data, .data, .sentinel, .sentinel, .pinned], laidTests := true, laidLooks := .later }
def FnExactFaceNameCardSaid : Prop := Claim7.holds Tryz.pinned (.plain (OpenSpec.ofChange fnExactFaceNameSpec)) fnExactFaceNameCard

/-- THE TIED CARD OF 'laws.FnExactFacesOk'. -/
def fnExactFacesOkCard : Claim7 := { stood := { row := fnExactFacesOkRow, standIns := [], harness := (true, "1ba05ef55ebc6a1010522b70bc42bd21900dda361e60e2cf6fa72d29760a64ce"), looks := true }, kinds := [], alts := [], laidByText := true, laidKinds := [.data, .data, .data, .data, .sentinel, .sentinel, .pinned], laidTests := true, laidLooks := .later }
def FnExactFacesOkCardSaid : Prop := Claim7.holds Tryz.pinned (.plain (OpenSpec.ofChange fnExactFacesOkSpec)) fnExactFacesOkCard

/-- THE TIED CARD OF 'laws.FnExactFaceBytes'. -/
def fnExactFaceBytesCard : Claim7 := { stood := { row := fnExactFaceBytesRow, standIns := [], harness := (true, "1ba05ef55ebc6a1010522b70bc42bd21900dda361e60e2cf6fa72d29760a64ce"), looks := true }, kinds := [], alts := [], laidByText := true, laidKinds := [.data, .data, .data, .data, .sentinel, .sentinel, .pinned], laidTests := true, laidLooks := .later }
def FnExactFaceBytesCardSaid : Prop := Claim7.holds Tryz.pinned (.plain (OpenSpec.ofChange fnExactFaceBytesSpec)) fnExactFaceBytesCard

/-- THE SECOND FORM's CARD OF 'laws.FnExactFaceName'. -/
def fnExactFaceNameUptoCard : Claim7 := { stood := { row := fnExactFaceNameUptoRow, standIns := [], harness := (true, "1ba05ef55ebc6a1010522b70bc42bd21900dda361e60e2cf6fa72d29760a64ce"), looks := true }, kinds := [], alts := [], laidByText := true, laidKinds := [.data, .data, .data, .data, .sentinel, .sentinel, .pinned], laidTests := true, laidLooks := .later }
def FnExactFaceNameUptoCardSaid : Prop := Claim7.holds Tryz.pinned (.plain (OpenSpec.upto fnExactFaceNameSpec)) fnExactFaceNameUptoCard

/-- THE SECOND FORM's CARD OF 'laws.FnExactFacesOk'. -/
def fnExactFacesOkUptoCard : Claim7 := { stood := { row := fnExactFacesOkUptoRow, standIns := [], harness := (true, "1ba05ef55ebc6a1010522b70bc42bd21900dda361e60e2cf6fa72d29760a64ce"), looks := true }, kinds := [], alts := [], laidByText := true, laidKinds := [.data, .data, .data, .data, .sentinel, .sentinel, .pinned], laidTests := true, laidLooks := .later }
def FnExactFacesOkUptoCardSaid : Prop := Claim7.holds Tryz.pinned (.plain (OpenSpec.upto fnExactFacesOkSpec)) fnExactFacesOkUptoCard

/-- THE SECOND FORM's CARD OF 'laws.FnExactFaceBytes'. -/
def fnExactFaceBytesUptoCard : Claim7 := { stood := { row := fnExactFaceBytesUptoRow, standIns := [], harness := (true, "1ba05ef55ebc6a1010522b70bc42bd21900dda361e60e2cf6fa72d29760a64ce"), looks := true }, kinds := [], alts := [], laidByText := true, laidKinds := [.data, .data, .data, .data, .sentinel, .sentinel, .pinned], laidTests := true, laidLooks := .later }
def FnExactFaceBytesUptoCardSaid : Prop := Claim7.holds Tryz.pinned (.plain (OpenSpec.upto fnExactFaceBytesSpec)) fnExactFaceBytesUptoCard
end Rows
end Go.Proofs.YtbkcpcfcccahnaaGreatDoor
