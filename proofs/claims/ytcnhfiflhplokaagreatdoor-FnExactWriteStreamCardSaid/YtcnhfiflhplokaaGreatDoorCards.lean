/-
  DERIVED. GIVEN WITH THE SEED: THE CARDS: each row of YtcnhfiflhplokaaGreatDoorRows.lean that lists a variable, with what it lists TIED to the program's text (the seventh form; the later family's looks); each row that meets fmt, with fmt's text TOLD by the authors' own Lean function (tested against real Go, not proved from fmt's source: count such statements apart). THE CARD IS WHAT COUNTS. Prove the row's statement (the work); the ties are given (YtcnhfiflhplokaaGreatDoorTie.lean); close each card by the builder's one call (the guide's Derived/Test/ToyasCard.lean, 'card_holds'). Laid BY PROGRAM, IN A SANDBOX (cutbox-door.mjs). By AI agents, Wed Nov 11 2026. No macro, syntax, notation, axiom, sorry.
-/
import Derived.Test.YtcnhfiflhplokaaGreatDoorRows
import GoSem.ClaimSeven
namespace Go.Proofs.YtcnhfiflhplokaaGreatDoor
namespace Rows

/-- THE TIED CARD OF 'laws.FnExactLeaveStream'. -/
def fnExactLeaveStreamCard : Claim7 := { stood := { row := fnExactLeaveStreamRow, standIns := [], harness := (true, "14bd053e9534ad6fdb9c7fcf3ed29c0b12cfb5e46ac7514f9120079ccca0f0aa"), looks := false }, kinds := [], alts := [], laidByText := true, laidKinds := [.data, .pinned], laidTests := true, laidLooks := .later }
def FnExactLeaveStreamCardSaid : Prop := Claim7.holds Tryz.pinned (.plain (OpenSpec.ofChange fnExactLeaveStreamSpec)) fnExactLeaveStreamCard

/-- THE TIED CARD OF 'laws.FnExactShutStream'. -/
def fnExactShutStreamCard : Claim7 := { stood := { row := fnExactShutStreamRow, standIns := [], harness := (true, "14bd053e9534ad6fdb9c7fcf3ed29c0b12cfb5e46ac7514f9120079ccca0f0aa"), looks := false }, kinds := [], alts := [], laidByText := true, laidKinds := [.data, .pinned], laidTests := true, laidLooks := .later }
def FnExactShutStreamCardSaid : Prop := Claim7.holds Tryz.pinned (.plain (OpenSpec.ofChange fnExactShutStreamSpec)) fnExactShutStreamCard

/-- THE TIED CARD OF 'laws.FnExactWriteStream'. -/
def fnExactWriteStreamCard : Claim7 := { stood := { row := fnExactWriteStreamRow, standIns := [], harness := (true, "14bd053e9534ad6fdb9c7fcf3ed29c0b12cfb5e46ac7514f9120079ccca0f0aa"), looks := false }, kinds := [], alts := [], laidByText := true, laidKinds := [.data, .pinned], laidTests := true, laidLooks := .later }
def FnExactWriteStreamCardSaid : Prop := Claim7.holds Tryz.pinned (.plain (OpenSpec.ofChange fnExactWriteStreamSpec)) fnExactWriteStreamCard

/-- THE TIED CARD OF 'laws.FnExactReadStream'. -/
def fnExactReadStreamCard : Claim7 := { stood := { row := fnExactReadStreamRow, standIns := [], harness := (true, "14bd053e9534ad6fdb9c7fcf3ed29c0b12cfb5e46ac7514f9120079ccca0f0aa"), looks := false }, kinds := [], alts := [], laidByText := true, laidKinds := [.data, .pinned], laidTests := true, laidLooks := .later }
def FnExactReadStreamCardSaid : Prop := Claim7.holds Tryz.pinned (.plain (OpenSpec.ofChange fnExactReadStreamSpec)) fnExactReadStreamCard

/-- THE TIED CARD OF 'laws.FnExactPlayStream'. -/
def fnExactPlayStreamCard : Claim7 := { stood := { row := fnExactPlayStreamRow, standIns := [], harness := (true, "14bd053e9534ad6fdb9c7fcf3ed29c0b12cfb5e46ac7514f9120079ccca0f0aa"), looks := false }, kinds := [], alts := [], laidByText := true, laidKinds := [.data, .pinned], laidTests := true, laidLooks := .later }
def FnExactPlayStreamCardSaid : Prop := Claim7.holds Tryz.pinned (.plain (OpenSpec.ofChange fnExactPlayStreamSpec)) fnExactPlayStreamCard

/-- THE SECOND FORM's CARD OF 'laws.FnExactLeaveStream'. -/
def fnExactLeaveStreamUptoCard : Claim7 := { stood := { row := fnExactLeaveStreamUptoRow, standIns := [], harness := (true, "14bd053e9534ad6fdb9c7fcf3ed29c0b12cfb5e46ac7514f9120079ccca0f0aa"), looks := false }, kinds := [], alts := [], laidByText := true, laidKinds := [.data, .pinned], laidTests := true, laidLooks := .later }
def FnExactLeaveStreamUptoCardSaid : Prop := Claim7.holds Tryz.pinned (.plain (OpenSpec.upto fnExactLeaveStreamSpec)) fnExactLeaveStreamUptoCard

/-- THE SECOND FORM's CARD OF 'laws.FnExactShutStream'. -/
def fnExactShutStreamUptoCard : Claim7 := { stood := { row := fnExactShutStreamUptoRow, standIns := [], harness := (true, "14bd053e9534ad6fdb9c7fcf3ed29c0b12cfb5e46ac7514f9120079ccca0f0aa"), looks := false }, kinds := [], alts := [], laidByText := true, laidKinds := [.data, .pinned], laidTests := true, laidLooks := .later }
def FnExactShutStreamUptoCardSaid : Prop := Claim7.holds Tryz.pinned (.plain (OpenSpec.upto fnExactShutStreamSpec)) fnExactShutStreamUptoCard

/-- THE SECOND FORM's CARD OF 'laws.FnExactWriteStream'. -/
def fnExactWriteStreamUptoCard : Claim7 := { stood := { row := fnExactWriteStreamUptoRow, standIns := [], harness := (true, "14bd053e9534ad6fdb9c7fcf3ed29c0b12cfb5e46ac7514f9120079ccca0f0aa"), looks := false }, kinds := [], alts := [], laidByText := true, laidKinds := [.data, .pinned], laidTests := true, laidLooks := .later }
def FnExactWriteStreamUptoCardSaid : Prop := Claim7.holds Tryz.pinned (.plain (OpenSpec.upto fnExactWriteStreamSpec)) fnExactWriteStreamUptoCard

/-- THE SECOND FORM's CARD OF 'laws.FnExactReadStream'. -/
def fnExactReadStreamUptoCard : Claim7 := { stood := { row := fnExactReadStreamUptoRow, standIns := [], harness := (true, "14bd053e9534ad6fdb9c7fcf3ed29c0b12cfb5e46ac7514f9120079ccca0f0aa"), looks := false }, kinds := [], alts := [], laidByText := true, laidKinds := [.data, .pinned], laidTests := true, laidLooks := .later }
def FnExactReadStreamUptoCardSaid : Prop := Claim7.holds Tryz.pinned (.plain (OpenSpec.upto fnExactReadStreamSpec)) fnExactReadStreamUptoCard

/-- THE SECOND FORM's CARD OF 'laws.FnExactPlayStream'. -/
def fnExactPlayStreamUptoCard : Claim7 := { stood := { row := fnExactPlayStreamUptoRow, standIns := [], harness := (true, "14bd053e9534ad6fdb9c7fcf3ed29c0b12cfb5e46ac7514f9120079ccca0f0aa"), looks := false }, kinds := [], alts := [], laidByText := true, laidKinds := [.data, .pinned], laidTests := true, laidLooks := .later }
def FnExactPlayStreamUptoCardSaid : Prop := Claim7.holds Tryz.pinned (.plain (OpenSpec.upto fnExactPlayStreamSpec)) fnExactPlayStreamUptoCard
end Rows
end Go.Proofs.YtcnhfiflhplokaaGreatDoor
