/-
  NARROWER THAN 'FOR EVERY INPUT', by the rows' own cells (each row's printed sentence says how): FnExactSameComponent: loops · FnExactCoreShape: loops.
  DERIVED. THE GIVEN ROWS OF THIS SEAT. 3 by the template 'for every input the law returns true; each argument reads behind the call as it read before'; 0 by the template 'total and deterministic' (their statements: YtfjgoefnkdcolaaGreatTotals.lean).
  GIVEN WITH THE SEED: the statements are not yours to turn. If you find one false, say at which input.
  Laid BY PROGRAM, IN A SANDBOX (cutbox-rows.mjs): the forced cells as the released guide's own fill.sh prints them over the translation 5a9d47b3ffcb900b… (all of the seat's roots in one cut). By AI agents, Wed Nov 11 2026. No macro, syntax, notation, axiom, sorry.
-/
import Derived.Test.YtfjgoefnkdcolaaGreatChecked
import GoSem.Claim
import GoSem.ClaimJoined
import GoSem.ClaimMapViews
import Derived.JoinedTies
import Derived.KernelRfl
namespace Go.Proofs.YtfjgoefnkdcolaaGreat
/- THE CELL 'sum', in the pinned program and in every row, IS THE sha256 OF THE DUMP (.gsa) THAT YtfjgoefnkdcolaaGreatProg.lean LOADS. Nothing in Lean hashes anything: it is a label: what it is worth is what the hold of that sum in a sandbox is worth. -/
noncomputable def Tryz.pinned : Pinned := { name := "ytfjgoefnkdcolaagreat", sum := "5a9d47b3ffcb900b01479e8a0cba96955ff584bd92c9b0b9061001a610ad0f87", checked := Tryz.checked }
namespace Rows
def none {H : Type} : Left H := { results := [], args := [] }

/-- 'laws.FnExactSameComponent': WHATEVER THE INPUT: true; the input reads as it did. -/
def fnExactSameComponentSpec : ChangeSpec := { name := "fnExactSameComponent", fn := fun _ => fun
  | [d1, d2] => { results := [.lit (.bool true)], args := [d1, d2] }
  | _ => none }
def fnExactSameComponentRow : OpenClaim := { program := "ytfjgoefnkdcolaagreat", sum := "5a9d47b3ffcb900b01479e8a0cba96955ff584bd92c9b0b9061001a610ad0f87", func := "loop.example/g00901/laws.FnExactSameComponent", spec := "fnExactSameComponent", unfollowed := true, recurses := true, loops := true, apart := false }
def FnExactSameComponentSaid : Prop := fnExactSameComponentRow.holds Tryz.pinned (OpenSpec.ofChange fnExactSameComponentSpec)

/-- ITS FALSE NEIGHBOUR: 'it returns false'. Refute it at one input. -/
def fnExactSameComponentWrong : ChangeSpec := { name := "fnExactSameComponent", fn := fun _ => fun
  | [d1, d2] => { results := [.lit (.bool false)], args := [d1, d2] }
  | _ => none }
def FnExactSameComponentWrongFalsely : Prop := fnExactSameComponentRow.holds Tryz.pinned (OpenSpec.ofChange fnExactSameComponentWrong)

/-- 'laws.FnExactCoreShape': WHATEVER THE INPUT: true; the input reads as it did. -/
def fnExactCoreShapeSpec : ChangeSpec := { name := "fnExactCoreShape", fn := fun _ => fun
  | [d] => { results := [.lit (.bool true)], args := [d] }
  | _ => none }
def fnExactCoreShapeRow : OpenClaim := { program := "ytfjgoefnkdcolaagreat", sum := "5a9d47b3ffcb900b01479e8a0cba96955ff584bd92c9b0b9061001a610ad0f87", func := "loop.example/g00901/laws.FnExactCoreShape", spec := "fnExactCoreShape", unfollowed := true, recurses := true, loops := true, apart := false }
def FnExactCoreShapeSaid : Prop := fnExactCoreShapeRow.holds Tryz.pinned (OpenSpec.ofChange fnExactCoreShapeSpec)

/-- ITS FALSE NEIGHBOUR: 'it returns false'. Refute it at one input. -/
def fnExactCoreShapeWrong : ChangeSpec := { name := "fnExactCoreShape", fn := fun _ => fun
  | [d] => { results := [.lit (.bool false)], args := [d] }
  | _ => none }
def FnExactCoreShapeWrongFalsely : Prop := fnExactCoreShapeRow.holds Tryz.pinned (OpenSpec.ofChange fnExactCoreShapeWrong)

/-- 'laws.FnExactReadType': WHATEVER THE INPUT: true; the input reads as it did. -/
def fnExactReadTypeSpec : ChangeSpec := { name := "fnExactReadType", fn := fun _ => fun
  | [d] => { results := [.lit (.bool true)], args := [d] }
  | _ => none }
def fnExactReadTypeRow : OpenClaim := { program := "ytfjgoefnkdcolaagreat", sum := "5a9d47b3ffcb900b01479e8a0cba96955ff584bd92c9b0b9061001a610ad0f87", func := "loop.example/g00901/laws.FnExactReadType", spec := "fnExactReadType", inPlace := ["internal/bytealg.IndexByteString", "internal/abi.NoEscape", "internal/bytealg.MakeNoZero"], unfollowed := true, recurses := true, apart := false }
def FnExactReadTypeSaid : Prop := fnExactReadTypeRow.holds Tryz.pinned (OpenSpec.ofChange fnExactReadTypeSpec)

/-- ITS FALSE NEIGHBOUR: 'it returns false'. Refute it at one input. -/
def fnExactReadTypeWrong : ChangeSpec := { name := "fnExactReadType", fn := fun _ => fun
  | [d] => { results := [.lit (.bool false)], args := [d] }
  | _ => none }
def FnExactReadTypeWrongFalsely : Prop := fnExactReadTypeRow.holds Tryz.pinned (OpenSpec.ofChange fnExactReadTypeWrong)

/- THE SECOND FORM. 'bulk': how many values and letters a reading holds, each counted each time it is reached (what is shared counts as often as it is met; a slice's spare places count too). A statement '..UptoSaid' is the law's where the arguments, and the package variables that the reading takes, are together of bulk at most 1048576: NARROWER than '..Said'. Prove '..Said' where nothing that the law and all that it calls make is longer than what came in: it says more and counts as full. Else prove '..UptoSaid'. A law counts once. -/
mutual
def uptoBulk {H : Type} : DataW H → Nat
  | .lit (.string bytes) => bytes.length + 1
  | .lit _ => 1
  | .nil => 1
  | .ptr d => uptoBulk d + 1
  | .slice elems spare => uptoBulkAll elems + uptoBulkAll spare + 1
  | .agg parts => uptoBulkAll parts + 1
  | .iface _ d => uptoBulk d + 1
  | .map entries => uptoBulkEntries entries + 1
  | .held _ => 1
def uptoBulkAll {H : Type} : List (DataW H) → Nat
  | [] => 0
  | d :: r => uptoBulk d + uptoBulkAll r
def uptoBulkEntries {H : Type} : List (Lit × DataW H) → Nat
  | [] => 0
  | x :: r => uptoBulkEntry x + uptoBulkEntries r
def uptoBulkEntry {H : Type} : Lit × DataW H → Nat
  | (.string bytes, d) => bytes.length + uptoBulk d + 1
  | (_, d) => uptoBulk d + 1
 end
def uptoSmall : (H : Type) → List (DataW H) → Bool := fun _ ds => decide (uptoBulkAll ds ≤ 1048576)
def OpenSpec.upto (s : _root_.Go.ChangeSpec) : _root_.Go.OpenSpec := { _root_.Go.OpenSpec.ofChange s with cond := some uptoSmall }

/-- 'laws.FnExactSameComponent', WHERE WHAT IT READS IS OF BULK AT MOST 1048576: true; the input reads as it did. -/
def fnExactSameComponentUptoRow : OpenClaim := { program := "ytfjgoefnkdcolaagreat", sum := "5a9d47b3ffcb900b01479e8a0cba96955ff584bd92c9b0b9061001a610ad0f87", func := "loop.example/g00901/laws.FnExactSameComponent", spec := "fnExactSameComponent", unfollowed := true, recurses := true, loops := true, apart := false, narrowed := true }
def FnExactSameComponentUptoSaid : Prop := fnExactSameComponentUptoRow.holds Tryz.pinned (OpenSpec.upto fnExactSameComponentSpec)

/-- 'laws.FnExactCoreShape', WHERE WHAT IT READS IS OF BULK AT MOST 1048576: true; the input reads as it did. -/
def fnExactCoreShapeUptoRow : OpenClaim := { program := "ytfjgoefnkdcolaagreat", sum := "5a9d47b3ffcb900b01479e8a0cba96955ff584bd92c9b0b9061001a610ad0f87", func := "loop.example/g00901/laws.FnExactCoreShape", spec := "fnExactCoreShape", unfollowed := true, recurses := true, loops := true, apart := false, narrowed := true }
def FnExactCoreShapeUptoSaid : Prop := fnExactCoreShapeUptoRow.holds Tryz.pinned (OpenSpec.upto fnExactCoreShapeSpec)

/-- 'laws.FnExactReadType', WHERE WHAT IT READS IS OF BULK AT MOST 1048576: true; the input reads as it did. -/
def fnExactReadTypeUptoRow : OpenClaim := { program := "ytfjgoefnkdcolaagreat", sum := "5a9d47b3ffcb900b01479e8a0cba96955ff584bd92c9b0b9061001a610ad0f87", func := "loop.example/g00901/laws.FnExactReadType", spec := "fnExactReadType", inPlace := ["internal/bytealg.IndexByteString", "internal/abi.NoEscape", "internal/bytealg.MakeNoZero"], unfollowed := true, recurses := true, apart := false, narrowed := true }
def FnExactReadTypeUptoSaid : Prop := fnExactReadTypeUptoRow.holds Tryz.pinned (OpenSpec.upto fnExactReadTypeSpec)

end Rows
end Go.Proofs.YtfjgoefnkdcolaaGreat
