/-
  NARROWER THAN 'FOR EVERY INPUT', by the rows' own cells (each row's printed sentence says how): FnExactCoreShape: loops.
  DERIVED. THE GIVEN ROWS OF THIS SEAT. 7 by the template 'for every input the law returns true; each argument reads behind the call as it read before'; 0 by the template 'total and deterministic' (their statements: YtlnailoffdmkiaaGreatTotals.lean).
  GIVEN WITH THE SEED: the statements are not yours to turn. If you find one false, say at which input.
  Laid BY PROGRAM, IN A SANDBOX (cutbox-rows.mjs): the forced cells as the released guide's own fill.sh prints them over the translation c32af18db8443ad4… (all of the seat's roots in one cut). By AI agents, Wed Nov 11 2026. No macro, syntax, notation, axiom, sorry.
-/
import Derived.Test.YtlnailoffdmkiaaGreatChecked
import GoSem.Claim
import GoSem.ClaimJoined
import GoSem.ClaimMapViews
import Derived.JoinedTies
import Derived.KernelRfl
namespace Go.Proofs.YtlnailoffdmkiaaGreat
/- THE CELL 'sum', in the pinned program and in every row, IS THE sha256 OF THE DUMP (.gsa) THAT YtlnailoffdmkiaaGreatProg.lean LOADS. Nothing in Lean hashes anything: it is a label: what it is worth is what the hold of that sum in a sandbox is worth. -/
noncomputable def Tryz.pinned : Pinned := { name := "ytlnailoffdmkiaagreat", sum := "c32af18db8443ad420fc41b1b5f2cb3f5577e74facf2921b1403c04a03ddf1f8", checked := Tryz.checked }
namespace Rows
def none {H : Type} : Left H := { results := [], args := [] }

/-- 'laws.FnExactCoreShape': WHATEVER THE INPUT: true; the input reads as it did. -/
def fnExactCoreShapeSpec : ChangeSpec := { name := "fnExactCoreShape", fn := fun _ => fun
  | [d] => { results := [.lit (.bool true)], args := [d] }
  | _ => none }
def fnExactCoreShapeRow : OpenClaim := { program := "ytlnailoffdmkiaagreat", sum := "c32af18db8443ad420fc41b1b5f2cb3f5577e74facf2921b1403c04a03ddf1f8", func := "loop.example/g00901/laws.FnExactCoreShape", spec := "fnExactCoreShape", unfollowed := true, recurses := true, loops := true, apart := false }
def FnExactCoreShapeSaid : Prop := fnExactCoreShapeRow.holds Tryz.pinned (OpenSpec.ofChange fnExactCoreShapeSpec)

/-- ITS FALSE NEIGHBOUR: 'it returns false'. Refute it at one input. -/
def fnExactCoreShapeWrong : ChangeSpec := { name := "fnExactCoreShape", fn := fun _ => fun
  | [d] => { results := [.lit (.bool false)], args := [d] }
  | _ => none }
def FnExactCoreShapeWrongFalsely : Prop := fnExactCoreShapeRow.holds Tryz.pinned (OpenSpec.ofChange fnExactCoreShapeWrong)

/-- 'laws.FnExactCheckModule': WHATEVER THE INPUT: true; the input reads as it did. -/
def fnExactCheckModuleSpec : ChangeSpec := { name := "fnExactCheckModule", fn := fun _ => fun
  | [d] => { results := [.lit (.bool true)], args := [d] }
  | _ => none }
def fnExactCheckModuleRow : OpenClaim := { program := "ytlnailoffdmkiaagreat", sum := "c32af18db8443ad420fc41b1b5f2cb3f5577e74facf2921b1403c04a03ddf1f8", func := "loop.example/g00901/laws.FnExactCheckModule", spec := "fnExactCheckModule", inPlace := ["internal/bytealg.IndexByteString"], unfollowed := true, recurses := true, apart := false }
def FnExactCheckModuleSaid : Prop := fnExactCheckModuleRow.holds Tryz.pinned (OpenSpec.ofChange fnExactCheckModuleSpec)

/-- ITS FALSE NEIGHBOUR: 'it returns false'. Refute it at one input. -/
def fnExactCheckModuleWrong : ChangeSpec := { name := "fnExactCheckModule", fn := fun _ => fun
  | [d] => { results := [.lit (.bool false)], args := [d] }
  | _ => none }
def FnExactCheckModuleWrongFalsely : Prop := fnExactCheckModuleRow.holds Tryz.pinned (OpenSpec.ofChange fnExactCheckModuleWrong)

/-- 'laws.FnExactHighestOf': WHATEVER THE INPUT: true; the input reads as it did. -/
def fnExactHighestOfSpec : ChangeSpec := { name := "fnExactHighestOf", fn := fun _ => fun
  | [d1, d2] => { results := [.lit (.bool true)], args := [d1, d2] }
  | _ => none }
def fnExactHighestOfRow : OpenClaim := { program := "ytlnailoffdmkiaagreat", sum := "c32af18db8443ad420fc41b1b5f2cb3f5577e74facf2921b1403c04a03ddf1f8", func := "loop.example/g00901/laws.FnExactHighestOf", spec := "fnExactHighestOf", inPlace := ["internal/bytealg.IndexByteString"], unfollowed := true, recurses := true, apart := false }
def FnExactHighestOfSaid : Prop := fnExactHighestOfRow.holds Tryz.pinned (OpenSpec.ofChange fnExactHighestOfSpec)

/-- ITS FALSE NEIGHBOUR: 'it returns false'. Refute it at one input. -/
def fnExactHighestOfWrong : ChangeSpec := { name := "fnExactHighestOf", fn := fun _ => fun
  | [d1, d2] => { results := [.lit (.bool false)], args := [d1, d2] }
  | _ => none }
def FnExactHighestOfWrongFalsely : Prop := fnExactHighestOfRow.holds Tryz.pinned (OpenSpec.ofChange fnExactHighestOfWrong)

/-- 'laws.FnExactTargetOf': WHATEVER THE INPUT: true; the input reads as it did. -/
def fnExactTargetOfSpec : ChangeSpec := { name := "fnExactTargetOf", fn := fun _ => fun
  | [d1, d2, d3, d4] => { results := [.lit (.bool true)], args := [d1, d2, d3, d4] }
  | _ => none }
def fnExactTargetOfRow : OpenClaim := { program := "ytlnailoffdmkiaagreat", sum := "c32af18db8443ad420fc41b1b5f2cb3f5577e74facf2921b1403c04a03ddf1f8", func := "loop.example/g00901/laws.FnExactTargetOf", spec := "fnExactTargetOf", inPlace := ["internal/bytealg.IndexByteString"], unfollowed := true, recurses := true, apart := false }
def FnExactTargetOfSaid : Prop := fnExactTargetOfRow.holds Tryz.pinned (OpenSpec.ofChange fnExactTargetOfSpec)

/-- ITS FALSE NEIGHBOUR: 'it returns false'. Refute it at one input. -/
def fnExactTargetOfWrong : ChangeSpec := { name := "fnExactTargetOf", fn := fun _ => fun
  | [d1, d2, d3, d4] => { results := [.lit (.bool false)], args := [d1, d2, d3, d4] }
  | _ => none }
def FnExactTargetOfWrongFalsely : Prop := fnExactTargetOfRow.holds Tryz.pinned (OpenSpec.ofChange fnExactTargetOfWrong)

/-- 'laws.FnExactModuleOk': WHATEVER THE INPUT: true; the input reads as it did. -/
def fnExactModuleOkSpec : ChangeSpec := { name := "fnExactModuleOk", fn := fun _ => fun
  | [d] => { results := [.lit (.bool true)], args := [d] }
  | _ => none }
def fnExactModuleOkRow : OpenClaim := { program := "ytlnailoffdmkiaagreat", sum := "c32af18db8443ad420fc41b1b5f2cb3f5577e74facf2921b1403c04a03ddf1f8", func := "loop.example/g00901/laws.FnExactModuleOk", spec := "fnExactModuleOk", inPlace := ["internal/bytealg.IndexByteString"], unfollowed := true, recurses := true, apart := false }
def FnExactModuleOkSaid : Prop := fnExactModuleOkRow.holds Tryz.pinned (OpenSpec.ofChange fnExactModuleOkSpec)

/-- ITS FALSE NEIGHBOUR: 'it returns false'. Refute it at one input. -/
def fnExactModuleOkWrong : ChangeSpec := { name := "fnExactModuleOk", fn := fun _ => fun
  | [d] => { results := [.lit (.bool false)], args := [d] }
  | _ => none }
def FnExactModuleOkWrongFalsely : Prop := fnExactModuleOkRow.holds Tryz.pinned (OpenSpec.ofChange fnExactModuleOkWrong)

/-- 'laws.FnTypes': WHATEVER THE INPUT: true; the input reads as it did. -/
def fnTypesSpec : ChangeSpec := { name := "fnTypes", fn := fun _ => fun
  | [d] => { results := [.lit (.bool true)], args := [d] }
  | _ => none }
def fnTypesRow : OpenClaim := { program := "ytlnailoffdmkiaagreat", sum := "c32af18db8443ad420fc41b1b5f2cb3f5577e74facf2921b1403c04a03ddf1f8", func := "loop.example/g00901/laws.FnTypes", spec := "fnTypes", inPlace := ["internal/abi.NoEscape", "internal/bytealg.MakeNoZero", "internal/bytealg.IndexByteString"], unfollowed := true, recurses := true, apart := false }
def FnTypesSaid : Prop := fnTypesRow.holds Tryz.pinned (OpenSpec.ofChange fnTypesSpec)

/-- ITS FALSE NEIGHBOUR: 'it returns false'. Refute it at one input. -/
def fnTypesWrong : ChangeSpec := { name := "fnTypes", fn := fun _ => fun
  | [d] => { results := [.lit (.bool false)], args := [d] }
  | _ => none }
def FnTypesWrongFalsely : Prop := fnTypesRow.holds Tryz.pinned (OpenSpec.ofChange fnTypesWrong)

/-- 'laws.FnTargets': WHATEVER THE INPUT: true; the input reads as it did. -/
def fnTargetsSpec : ChangeSpec := { name := "fnTargets", fn := fun _ => fun
  | [d] => { results := [.lit (.bool true)], args := [d] }
  | _ => none }
def fnTargetsRow : OpenClaim := { program := "ytlnailoffdmkiaagreat", sum := "c32af18db8443ad420fc41b1b5f2cb3f5577e74facf2921b1403c04a03ddf1f8", func := "loop.example/g00901/laws.FnTargets", spec := "fnTargets", inPlace := ["internal/bytealg.IndexByteString"], unfollowed := true, recurses := true, apart := false }
def FnTargetsSaid : Prop := fnTargetsRow.holds Tryz.pinned (OpenSpec.ofChange fnTargetsSpec)

/-- ITS FALSE NEIGHBOUR: 'it returns false'. Refute it at one input. -/
def fnTargetsWrong : ChangeSpec := { name := "fnTargets", fn := fun _ => fun
  | [d] => { results := [.lit (.bool false)], args := [d] }
  | _ => none }
def FnTargetsWrongFalsely : Prop := fnTargetsRow.holds Tryz.pinned (OpenSpec.ofChange fnTargetsWrong)

/- THE SECOND FORM. 'bulk': how many values and letters a reading holds, each counted each time it is reached (what is shared counts as often as it is met; a slice's spare places count too). A statement '..UptoSaid' is the law's where the arguments, and the package variables that the reading takes, are together of bulk at most 1048576: NARROWER than '..Said'. Prove '..Said' where nothing that the law and all that it calls make is longer than what came in: it says more and counts as full. Else prove '..UptoSaid'. A law counts once. -/
mutual
def uptoBulk {H : Type} : DataW H → Nat
  | .lit (.string bytes) => bytes.length + 1
  | .lit _ => 1
  | .nil => 1
  | .ptr d => uptoBulk d + 1
  | .slice elems spare => uptoBulkAll elems + uptoBulkAll spare + 1
  | .agg parts => uptoBulkAll parts + 1
  | .iface _ d => uptoBulk d + 1
  | .map entries => uptoBulkEntries entries + 1
  | .held _ => 1
def uptoBulkAll {H : Type} : List (DataW H) → Nat
  | [] => 0
  | d :: r => uptoBulk d + uptoBulkAll r
def uptoBulkEntries {H : Type} : List (Lit × DataW H) → Nat
  | [] => 0
  | x :: r => uptoBulkEntry x + uptoBulkEntries r
def uptoBulkEntry {H : Type} : Lit × DataW H → Nat
  | (.string bytes, d) => bytes.length + uptoBulk d + 1
  | (_, d) => uptoBulk d + 1
 end
def uptoSmall : (H : Type) → List (DataW H) → Bool := fun _ ds => decide (uptoBulkAll ds ≤ 1048576)
def OpenSpec.upto (s : _root_.Go.ChangeSpec) : _root_.Go.OpenSpec := { _root_.Go.OpenSpec.ofChange s with cond := some uptoSmall }

/-- 'laws.FnExactCoreShape', WHERE WHAT IT READS IS OF BULK AT MOST 1048576: true; the input reads as it did. -/
def fnExactCoreShapeUptoRow : OpenClaim := { program := "ytlnailoffdmkiaagreat", sum := "c32af18db8443ad420fc41b1b5f2cb3f5577e74facf2921b1403c04a03ddf1f8", func := "loop.example/g00901/laws.FnExactCoreShape", spec := "fnExactCoreShape", unfollowed := true, recurses := true, loops := true, apart := false, narrowed := true }
def FnExactCoreShapeUptoSaid : Prop := fnExactCoreShapeUptoRow.holds Tryz.pinned (OpenSpec.upto fnExactCoreShapeSpec)

/-- 'laws.FnExactCheckModule', WHERE WHAT IT READS IS OF BULK AT MOST 1048576: true; the input reads as it did. -/
def fnExactCheckModuleUptoRow : OpenClaim := { program := "ytlnailoffdmkiaagreat", sum := "c32af18db8443ad420fc41b1b5f2cb3f5577e74facf2921b1403c04a03ddf1f8", func := "loop.example/g00901/laws.FnExactCheckModule", spec := "fnExactCheckModule", inPlace := ["internal/bytealg.IndexByteString"], unfollowed := true, recurses := true, apart := false, narrowed := true }
def FnExactCheckModuleUptoSaid : Prop := fnExactCheckModuleUptoRow.holds Tryz.pinned (OpenSpec.upto fnExactCheckModuleSpec)

/-- 'laws.FnExactHighestOf', WHERE WHAT IT READS IS OF BULK AT MOST 1048576: true; the input reads as it did. -/
def fnExactHighestOfUptoRow : OpenClaim := { program := "ytlnailoffdmkiaagreat", sum := "c32af18db8443ad420fc41b1b5f2cb3f5577e74facf2921b1403c04a03ddf1f8", func := "loop.example/g00901/laws.FnExactHighestOf", spec := "fnExactHighestOf", inPlace := ["internal/bytealg.IndexByteString"], unfollowed := true, recurses := true, apart := false, narrowed := true }
def FnExactHighestOfUptoSaid : Prop := fnExactHighestOfUptoRow.holds Tryz.pinned (OpenSpec.upto fnExactHighestOfSpec)

/-- 'laws.FnExactTargetOf', WHERE WHAT IT READS IS OF BULK AT MOST 1048576: true; the input reads as it did. -/
def fnExactTargetOfUptoRow : OpenClaim := { program := "ytlnailoffdmkiaagreat", sum := "c32af18db8443ad420fc41b1b5f2cb3f5577e74facf2921b1403c04a03ddf1f8", func := "loop.example/g00901/laws.FnExactTargetOf", spec := "fnExactTargetOf", inPlace := ["internal/bytealg.IndexByteString"], unfollowed := true, recurses := true, apart := false, narrowed := true }
def FnExactTargetOfUptoSaid : Prop := fnExactTargetOfUptoRow.holds Tryz.pinned (OpenSpec.upto fnExactTargetOfSpec)

/-- 'laws.FnExactModuleOk', WHERE WHAT IT READS IS OF BULK AT MOST 1048576: true; the input reads as it did. -/
def fnExactModuleOkUptoRow : OpenClaim := { program := "ytlnailoffdmkiaagreat", sum := "c32af18db8443ad420fc41b1b5f2cb3f5577e74facf2921b1403c04a03ddf1f8", func := "loop.example/g00901/laws.FnExactModuleOk", spec := "fnExactModuleOk", inPlace := ["internal/bytealg.IndexByteString"], unfollowed := true, recurses := true, apart := false, narrowed := true }
def FnExactModuleOkUptoSaid : Prop := fnExactModuleOkUptoRow.holds Tryz.pinned (OpenSpec.upto fnExactModuleOkSpec)

/-- 'laws.FnTypes', WHERE WHAT IT READS IS OF BULK AT MOST 1048576: true; the input reads as it did. -/
def fnTypesUptoRow : OpenClaim := { program := "ytlnailoffdmkiaagreat", sum := "c32af18db8443ad420fc41b1b5f2cb3f5577e74facf2921b1403c04a03ddf1f8", func := "loop.example/g00901/laws.FnTypes", spec := "fnTypes", inPlace := ["internal/abi.NoEscape", "internal/bytealg.MakeNoZero", "internal/bytealg.IndexByteString"], unfollowed := true, recurses := true, apart := false, narrowed := true }
def FnTypesUptoSaid : Prop := fnTypesUptoRow.holds Tryz.pinned (OpenSpec.upto fnTypesSpec)

/-- 'laws.FnTargets', WHERE WHAT IT READS IS OF BULK AT MOST 1048576: true; the input reads as it did. -/
def fnTargetsUptoRow : OpenClaim := { program := "ytlnailoffdmkiaagreat", sum := "c32af18db8443ad420fc41b1b5f2cb3f5577e74facf2921b1403c04a03ddf1f8", func := "loop.example/g00901/laws.FnTargets", spec := "fnTargets", inPlace := ["internal/bytealg.IndexByteString"], unfollowed := true, recurses := true, apart := false, narrowed := true }
def FnTargetsUptoSaid : Prop := fnTargetsUptoRow.holds Tryz.pinned (OpenSpec.upto fnTargetsSpec)

end Rows
end Go.Proofs.YtlnailoffdmkiaaGreat
