/-
  NARROWER THAN 'FOR EVERY INPUT', by the rows' own cells (each row's printed sentence says how): FnExactSameAsync: loops · FnExactTypeBytes: loops.
  DERIVED. THE GIVEN ROWS OF THIS SEAT. 3 by the template 'for every input the law returns true; each argument reads behind the call as it read before'; 0 by the template 'total and deterministic' (their statements: YtfjgoefnkdcolaaTotals.lean).
  GIVEN WITH THE SEED: the statements are not yours to turn. If you find one false, say at which input.
  Laid BY PROGRAM, IN A SANDBOX (cutbox-rows.mjs): the forced cells as the released guide's own fill.sh prints them over the translation 7d8d29594121e036… (all of the seat's roots in one cut). By AI agents, Wed Nov 11 2026. No macro, syntax, notation, axiom, sorry.
-/
import Derived.Test.YtfjgoefnkdcolaaChecked
import GoSem.Claim
import GoSem.ClaimJoined
import GoSem.ClaimMapViews
import Derived.JoinedTies
import Derived.KernelRfl
namespace Go.Proofs.Ytfjgoefnkdcolaa
/- THE CELL 'sum', in the pinned program and in every row, IS THE sha256 OF THE DUMP (.gsa) THAT YtfjgoefnkdcolaaProg.lean LOADS. Nothing in Lean hashes anything: it is a label: what it is worth is what the hold of that sum in a sandbox is worth. -/
noncomputable def Try.pinned : Pinned := { name := "ytfjgoefnkdcolaa", sum := "7d8d29594121e036bdabba5071ea5c575f79bb57196942c592d23c330889c3d6", checked := Try.checked }
namespace Rows
def none {H : Type} : Left H := { results := [], args := [] }

/-- 'laws.FnExactProgOk': WHATEVER THE INPUT: true; the input reads as it did. -/
def fnExactProgOkSpec : ChangeSpec := { name := "fnExactProgOk", fn := fun _ => fun
  | [d] => { results := [.lit (.bool true)], args := [d] }
  | _ => none }
def fnExactProgOkRow : OpenClaim := { program := "ytfjgoefnkdcolaa", sum := "7d8d29594121e036bdabba5071ea5c575f79bb57196942c592d23c330889c3d6", func := "loop.example/g00901/laws.FnExactProgOk", spec := "fnExactProgOk", unfollowed := true, recurses := true, apart := false }
def FnExactProgOkSaid : Prop := fnExactProgOkRow.holds Try.pinned (OpenSpec.ofChange fnExactProgOkSpec)

/-- ITS FALSE NEIGHBOUR: 'it returns false'. Refute it at one input. -/
def fnExactProgOkWrong : ChangeSpec := { name := "fnExactProgOk", fn := fun _ => fun
  | [d] => { results := [.lit (.bool false)], args := [d] }
  | _ => none }
def FnExactProgOkWrongFalsely : Prop := fnExactProgOkRow.holds Try.pinned (OpenSpec.ofChange fnExactProgOkWrong)

/-- 'laws.FnExactSameAsync': WHATEVER THE INPUT: true; the input reads as it did. -/
def fnExactSameAsyncSpec : ChangeSpec := { name := "fnExactSameAsync", fn := fun _ => fun
  | [d1, d2] => { results := [.lit (.bool true)], args := [d1, d2] }
  | _ => none }
def fnExactSameAsyncRow : OpenClaim := { program := "ytfjgoefnkdcolaa", sum := "7d8d29594121e036bdabba5071ea5c575f79bb57196942c592d23c330889c3d6", func := "loop.example/g00901/laws.FnExactSameAsync", spec := "fnExactSameAsync", unfollowed := true, recurses := true, loops := true, apart := false }
def FnExactSameAsyncSaid : Prop := fnExactSameAsyncRow.holds Try.pinned (OpenSpec.ofChange fnExactSameAsyncSpec)

/-- ITS FALSE NEIGHBOUR: 'it returns false'. Refute it at one input. -/
def fnExactSameAsyncWrong : ChangeSpec := { name := "fnExactSameAsync", fn := fun _ => fun
  | [d1, d2] => { results := [.lit (.bool false)], args := [d1, d2] }
  | _ => none }
def FnExactSameAsyncWrongFalsely : Prop := fnExactSameAsyncRow.holds Try.pinned (OpenSpec.ofChange fnExactSameAsyncWrong)

/-- 'laws.FnExactTypeBytes': WHATEVER THE INPUT: true; the input reads as it did. -/
def fnExactTypeBytesSpec : ChangeSpec := { name := "fnExactTypeBytes", fn := fun _ => fun
  | [d] => { results := [.lit (.bool true)], args := [d] }
  | _ => none }
def fnExactTypeBytesRow : OpenClaim := { program := "ytfjgoefnkdcolaa", sum := "7d8d29594121e036bdabba5071ea5c575f79bb57196942c592d23c330889c3d6", func := "loop.example/g00901/laws.FnExactTypeBytes", spec := "fnExactTypeBytes", inPlace := ["internal/abi.NoEscape"], unfollowed := true, recurses := true, loops := true, apart := false }
def FnExactTypeBytesSaid : Prop := fnExactTypeBytesRow.holds Try.pinned (OpenSpec.ofChange fnExactTypeBytesSpec)

/-- ITS FALSE NEIGHBOUR: 'it returns false'. Refute it at one input. -/
def fnExactTypeBytesWrong : ChangeSpec := { name := "fnExactTypeBytes", fn := fun _ => fun
  | [d] => { results := [.lit (.bool false)], args := [d] }
  | _ => none }
def FnExactTypeBytesWrongFalsely : Prop := fnExactTypeBytesRow.holds Try.pinned (OpenSpec.ofChange fnExactTypeBytesWrong)

/- THE SECOND FORM. 'bulk': how many values and letters a reading holds, each counted each time it is reached (what is shared counts as often as it is met; a slice's spare places count too). A statement '..UptoSaid' is the law's where the arguments, and the package variables that the reading takes, are together of bulk at most 1048576: NARROWER than '..Said'. Prove '..Said' where nothing that the law and all that it calls make is longer than what came in: it says more and counts as full. Else prove '..UptoSaid'. A law counts once. -/
mutual
def uptoBulk {H : Type} : DataW H → Nat
  | .lit (.string bytes) => bytes.length + 1
  | .lit _ => 1
  | .nil => 1
  | .ptr d => uptoBulk d + 1
  | .slice elems spare => uptoBulkAll elems + uptoBulkAll spare + 1
  | .agg parts => uptoBulkAll parts + 1
  | .iface _ d => uptoBulk d + 1
  | .map entries => uptoBulkEntries entries + 1
  | .held _ => 1
def uptoBulkAll {H : Type} : List (DataW H) → Nat
  | [] => 0
  | d :: r => uptoBulk d + uptoBulkAll r
def uptoBulkEntries {H : Type} : List (Lit × DataW H) → Nat
  | [] => 0
  | x :: r => uptoBulkEntry x + uptoBulkEntries r
def uptoBulkEntry {H : Type} : Lit × DataW H → Nat
  | (.string bytes, d) => bytes.length + uptoBulk d + 1
  | (_, d) => uptoBulk d + 1
 end
def uptoSmall : (H : Type) → List (DataW H) → Bool := fun _ ds => decide (uptoBulkAll ds ≤ 1048576)
def OpenSpec.upto (s : _root_.Go.ChangeSpec) : _root_.Go.OpenSpec := { _root_.Go.OpenSpec.ofChange s with cond := some uptoSmall }

/-- 'laws.FnExactProgOk', WHERE WHAT IT READS IS OF BULK AT MOST 1048576: true; the input reads as it did. -/
def fnExactProgOkUptoRow : OpenClaim := { program := "ytfjgoefnkdcolaa", sum := "7d8d29594121e036bdabba5071ea5c575f79bb57196942c592d23c330889c3d6", func := "loop.example/g00901/laws.FnExactProgOk", spec := "fnExactProgOk", unfollowed := true, recurses := true, apart := false, narrowed := true }
def FnExactProgOkUptoSaid : Prop := fnExactProgOkUptoRow.holds Try.pinned (OpenSpec.upto fnExactProgOkSpec)

/-- 'laws.FnExactSameAsync', WHERE WHAT IT READS IS OF BULK AT MOST 1048576: true; the input reads as it did. -/
def fnExactSameAsyncUptoRow : OpenClaim := { program := "ytfjgoefnkdcolaa", sum := "7d8d29594121e036bdabba5071ea5c575f79bb57196942c592d23c330889c3d6", func := "loop.example/g00901/laws.FnExactSameAsync", spec := "fnExactSameAsync", unfollowed := true, recurses := true, loops := true, apart := false, narrowed := true }
def FnExactSameAsyncUptoSaid : Prop := fnExactSameAsyncUptoRow.holds Try.pinned (OpenSpec.upto fnExactSameAsyncSpec)

/-- 'laws.FnExactTypeBytes', WHERE WHAT IT READS IS OF BULK AT MOST 1048576: true; the input reads as it did. -/
def fnExactTypeBytesUptoRow : OpenClaim := { program := "ytfjgoefnkdcolaa", sum := "7d8d29594121e036bdabba5071ea5c575f79bb57196942c592d23c330889c3d6", func := "loop.example/g00901/laws.FnExactTypeBytes", spec := "fnExactTypeBytes", inPlace := ["internal/abi.NoEscape"], unfollowed := true, recurses := true, loops := true, apart := false, narrowed := true }
def FnExactTypeBytesUptoSaid : Prop := fnExactTypeBytesUptoRow.holds Try.pinned (OpenSpec.upto fnExactTypeBytesSpec)

end Rows
end Go.Proofs.Ytfjgoefnkdcolaa
