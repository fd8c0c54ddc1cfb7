/-
  NARROWER THAN 'FOR EVERY INPUT', by the rows' own cells (each row's printed sentence says how): FnExactStoreValue: loops, laid · FnExactLowerFlat: loops, laid · FnExactLowerResult: loops, laid · FnExactLowerParams: loops, laid.
  DERIVED. THE GIVEN ROWS OF THIS SEAT. 4 by the template 'for every input the law returns true; each argument reads behind the call as it read before'; 0 by the template 'total and deterministic' (their statements: YtalddlopgnfpaaaGreatDoorTotals.lean).
  GIVEN WITH THE SEED: the statements are not yours to turn. If you find one false, say at which input.
  Laid BY PROGRAM, IN A SANDBOX (cutbox-rows.mjs): the forced cells as the released guide's own fill.sh prints them over the translation 7f7af1650b7d4d4d… (all of the seat's roots in one cut). By AI agents, Wed Nov 11 2026. No macro, syntax, notation, axiom, sorry.
-/
import Derived.Test.YtalddlopgnfpaaaGreatDoorChecked
import GoSem.PinnedTables
import GoSem.Claim
import GoSem.ClaimJoined
import GoSem.ClaimMapViews
import Derived.JoinedTies
import Derived.KernelRfl
namespace Go.Proofs.YtalddlopgnfpaaaGreatDoor
/- THE CELL 'sum', in the pinned program and in every row, IS THE sha256 OF THE DUMP (.gsa) THAT YtalddlopgnfpaaaGreatDoorProg.lean LOADS. Nothing in Lean hashes anything: it is a label: what it is worth is what the hold of that sum in a sandbox is worth. -/
noncomputable def Tryz.pinned : Pinned := { name := "ytalddlopgnfpaaagreatdoor", sum := "7f7af1650b7d4d4d8c024a4cf374ad8b2b1f190d74ef77f22a3fe3f03eb0a267", checked := Tryz.checked }
namespace Rows
def none {H : Type} : Left H := { results := [], args := [] }

/- WHAT THE LISTED PACKAGE-LEVEL VARIABLES READ AS WHEN THE CALL BEGINS. Each datum BY PROGRAM (the guide's laid-datum.mjs) off the statement by which the dump's own 'gosem.cut.vars' lays the variable. In a bare row this is a premise. The card (YtalddlopgnfpaaaGreatDoorCards.lean) ties it to the program's text. -/
def laid_unicode_utf8_acceptRanges {H : Type} : DataW H := .agg [.agg [.lit (.int .u8 128), .lit (.int .u8 191)], .agg [.lit (.int .u8 160), .lit (.int .u8 191)], .agg [.lit (.int .u8 128), .lit (.int .u8 159)], .agg [.lit (.int .u8 144), .lit (.int .u8 191)], .agg [.lit (.int .u8 128), .lit (.int .u8 143)], .agg [.lit (.int .u8 0), .lit (.int .u8 0)], .agg [.lit (.int .u8 0), .lit (.int .u8 0)], .agg [.lit (.int .u8 0), .lit (.int .u8 0)], .agg [.lit (.int .u8 0), .lit (.int .u8 0)], .agg [.lit (.int .u8 0), .lit (.int .u8 0)], .agg [.lit (.int .u8 0), .lit (.int .u8 0)], .agg [.lit (.int .u8 0), .lit (.int .u8 0)], .agg [.lit (.int .u8 0), .lit (.int .u8 0)], .agg [.lit (.int .u8 0), .lit (.int .u8 0)], .agg [.lit (.int .u8 0), .lit (.int .u8 0)], .agg [.lit (.int .u8 0), .lit (.int .u8 0)]]
/-- One of Go's own tables, pinned by name: the form's constant. -/
def laid_unicode_utf8_first : DataW Unit := Go.Pinned.utf8First

/-- 'laws.FnExactStoreValue': WHATEVER THE INPUT: true; the input reads as it did. -/
def fnExactStoreValueSpec : ChangeSpec := { name := "fnExactStoreValue", fn := fun _ => fun
  | [d1, d2, d3, d4, d5] => { results := [.lit (.bool true)], args := [d1, d2, d3, d4, d5] }
  | _ => none }
def fnExactStoreValueRow : OpenClaim := { program := "ytalddlopgnfpaaagreatdoor", sum := "7f7af1650b7d4d4d8c024a4cf374ad8b2b1f190d74ef77f22a3fe3f03eb0a267", func := "loop.example/g00901/laws.FnExactStoreValue", spec := "fnExactStoreValue", unfollowed := true, recurses := true, named := ["unicode/utf8.first", "unicode/utf8.acceptRanges"], loops := true, apart := false, laid := [("unicode/utf8.acceptRanges", laid_unicode_utf8_acceptRanges), ("unicode/utf8.first", laid_unicode_utf8_first)] }
def FnExactStoreValueSaid : Prop := fnExactStoreValueRow.holds Tryz.pinned (OpenSpec.ofChange fnExactStoreValueSpec)

/-- ITS FALSE NEIGHBOUR: 'it returns false'. Refute it at one input. -/
def fnExactStoreValueWrong : ChangeSpec := { name := "fnExactStoreValue", fn := fun _ => fun
  | [d1, d2, d3, d4, d5] => { results := [.lit (.bool false)], args := [d1, d2, d3, d4, d5] }
  | _ => none }
def FnExactStoreValueWrongFalsely : Prop := fnExactStoreValueRow.holds Tryz.pinned (OpenSpec.ofChange fnExactStoreValueWrong)

/-- 'laws.FnExactLowerFlat': WHATEVER THE INPUT: true; the input reads as it did. -/
def fnExactLowerFlatSpec : ChangeSpec := { name := "fnExactLowerFlat", fn := fun _ => fun
  | [d1, d2, d3, d4] => { results := [.lit (.bool true)], args := [d1, d2, d3, d4] }
  | _ => none }
def fnExactLowerFlatRow : OpenClaim := { program := "ytalddlopgnfpaaagreatdoor", sum := "7f7af1650b7d4d4d8c024a4cf374ad8b2b1f190d74ef77f22a3fe3f03eb0a267", func := "loop.example/g00901/laws.FnExactLowerFlat", spec := "fnExactLowerFlat", unfollowed := true, recurses := true, named := ["unicode/utf8.first", "unicode/utf8.acceptRanges"], loops := true, apart := false, laid := [("unicode/utf8.acceptRanges", laid_unicode_utf8_acceptRanges), ("unicode/utf8.first", laid_unicode_utf8_first)] }
def FnExactLowerFlatSaid : Prop := fnExactLowerFlatRow.holds Tryz.pinned (OpenSpec.ofChange fnExactLowerFlatSpec)

/-- ITS FALSE NEIGHBOUR: 'it returns false'. Refute it at one input. -/
def fnExactLowerFlatWrong : ChangeSpec := { name := "fnExactLowerFlat", fn := fun _ => fun
  | [d1, d2, d3, d4] => { results := [.lit (.bool false)], args := [d1, d2, d3, d4] }
  | _ => none }
def FnExactLowerFlatWrongFalsely : Prop := fnExactLowerFlatRow.holds Tryz.pinned (OpenSpec.ofChange fnExactLowerFlatWrong)

/-- 'laws.FnExactLowerResult': WHATEVER THE INPUT: true; the input reads as it did. -/
def fnExactLowerResultSpec : ChangeSpec := { name := "fnExactLowerResult", fn := fun _ => fun
  | [d1, d2, d3, d4] => { results := [.lit (.bool true)], args := [d1, d2, d3, d4] }
  | _ => none }
def fnExactLowerResultRow : OpenClaim := { program := "ytalddlopgnfpaaagreatdoor", sum := "7f7af1650b7d4d4d8c024a4cf374ad8b2b1f190d74ef77f22a3fe3f03eb0a267", func := "loop.example/g00901/laws.FnExactLowerResult", spec := "fnExactLowerResult", unfollowed := true, recurses := true, named := ["unicode/utf8.first", "unicode/utf8.acceptRanges"], loops := true, apart := false, laid := [("unicode/utf8.acceptRanges", laid_unicode_utf8_acceptRanges), ("unicode/utf8.first", laid_unicode_utf8_first)] }
def FnExactLowerResultSaid : Prop := fnExactLowerResultRow.holds Tryz.pinned (OpenSpec.ofChange fnExactLowerResultSpec)

/-- ITS FALSE NEIGHBOUR: 'it returns false'. Refute it at one input. -/
def fnExactLowerResultWrong : ChangeSpec := { name := "fnExactLowerResult", fn := fun _ => fun
  | [d1, d2, d3, d4] => { results := [.lit (.bool false)], args := [d1, d2, d3, d4] }
  | _ => none }
def FnExactLowerResultWrongFalsely : Prop := fnExactLowerResultRow.holds Tryz.pinned (OpenSpec.ofChange fnExactLowerResultWrong)

/-- 'laws.FnExactLowerParams': WHATEVER THE INPUT: true; the input reads as it did. -/
def fnExactLowerParamsSpec : ChangeSpec := { name := "fnExactLowerParams", fn := fun _ => fun
  | [d1, d2, d3, d4] => { results := [.lit (.bool true)], args := [d1, d2, d3, d4] }
  | _ => none }
def fnExactLowerParamsRow : OpenClaim := { program := "ytalddlopgnfpaaagreatdoor", sum := "7f7af1650b7d4d4d8c024a4cf374ad8b2b1f190d74ef77f22a3fe3f03eb0a267", func := "loop.example/g00901/laws.FnExactLowerParams", spec := "fnExactLowerParams", unfollowed := true, recurses := true, named := ["unicode/utf8.first", "unicode/utf8.acceptRanges"], loops := true, apart := false, laid := [("unicode/utf8.acceptRanges", laid_unicode_utf8_acceptRanges), ("unicode/utf8.first", laid_unicode_utf8_first)] }
def FnExactLowerParamsSaid : Prop := fnExactLowerParamsRow.holds Tryz.pinned (OpenSpec.ofChange fnExactLowerParamsSpec)

/-- ITS FALSE NEIGHBOUR: 'it returns false'. Refute it at one input. -/
def fnExactLowerParamsWrong : ChangeSpec := { name := "fnExactLowerParams", fn := fun _ => fun
  | [d1, d2, d3, d4] => { results := [.lit (.bool false)], args := [d1, d2, d3, d4] }
  | _ => none }
def FnExactLowerParamsWrongFalsely : Prop := fnExactLowerParamsRow.holds Tryz.pinned (OpenSpec.ofChange fnExactLowerParamsWrong)

/- THE SECOND FORM. 'bulk': how many values and letters a reading holds, each counted each time it is reached (what is shared counts as often as it is met; a slice's spare places count too). A statement '..UptoSaid' is the law's where the arguments, and the package variables that the reading takes, are together of bulk at most 1048576: NARROWER than '..Said'. Prove '..Said' where nothing that the law and all that it calls make is longer than what came in: it says more and counts as full. Else prove '..UptoSaid'. A law counts once. -/
mutual
def uptoBulk {H : Type} : DataW H → Nat
  | .lit (.string bytes) => bytes.length + 1
  | .lit _ => 1
  | .nil => 1
  | .ptr d => uptoBulk d + 1
  | .slice elems spare => uptoBulkAll elems + uptoBulkAll spare + 1
  | .agg parts => uptoBulkAll parts + 1
  | .iface _ d => uptoBulk d + 1
  | .map entries => uptoBulkEntries entries + 1
  | .held _ => 1
def uptoBulkAll {H : Type} : List (DataW H) → Nat
  | [] => 0
  | d :: r => uptoBulk d + uptoBulkAll r
def uptoBulkEntries {H : Type} : List (Lit × DataW H) → Nat
  | [] => 0
  | x :: r => uptoBulkEntry x + uptoBulkEntries r
def uptoBulkEntry {H : Type} : Lit × DataW H → Nat
  | (.string bytes, d) => bytes.length + uptoBulk d + 1
  | (_, d) => uptoBulk d + 1
 end
def uptoSmall : (H : Type) → List (DataW H) → Bool := fun _ ds => decide (uptoBulkAll ds ≤ 1048576)
def OpenSpec.upto (s : _root_.Go.ChangeSpec) : _root_.Go.OpenSpec := { _root_.Go.OpenSpec.ofChange s with cond := some uptoSmall }

/-- 'laws.FnExactStoreValue', WHERE WHAT IT READS IS OF BULK AT MOST 1048576: true; the input reads as it did. -/
def fnExactStoreValueUptoRow : OpenClaim := { program := "ytalddlopgnfpaaagreatdoor", sum := "7f7af1650b7d4d4d8c024a4cf374ad8b2b1f190d74ef77f22a3fe3f03eb0a267", func := "loop.example/g00901/laws.FnExactStoreValue", spec := "fnExactStoreValue", unfollowed := true, recurses := true, named := ["unicode/utf8.first", "unicode/utf8.acceptRanges"], loops := true, apart := false, laid := [("unicode/utf8.acceptRanges", laid_unicode_utf8_acceptRanges), ("unicode/utf8.first", laid_unicode_utf8_first)], narrowed := true }
def FnExactStoreValueUptoSaid : Prop := fnExactStoreValueUptoRow.holds Tryz.pinned (OpenSpec.upto fnExactStoreValueSpec)

/-- 'laws.FnExactLowerFlat', WHERE WHAT IT READS IS OF BULK AT MOST 1048576: true; the input reads as it did. -/
def fnExactLowerFlatUptoRow : OpenClaim := { program := "ytalddlopgnfpaaagreatdoor", sum := "7f7af1650b7d4d4d8c024a4cf374ad8b2b1f190d74ef77f22a3fe3f03eb0a267", func := "loop.example/g00901/laws.FnExactLowerFlat", spec := "fnExactLowerFlat", unfollowed := true, recurses := true, named := ["unicode/utf8.first", "unicode/utf8.acceptRanges"], loops := true, apart := false, laid := [("unicode/utf8.acceptRanges", laid_unicode_utf8_acceptRanges), ("unicode/utf8.first", laid_unicode_utf8_first)], narrowed := true }
def FnExactLowerFlatUptoSaid : Prop := fnExactLowerFlatUptoRow.holds Tryz.pinned (OpenSpec.upto fnExactLowerFlatSpec)

/-- 'laws.FnExactLowerResult', WHERE WHAT IT READS IS OF BULK AT MOST 1048576: true; the input reads as it did. -/
def fnExactLowerResultUptoRow : OpenClaim := { program := "ytalddlopgnfpaaagreatdoor", sum := "7f7af1650b7d4d4d8c024a4cf374ad8b2b1f190d74ef77f22a3fe3f03eb0a267", func := "loop.example/g00901/laws.FnExactLowerResult", spec := "fnExactLowerResult", unfollowed := true, recurses := true, named := ["unicode/utf8.first", "unicode/utf8.acceptRanges"], loops := true, apart := false, laid := [("unicode/utf8.acceptRanges", laid_unicode_utf8_acceptRanges), ("unicode/utf8.first", laid_unicode_utf8_first)], narrowed := true }
def FnExactLowerResultUptoSaid : Prop := fnExactLowerResultUptoRow.holds Tryz.pinned (OpenSpec.upto fnExactLowerResultSpec)

/-- 'laws.FnExactLowerParams', WHERE WHAT IT READS IS OF BULK AT MOST 1048576: true; the input reads as it did. -/
def fnExactLowerParamsUptoRow : OpenClaim := { program := "ytalddlopgnfpaaagreatdoor", sum := "7f7af1650b7d4d4d8c024a4cf374ad8b2b1f190d74ef77f22a3fe3f03eb0a267", func := "loop.example/g00901/laws.FnExactLowerParams", spec := "fnExactLowerParams", unfollowed := true, recurses := true, named := ["unicode/utf8.first", "unicode/utf8.acceptRanges"], loops := true, apart := false, laid := [("unicode/utf8.acceptRanges", laid_unicode_utf8_acceptRanges), ("unicode/utf8.first", laid_unicode_utf8_first)], narrowed := true }
def FnExactLowerParamsUptoSaid : Prop := fnExactLowerParamsUptoRow.holds Tryz.pinned (OpenSpec.upto fnExactLowerParamsSpec)

end Rows
end Go.Proofs.YtalddlopgnfpaaaGreatDoor
