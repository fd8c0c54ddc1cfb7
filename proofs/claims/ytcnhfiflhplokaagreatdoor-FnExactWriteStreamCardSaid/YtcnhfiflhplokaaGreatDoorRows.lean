/-
  NARROWER THAN 'FOR EVERY INPUT', by the rows' own cells (each row's printed sentence says how): FnExactLeaveStream: loops, laid · FnExactShutStream: loops, laid · FnExactWriteStream: loops, laid · FnExactReadStream: loops, laid · FnExactPlayStream: loops, laid.
  DERIVED. THE GIVEN ROWS OF THIS SEAT. 5 by the template 'for every input the law returns true; each argument reads behind the call as it read before'; 0 by the template 'total and deterministic' (their statements: YtcnhfiflhplokaaGreatDoorTotals.lean).
  GIVEN WITH THE SEED: the statements are not yours to turn. If you find one false, say at which input.
  Laid BY PROGRAM, IN A SANDBOX (cutbox-rows.mjs): the forced cells as the released guide's own fill.sh prints them over the translation 1a062ab5f7c297d4… (all of the seat's roots in one cut). By AI agents, Wed Nov 11 2026. No macro, syntax, notation, axiom, sorry.
-/
import Derived.Test.YtcnhfiflhplokaaGreatDoorChecked
import GoSem.PinnedTables
import GoSem.Claim
import GoSem.ClaimJoined
import GoSem.ClaimMapViews
import Derived.JoinedTies
import Derived.KernelRfl
namespace Go.Proofs.YtcnhfiflhplokaaGreatDoor
/- THE CELL 'sum', in the pinned program and in every row, IS THE sha256 OF THE DUMP (.gsa) THAT YtcnhfiflhplokaaGreatDoorProg.lean LOADS. Nothing in Lean hashes anything: it is a label: what it is worth is what the hold of that sum in a sandbox is worth. -/
noncomputable def Tryz.pinned : Pinned := { name := "ytcnhfiflhplokaagreatdoor", sum := "1a062ab5f7c297d4735c034def305785c8fe44e3523d6497161bf2da5cf04231", checked := Tryz.checked }
namespace Rows
def none {H : Type} : Left H := { results := [], args := [] }

/- WHAT THE LISTED PACKAGE-LEVEL VARIABLES READ AS WHEN THE CALL BEGINS. Each datum BY PROGRAM (the guide's laid-datum.mjs) off the statement by which the dump's own 'gosem.cut.vars' lays the variable. In a bare row this is a premise. The card (YtcnhfiflhplokaaGreatDoorCards.lean) ties it to the program's text. -/
def laid_unicode_utf8_acceptRanges {H : Type} : DataW H := .agg [.agg [.lit (.int .u8 128), .lit (.int .u8 191)], .agg [.lit (.int .u8 160), .lit (.int .u8 191)], .agg [.lit (.int .u8 128), .lit (.int .u8 159)], .agg [.lit (.int .u8 144), .lit (.int .u8 191)], .agg [.lit (.int .u8 128), .lit (.int .u8 143)], .agg [.lit (.int .u8 0), .lit (.int .u8 0)], .agg [.lit (.int .u8 0), .lit (.int .u8 0)], .agg [.lit (.int .u8 0), .lit (.int .u8 0)], .agg [.lit (.int .u8 0), .lit (.int .u8 0)], .agg [.lit (.int .u8 0), .lit (.int .u8 0)], .agg [.lit (.int .u8 0), .lit (.int .u8 0)], .agg [.lit (.int .u8 0), .lit (.int .u8 0)], .agg [.lit (.int .u8 0), .lit (.int .u8 0)], .agg [.lit (.int .u8 0), .lit (.int .u8 0)], .agg [.lit (.int .u8 0), .lit (.int .u8 0)], .agg [.lit (.int .u8 0), .lit (.int .u8 0)]]
/-- One of Go's own tables, pinned by name: the form's constant. -/
def laid_unicode_utf8_first : DataW Unit := Go.Pinned.utf8First

/-- 'laws.FnExactLeaveStream': WHATEVER THE INPUT: true; the input reads as it did. -/
def fnExactLeaveStreamSpec : ChangeSpec := { name := "fnExactLeaveStream", fn := fun _ => fun
  | [d] => { results := [.lit (.bool true)], args := [d] }
  | _ => none }
def fnExactLeaveStreamRow : OpenClaim := { program := "ytcnhfiflhplokaagreatdoor", sum := "1a062ab5f7c297d4735c034def305785c8fe44e3523d6497161bf2da5cf04231", func := "loop.example/g00901/laws.FnExactLeaveStream", spec := "fnExactLeaveStream", unfollowed := true, recurses := true, named := ["unicode/utf8.first", "unicode/utf8.acceptRanges"], loops := true, apart := false, laid := [("unicode/utf8.acceptRanges", laid_unicode_utf8_acceptRanges), ("unicode/utf8.first", laid_unicode_utf8_first)] }
def FnExactLeaveStreamSaid : Prop := fnExactLeaveStreamRow.holds Tryz.pinned (OpenSpec.ofChange fnExactLeaveStreamSpec)

/-- ITS FALSE NEIGHBOUR: 'it returns false'. Refute it at one input. -/
def fnExactLeaveStreamWrong : ChangeSpec := { name := "fnExactLeaveStream", fn := fun _ => fun
  | [d] => { results := [.lit (.bool false)], args := [d] }
  | _ => none }
def FnExactLeaveStreamWrongFalsely : Prop := fnExactLeaveStreamRow.holds Tryz.pinned (OpenSpec.ofChange fnExactLeaveStreamWrong)

/-- 'laws.FnExactShutStream': WHATEVER THE INPUT: true; the input reads as it did. -/
def fnExactShutStreamSpec : ChangeSpec := { name := "fnExactShutStream", fn := fun _ => fun
  | [d] => { results := [.lit (.bool true)], args := [d] }
  | _ => none }
def fnExactShutStreamRow : OpenClaim := { program := "ytcnhfiflhplokaagreatdoor", sum := "1a062ab5f7c297d4735c034def305785c8fe44e3523d6497161bf2da5cf04231", func := "loop.example/g00901/laws.FnExactShutStream", spec := "fnExactShutStream", unfollowed := true, recurses := true, named := ["unicode/utf8.first", "unicode/utf8.acceptRanges"], loops := true, apart := false, laid := [("unicode/utf8.acceptRanges", laid_unicode_utf8_acceptRanges), ("unicode/utf8.first", laid_unicode_utf8_first)] }
def FnExactShutStreamSaid : Prop := fnExactShutStreamRow.holds Tryz.pinned (OpenSpec.ofChange fnExactShutStreamSpec)

/-- ITS FALSE NEIGHBOUR: 'it returns false'. Refute it at one input. -/
def fnExactShutStreamWrong : ChangeSpec := { name := "fnExactShutStream", fn := fun _ => fun
  | [d] => { results := [.lit (.bool false)], args := [d] }
  | _ => none }
def FnExactShutStreamWrongFalsely : Prop := fnExactShutStreamRow.holds Tryz.pinned (OpenSpec.ofChange fnExactShutStreamWrong)

/-- 'laws.FnExactWriteStream': WHATEVER THE INPUT: true; the input reads as it did. -/
def fnExactWriteStreamSpec : ChangeSpec := { name := "fnExactWriteStream", fn := fun _ => fun
  | [d1, d2] => { results := [.lit (.bool true)], args := [d1, d2] }
  | _ => none }
def fnExactWriteStreamRow : OpenClaim := { program := "ytcnhfiflhplokaagreatdoor", sum := "1a062ab5f7c297d4735c034def305785c8fe44e3523d6497161bf2da5cf04231", func := "loop.example/g00901/laws.FnExactWriteStream", spec := "fnExactWriteStream", unfollowed := true, recurses := true, named := ["unicode/utf8.first", "unicode/utf8.acceptRanges"], loops := true, apart := false, laid := [("unicode/utf8.acceptRanges", laid_unicode_utf8_acceptRanges), ("unicode/utf8.first", laid_unicode_utf8_first)] }
def FnExactWriteStreamSaid : Prop := fnExactWriteStreamRow.holds Tryz.pinned (OpenSpec.ofChange fnExactWriteStreamSpec)

/-- ITS FALSE NEIGHBOUR: 'it returns false'. Refute it at one input. -/
def fnExactWriteStreamWrong : ChangeSpec := { name := "fnExactWriteStream", fn := fun _ => fun
  | [d1, d2] => { results := [.lit (.bool false)], args := [d1, d2] }
  | _ => none }
def FnExactWriteStreamWrongFalsely : Prop := fnExactWriteStreamRow.holds Tryz.pinned (OpenSpec.ofChange fnExactWriteStreamWrong)

/-- 'laws.FnExactReadStream': WHATEVER THE INPUT: true; the input reads as it did. -/
def fnExactReadStreamSpec : ChangeSpec := { name := "fnExactReadStream", fn := fun _ => fun
  | [d1, d2] => { results := [.lit (.bool true)], args := [d1, d2] }
  | _ => none }
def fnExactReadStreamRow : OpenClaim := { program := "ytcnhfiflhplokaagreatdoor", sum := "1a062ab5f7c297d4735c034def305785c8fe44e3523d6497161bf2da5cf04231", func := "loop.example/g00901/laws.FnExactReadStream", spec := "fnExactReadStream", unfollowed := true, recurses := true, named := ["unicode/utf8.first", "unicode/utf8.acceptRanges"], loops := true, apart := false, laid := [("unicode/utf8.acceptRanges", laid_unicode_utf8_acceptRanges), ("unicode/utf8.first", laid_unicode_utf8_first)] }
def FnExactReadStreamSaid : Prop := fnExactReadStreamRow.holds Tryz.pinned (OpenSpec.ofChange fnExactReadStreamSpec)

/-- ITS FALSE NEIGHBOUR: 'it returns false'. Refute it at one input. -/
def fnExactReadStreamWrong : ChangeSpec := { name := "fnExactReadStream", fn := fun _ => fun
  | [d1, d2] => { results := [.lit (.bool false)], args := [d1, d2] }
  | _ => none }
def FnExactReadStreamWrongFalsely : Prop := fnExactReadStreamRow.holds Tryz.pinned (OpenSpec.ofChange fnExactReadStreamWrong)

/-- 'laws.FnExactPlayStream': WHATEVER THE INPUT: true; the input reads as it did. -/
def fnExactPlayStreamSpec : ChangeSpec := { name := "fnExactPlayStream", fn := fun _ => fun
  | [d1, d2, d3] => { results := [.lit (.bool true)], args := [d1, d2, d3] }
  | _ => none }
def fnExactPlayStreamRow : OpenClaim := { program := "ytcnhfiflhplokaagreatdoor", sum := "1a062ab5f7c297d4735c034def305785c8fe44e3523d6497161bf2da5cf04231", func := "loop.example/g00901/laws.FnExactPlayStream", spec := "fnExactPlayStream", unfollowed := true, recurses := true, named := ["unicode/utf8.first", "unicode/utf8.acceptRanges"], loops := true, apart := false, laid := [("unicode/utf8.acceptRanges", laid_unicode_utf8_acceptRanges), ("unicode/utf8.first", laid_unicode_utf8_first)] }
def FnExactPlayStreamSaid : Prop := fnExactPlayStreamRow.holds Tryz.pinned (OpenSpec.ofChange fnExactPlayStreamSpec)

/-- ITS FALSE NEIGHBOUR: 'it returns false'. Refute it at one input. -/
def fnExactPlayStreamWrong : ChangeSpec := { name := "fnExactPlayStream", fn := fun _ => fun
  | [d1, d2, d3] => { results := [.lit (.bool false)], args := [d1, d2, d3] }
  | _ => none }
def FnExactPlayStreamWrongFalsely : Prop := fnExactPlayStreamRow.holds Tryz.pinned (OpenSpec.ofChange fnExactPlayStreamWrong)

/- THE SECOND FORM. 'bulk': how many values and letters a reading holds, each counted each time it is reached (what is shared counts as often as it is met; a slice's spare places count too). A statement '..UptoSaid' is the law's where the arguments, and the package variables that the reading takes, are together of bulk at most 1048576: NARROWER than '..Said'. Prove '..Said' where nothing that the law and all that it calls make is longer than what came in: it says more and counts as full. Else prove '..UptoSaid'. A law counts once. -/
mutual
def uptoBulk {H : Type} : DataW H → Nat
  | .lit (.string bytes) => bytes.length + 1
  | .lit _ => 1
  | .nil => 1
  | .ptr d => uptoBulk d + 1
  | .slice elems spare => uptoBulkAll elems + uptoBulkAll spare + 1
  | .agg parts => uptoBulkAll parts + 1
  | .iface _ d => uptoBulk d + 1
  | .map entries => uptoBulkEntries entries + 1
  | .held _ => 1
def uptoBulkAll {H : Type} : List (DataW H) → Nat
  | [] => 0
  | d :: r => uptoBulk d + uptoBulkAll r
def uptoBulkEntries {H : Type} : List (Lit × DataW H) → Nat
  | [] => 0
  | x :: r => uptoBulkEntry x + uptoBulkEntries r
def uptoBulkEntry {H : Type} : Lit × DataW H → Nat
  | (.string bytes, d) => bytes.length + uptoBulk d + 1
  | (_, d) => uptoBulk d + 1
 end
def uptoSmall : (H : Type) → List (DataW H) → Bool := fun _ ds => decide (uptoBulkAll ds ≤ 1048576)
def OpenSpec.upto (s : _root_.Go.ChangeSpec) : _root_.Go.OpenSpec := { _root_.Go.OpenSpec.ofChange s with cond := some uptoSmall }

/-- 'laws.FnExactLeaveStream', WHERE WHAT IT READS IS OF BULK AT MOST 1048576: true; the input reads as it did. -/
def fnExactLeaveStreamUptoRow : OpenClaim := { program := "ytcnhfiflhplokaagreatdoor", sum := "1a062ab5f7c297d4735c034def305785c8fe44e3523d6497161bf2da5cf04231", func := "loop.example/g00901/laws.FnExactLeaveStream", spec := "fnExactLeaveStream", unfollowed := true, recurses := true, named := ["unicode/utf8.first", "unicode/utf8.acceptRanges"], loops := true, apart := false, laid := [("unicode/utf8.acceptRanges", laid_unicode_utf8_acceptRanges), ("unicode/utf8.first", laid_unicode_utf8_first)], narrowed := true }
def FnExactLeaveStreamUptoSaid : Prop := fnExactLeaveStreamUptoRow.holds Tryz.pinned (OpenSpec.upto fnExactLeaveStreamSpec)

/-- 'laws.FnExactShutStream', WHERE WHAT IT READS IS OF BULK AT MOST 1048576: true; the input reads as it did. -/
def fnExactShutStreamUptoRow : OpenClaim := { program := "ytcnhfiflhplokaagreatdoor", sum := "1a062ab5f7c297d4735c034def305785c8fe44e3523d6497161bf2da5cf04231", func := "loop.example/g00901/laws.FnExactShutStream", spec := "fnExactShutStream", unfollowed := true, recurses := true, named := ["unicode/utf8.first", "unicode/utf8.acceptRanges"], loops := true, apart := false, laid := [("unicode/utf8.acceptRanges", laid_unicode_utf8_acceptRanges), ("unicode/utf8.first", laid_unicode_utf8_first)], narrowed := true }
def FnExactShutStreamUptoSaid : Prop := fnExactShutStreamUptoRow.holds Tryz.pinned (OpenSpec.upto fnExactShutStreamSpec)

/-- 'laws.FnExactWriteStream', WHERE WHAT IT READS IS OF BULK AT MOST 1048576: true; the input reads as it did. -/
def fnExactWriteStreamUptoRow : OpenClaim := { program := "ytcnhfiflhplokaagreatdoor", sum := "1a062ab5f7c297d4735c034def305785c8fe44e3523d6497161bf2da5cf04231", func := "loop.example/g00901/laws.FnExactWriteStream", spec := "fnExactWriteStream", unfollowed := true, recurses := true, named := ["unicode/utf8.first", "unicode/utf8.acceptRanges"], loops := true, apart := false, laid := [("unicode/utf8.acceptRanges", laid_unicode_utf8_acceptRanges), ("unicode/utf8.first", laid_unicode_utf8_first)], narrowed := true }
def FnExactWriteStreamUptoSaid : Prop := fnExactWriteStreamUptoRow.holds Tryz.pinned (OpenSpec.upto fnExactWriteStreamSpec)

/-- 'laws.FnExactReadStream', WHERE WHAT IT READS IS OF BULK AT MOST 1048576: true; the input reads as it did. -/
def fnExactReadStreamUptoRow : OpenClaim := { program := "ytcnhfiflhplokaagreatdoor", sum := "1a062ab5f7c297d4735c034def305785c8fe44e3523d6497161bf2da5cf04231", func := "loop.example/g00901/laws.FnExactReadStream", spec := "fnExactReadStream", unfollowed := true, recurses := true, named := ["unicode/utf8.first", "unicode/utf8.acceptRanges"], loops := true, apart := false, laid := [("unicode/utf8.acceptRanges", laid_unicode_utf8_acceptRanges), ("unicode/utf8.first", laid_unicode_utf8_first)], narrowed := true }
def FnExactReadStreamUptoSaid : Prop := fnExactReadStreamUptoRow.holds Tryz.pinned (OpenSpec.upto fnExactReadStreamSpec)

/-- 'laws.FnExactPlayStream', WHERE WHAT IT READS IS OF BULK AT MOST 1048576: true; the input reads as it did. -/
def fnExactPlayStreamUptoRow : OpenClaim := { program := "ytcnhfiflhplokaagreatdoor", sum := "1a062ab5f7c297d4735c034def305785c8fe44e3523d6497161bf2da5cf04231", func := "loop.example/g00901/laws.FnExactPlayStream", spec := "fnExactPlayStream", unfollowed := true, recurses := true, named := ["unicode/utf8.first", "unicode/utf8.acceptRanges"], loops := true, apart := false, laid := [("unicode/utf8.acceptRanges", laid_unicode_utf8_acceptRanges), ("unicode/utf8.first", laid_unicode_utf8_first)], narrowed := true }
def FnExactPlayStreamUptoSaid : Prop := fnExactPlayStreamUptoRow.holds Tryz.pinned (OpenSpec.upto fnExactPlayStreamSpec)

end Rows
end Go.Proofs.YtcnhfiflhplokaaGreatDoor
