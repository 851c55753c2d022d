/-
  NARROWER THAN 'FOR EVERY INPUT', by the rows' own cells (each row's printed sentence says how): FnExactFewestFirst: laid · FnExactFewestRuns: laid · FnExactCanByWindows: laid · FnExactFirstsTo: laid · FnExactWindowsTo: laid · FnExactRunsTo: laid.
  DERIVED. THE GIVEN ROWS OF THIS SEAT. 6 by the template 'for every input the law returns true; each argument reads behind the call as it read before'; 0 by the template 'total and deterministic' (their statements: YtfdajhjmgcognaaDoorTotals.lean).
  GIVEN WITH THE SEED: the statements are not yours to turn. If you find one false, say at which input.
  Laid BY PROGRAM, IN A SANDBOX (cutbox-rows.mjs): the forced cells as the released guide's own fill.sh prints them over the translation 0ae5b6c5070aa8fc… (all of the seat's roots in one cut). By AI agents, Wed Nov 11 2026. No macro, syntax, notation, axiom, sorry.
-/
import Derived.Test.YtfdajhjmgcognaaDoorChecked
import GoSem.PinnedTables
import GoSem.Claim
import GoSem.ClaimJoined
import GoSem.ClaimMapViews
import Derived.JoinedTies
import Derived.KernelRfl
namespace Go.Proofs.YtfdajhjmgcognaaDoor
/- THE CELL 'sum', in the pinned program and in every row, IS THE sha256 OF THE DUMP (.gsa) THAT YtfdajhjmgcognaaDoorProg.lean LOADS. Nothing in Lean hashes anything: it is a label: what it is worth is what the hold of that sum in a sandbox is worth. -/
noncomputable def Tryd.pinned : Pinned := { name := "ytfdajhjmgcognaadoor", sum := "0ae5b6c5070aa8fc8d7f20745fea082991816e6e7306d273c4045d31fa8e7063", checked := Tryd.checked }
namespace Rows
def none {H : Type} : Left H := { results := [], args := [] }

/- WHAT THE LISTED PACKAGE-LEVEL VARIABLES READ AS WHEN THE CALL BEGINS. Each datum BY PROGRAM (the guide's laid-datum.mjs) off the statement by which the dump's own 'gosem.cut.vars' lays the variable. In a bare row this is a premise. The card (YtfdajhjmgcognaaDoorCards.lean) ties it to the program's text. -/
def laid_unicode_utf8_acceptRanges {H : Type} : DataW H := .agg [.agg [.lit (.int .u8 128), .lit (.int .u8 191)], .agg [.lit (.int .u8 160), .lit (.int .u8 191)], .agg [.lit (.int .u8 128), .lit (.int .u8 159)], .agg [.lit (.int .u8 144), .lit (.int .u8 191)], .agg [.lit (.int .u8 128), .lit (.int .u8 143)], .agg [.lit (.int .u8 0), .lit (.int .u8 0)], .agg [.lit (.int .u8 0), .lit (.int .u8 0)], .agg [.lit (.int .u8 0), .lit (.int .u8 0)], .agg [.lit (.int .u8 0), .lit (.int .u8 0)], .agg [.lit (.int .u8 0), .lit (.int .u8 0)], .agg [.lit (.int .u8 0), .lit (.int .u8 0)], .agg [.lit (.int .u8 0), .lit (.int .u8 0)], .agg [.lit (.int .u8 0), .lit (.int .u8 0)], .agg [.lit (.int .u8 0), .lit (.int .u8 0)], .agg [.lit (.int .u8 0), .lit (.int .u8 0)], .agg [.lit (.int .u8 0), .lit (.int .u8 0)]]
/-- One of Go's own tables, pinned by name: the form's constant. -/
def laid_unicode_utf8_first : DataW Unit := Go.Pinned.utf8First

/-- 'laws.FnExactFewestFirst': WHATEVER THE INPUT: true; the input reads as it did. -/
def fnExactFewestFirstSpec : ChangeSpec := { name := "fnExactFewestFirst", fn := fun _ => fun
  | [d1, d2] => { results := [.lit (.bool true)], args := [d1, d2] }
  | _ => none }
def fnExactFewestFirstRow : OpenClaim := { program := "ytfdajhjmgcognaadoor", sum := "0ae5b6c5070aa8fc8d7f20745fea082991816e6e7306d273c4045d31fa8e7063", func := "loop.example/g01332/laws.FnExactFewestFirst", spec := "fnExactFewestFirst", inPlace := ["internal/bytealg.IndexByteString", "internal/bytealg.IndexString"], named := ["unicode/utf8.first", "unicode/utf8.acceptRanges", "internal/bytealg.MaxLen"], apart := false, laid := [("unicode/utf8.acceptRanges", laid_unicode_utf8_acceptRanges), ("unicode/utf8.first", laid_unicode_utf8_first)] }
def FnExactFewestFirstSaid : Prop := fnExactFewestFirstRow.holds Tryd.pinned (OpenSpec.ofChange fnExactFewestFirstSpec)

/-- ITS FALSE NEIGHBOUR: 'it returns false'. Refute it at one input. -/
def fnExactFewestFirstWrong : ChangeSpec := { name := "fnExactFewestFirst", fn := fun _ => fun
  | [d1, d2] => { results := [.lit (.bool false)], args := [d1, d2] }
  | _ => none }
def FnExactFewestFirstWrongFalsely : Prop := fnExactFewestFirstRow.holds Tryd.pinned (OpenSpec.ofChange fnExactFewestFirstWrong)

/-- 'laws.FnExactFewestRuns': WHATEVER THE INPUT: true; the input reads as it did. -/
def fnExactFewestRunsSpec : ChangeSpec := { name := "fnExactFewestRuns", fn := fun _ => fun
  | [d1, d2] => { results := [.lit (.bool true)], args := [d1, d2] }
  | _ => none }
def fnExactFewestRunsRow : OpenClaim := { program := "ytfdajhjmgcognaadoor", sum := "0ae5b6c5070aa8fc8d7f20745fea082991816e6e7306d273c4045d31fa8e7063", func := "loop.example/g01332/laws.FnExactFewestRuns", spec := "fnExactFewestRuns", inPlace := ["internal/bytealg.IndexByteString", "internal/bytealg.IndexString"], named := ["unicode/utf8.first", "unicode/utf8.acceptRanges", "internal/bytealg.MaxLen"], apart := false, laid := [("unicode/utf8.acceptRanges", laid_unicode_utf8_acceptRanges), ("unicode/utf8.first", laid_unicode_utf8_first)] }
def FnExactFewestRunsSaid : Prop := fnExactFewestRunsRow.holds Tryd.pinned (OpenSpec.ofChange fnExactFewestRunsSpec)

/-- ITS FALSE NEIGHBOUR: 'it returns false'. Refute it at one input. -/
def fnExactFewestRunsWrong : ChangeSpec := { name := "fnExactFewestRuns", fn := fun _ => fun
  | [d1, d2] => { results := [.lit (.bool false)], args := [d1, d2] }
  | _ => none }
def FnExactFewestRunsWrongFalsely : Prop := fnExactFewestRunsRow.holds Tryd.pinned (OpenSpec.ofChange fnExactFewestRunsWrong)

/-- 'laws.FnExactCanByWindows': WHATEVER THE INPUT: true; the input reads as it did. -/
def fnExactCanByWindowsSpec : ChangeSpec := { name := "fnExactCanByWindows", fn := fun _ => fun
  | [d1, d2, d3] => { results := [.lit (.bool true)], args := [d1, d2, d3] }
  | _ => none }
def fnExactCanByWindowsRow : OpenClaim := { program := "ytfdajhjmgcognaadoor", sum := "0ae5b6c5070aa8fc8d7f20745fea082991816e6e7306d273c4045d31fa8e7063", func := "loop.example/g01332/laws.FnExactCanByWindows", spec := "fnExactCanByWindows", inPlace := ["internal/bytealg.IndexByteString", "internal/bytealg.IndexString"], named := ["unicode/utf8.first", "unicode/utf8.acceptRanges", "internal/bytealg.MaxLen"], apart := false, laid := [("unicode/utf8.acceptRanges", laid_unicode_utf8_acceptRanges), ("unicode/utf8.first", laid_unicode_utf8_first)] }
def FnExactCanByWindowsSaid : Prop := fnExactCanByWindowsRow.holds Tryd.pinned (OpenSpec.ofChange fnExactCanByWindowsSpec)

/-- ITS FALSE NEIGHBOUR: 'it returns false'. Refute it at one input. -/
def fnExactCanByWindowsWrong : ChangeSpec := { name := "fnExactCanByWindows", fn := fun _ => fun
  | [d1, d2, d3] => { results := [.lit (.bool false)], args := [d1, d2, d3] }
  | _ => none }
def FnExactCanByWindowsWrongFalsely : Prop := fnExactCanByWindowsRow.holds Tryd.pinned (OpenSpec.ofChange fnExactCanByWindowsWrong)

/-- 'laws.FnExactFirstsTo': WHATEVER THE INPUT: true; the input reads as it did. -/
def fnExactFirstsToSpec : ChangeSpec := { name := "fnExactFirstsTo", fn := fun _ => fun
  | [d1, d2] => { results := [.lit (.bool true)], args := [d1, d2] }
  | _ => none }
def fnExactFirstsToRow : OpenClaim := { program := "ytfdajhjmgcognaadoor", sum := "0ae5b6c5070aa8fc8d7f20745fea082991816e6e7306d273c4045d31fa8e7063", func := "loop.example/g01332/laws.FnExactFirstsTo", spec := "fnExactFirstsTo", inPlace := ["internal/bytealg.IndexByteString", "internal/bytealg.IndexString"], named := ["unicode/utf8.first", "unicode/utf8.acceptRanges", "internal/bytealg.MaxLen"], apart := false, laid := [("unicode/utf8.acceptRanges", laid_unicode_utf8_acceptRanges), ("unicode/utf8.first", laid_unicode_utf8_first)] }
def FnExactFirstsToSaid : Prop := fnExactFirstsToRow.holds Tryd.pinned (OpenSpec.ofChange fnExactFirstsToSpec)

/-- ITS FALSE NEIGHBOUR: 'it returns false'. Refute it at one input. -/
def fnExactFirstsToWrong : ChangeSpec := { name := "fnExactFirstsTo", fn := fun _ => fun
  | [d1, d2] => { results := [.lit (.bool false)], args := [d1, d2] }
  | _ => none }
def FnExactFirstsToWrongFalsely : Prop := fnExactFirstsToRow.holds Tryd.pinned (OpenSpec.ofChange fnExactFirstsToWrong)

/-- 'laws.FnExactWindowsTo': WHATEVER THE INPUT: true; the input reads as it did. -/
def fnExactWindowsToSpec : ChangeSpec := { name := "fnExactWindowsTo", fn := fun _ => fun
  | [d1, d2, d3] => { results := [.lit (.bool true)], args := [d1, d2, d3] }
  | _ => none }
def fnExactWindowsToRow : OpenClaim := { program := "ytfdajhjmgcognaadoor", sum := "0ae5b6c5070aa8fc8d7f20745fea082991816e6e7306d273c4045d31fa8e7063", func := "loop.example/g01332/laws.FnExactWindowsTo", spec := "fnExactWindowsTo", inPlace := ["internal/bytealg.IndexByteString", "internal/bytealg.IndexString"], named := ["unicode/utf8.first", "unicode/utf8.acceptRanges", "internal/bytealg.MaxLen"], apart := false, laid := [("unicode/utf8.acceptRanges", laid_unicode_utf8_acceptRanges), ("unicode/utf8.first", laid_unicode_utf8_first)] }
def FnExactWindowsToSaid : Prop := fnExactWindowsToRow.holds Tryd.pinned (OpenSpec.ofChange fnExactWindowsToSpec)

/-- ITS FALSE NEIGHBOUR: 'it returns false'. Refute it at one input. -/
def fnExactWindowsToWrong : ChangeSpec := { name := "fnExactWindowsTo", fn := fun _ => fun
  | [d1, d2, d3] => { results := [.lit (.bool false)], args := [d1, d2, d3] }
  | _ => none }
def FnExactWindowsToWrongFalsely : Prop := fnExactWindowsToRow.holds Tryd.pinned (OpenSpec.ofChange fnExactWindowsToWrong)

/-- 'laws.FnExactRunsTo': WHATEVER THE INPUT: true; the input reads as it did. -/
def fnExactRunsToSpec : ChangeSpec := { name := "fnExactRunsTo", fn := fun _ => fun
  | [d1, d2] => { results := [.lit (.bool true)], args := [d1, d2] }
  | _ => none }
def fnExactRunsToRow : OpenClaim := { program := "ytfdajhjmgcognaadoor", sum := "0ae5b6c5070aa8fc8d7f20745fea082991816e6e7306d273c4045d31fa8e7063", func := "loop.example/g01332/laws.FnExactRunsTo", spec := "fnExactRunsTo", inPlace := ["internal/bytealg.IndexByteString", "internal/bytealg.IndexString"], named := ["unicode/utf8.first", "unicode/utf8.acceptRanges", "internal/bytealg.MaxLen"], apart := false, laid := [("unicode/utf8.acceptRanges", laid_unicode_utf8_acceptRanges), ("unicode/utf8.first", laid_unicode_utf8_first)] }
def FnExactRunsToSaid : Prop := fnExactRunsToRow.holds Tryd.pinned (OpenSpec.ofChange fnExactRunsToSpec)

/-- ITS FALSE NEIGHBOUR: 'it returns false'. Refute it at one input. -/
def fnExactRunsToWrong : ChangeSpec := { name := "fnExactRunsTo", fn := fun _ => fun
  | [d1, d2] => { results := [.lit (.bool false)], args := [d1, d2] }
  | _ => none }
def FnExactRunsToWrongFalsely : Prop := fnExactRunsToRow.holds Tryd.pinned (OpenSpec.ofChange fnExactRunsToWrong)

/- THE SECOND FORM. 'bulk': how many values and letters a reading holds, each counted each time it is reached (what is shared counts as often as it is met; a slice's spare places count too). A statement '..UptoSaid' is the law's where the arguments, and the package variables that the reading takes, are together of bulk at most 1048576: NARROWER than '..Said'. Prove '..Said' where nothing that the law and all that it calls make is longer than what came in: it says more and counts as full. Else prove '..UptoSaid'. A law counts once. -/
mutual
def uptoBulk {H : Type} : DataW H → Nat
  | .lit (.string bytes) => bytes.length + 1
  | .lit _ => 1
  | .nil => 1
  | .ptr d => uptoBulk d + 1
  | .slice elems spare => uptoBulkAll elems + uptoBulkAll spare + 1
  | .agg parts => uptoBulkAll parts + 1
  | .iface _ d => uptoBulk d + 1
  | .map entries => uptoBulkEntries entries + 1
  | .held _ => 1
def uptoBulkAll {H : Type} : List (DataW H) → Nat
  | [] => 0
  | d :: r => uptoBulk d + uptoBulkAll r
def uptoBulkEntries {H : Type} : List (Lit × DataW H) → Nat
  | [] => 0
  | x :: r => uptoBulkEntry x + uptoBulkEntries r
def uptoBulkEntry {H : Type} : Lit × DataW H → Nat
  | (.string bytes, d) => bytes.length + uptoBulk d + 1
  | (_, d) => uptoBulk d + 1
 end
def uptoSmall : (H : Type) → List (DataW H) → Bool := fun _ ds => decide (uptoBulkAll ds ≤ 1048576)
def OpenSpec.upto (s : _root_.Go.ChangeSpec) : _root_.Go.OpenSpec := { _root_.Go.OpenSpec.ofChange s with cond := some uptoSmall }

/-- 'laws.FnExactFewestFirst', WHERE WHAT IT READS IS OF BULK AT MOST 1048576: true; the input reads as it did. -/
def fnExactFewestFirstUptoRow : OpenClaim := { program := "ytfdajhjmgcognaadoor", sum := "0ae5b6c5070aa8fc8d7f20745fea082991816e6e7306d273c4045d31fa8e7063", func := "loop.example/g01332/laws.FnExactFewestFirst", spec := "fnExactFewestFirst", inPlace := ["internal/bytealg.IndexByteString", "internal/bytealg.IndexString"], named := ["unicode/utf8.first", "unicode/utf8.acceptRanges", "internal/bytealg.MaxLen"], apart := false, laid := [("unicode/utf8.acceptRanges", laid_unicode_utf8_acceptRanges), ("unicode/utf8.first", laid_unicode_utf8_first)], narrowed := true }
def FnExactFewestFirstUptoSaid : Prop := fnExactFewestFirstUptoRow.holds Tryd.pinned (OpenSpec.upto fnExactFewestFirstSpec)

/-- 'laws.FnExactFewestRuns', WHERE WHAT IT READS IS OF BULK AT MOST 1048576: true; the input reads as it did. -/
def fnExactFewestRunsUptoRow : OpenClaim := { program := "ytfdajhjmgcognaadoor", sum := "0ae5b6c5070aa8fc8d7f20745fea082991816e6e7306d273c4045d31fa8e7063", func := "loop.example/g01332/laws.FnExactFewestRuns", spec := "fnExactFewestRuns", inPlace := ["internal/bytealg.IndexByteString", "internal/bytealg.IndexString"], named := ["unicode/utf8.first", "unicode/utf8.acceptRanges", "internal/bytealg.MaxLen"], apart := false, laid := [("unicode/utf8.acceptRanges", laid_unicode_utf8_acceptRanges), ("unicode/utf8.first", laid_unicode_utf8_first)], narrowed := true }
def FnExactFewestRunsUptoSaid : Prop := fnExactFewestRunsUptoRow.holds Tryd.pinned (OpenSpec.upto fnExactFewestRunsSpec)

/-- 'laws.FnExactCanByWindows', WHERE WHAT IT READS IS OF BULK AT MOST 1048576: true; the input reads as it did. -/
def fnExactCanByWindowsUptoRow : OpenClaim := { program := "ytfdajhjmgcognaadoor", sum := "0ae5b6c5070aa8fc8d7f20745fea082991816e6e7306d273c4045d31fa8e7063", func := "loop.example/g01332/laws.FnExactCanByWindows", spec := "fnExactCanByWindows", inPlace := ["internal/bytealg.IndexByteString", "internal/bytealg.IndexString"], named := ["unicode/utf8.first", "unicode/utf8.acceptRanges", "internal/bytealg.MaxLen"], apart := false, laid := [("unicode/utf8.acceptRanges", laid_unicode_utf8_acceptRanges), ("unicode/utf8.first", laid_unicode_utf8_first)], narrowed := true }
def FnExactCanByWindowsUptoSaid : Prop := fnExactCanByWindowsUptoRow.holds Tryd.pinned (OpenSpec.upto fnExactCanByWindowsSpec)

/-- 'laws.FnExactFirstsTo', WHERE WHAT IT READS IS OF BULK AT MOST 1048576: true; the input reads as it did. -/
def fnExactFirstsToUptoRow : OpenClaim := { program := "ytfdajhjmgcognaadoor", sum := "0ae5b6c5070aa8fc8d7f20745fea082991816e6e7306d273c4045d31fa8e7063", func := "loop.example/g01332/laws.FnExactFirstsTo", spec := "fnExactFirstsTo", inPlace := ["internal/bytealg.IndexByteString", "internal/bytealg.IndexString"], named := ["unicode/utf8.first", "unicode/utf8.acceptRanges", "internal/bytealg.MaxLen"], apart := false, laid := [("unicode/utf8.acceptRanges", laid_unicode_utf8_acceptRanges), ("unicode/utf8.first", laid_unicode_utf8_first)], narrowed := true }
def FnExactFirstsToUptoSaid : Prop := fnExactFirstsToUptoRow.holds Tryd.pinned (OpenSpec.upto fnExactFirstsToSpec)

/-- 'laws.FnExactWindowsTo', WHERE WHAT IT READS IS OF BULK AT MOST 1048576: true; the input reads as it did. -/
def fnExactWindowsToUptoRow : OpenClaim := { program := "ytfdajhjmgcognaadoor", sum := "0ae5b6c5070aa8fc8d7f20745fea082991816e6e7306d273c4045d31fa8e7063", func := "loop.example/g01332/laws.FnExactWindowsTo", spec := "fnExactWindowsTo", inPlace := ["internal/bytealg.IndexByteString", "internal/bytealg.IndexString"], named := ["unicode/utf8.first", "unicode/utf8.acceptRanges", "internal/bytealg.MaxLen"], apart := false, laid := [("unicode/utf8.acceptRanges", laid_unicode_utf8_acceptRanges), ("unicode/utf8.first", laid_unicode_utf8_first)], narrowed := true }
def FnExactWindowsToUptoSaid : Prop := fnExactWindowsToUptoRow.holds Tryd.pinned (OpenSpec.upto fnExactWindowsToSpec)

/-- 'laws.FnExactRunsTo', WHERE WHAT IT READS IS OF BULK AT MOST 1048576: true; the input reads as it did. -/
def fnExactRunsToUptoRow : OpenClaim := { program := "ytfdajhjmgcognaadoor", sum := "0ae5b6c5070aa8fc8d7f20745fea082991816e6e7306d273c4045d31fa8e7063", func := "loop.example/g01332/laws.FnExactRunsTo", spec := "fnExactRunsTo", inPlace := ["internal/bytealg.IndexByteString", "internal/bytealg.IndexString"], named := ["unicode/utf8.first", "unicode/utf8.acceptRanges", "internal/bytealg.MaxLen"], apart := false, laid := [("unicode/utf8.acceptRanges", laid_unicode_utf8_acceptRanges), ("unicode/utf8.first", laid_unicode_utf8_first)], narrowed := true }
def FnExactRunsToUptoSaid : Prop := fnExactRunsToUptoRow.holds Tryd.pinned (OpenSpec.upto fnExactRunsToSpec)

end Rows
end Go.Proofs.YtfdajhjmgcognaaDoor
