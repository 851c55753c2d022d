/-
  NARROWER THAN 'FOR EVERY INPUT', by the rows' own cells (each row's printed sentence says how): FnExactCanByNeighbours: laid · FnExactNeighboursTo: laid · FnExactTurnFirst: laid · FnExactTurnRun: laid · FnExactTurnAround: laid · FnExactPlayWindows: laid.
  DERIVED. THE GIVEN ROWS OF THIS SEAT. 6 by the template 'for every input the law returns true; each argument reads behind the call as it read before'; 0 by the template 'total and deterministic' (their statements: YtkhlnhnpaijhjaaDoorTotals.lean).
  GIVEN WITH THE SEED: the statements are not yours to turn. If you find one false, say at which input.
  Laid BY PROGRAM, IN A SANDBOX (cutbox-rows.mjs): the forced cells as the released guide's own fill.sh prints them over the translation f6c514878633624b… (all of the seat's roots in one cut). By AI agents, Wed Nov 11 2026. No macro, syntax, notation, axiom, sorry.
-/
import Derived.Test.YtkhlnhnpaijhjaaDoorChecked
import GoSem.PinnedTables
import GoSem.Claim
import GoSem.ClaimJoined
import GoSem.ClaimMapViews
import Derived.JoinedTies
import Derived.KernelRfl
namespace Go.Proofs.YtkhlnhnpaijhjaaDoor
/- THE CELL 'sum', in the pinned program and in every row, IS THE sha256 OF THE DUMP (.gsa) THAT YtkhlnhnpaijhjaaDoorProg.lean LOADS. Nothing in Lean hashes anything: it is a label: what it is worth is what the hold of that sum in a sandbox is worth. -/
noncomputable def Tryd.pinned : Pinned := { name := "ytkhlnhnpaijhjaadoor", sum := "f6c514878633624b293a7ace3a4a3ddef4d0ba8ed67bf825982c493760857ecd", checked := Tryd.checked }
namespace Rows
def none {H : Type} : Left H := { results := [], args := [] }

/- WHAT THE LISTED PACKAGE-LEVEL VARIABLES READ AS WHEN THE CALL BEGINS. Each datum BY PROGRAM (the guide's laid-datum.mjs) off the statement by which the dump's own 'gosem.cut.vars' lays the variable. In a bare row this is a premise. The card (YtkhlnhnpaijhjaaDoorCards.lean) ties it to the program's text. -/
def laid_unicode_utf8_acceptRanges {H : Type} : DataW H := .agg [.agg [.lit (.int .u8 128), .lit (.int .u8 191)], .agg [.lit (.int .u8 160), .lit (.int .u8 191)], .agg [.lit (.int .u8 128), .lit (.int .u8 159)], .agg [.lit (.int .u8 144), .lit (.int .u8 191)], .agg [.lit (.int .u8 128), .lit (.int .u8 143)], .agg [.lit (.int .u8 0), .lit (.int .u8 0)], .agg [.lit (.int .u8 0), .lit (.int .u8 0)], .agg [.lit (.int .u8 0), .lit (.int .u8 0)], .agg [.lit (.int .u8 0), .lit (.int .u8 0)], .agg [.lit (.int .u8 0), .lit (.int .u8 0)], .agg [.lit (.int .u8 0), .lit (.int .u8 0)], .agg [.lit (.int .u8 0), .lit (.int .u8 0)], .agg [.lit (.int .u8 0), .lit (.int .u8 0)], .agg [.lit (.int .u8 0), .lit (.int .u8 0)], .agg [.lit (.int .u8 0), .lit (.int .u8 0)], .agg [.lit (.int .u8 0), .lit (.int .u8 0)]]
/-- One of Go's own tables, pinned by name: the form's constant. -/
def laid_unicode_utf8_first : DataW Unit := Go.Pinned.utf8First

/-- 'laws.FnExactCanByNeighbours': WHATEVER THE INPUT: true; the input reads as it did. -/
def fnExactCanByNeighboursSpec : ChangeSpec := { name := "fnExactCanByNeighbours", fn := fun _ => fun
  | [d1, d2] => { results := [.lit (.bool true)], args := [d1, d2] }
  | _ => none }
def fnExactCanByNeighboursRow : OpenClaim := { program := "ytkhlnhnpaijhjaadoor", sum := "f6c514878633624b293a7ace3a4a3ddef4d0ba8ed67bf825982c493760857ecd", func := "loop.example/g01332/laws.FnExactCanByNeighbours", spec := "fnExactCanByNeighbours", inPlace := ["internal/bytealg.IndexByteString", "internal/bytealg.IndexString"], named := ["unicode/utf8.first", "unicode/utf8.acceptRanges", "internal/bytealg.MaxLen"], apart := false, laid := [("unicode/utf8.acceptRanges", laid_unicode_utf8_acceptRanges), ("unicode/utf8.first", laid_unicode_utf8_first)] }
def FnExactCanByNeighboursSaid : Prop := fnExactCanByNeighboursRow.holds Tryd.pinned (OpenSpec.ofChange fnExactCanByNeighboursSpec)

/-- ITS FALSE NEIGHBOUR: 'it returns false'. Refute it at one input. -/
def fnExactCanByNeighboursWrong : ChangeSpec := { name := "fnExactCanByNeighbours", fn := fun _ => fun
  | [d1, d2] => { results := [.lit (.bool false)], args := [d1, d2] }
  | _ => none }
def FnExactCanByNeighboursWrongFalsely : Prop := fnExactCanByNeighboursRow.holds Tryd.pinned (OpenSpec.ofChange fnExactCanByNeighboursWrong)

/-- 'laws.FnExactNeighboursTo': WHATEVER THE INPUT: true; the input reads as it did. -/
def fnExactNeighboursToSpec : ChangeSpec := { name := "fnExactNeighboursTo", fn := fun _ => fun
  | [d1, d2] => { results := [.lit (.bool true)], args := [d1, d2] }
  | _ => none }
def fnExactNeighboursToRow : OpenClaim := { program := "ytkhlnhnpaijhjaadoor", sum := "f6c514878633624b293a7ace3a4a3ddef4d0ba8ed67bf825982c493760857ecd", func := "loop.example/g01332/laws.FnExactNeighboursTo", spec := "fnExactNeighboursTo", inPlace := ["internal/bytealg.IndexByteString", "internal/bytealg.IndexString"], named := ["unicode/utf8.first", "unicode/utf8.acceptRanges", "internal/bytealg.MaxLen"], apart := false, laid := [("unicode/utf8.acceptRanges", laid_unicode_utf8_acceptRanges), ("unicode/utf8.first", laid_unicode_utf8_first)] }
def FnExactNeighboursToSaid : Prop := fnExactNeighboursToRow.holds Tryd.pinned (OpenSpec.ofChange fnExactNeighboursToSpec)

/-- ITS FALSE NEIGHBOUR: 'it returns false'. Refute it at one input. -/
def fnExactNeighboursToWrong : ChangeSpec := { name := "fnExactNeighboursTo", fn := fun _ => fun
  | [d1, d2] => { results := [.lit (.bool false)], args := [d1, d2] }
  | _ => none }
def FnExactNeighboursToWrongFalsely : Prop := fnExactNeighboursToRow.holds Tryd.pinned (OpenSpec.ofChange fnExactNeighboursToWrong)

/-- 'laws.FnExactTurnFirst': WHATEVER THE INPUT: true; the input reads as it did. -/
def fnExactTurnFirstSpec : ChangeSpec := { name := "fnExactTurnFirst", fn := fun _ => fun
  | [d1, d2] => { results := [.lit (.bool true)], args := [d1, d2] }
  | _ => none }
def fnExactTurnFirstRow : OpenClaim := { program := "ytkhlnhnpaijhjaadoor", sum := "f6c514878633624b293a7ace3a4a3ddef4d0ba8ed67bf825982c493760857ecd", func := "loop.example/g01332/laws.FnExactTurnFirst", spec := "fnExactTurnFirst", inPlace := ["internal/bytealg.IndexByteString", "internal/bytealg.IndexString", "internal/abi.NoEscape", "internal/bytealg.MakeNoZero"], unfollowed := true, recurses := true, named := ["unicode/utf8.first", "unicode/utf8.acceptRanges", "internal/bytealg.MaxLen"], apart := false, laid := [("unicode/utf8.acceptRanges", laid_unicode_utf8_acceptRanges), ("unicode/utf8.first", laid_unicode_utf8_first)] }
def FnExactTurnFirstSaid : Prop := fnExactTurnFirstRow.holds Tryd.pinned (OpenSpec.ofChange fnExactTurnFirstSpec)

/-- ITS FALSE NEIGHBOUR: 'it returns false'. Refute it at one input. -/
def fnExactTurnFirstWrong : ChangeSpec := { name := "fnExactTurnFirst", fn := fun _ => fun
  | [d1, d2] => { results := [.lit (.bool false)], args := [d1, d2] }
  | _ => none }
def FnExactTurnFirstWrongFalsely : Prop := fnExactTurnFirstRow.holds Tryd.pinned (OpenSpec.ofChange fnExactTurnFirstWrong)

/-- 'laws.FnExactTurnRun': WHATEVER THE INPUT: true; the input reads as it did. -/
def fnExactTurnRunSpec : ChangeSpec := { name := "fnExactTurnRun", fn := fun _ => fun
  | [d1, d2, d3] => { results := [.lit (.bool true)], args := [d1, d2, d3] }
  | _ => none }
def fnExactTurnRunRow : OpenClaim := { program := "ytkhlnhnpaijhjaadoor", sum := "f6c514878633624b293a7ace3a4a3ddef4d0ba8ed67bf825982c493760857ecd", func := "loop.example/g01332/laws.FnExactTurnRun", spec := "fnExactTurnRun", inPlace := ["internal/bytealg.IndexByteString", "internal/bytealg.IndexString", "internal/abi.NoEscape", "internal/bytealg.MakeNoZero"], unfollowed := true, recurses := true, named := ["unicode/utf8.first", "unicode/utf8.acceptRanges", "internal/bytealg.MaxLen"], apart := false, laid := [("unicode/utf8.acceptRanges", laid_unicode_utf8_acceptRanges), ("unicode/utf8.first", laid_unicode_utf8_first)] }
def FnExactTurnRunSaid : Prop := fnExactTurnRunRow.holds Tryd.pinned (OpenSpec.ofChange fnExactTurnRunSpec)

/-- ITS FALSE NEIGHBOUR: 'it returns false'. Refute it at one input. -/
def fnExactTurnRunWrong : ChangeSpec := { name := "fnExactTurnRun", fn := fun _ => fun
  | [d1, d2, d3] => { results := [.lit (.bool false)], args := [d1, d2, d3] }
  | _ => none }
def FnExactTurnRunWrongFalsely : Prop := fnExactTurnRunRow.holds Tryd.pinned (OpenSpec.ofChange fnExactTurnRunWrong)

/-- 'laws.FnExactTurnAround': WHATEVER THE INPUT: true; the input reads as it did. -/
def fnExactTurnAroundSpec : ChangeSpec := { name := "fnExactTurnAround", fn := fun _ => fun
  | [d1, d2] => { results := [.lit (.bool true)], args := [d1, d2] }
  | _ => none }
def fnExactTurnAroundRow : OpenClaim := { program := "ytkhlnhnpaijhjaadoor", sum := "f6c514878633624b293a7ace3a4a3ddef4d0ba8ed67bf825982c493760857ecd", func := "loop.example/g01332/laws.FnExactTurnAround", spec := "fnExactTurnAround", inPlace := ["internal/bytealg.IndexByteString", "internal/bytealg.IndexString", "internal/abi.NoEscape", "internal/bytealg.MakeNoZero"], unfollowed := true, recurses := true, named := ["unicode/utf8.first", "unicode/utf8.acceptRanges", "internal/bytealg.MaxLen"], apart := false, laid := [("unicode/utf8.acceptRanges", laid_unicode_utf8_acceptRanges), ("unicode/utf8.first", laid_unicode_utf8_first)] }
def FnExactTurnAroundSaid : Prop := fnExactTurnAroundRow.holds Tryd.pinned (OpenSpec.ofChange fnExactTurnAroundSpec)

/-- ITS FALSE NEIGHBOUR: 'it returns false'. Refute it at one input. -/
def fnExactTurnAroundWrong : ChangeSpec := { name := "fnExactTurnAround", fn := fun _ => fun
  | [d1, d2] => { results := [.lit (.bool false)], args := [d1, d2] }
  | _ => none }
def FnExactTurnAroundWrongFalsely : Prop := fnExactTurnAroundRow.holds Tryd.pinned (OpenSpec.ofChange fnExactTurnAroundWrong)

/-- 'laws.FnExactPlayWindows': WHATEVER THE INPUT: true; the input reads as it did. -/
def fnExactPlayWindowsSpec : ChangeSpec := { name := "fnExactPlayWindows", fn := fun _ => fun
  | [d1, d2, d3] => { results := [.lit (.bool true)], args := [d1, d2, d3] }
  | _ => none }
def fnExactPlayWindowsRow : OpenClaim := { program := "ytkhlnhnpaijhjaadoor", sum := "f6c514878633624b293a7ace3a4a3ddef4d0ba8ed67bf825982c493760857ecd", func := "loop.example/g01332/laws.FnExactPlayWindows", spec := "fnExactPlayWindows", inPlace := ["internal/bytealg.IndexByteString", "internal/bytealg.IndexString", "internal/abi.NoEscape", "internal/bytealg.MakeNoZero"], unfollowed := true, recurses := true, named := ["unicode/utf8.first", "unicode/utf8.acceptRanges", "internal/bytealg.MaxLen"], apart := false, laid := [("unicode/utf8.acceptRanges", laid_unicode_utf8_acceptRanges), ("unicode/utf8.first", laid_unicode_utf8_first)] }
def FnExactPlayWindowsSaid : Prop := fnExactPlayWindowsRow.holds Tryd.pinned (OpenSpec.ofChange fnExactPlayWindowsSpec)

/-- ITS FALSE NEIGHBOUR: 'it returns false'. Refute it at one input. -/
def fnExactPlayWindowsWrong : ChangeSpec := { name := "fnExactPlayWindows", fn := fun _ => fun
  | [d1, d2, d3] => { results := [.lit (.bool false)], args := [d1, d2, d3] }
  | _ => none }
def FnExactPlayWindowsWrongFalsely : Prop := fnExactPlayWindowsRow.holds Tryd.pinned (OpenSpec.ofChange fnExactPlayWindowsWrong)

/- THE SECOND FORM. 'bulk': how many values and letters a reading holds, each counted each time it is reached (what is shared counts as often as it is met; a slice's spare places count too). A statement '..UptoSaid' is the law's where the arguments, and the package variables that the reading takes, are together of bulk at most 1048576: NARROWER than '..Said'. Prove '..Said' where nothing that the law and all that it calls make is longer than what came in: it says more and counts as full. Else prove '..UptoSaid'. A law counts once. -/
mutual
def uptoBulk {H : Type} : DataW H → Nat
  | .lit (.string bytes) => bytes.length + 1
  | .lit _ => 1
  | .nil => 1
  | .ptr d => uptoBulk d + 1
  | .slice elems spare => uptoBulkAll elems + uptoBulkAll spare + 1
  | .agg parts => uptoBulkAll parts + 1
  | .iface _ d => uptoBulk d + 1
  | .map entries => uptoBulkEntries entries + 1
  | .held _ => 1
def uptoBulkAll {H : Type} : List (DataW H) → Nat
  | [] => 0
  | d :: r => uptoBulk d + uptoBulkAll r
def uptoBulkEntries {H : Type} : List (Lit × DataW H) → Nat
  | [] => 0
  | x :: r => uptoBulkEntry x + uptoBulkEntries r
def uptoBulkEntry {H : Type} : Lit × DataW H → Nat
  | (.string bytes, d) => bytes.length + uptoBulk d + 1
  | (_, d) => uptoBulk d + 1
 end
def uptoSmall : (H : Type) → List (DataW H) → Bool := fun _ ds => decide (uptoBulkAll ds ≤ 1048576)
def OpenSpec.upto (s : _root_.Go.ChangeSpec) : _root_.Go.OpenSpec := { _root_.Go.OpenSpec.ofChange s with cond := some uptoSmall }

/-- 'laws.FnExactCanByNeighbours', WHERE WHAT IT READS IS OF BULK AT MOST 1048576: true; the input reads as it did. -/
def fnExactCanByNeighboursUptoRow : OpenClaim := { program := "ytkhlnhnpaijhjaadoor", sum := "f6c514878633624b293a7ace3a4a3ddef4d0ba8ed67bf825982c493760857ecd", func := "loop.example/g01332/laws.FnExactCanByNeighbours", spec := "fnExactCanByNeighbours", inPlace := ["internal/bytealg.IndexByteString", "internal/bytealg.IndexString"], named := ["unicode/utf8.first", "unicode/utf8.acceptRanges", "internal/bytealg.MaxLen"], apart := false, laid := [("unicode/utf8.acceptRanges", laid_unicode_utf8_acceptRanges), ("unicode/utf8.first", laid_unicode_utf8_first)], narrowed := true }
def FnExactCanByNeighboursUptoSaid : Prop := fnExactCanByNeighboursUptoRow.holds Tryd.pinned (OpenSpec.upto fnExactCanByNeighboursSpec)

/-- 'laws.FnExactNeighboursTo', WHERE WHAT IT READS IS OF BULK AT MOST 1048576: true; the input reads as it did. -/
def fnExactNeighboursToUptoRow : OpenClaim := { program := "ytkhlnhnpaijhjaadoor", sum := "f6c514878633624b293a7ace3a4a3ddef4d0ba8ed67bf825982c493760857ecd", func := "loop.example/g01332/laws.FnExactNeighboursTo", spec := "fnExactNeighboursTo", inPlace := ["internal/bytealg.IndexByteString", "internal/bytealg.IndexString"], named := ["unicode/utf8.first", "unicode/utf8.acceptRanges", "internal/bytealg.MaxLen"], apart := false, laid := [("unicode/utf8.acceptRanges", laid_unicode_utf8_acceptRanges), ("unicode/utf8.first", laid_unicode_utf8_first)], narrowed := true }
def FnExactNeighboursToUptoSaid : Prop := fnExactNeighboursToUptoRow.holds Tryd.pinned (OpenSpec.upto fnExactNeighboursToSpec)

/-- 'laws.FnExactTurnFirst', WHERE WHAT IT READS IS OF BULK AT MOST 1048576: true; the input reads as it did. -/
def fnExactTurnFirstUptoRow : OpenClaim := { program := "ytkhlnhnpaijhjaadoor", sum := "f6c514878633624b293a7ace3a4a3ddef4d0ba8ed67bf825982c493760857ecd", func := "loop.example/g01332/laws.FnExactTurnFirst", spec := "fnExactTurnFirst", inPlace := ["internal/bytealg.IndexByteString", "internal/bytealg.IndexString", "internal/abi.NoEscape", "internal/bytealg.MakeNoZero"], unfollowed := true, recurses := true, named := ["unicode/utf8.first", "unicode/utf8.acceptRanges", "internal/bytealg.MaxLen"], apart := false, laid := [("unicode/utf8.acceptRanges", laid_unicode_utf8_acceptRanges), ("unicode/utf8.first", laid_unicode_utf8_first)], narrowed := true }
def FnExactTurnFirstUptoSaid : Prop := fnExactTurnFirstUptoRow.holds Tryd.pinned (OpenSpec.upto fnExactTurnFirstSpec)

/-- 'laws.FnExactTurnRun', WHERE WHAT IT READS IS OF BULK AT MOST 1048576: true; the input reads as it did. -/
def fnExactTurnRunUptoRow : OpenClaim := { program := "ytkhlnhnpaijhjaadoor", sum := "f6c514878633624b293a7ace3a4a3ddef4d0ba8ed67bf825982c493760857ecd", func := "loop.example/g01332/laws.FnExactTurnRun", spec := "fnExactTurnRun", inPlace := ["internal/bytealg.IndexByteString", "internal/bytealg.IndexString", "internal/abi.NoEscape", "internal/bytealg.MakeNoZero"], unfollowed := true, recurses := true, named := ["unicode/utf8.first", "unicode/utf8.acceptRanges", "internal/bytealg.MaxLen"], apart := false, laid := [("unicode/utf8.acceptRanges", laid_unicode_utf8_acceptRanges), ("unicode/utf8.first", laid_unicode_utf8_first)], narrowed := true }
def FnExactTurnRunUptoSaid : Prop := fnExactTurnRunUptoRow.holds Tryd.pinned (OpenSpec.upto fnExactTurnRunSpec)

/-- 'laws.FnExactTurnAround', WHERE WHAT IT READS IS OF BULK AT MOST 1048576: true; the input reads as it did. -/
def fnExactTurnAroundUptoRow : OpenClaim := { program := "ytkhlnhnpaijhjaadoor", sum := "f6c514878633624b293a7ace3a4a3ddef4d0ba8ed67bf825982c493760857ecd", func := "loop.example/g01332/laws.FnExactTurnAround", spec := "fnExactTurnAround", inPlace := ["internal/bytealg.IndexByteString", "internal/bytealg.IndexString", "internal/abi.NoEscape", "internal/bytealg.MakeNoZero"], unfollowed := true, recurses := true, named := ["unicode/utf8.first", "unicode/utf8.acceptRanges", "internal/bytealg.MaxLen"], apart := false, laid := [("unicode/utf8.acceptRanges", laid_unicode_utf8_acceptRanges), ("unicode/utf8.first", laid_unicode_utf8_first)], narrowed := true }
def FnExactTurnAroundUptoSaid : Prop := fnExactTurnAroundUptoRow.holds Tryd.pinned (OpenSpec.upto fnExactTurnAroundSpec)

/-- 'laws.FnExactPlayWindows', WHERE WHAT IT READS IS OF BULK AT MOST 1048576: true; the input reads as it did. -/
def fnExactPlayWindowsUptoRow : OpenClaim := { program := "ytkhlnhnpaijhjaadoor", sum := "f6c514878633624b293a7ace3a4a3ddef4d0ba8ed67bf825982c493760857ecd", func := "loop.example/g01332/laws.FnExactPlayWindows", spec := "fnExactPlayWindows", inPlace := ["internal/bytealg.IndexByteString", "internal/bytealg.IndexString", "internal/abi.NoEscape", "internal/bytealg.MakeNoZero"], unfollowed := true, recurses := true, named := ["unicode/utf8.first", "unicode/utf8.acceptRanges", "internal/bytealg.MaxLen"], apart := false, laid := [("unicode/utf8.acceptRanges", laid_unicode_utf8_acceptRanges), ("unicode/utf8.first", laid_unicode_utf8_first)], narrowed := true }
def FnExactPlayWindowsUptoSaid : Prop := fnExactPlayWindowsUptoRow.holds Tryd.pinned (OpenSpec.upto fnExactPlayWindowsSpec)

end Rows
end Go.Proofs.YtkhlnhnpaijhjaaDoor
