/-
  No cell of these rows narrows 'for every input' (looked for: loops, veiled, ifaces, maps, wideKeys, modest, calm, conditions, laid).
  DERIVED. THE GIVEN ROWS OF THIS SEAT. 6 by the template 'for every input the law returns true; each argument reads behind the call as it read before'; 0 by the template 'total and deterministic' (their statements: YtfedegnmnfhblaaTotals.lean).
  GIVEN WITH THE SEED: the statements are not yours to turn. If you find one false, say at which input.
  Laid BY PROGRAM, IN A SANDBOX (cutbox-rows.mjs): the forced cells as the released guide's own fill.sh prints them over the translation d03ccf3350efe009… (all of the seat's roots in one cut). By AI agents, Wed Nov 11 2026. No macro, syntax, notation, axiom, sorry.
-/
import Derived.Test.YtfedegnmnfhblaaChecked
import GoSem.Claim
import GoSem.ClaimJoined
import GoSem.ClaimMapViews
import Derived.JoinedTies
import Derived.KernelRfl
namespace Go.Proofs.Ytfedegnmnfhblaa
/- THE CELL 'sum', in the pinned program and in every row, IS THE sha256 OF THE DUMP (.gsa) THAT YtfedegnmnfhblaaProg.lean LOADS. Nothing in Lean hashes anything: it is a label: what it is worth is what the hold of that sum in a sandbox is worth. -/
noncomputable def Try.pinned : Pinned := { name := "ytfedegnmnfhblaa", sum := "d03ccf3350efe009b7b2d9f3f7cf7cb1c5d671742ceae3fce3e404df7fdae7ba", checked := Try.checked }
namespace Rows
def none {H : Type} : Left H := { results := [], args := [] }

/-- 'laws.FnExactHeightOfRank': WHATEVER THE INPUT: true; the input reads as it did. -/
def fnExactHeightOfRankSpec : ChangeSpec := { name := "fnExactHeightOfRank", fn := fun _ => fun
  | [d1, d2] => { results := [.lit (.bool true)], args := [d1, d2] }
  | _ => none }
def fnExactHeightOfRankRow : OpenClaim := { program := "ytfedegnmnfhblaa", sum := "d03ccf3350efe009b7b2d9f3f7cf7cb1c5d671742ceae3fce3e404df7fdae7ba", func := "loop.example/g01332/laws.FnExactHeightOfRank", spec := "fnExactHeightOfRank", unfollowed := true, recurses := true, apart := false }
def FnExactHeightOfRankSaid : Prop := fnExactHeightOfRankRow.holds Try.pinned (OpenSpec.ofChange fnExactHeightOfRankSpec)

/-- ITS FALSE NEIGHBOUR: 'it returns false'. Refute it at one input. -/
def fnExactHeightOfRankWrong : ChangeSpec := { name := "fnExactHeightOfRank", fn := fun _ => fun
  | [d1, d2] => { results := [.lit (.bool false)], args := [d1, d2] }
  | _ => none }
def FnExactHeightOfRankWrongFalsely : Prop := fnExactHeightOfRankRow.holds Try.pinned (OpenSpec.ofChange fnExactHeightOfRankWrong)

/-- 'laws.FnExactSortFileRows': WHATEVER THE INPUT: true; the input reads as it did. -/
def fnExactSortFileRowsSpec : ChangeSpec := { name := "fnExactSortFileRows", fn := fun _ => fun
  | [d] => { results := [.lit (.bool true)], args := [d] }
  | _ => none }
def fnExactSortFileRowsRow : OpenClaim := { program := "ytfedegnmnfhblaa", sum := "d03ccf3350efe009b7b2d9f3f7cf7cb1c5d671742ceae3fce3e404df7fdae7ba", func := "loop.example/g01332/laws.FnExactSortFileRows", spec := "fnExactSortFileRows", unfollowed := true, recurses := true, apart := false }
def FnExactSortFileRowsSaid : Prop := fnExactSortFileRowsRow.holds Try.pinned (OpenSpec.ofChange fnExactSortFileRowsSpec)

/-- ITS FALSE NEIGHBOUR: 'it returns false'. Refute it at one input. -/
def fnExactSortFileRowsWrong : ChangeSpec := { name := "fnExactSortFileRows", fn := fun _ => fun
  | [d] => { results := [.lit (.bool false)], args := [d] }
  | _ => none }
def FnExactSortFileRowsWrongFalsely : Prop := fnExactSortFileRowsRow.holds Try.pinned (OpenSpec.ofChange fnExactSortFileRowsWrong)

/-- 'laws.FnExactSortBoth': WHATEVER THE INPUT: true; the input reads as it did. -/
def fnExactSortBothSpec : ChangeSpec := { name := "fnExactSortBoth", fn := fun _ => fun
  | [d] => { results := [.lit (.bool true)], args := [d] }
  | _ => none }
def fnExactSortBothRow : OpenClaim := { program := "ytfedegnmnfhblaa", sum := "d03ccf3350efe009b7b2d9f3f7cf7cb1c5d671742ceae3fce3e404df7fdae7ba", func := "loop.example/g01332/laws.FnExactSortBoth", spec := "fnExactSortBoth", unfollowed := true, recurses := true, apart := false }
def FnExactSortBothSaid : Prop := fnExactSortBothRow.holds Try.pinned (OpenSpec.ofChange fnExactSortBothSpec)

/-- ITS FALSE NEIGHBOUR: 'it returns false'. Refute it at one input. -/
def fnExactSortBothWrong : ChangeSpec := { name := "fnExactSortBoth", fn := fun _ => fun
  | [d] => { results := [.lit (.bool false)], args := [d] }
  | _ => none }
def FnExactSortBothWrongFalsely : Prop := fnExactSortBothRow.holds Try.pinned (OpenSpec.ofChange fnExactSortBothWrong)

/-- 'laws.FnExactSortFileColumns': WHATEVER THE INPUT: true; the input reads as it did. -/
def fnExactSortFileColumnsSpec : ChangeSpec := { name := "fnExactSortFileColumns", fn := fun _ => fun
  | [d] => { results := [.lit (.bool true)], args := [d] }
  | _ => none }
def fnExactSortFileColumnsRow : OpenClaim := { program := "ytfedegnmnfhblaa", sum := "d03ccf3350efe009b7b2d9f3f7cf7cb1c5d671742ceae3fce3e404df7fdae7ba", func := "loop.example/g01332/laws.FnExactSortFileColumns", spec := "fnExactSortFileColumns", unfollowed := true, recurses := true, apart := false }
def FnExactSortFileColumnsSaid : Prop := fnExactSortFileColumnsRow.holds Try.pinned (OpenSpec.ofChange fnExactSortFileColumnsSpec)

/-- ITS FALSE NEIGHBOUR: 'it returns false'. Refute it at one input. -/
def fnExactSortFileColumnsWrong : ChangeSpec := { name := "fnExactSortFileColumns", fn := fun _ => fun
  | [d] => { results := [.lit (.bool false)], args := [d] }
  | _ => none }
def FnExactSortFileColumnsWrongFalsely : Prop := fnExactSortFileColumnsRow.holds Try.pinned (OpenSpec.ofChange fnExactSortFileColumnsWrong)

/-- 'laws.FnFilesSortedOfAll': WHATEVER THE INPUT: true; the input reads as it did. -/
def fnFilesSortedOfAllSpec : ChangeSpec := { name := "fnFilesSortedOfAll", fn := fun _ => fun
  | [d] => { results := [.lit (.bool true)], args := [d] }
  | _ => none }
def fnFilesSortedOfAllRow : OpenClaim := { program := "ytfedegnmnfhblaa", sum := "d03ccf3350efe009b7b2d9f3f7cf7cb1c5d671742ceae3fce3e404df7fdae7ba", func := "loop.example/g01332/laws.FnFilesSortedOfAll", spec := "fnFilesSortedOfAll", unfollowed := true, recurses := true, apart := false }
def FnFilesSortedOfAllSaid : Prop := fnFilesSortedOfAllRow.holds Try.pinned (OpenSpec.ofChange fnFilesSortedOfAllSpec)

/-- ITS FALSE NEIGHBOUR: 'it returns false'. Refute it at one input. -/
def fnFilesSortedOfAllWrong : ChangeSpec := { name := "fnFilesSortedOfAll", fn := fun _ => fun
  | [d] => { results := [.lit (.bool false)], args := [d] }
  | _ => none }
def FnFilesSortedOfAllWrongFalsely : Prop := fnFilesSortedOfAllRow.holds Try.pinned (OpenSpec.ofChange fnFilesSortedOfAllWrong)

/-- 'laws.FnFilesSorted': WHATEVER THE INPUT: true; the input reads as it did. -/
def fnFilesSortedSpec : ChangeSpec := { name := "fnFilesSorted", fn := fun _ => fun
  | [d1, d2] => { results := [.lit (.bool true)], args := [d1, d2] }
  | _ => none }
def fnFilesSortedRow : OpenClaim := { program := "ytfedegnmnfhblaa", sum := "d03ccf3350efe009b7b2d9f3f7cf7cb1c5d671742ceae3fce3e404df7fdae7ba", func := "loop.example/g01332/laws.FnFilesSorted", spec := "fnFilesSorted", unfollowed := true, recurses := true, apart := false }
def FnFilesSortedSaid : Prop := fnFilesSortedRow.holds Try.pinned (OpenSpec.ofChange fnFilesSortedSpec)

/-- ITS FALSE NEIGHBOUR: 'it returns false'. Refute it at one input. -/
def fnFilesSortedWrong : ChangeSpec := { name := "fnFilesSorted", fn := fun _ => fun
  | [d1, d2] => { results := [.lit (.bool false)], args := [d1, d2] }
  | _ => none }
def FnFilesSortedWrongFalsely : Prop := fnFilesSortedRow.holds Try.pinned (OpenSpec.ofChange fnFilesSortedWrong)

/- THE SECOND FORM. 'bulk': how many values and letters a reading holds, each counted each time it is reached (what is shared counts as often as it is met; a slice's spare places count too). A statement '..UptoSaid' is the law's where the arguments, and the package variables that the reading takes, are together of bulk at most 1048576: NARROWER than '..Said'. Prove '..Said' where nothing that the law and all that it calls make is longer than what came in: it says more and counts as full. Else prove '..UptoSaid'. A law counts once. -/
mutual
def uptoBulk {H : Type} : DataW H → Nat
  | .lit (.string bytes) => bytes.length + 1
  | .lit _ => 1
  | .nil => 1
  | .ptr d => uptoBulk d + 1
  | .slice elems spare => uptoBulkAll elems + uptoBulkAll spare + 1
  | .agg parts => uptoBulkAll parts + 1
  | .iface _ d => uptoBulk d + 1
  | .map entries => uptoBulkEntries entries + 1
  | .held _ => 1
def uptoBulkAll {H : Type} : List (DataW H) → Nat
  | [] => 0
  | d :: r => uptoBulk d + uptoBulkAll r
def uptoBulkEntries {H : Type} : List (Lit × DataW H) → Nat
  | [] => 0
  | x :: r => uptoBulkEntry x + uptoBulkEntries r
def uptoBulkEntry {H : Type} : Lit × DataW H → Nat
  | (.string bytes, d) => bytes.length + uptoBulk d + 1
  | (_, d) => uptoBulk d + 1
 end
def uptoSmall : (H : Type) → List (DataW H) → Bool := fun _ ds => decide (uptoBulkAll ds ≤ 1048576)
def OpenSpec.upto (s : _root_.Go.ChangeSpec) : _root_.Go.OpenSpec := { _root_.Go.OpenSpec.ofChange s with cond := some uptoSmall }

/-- 'laws.FnExactHeightOfRank', WHERE WHAT IT READS IS OF BULK AT MOST 1048576: true; the input reads as it did. -/
def fnExactHeightOfRankUptoRow : OpenClaim := { program := "ytfedegnmnfhblaa", sum := "d03ccf3350efe009b7b2d9f3f7cf7cb1c5d671742ceae3fce3e404df7fdae7ba", func := "loop.example/g01332/laws.FnExactHeightOfRank", spec := "fnExactHeightOfRank", unfollowed := true, recurses := true, apart := false, narrowed := true }
def FnExactHeightOfRankUptoSaid : Prop := fnExactHeightOfRankUptoRow.holds Try.pinned (OpenSpec.upto fnExactHeightOfRankSpec)

/-- 'laws.FnExactSortFileRows', WHERE WHAT IT READS IS OF BULK AT MOST 1048576: true; the input reads as it did. -/
def fnExactSortFileRowsUptoRow : OpenClaim := { program := "ytfedegnmnfhblaa", sum := "d03ccf3350efe009b7b2d9f3f7cf7cb1c5d671742ceae3fce3e404df7fdae7ba", func := "loop.example/g01332/laws.FnExactSortFileRows", spec := "fnExactSortFileRows", unfollowed := true, recurses := true, apart := false, narrowed := true }
def FnExactSortFileRowsUptoSaid : Prop := fnExactSortFileRowsUptoRow.holds Try.pinned (OpenSpec.upto fnExactSortFileRowsSpec)

/-- 'laws.FnExactSortBoth', WHERE WHAT IT READS IS OF BULK AT MOST 1048576: true; the input reads as it did. -/
def fnExactSortBothUptoRow : OpenClaim := { program := "ytfedegnmnfhblaa", sum := "d03ccf3350efe009b7b2d9f3f7cf7cb1c5d671742ceae3fce3e404df7fdae7ba", func := "loop.example/g01332/laws.FnExactSortBoth", spec := "fnExactSortBoth", unfollowed := true, recurses := true, apart := false, narrowed := true }
def FnExactSortBothUptoSaid : Prop := fnExactSortBothUptoRow.holds Try.pinned (OpenSpec.upto fnExactSortBothSpec)

/-- 'laws.FnExactSortFileColumns', WHERE WHAT IT READS IS OF BULK AT MOST 1048576: true; the input reads as it did. -/
def fnExactSortFileColumnsUptoRow : OpenClaim := { program := "ytfedegnmnfhblaa", sum := "d03ccf3350efe009b7b2d9f3f7cf7cb1c5d671742ceae3fce3e404df7fdae7ba", func := "loop.example/g01332/laws.FnExactSortFileColumns", spec := "fnExactSortFileColumns", unfollowed := true, recurses := true, apart := false, narrowed := true }
def FnExactSortFileColumnsUptoSaid : Prop := fnExactSortFileColumnsUptoRow.holds Try.pinned (OpenSpec.upto fnExactSortFileColumnsSpec)

/-- 'laws.FnFilesSortedOfAll', WHERE WHAT IT READS IS OF BULK AT MOST 1048576: true; the input reads as it did. -/
def fnFilesSortedOfAllUptoRow : OpenClaim := { program := "ytfedegnmnfhblaa", sum := "d03ccf3350efe009b7b2d9f3f7cf7cb1c5d671742ceae3fce3e404df7fdae7ba", func := "loop.example/g01332/laws.FnFilesSortedOfAll", spec := "fnFilesSortedOfAll", unfollowed := true, recurses := true, apart := false, narrowed := true }
def FnFilesSortedOfAllUptoSaid : Prop := fnFilesSortedOfAllUptoRow.holds Try.pinned (OpenSpec.upto fnFilesSortedOfAllSpec)

/-- 'laws.FnFilesSorted', WHERE WHAT IT READS IS OF BULK AT MOST 1048576: true; the input reads as it did. -/
def fnFilesSortedUptoRow : OpenClaim := { program := "ytfedegnmnfhblaa", sum := "d03ccf3350efe009b7b2d9f3f7cf7cb1c5d671742ceae3fce3e404df7fdae7ba", func := "loop.example/g01332/laws.FnFilesSorted", spec := "fnFilesSorted", unfollowed := true, recurses := true, apart := false, narrowed := true }
def FnFilesSortedUptoSaid : Prop := fnFilesSortedUptoRow.holds Try.pinned (OpenSpec.upto fnFilesSortedSpec)

end Rows
end Go.Proofs.Ytfedegnmnfhblaa
