/-
  No cell of these rows narrows 'for every input' (looked for: loops, veiled, ifaces, maps, wideKeys, modest, calm, conditions, laid).
  DERIVED. THE GIVEN ROWS OF THIS SEAT. 6 by the template 'for every input the law returns true; each argument reads behind the call as it read before'; 0 by the template 'total and deterministic' (their statements: YtjbnhdmphanpdaaTotals.lean).
  GIVEN WITH THE SEED: the statements are not yours to turn. If you find one false, say at which input.
  Laid BY PROGRAM, IN A SANDBOX (cutbox-rows.mjs): the forced cells as the released guide's own fill.sh prints them over the translation 68952bd20e13e3d4… (all of the seat's roots in one cut). By AI agents, Wed Nov 11 2026. No macro, syntax, notation, axiom, sorry.
-/
import Derived.Test.YtjbnhdmphanpdaaChecked
import GoSem.Claim
import GoSem.ClaimJoined
import GoSem.ClaimMapViews
import Derived.JoinedTies
import Derived.KernelRfl
namespace Go.Proofs.Ytjbnhdmphanpdaa
/- THE CELL 'sum', in the pinned program and in every row, IS THE sha256 OF THE DUMP (.gsa) THAT YtjbnhdmphanpdaaProg.lean LOADS. Nothing in Lean hashes anything: it is a label: what it is worth is what the hold of that sum in a sandbox is worth. -/
noncomputable def Try.pinned : Pinned := { name := "ytjbnhdmphanpdaa", sum := "68952bd20e13e3d429bfaf4a6fda2476ee0063252fe238328fc0a146279351e4", checked := Try.checked }
namespace Rows
def none {H : Type} : Left H := { results := [], args := [] }

/-- 'laws.FnExactAreFiles': WHATEVER THE INPUT: true; the input reads as it did. -/
def fnExactAreFilesSpec : ChangeSpec := { name := "fnExactAreFiles", fn := fun _ => fun
  | [d] => { results := [.lit (.bool true)], args := [d] }
  | _ => none }
def fnExactAreFilesRow : OpenClaim := { program := "ytjbnhdmphanpdaa", sum := "68952bd20e13e3d429bfaf4a6fda2476ee0063252fe238328fc0a146279351e4", func := "loop.example/g01332/laws.FnExactAreFiles", spec := "fnExactAreFiles", unfollowed := true, recurses := true, apart := false }
def FnExactAreFilesSaid : Prop := fnExactAreFilesRow.holds Try.pinned (OpenSpec.ofChange fnExactAreFilesSpec)

/-- ITS FALSE NEIGHBOUR: 'it returns false'. Refute it at one input. -/
def fnExactAreFilesWrong : ChangeSpec := { name := "fnExactAreFiles", fn := fun _ => fun
  | [d] => { results := [.lit (.bool false)], args := [d] }
  | _ => none }
def FnExactAreFilesWrongFalsely : Prop := fnExactAreFilesRow.holds Try.pinned (OpenSpec.ofChange fnExactAreFilesWrong)

/-- 'laws.FnExactAreRowsSorted': WHATEVER THE INPUT: true; the input reads as it did. -/
def fnExactAreRowsSortedSpec : ChangeSpec := { name := "fnExactAreRowsSorted", fn := fun _ => fun
  | [d] => { results := [.lit (.bool true)], args := [d] }
  | _ => none }
def fnExactAreRowsSortedRow : OpenClaim := { program := "ytjbnhdmphanpdaa", sum := "68952bd20e13e3d429bfaf4a6fda2476ee0063252fe238328fc0a146279351e4", func := "loop.example/g01332/laws.FnExactAreRowsSorted", spec := "fnExactAreRowsSorted", unfollowed := true, recurses := true, apart := false }
def FnExactAreRowsSortedSaid : Prop := fnExactAreRowsSortedRow.holds Try.pinned (OpenSpec.ofChange fnExactAreRowsSortedSpec)

/-- ITS FALSE NEIGHBOUR: 'it returns false'. Refute it at one input. -/
def fnExactAreRowsSortedWrong : ChangeSpec := { name := "fnExactAreRowsSorted", fn := fun _ => fun
  | [d] => { results := [.lit (.bool false)], args := [d] }
  | _ => none }
def FnExactAreRowsSortedWrongFalsely : Prop := fnExactAreRowsSortedRow.holds Try.pinned (OpenSpec.ofChange fnExactAreRowsSortedWrong)

/-- 'laws.FnExactFileDisorder': WHATEVER THE INPUT: true; the input reads as it did. -/
def fnExactFileDisorderSpec : ChangeSpec := { name := "fnExactFileDisorder", fn := fun _ => fun
  | [d] => { results := [.lit (.bool true)], args := [d] }
  | _ => none }
def fnExactFileDisorderRow : OpenClaim := { program := "ytjbnhdmphanpdaa", sum := "68952bd20e13e3d429bfaf4a6fda2476ee0063252fe238328fc0a146279351e4", func := "loop.example/g01332/laws.FnExactFileDisorder", spec := "fnExactFileDisorder", unfollowed := true, recurses := true, apart := false }
def FnExactFileDisorderSaid : Prop := fnExactFileDisorderRow.holds Try.pinned (OpenSpec.ofChange fnExactFileDisorderSpec)

/-- ITS FALSE NEIGHBOUR: 'it returns false'. Refute it at one input. -/
def fnExactFileDisorderWrong : ChangeSpec := { name := "fnExactFileDisorder", fn := fun _ => fun
  | [d] => { results := [.lit (.bool false)], args := [d] }
  | _ => none }
def FnExactFileDisorderWrongFalsely : Prop := fnExactFileDisorderRow.holds Try.pinned (OpenSpec.ofChange fnExactFileDisorderWrong)

/-- 'laws.FnExactAreColumnsSorted': WHATEVER THE INPUT: true; the input reads as it did. -/
def fnExactAreColumnsSortedSpec : ChangeSpec := { name := "fnExactAreColumnsSorted", fn := fun _ => fun
  | [d] => { results := [.lit (.bool true)], args := [d] }
  | _ => none }
def fnExactAreColumnsSortedRow : OpenClaim := { program := "ytjbnhdmphanpdaa", sum := "68952bd20e13e3d429bfaf4a6fda2476ee0063252fe238328fc0a146279351e4", func := "loop.example/g01332/laws.FnExactAreColumnsSorted", spec := "fnExactAreColumnsSorted", unfollowed := true, recurses := true, apart := false }
def FnExactAreColumnsSortedSaid : Prop := fnExactAreColumnsSortedRow.holds Try.pinned (OpenSpec.ofChange fnExactAreColumnsSortedSpec)

/-- ITS FALSE NEIGHBOUR: 'it returns false'. Refute it at one input. -/
def fnExactAreColumnsSortedWrong : ChangeSpec := { name := "fnExactAreColumnsSorted", fn := fun _ => fun
  | [d] => { results := [.lit (.bool false)], args := [d] }
  | _ => none }
def FnExactAreColumnsSortedWrongFalsely : Prop := fnExactAreColumnsSortedRow.holds Try.pinned (OpenSpec.ofChange fnExactAreColumnsSortedWrong)

/-- 'laws.FnExactTallestOfShortest': WHATEVER THE INPUT: true; the input reads as it did. -/
def fnExactTallestOfShortestSpec : ChangeSpec := { name := "fnExactTallestOfShortest", fn := fun _ => fun
  | [d] => { results := [.lit (.bool true)], args := [d] }
  | _ => none }
def fnExactTallestOfShortestRow : OpenClaim := { program := "ytjbnhdmphanpdaa", sum := "68952bd20e13e3d429bfaf4a6fda2476ee0063252fe238328fc0a146279351e4", func := "loop.example/g01332/laws.FnExactTallestOfShortest", spec := "fnExactTallestOfShortest", unfollowed := true, recurses := true, apart := false }
def FnExactTallestOfShortestSaid : Prop := fnExactTallestOfShortestRow.holds Try.pinned (OpenSpec.ofChange fnExactTallestOfShortestSpec)

/-- ITS FALSE NEIGHBOUR: 'it returns false'. Refute it at one input. -/
def fnExactTallestOfShortestWrong : ChangeSpec := { name := "fnExactTallestOfShortest", fn := fun _ => fun
  | [d] => { results := [.lit (.bool false)], args := [d] }
  | _ => none }
def FnExactTallestOfShortestWrongFalsely : Prop := fnExactTallestOfShortestRow.holds Try.pinned (OpenSpec.ofChange fnExactTallestOfShortestWrong)

/-- 'laws.FnExactShortestOfTallest': WHATEVER THE INPUT: true; the input reads as it did. -/
def fnExactShortestOfTallestSpec : ChangeSpec := { name := "fnExactShortestOfTallest", fn := fun _ => fun
  | [d] => { results := [.lit (.bool true)], args := [d] }
  | _ => none }
def fnExactShortestOfTallestRow : OpenClaim := { program := "ytjbnhdmphanpdaa", sum := "68952bd20e13e3d429bfaf4a6fda2476ee0063252fe238328fc0a146279351e4", func := "loop.example/g01332/laws.FnExactShortestOfTallest", spec := "fnExactShortestOfTallest", unfollowed := true, recurses := true, apart := false }
def FnExactShortestOfTallestSaid : Prop := fnExactShortestOfTallestRow.holds Try.pinned (OpenSpec.ofChange fnExactShortestOfTallestSpec)

/-- ITS FALSE NEIGHBOUR: 'it returns false'. Refute it at one input. -/
def fnExactShortestOfTallestWrong : ChangeSpec := { name := "fnExactShortestOfTallest", fn := fun _ => fun
  | [d] => { results := [.lit (.bool false)], args := [d] }
  | _ => none }
def FnExactShortestOfTallestWrongFalsely : Prop := fnExactShortestOfTallestRow.holds Try.pinned (OpenSpec.ofChange fnExactShortestOfTallestWrong)

/- THE SECOND FORM. 'bulk': how many values and letters a reading holds, each counted each time it is reached (what is shared counts as often as it is met; a slice's spare places count too). A statement '..UptoSaid' is the law's where the arguments, and the package variables that the reading takes, are together of bulk at most 1048576: NARROWER than '..Said'. Prove '..Said' where nothing that the law and all that it calls make is longer than what came in: it says more and counts as full. Else prove '..UptoSaid'. A law counts once. -/
mutual
def uptoBulk {H : Type} : DataW H → Nat
  | .lit (.string bytes) => bytes.length + 1
  | .lit _ => 1
  | .nil => 1
  | .ptr d => uptoBulk d + 1
  | .slice elems spare => uptoBulkAll elems + uptoBulkAll spare + 1
  | .agg parts => uptoBulkAll parts + 1
  | .iface _ d => uptoBulk d + 1
  | .map entries => uptoBulkEntries entries + 1
  | .held _ => 1
def uptoBulkAll {H : Type} : List (DataW H) → Nat
  | [] => 0
  | d :: r => uptoBulk d + uptoBulkAll r
def uptoBulkEntries {H : Type} : List (Lit × DataW H) → Nat
  | [] => 0
  | x :: r => uptoBulkEntry x + uptoBulkEntries r
def uptoBulkEntry {H : Type} : Lit × DataW H → Nat
  | (.string bytes, d) => bytes.length + uptoBulk d + 1
  | (_, d) => uptoBulk d + 1
 end
def uptoSmall : (H : Type) → List (DataW H) → Bool := fun _ ds => decide (uptoBulkAll ds ≤ 1048576)
def OpenSpec.upto (s : _root_.Go.ChangeSpec) : _root_.Go.OpenSpec := { _root_.Go.OpenSpec.ofChange s with cond := some uptoSmall }

/-- 'laws.FnExactAreFiles', WHERE WHAT IT READS IS OF BULK AT MOST 1048576: true; the input reads as it did. -/
def fnExactAreFilesUptoRow : OpenClaim := { program := "ytjbnhdmphanpdaa", sum := "68952bd20e13e3d429bfaf4a6fda2476ee0063252fe238328fc0a146279351e4", func := "loop.example/g01332/laws.FnExactAreFiles", spec := "fnExactAreFiles", unfollowed := true, recurses := true, apart := false, narrowed := true }
def FnExactAreFilesUptoSaid : Prop := fnExactAreFilesUptoRow.holds Try.pinned (OpenSpec.upto fnExactAreFilesSpec)

/-- 'laws.FnExactAreRowsSorted', WHERE WHAT IT READS IS OF BULK AT MOST 1048576: true; the input reads as it did. -/
def fnExactAreRowsSortedUptoRow : OpenClaim := { program := "ytjbnhdmphanpdaa", sum := "68952bd20e13e3d429bfaf4a6fda2476ee0063252fe238328fc0a146279351e4", func := "loop.example/g01332/laws.FnExactAreRowsSorted", spec := "fnExactAreRowsSorted", unfollowed := true, recurses := true, apart := false, narrowed := true }
def FnExactAreRowsSortedUptoSaid : Prop := fnExactAreRowsSortedUptoRow.holds Try.pinned (OpenSpec.upto fnExactAreRowsSortedSpec)

/-- 'laws.FnExactFileDisorder', WHERE WHAT IT READS IS OF BULK AT MOST 1048576: true; the input reads as it did. -/
def fnExactFileDisorderUptoRow : OpenClaim := { program := "ytjbnhdmphanpdaa", sum := "68952bd20e13e3d429bfaf4a6fda2476ee0063252fe238328fc0a146279351e4", func := "loop.example/g01332/laws.FnExactFileDisorder", spec := "fnExactFileDisorder", unfollowed := true, recurses := true, apart := false, narrowed := true }
def FnExactFileDisorderUptoSaid : Prop := fnExactFileDisorderUptoRow.holds Try.pinned (OpenSpec.upto fnExactFileDisorderSpec)

/-- 'laws.FnExactAreColumnsSorted', WHERE WHAT IT READS IS OF BULK AT MOST 1048576: true; the input reads as it did. -/
def fnExactAreColumnsSortedUptoRow : OpenClaim := { program := "ytjbnhdmphanpdaa", sum := "68952bd20e13e3d429bfaf4a6fda2476ee0063252fe238328fc0a146279351e4", func := "loop.example/g01332/laws.FnExactAreColumnsSorted", spec := "fnExactAreColumnsSorted", unfollowed := true, recurses := true, apart := false, narrowed := true }
def FnExactAreColumnsSortedUptoSaid : Prop := fnExactAreColumnsSortedUptoRow.holds Try.pinned (OpenSpec.upto fnExactAreColumnsSortedSpec)

/-- 'laws.FnExactTallestOfShortest', WHERE WHAT IT READS IS OF BULK AT MOST 1048576: true; the input reads as it did. -/
def fnExactTallestOfShortestUptoRow : OpenClaim := { program := "ytjbnhdmphanpdaa", sum := "68952bd20e13e3d429bfaf4a6fda2476ee0063252fe238328fc0a146279351e4", func := "loop.example/g01332/laws.FnExactTallestOfShortest", spec := "fnExactTallestOfShortest", unfollowed := true, recurses := true, apart := false, narrowed := true }
def FnExactTallestOfShortestUptoSaid : Prop := fnExactTallestOfShortestUptoRow.holds Try.pinned (OpenSpec.upto fnExactTallestOfShortestSpec)

/-- 'laws.FnExactShortestOfTallest', WHERE WHAT IT READS IS OF BULK AT MOST 1048576: true; the input reads as it did. -/
def fnExactShortestOfTallestUptoRow : OpenClaim := { program := "ytjbnhdmphanpdaa", sum := "68952bd20e13e3d429bfaf4a6fda2476ee0063252fe238328fc0a146279351e4", func := "loop.example/g01332/laws.FnExactShortestOfTallest", spec := "fnExactShortestOfTallest", unfollowed := true, recurses := true, apart := false, narrowed := true }
def FnExactShortestOfTallestUptoSaid : Prop := fnExactShortestOfTallestUptoRow.holds Try.pinned (OpenSpec.upto fnExactShortestOfTallestSpec)

end Rows
end Go.Proofs.Ytjbnhdmphanpdaa
