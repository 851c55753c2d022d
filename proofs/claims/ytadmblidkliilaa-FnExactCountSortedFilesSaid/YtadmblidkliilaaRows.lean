/-
  No cell of these rows narrows 'for every input' (looked for: loops, veiled, ifaces, maps, wideKeys, modest, calm, conditions, laid).
  DERIVED. THE GIVEN ROWS OF THIS SEAT. 3 by the template 'for every input the law returns true; each argument reads behind the call as it read before'; 0 by the template 'total and deterministic' (their statements: YtadmblidkliilaaTotals.lean).
  GIVEN WITH THE SEED: the statements are not yours to turn. If you find one false, say at which input.
  Laid BY PROGRAM, IN A SANDBOX (cutbox-rows.mjs): the forced cells as the released guide's own fill.sh prints them over the translation ebf034ec72b0f893… (all of the seat's roots in one cut). By AI agents, Wed Nov 11 2026. No macro, syntax, notation, axiom, sorry.
-/
import Derived.Test.YtadmblidkliilaaChecked
import GoSem.Claim
import GoSem.ClaimJoined
import GoSem.ClaimMapViews
import Derived.JoinedTies
import Derived.KernelRfl
namespace Go.Proofs.Ytadmblidkliilaa
/- THE CELL 'sum', in the pinned program and in every row, IS THE sha256 OF THE DUMP (.gsa) THAT YtadmblidkliilaaProg.lean LOADS. Nothing in Lean hashes anything: it is a label: what it is worth is what the hold of that sum in a sandbox is worth. -/
noncomputable def Try.pinned : Pinned := { name := "ytadmblidkliilaa", sum := "ebf034ec72b0f893555443545ddede0869f14e74e2d11d77bec8172419fbe2c2", checked := Try.checked }
namespace Rows
def none {H : Type} : Left H := { results := [], args := [] }

/-- 'laws.FnExactCountSortedFiles': WHATEVER THE INPUT: true; the input reads as it did. -/
def fnExactCountSortedFilesSpec : ChangeSpec := { name := "fnExactCountSortedFiles", fn := fun _ => fun
  | [d1, d2] => { results := [.lit (.bool true)], args := [d1, d2] }
  | _ => none }
def fnExactCountSortedFilesRow : OpenClaim := { program := "ytadmblidkliilaa", sum := "ebf034ec72b0f893555443545ddede0869f14e74e2d11d77bec8172419fbe2c2", func := "loop.example/g01332/laws.FnExactCountSortedFiles", spec := "fnExactCountSortedFiles", recurses := true, plainKeys := false, apart := false }
def FnExactCountSortedFilesSaid : Prop := fnExactCountSortedFilesRow.holds Try.pinned (OpenSpec.ofChange fnExactCountSortedFilesSpec)

/-- ITS FALSE NEIGHBOUR: 'it returns false'. Refute it at one input. -/
def fnExactCountSortedFilesWrong : ChangeSpec := { name := "fnExactCountSortedFiles", fn := fun _ => fun
  | [d1, d2] => { results := [.lit (.bool false)], args := [d1, d2] }
  | _ => none }
def FnExactCountSortedFilesWrongFalsely : Prop := fnExactCountSortedFilesRow.holds Try.pinned (OpenSpec.ofChange fnExactCountSortedFilesWrong)

/-- 'laws.FnExactExchangeFiles': WHATEVER THE INPUT: true; the input reads as it did. -/
def fnExactExchangeFilesSpec : ChangeSpec := { name := "fnExactExchangeFiles", fn := fun _ => fun
  | [d1, d2, d3] => { results := [.lit (.bool true)], args := [d1, d2, d3] }
  | _ => none }
def fnExactExchangeFilesRow : OpenClaim := { program := "ytadmblidkliilaa", sum := "ebf034ec72b0f893555443545ddede0869f14e74e2d11d77bec8172419fbe2c2", func := "loop.example/g01332/laws.FnExactExchangeFiles", spec := "fnExactExchangeFiles", unfollowed := true, recurses := true, plainKeys := false, apart := false }
def FnExactExchangeFilesSaid : Prop := fnExactExchangeFilesRow.holds Try.pinned (OpenSpec.ofChange fnExactExchangeFilesSpec)

/-- ITS FALSE NEIGHBOUR: 'it returns false'. Refute it at one input. -/
def fnExactExchangeFilesWrong : ChangeSpec := { name := "fnExactExchangeFiles", fn := fun _ => fun
  | [d1, d2, d3] => { results := [.lit (.bool false)], args := [d1, d2, d3] }
  | _ => none }
def FnExactExchangeFilesWrongFalsely : Prop := fnExactExchangeFilesRow.holds Try.pinned (OpenSpec.ofChange fnExactExchangeFilesWrong)

/-- 'laws.FnExactHeightOfRank': WHATEVER THE INPUT: true; the input reads as it did. -/
def fnExactHeightOfRankSpec : ChangeSpec := { name := "fnExactHeightOfRank", fn := fun _ => fun
  | [d1, d2] => { results := [.lit (.bool true)], args := [d1, d2] }
  | _ => none }
def fnExactHeightOfRankRow : OpenClaim := { program := "ytadmblidkliilaa", sum := "ebf034ec72b0f893555443545ddede0869f14e74e2d11d77bec8172419fbe2c2", func := "loop.example/g01332/laws.FnExactHeightOfRank", spec := "fnExactHeightOfRank", unfollowed := true, recurses := true, plainKeys := false, apart := false }
def FnExactHeightOfRankSaid : Prop := fnExactHeightOfRankRow.holds Try.pinned (OpenSpec.ofChange fnExactHeightOfRankSpec)

/-- ITS FALSE NEIGHBOUR: 'it returns false'. Refute it at one input. -/
def fnExactHeightOfRankWrong : ChangeSpec := { name := "fnExactHeightOfRank", fn := fun _ => fun
  | [d1, d2] => { results := [.lit (.bool false)], args := [d1, d2] }
  | _ => none }
def FnExactHeightOfRankWrongFalsely : Prop := fnExactHeightOfRankRow.holds Try.pinned (OpenSpec.ofChange fnExactHeightOfRankWrong)

/- THE SECOND FORM. 'bulk': how many values and letters a reading holds, each counted each time it is reached (what is shared counts as often as it is met; a slice's spare places count too). A statement '..UptoSaid' is the law's where the arguments, and the package variables that the reading takes, are together of bulk at most 1048576: NARROWER than '..Said'. Prove '..Said' where nothing that the law and all that it calls make is longer than what came in: it says more and counts as full. Else prove '..UptoSaid'. A law counts once. -/
mutual
def uptoBulk {H : Type} : DataW H → Nat
  | .lit (.string bytes) => bytes.length + 1
  | .lit _ => 1
  | .nil => 1
  | .ptr d => uptoBulk d + 1
  | .slice elems spare => uptoBulkAll elems + uptoBulkAll spare + 1
  | .agg parts => uptoBulkAll parts + 1
  | .iface _ d => uptoBulk d + 1
  | .map entries => uptoBulkEntries entries + 1
  | .held _ => 1
def uptoBulkAll {H : Type} : List (DataW H) → Nat
  | [] => 0
  | d :: r => uptoBulk d + uptoBulkAll r
def uptoBulkEntries {H : Type} : List (Lit × DataW H) → Nat
  | [] => 0
  | x :: r => uptoBulkEntry x + uptoBulkEntries r
def uptoBulkEntry {H : Type} : Lit × DataW H → Nat
  | (.string bytes, d) => bytes.length + uptoBulk d + 1
  | (_, d) => uptoBulk d + 1
 end
def uptoSmall : (H : Type) → List (DataW H) → Bool := fun _ ds => decide (uptoBulkAll ds ≤ 1048576)
def OpenSpec.upto (s : _root_.Go.ChangeSpec) : _root_.Go.OpenSpec := { _root_.Go.OpenSpec.ofChange s with cond := some uptoSmall }

/-- 'laws.FnExactCountSortedFiles', WHERE WHAT IT READS IS OF BULK AT MOST 1048576: true; the input reads as it did. -/
def fnExactCountSortedFilesUptoRow : OpenClaim := { program := "ytadmblidkliilaa", sum := "ebf034ec72b0f893555443545ddede0869f14e74e2d11d77bec8172419fbe2c2", func := "loop.example/g01332/laws.FnExactCountSortedFiles", spec := "fnExactCountSortedFiles", recurses := true, plainKeys := false, apart := false, narrowed := true }
def FnExactCountSortedFilesUptoSaid : Prop := fnExactCountSortedFilesUptoRow.holds Try.pinned (OpenSpec.upto fnExactCountSortedFilesSpec)

/-- 'laws.FnExactExchangeFiles', WHERE WHAT IT READS IS OF BULK AT MOST 1048576: true; the input reads as it did. -/
def fnExactExchangeFilesUptoRow : OpenClaim := { program := "ytadmblidkliilaa", sum := "ebf034ec72b0f893555443545ddede0869f14e74e2d11d77bec8172419fbe2c2", func := "loop.example/g01332/laws.FnExactExchangeFiles", spec := "fnExactExchangeFiles", unfollowed := true, recurses := true, plainKeys := false, apart := false, narrowed := true }
def FnExactExchangeFilesUptoSaid : Prop := fnExactExchangeFilesUptoRow.holds Try.pinned (OpenSpec.upto fnExactExchangeFilesSpec)

/-- 'laws.FnExactHeightOfRank', WHERE WHAT IT READS IS OF BULK AT MOST 1048576: true; the input reads as it did. -/
def fnExactHeightOfRankUptoRow : OpenClaim := { program := "ytadmblidkliilaa", sum := "ebf034ec72b0f893555443545ddede0869f14e74e2d11d77bec8172419fbe2c2", func := "loop.example/g01332/laws.FnExactHeightOfRank", spec := "fnExactHeightOfRank", unfollowed := true, recurses := true, plainKeys := false, apart := false, narrowed := true }
def FnExactHeightOfRankUptoSaid : Prop := fnExactHeightOfRankUptoRow.holds Try.pinned (OpenSpec.upto fnExactHeightOfRankSpec)

end Rows
end Go.Proofs.Ytadmblidkliilaa
