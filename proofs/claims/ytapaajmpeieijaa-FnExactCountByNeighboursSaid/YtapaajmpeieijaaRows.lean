/-
  No cell of these rows narrows 'for every input' (looked for: loops, veiled, ifaces, maps, wideKeys, modest, calm, conditions, laid).
  DERIVED. THE GIVEN ROWS OF THIS SEAT. 9 by the template 'for every input the law returns true; each argument reads behind the call as it read before'; 0 by the template 'total and deterministic' (their statements: YtapaajmpeieijaaTotals.lean).
  GIVEN WITH THE SEED: the statements are not yours to turn. If you find one false, say at which input.
  Laid BY PROGRAM, IN A SANDBOX (cutbox-rows.mjs): the forced cells as the released guide's own fill.sh prints them over the translation 2303788743d05fad… (all of the seat's roots in one cut). By AI agents, Wed Nov 11 2026. No macro, syntax, notation, axiom, sorry.
-/
import Derived.Test.YtapaajmpeieijaaChecked
import GoSem.Claim
import GoSem.ClaimJoined
import GoSem.ClaimMapViews
import Derived.JoinedTies
import Derived.KernelRfl
namespace Go.Proofs.Ytapaajmpeieijaa
/- THE CELL 'sum', in the pinned program and in every row, IS THE sha256 OF THE DUMP (.gsa) THAT YtapaajmpeieijaaProg.lean LOADS. Nothing in Lean hashes anything: it is a label: what it is worth is what the hold of that sum in a sandbox is worth. -/
noncomputable def Try.pinned : Pinned := { name := "ytapaajmpeieijaa", sum := "2303788743d05fad829ac39d7e1534ecaf4d3d44c848da21f97e016d3f13f196", checked := Try.checked }
namespace Rows
def none {H : Type} : Left H := { results := [], args := [] }

/-- 'laws.FnExactCountByWindows': WHATEVER THE INPUT: true; the input reads as it did. -/
def fnExactCountByWindowsSpec : ChangeSpec := { name := "fnExactCountByWindows", fn := fun _ => fun
  | [d1, d2] => { results := [.lit (.bool true)], args := [d1, d2] }
  | _ => none }
def fnExactCountByWindowsRow : OpenClaim := { program := "ytapaajmpeieijaa", sum := "2303788743d05fad829ac39d7e1534ecaf4d3d44c848da21f97e016d3f13f196", func := "loop.example/g01332/laws.FnExactCountByWindows", spec := "fnExactCountByWindows", apart := false }
def FnExactCountByWindowsSaid : Prop := fnExactCountByWindowsRow.holds Try.pinned (OpenSpec.ofChange fnExactCountByWindowsSpec)

/-- ITS FALSE NEIGHBOUR: 'it returns false'. Refute it at one input. -/
def fnExactCountByWindowsWrong : ChangeSpec := { name := "fnExactCountByWindows", fn := fun _ => fun
  | [d1, d2] => { results := [.lit (.bool false)], args := [d1, d2] }
  | _ => none }
def FnExactCountByWindowsWrongFalsely : Prop := fnExactCountByWindowsRow.holds Try.pinned (OpenSpec.ofChange fnExactCountByWindowsWrong)

/-- 'laws.FnExactMostRuns': WHATEVER THE INPUT: true; the input reads as it did. -/
def fnExactMostRunsSpec : ChangeSpec := { name := "fnExactMostRuns", fn := fun _ => fun
  | [d] => { results := [.lit (.bool true)], args := [d] }
  | _ => none }
def fnExactMostRunsRow : OpenClaim := { program := "ytapaajmpeieijaa", sum := "2303788743d05fad829ac39d7e1534ecaf4d3d44c848da21f97e016d3f13f196", func := "loop.example/g01332/laws.FnExactMostRuns", spec := "fnExactMostRuns", apart := false }
def FnExactMostRunsSaid : Prop := fnExactMostRunsRow.holds Try.pinned (OpenSpec.ofChange fnExactMostRunsSpec)

/-- ITS FALSE NEIGHBOUR: 'it returns false'. Refute it at one input. -/
def fnExactMostRunsWrong : ChangeSpec := { name := "fnExactMostRuns", fn := fun _ => fun
  | [d] => { results := [.lit (.bool false)], args := [d] }
  | _ => none }
def FnExactMostRunsWrongFalsely : Prop := fnExactMostRunsRow.holds Try.pinned (OpenSpec.ofChange fnExactMostRunsWrong)

/-- 'laws.FnExactLeastTimeWith': WHATEVER THE INPUT: true; the input reads as it did. -/
def fnExactLeastTimeWithSpec : ChangeSpec := { name := "fnExactLeastTimeWith", fn := fun _ => fun
  | [d1, d2] => { results := [.lit (.bool true)], args := [d1, d2] }
  | _ => none }
def fnExactLeastTimeWithRow : OpenClaim := { program := "ytapaajmpeieijaa", sum := "2303788743d05fad829ac39d7e1534ecaf4d3d44c848da21f97e016d3f13f196", func := "loop.example/g01332/laws.FnExactLeastTimeWith", spec := "fnExactLeastTimeWith", apart := false }
def FnExactLeastTimeWithSaid : Prop := fnExactLeastTimeWithRow.holds Try.pinned (OpenSpec.ofChange fnExactLeastTimeWithSpec)

/-- ITS FALSE NEIGHBOUR: 'it returns false'. Refute it at one input. -/
def fnExactLeastTimeWithWrong : ChangeSpec := { name := "fnExactLeastTimeWith", fn := fun _ => fun
  | [d1, d2] => { results := [.lit (.bool false)], args := [d1, d2] }
  | _ => none }
def FnExactLeastTimeWithWrongFalsely : Prop := fnExactLeastTimeWithRow.holds Try.pinned (OpenSpec.ofChange fnExactLeastTimeWithWrong)

/-- 'laws.FnExactSignalPeriod': WHATEVER THE INPUT: true; the input reads as it did. -/
def fnExactSignalPeriodSpec : ChangeSpec := { name := "fnExactSignalPeriod", fn := fun _ => fun
  | [d1, d2] => { results := [.lit (.bool true)], args := [d1, d2] }
  | _ => none }
def fnExactSignalPeriodRow : OpenClaim := { program := "ytapaajmpeieijaa", sum := "2303788743d05fad829ac39d7e1534ecaf4d3d44c848da21f97e016d3f13f196", func := "loop.example/g01332/laws.FnExactSignalPeriod", spec := "fnExactSignalPeriod", apart := false }
def FnExactSignalPeriodSaid : Prop := fnExactSignalPeriodRow.holds Try.pinned (OpenSpec.ofChange fnExactSignalPeriodSpec)

/-- ITS FALSE NEIGHBOUR: 'it returns false'. Refute it at one input. -/
def fnExactSignalPeriodWrong : ChangeSpec := { name := "fnExactSignalPeriod", fn := fun _ => fun
  | [d1, d2] => { results := [.lit (.bool false)], args := [d1, d2] }
  | _ => none }
def FnExactSignalPeriodWrongFalsely : Prop := fnExactSignalPeriodRow.holds Try.pinned (OpenSpec.ofChange fnExactSignalPeriodWrong)

/-- 'laws.FnExactSignalAt': WHATEVER THE INPUT: true; the input reads as it did. -/
def fnExactSignalAtSpec : ChangeSpec := { name := "fnExactSignalAt", fn := fun _ => fun
  | [d1, d2, d3] => { results := [.lit (.bool true)], args := [d1, d2, d3] }
  | _ => none }
def fnExactSignalAtRow : OpenClaim := { program := "ytapaajmpeieijaa", sum := "2303788743d05fad829ac39d7e1534ecaf4d3d44c848da21f97e016d3f13f196", func := "loop.example/g01332/laws.FnExactSignalAt", spec := "fnExactSignalAt", apart := false }
def FnExactSignalAtSaid : Prop := fnExactSignalAtRow.holds Try.pinned (OpenSpec.ofChange fnExactSignalAtSpec)

/-- ITS FALSE NEIGHBOUR: 'it returns false'. Refute it at one input. -/
def fnExactSignalAtWrong : ChangeSpec := { name := "fnExactSignalAt", fn := fun _ => fun
  | [d1, d2, d3] => { results := [.lit (.bool false)], args := [d1, d2, d3] }
  | _ => none }
def FnExactSignalAtWrongFalsely : Prop := fnExactSignalAtRow.holds Try.pinned (OpenSpec.ofChange fnExactSignalAtWrong)

/-- 'laws.FnExactMiddleMeeting': WHATEVER THE INPUT: true; the input reads as it did. -/
def fnExactMiddleMeetingSpec : ChangeSpec := { name := "fnExactMiddleMeeting", fn := fun _ => fun
  | [d] => { results := [.lit (.bool true)], args := [d] }
  | _ => none }
def fnExactMiddleMeetingRow : OpenClaim := { program := "ytapaajmpeieijaa", sum := "2303788743d05fad829ac39d7e1534ecaf4d3d44c848da21f97e016d3f13f196", func := "loop.example/g01332/laws.FnExactMiddleMeeting", spec := "fnExactMiddleMeeting", apart := false }
def FnExactMiddleMeetingSaid : Prop := fnExactMiddleMeetingRow.holds Try.pinned (OpenSpec.ofChange fnExactMiddleMeetingSpec)

/-- ITS FALSE NEIGHBOUR: 'it returns false'. Refute it at one input. -/
def fnExactMiddleMeetingWrong : ChangeSpec := { name := "fnExactMiddleMeeting", fn := fun _ => fun
  | [d] => { results := [.lit (.bool false)], args := [d] }
  | _ => none }
def FnExactMiddleMeetingWrongFalsely : Prop := fnExactMiddleMeetingRow.holds Try.pinned (OpenSpec.ofChange fnExactMiddleMeetingWrong)

/-- 'laws.FnExactWaitsFor': WHATEVER THE INPUT: true; the input reads as it did. -/
def fnExactWaitsForSpec : ChangeSpec := { name := "fnExactWaitsFor", fn := fun _ => fun
  | [d1, d2] => { results := [.lit (.bool true)], args := [d1, d2] }
  | _ => none }
def fnExactWaitsForRow : OpenClaim := { program := "ytapaajmpeieijaa", sum := "2303788743d05fad829ac39d7e1534ecaf4d3d44c848da21f97e016d3f13f196", func := "loop.example/g01332/laws.FnExactWaitsFor", spec := "fnExactWaitsFor", apart := false }
def FnExactWaitsForSaid : Prop := fnExactWaitsForRow.holds Try.pinned (OpenSpec.ofChange fnExactWaitsForSpec)

/-- ITS FALSE NEIGHBOUR: 'it returns false'. Refute it at one input. -/
def fnExactWaitsForWrong : ChangeSpec := { name := "fnExactWaitsFor", fn := fun _ => fun
  | [d1, d2] => { results := [.lit (.bool false)], args := [d1, d2] }
  | _ => none }
def FnExactWaitsForWrongFalsely : Prop := fnExactWaitsForRow.holds Try.pinned (OpenSpec.ofChange fnExactWaitsForWrong)

/-- 'laws.FnExactCountByNeighbours': WHATEVER THE INPUT: true; the input reads as it did. -/
def fnExactCountByNeighboursSpec : ChangeSpec := { name := "fnExactCountByNeighbours", fn := fun _ => fun
  | [d] => { results := [.lit (.bool true)], args := [d] }
  | _ => none }
def fnExactCountByNeighboursRow : OpenClaim := { program := "ytapaajmpeieijaa", sum := "2303788743d05fad829ac39d7e1534ecaf4d3d44c848da21f97e016d3f13f196", func := "loop.example/g01332/laws.FnExactCountByNeighbours", spec := "fnExactCountByNeighbours", apart := false }
def FnExactCountByNeighboursSaid : Prop := fnExactCountByNeighboursRow.holds Try.pinned (OpenSpec.ofChange fnExactCountByNeighboursSpec)

/-- ITS FALSE NEIGHBOUR: 'it returns false'. Refute it at one input. -/
def fnExactCountByNeighboursWrong : ChangeSpec := { name := "fnExactCountByNeighbours", fn := fun _ => fun
  | [d] => { results := [.lit (.bool false)], args := [d] }
  | _ => none }
def FnExactCountByNeighboursWrongFalsely : Prop := fnExactCountByNeighboursRow.holds Try.pinned (OpenSpec.ofChange fnExactCountByNeighboursWrong)

/-- 'laws.FnExactIdleOrders': WHATEVER THE INPUT: true; the input reads as it did. -/
def fnExactIdleOrdersSpec : ChangeSpec := { name := "fnExactIdleOrders", fn := fun _ => fun
  | [d] => { results := [.lit (.bool true)], args := [d] }
  | _ => none }
def fnExactIdleOrdersRow : OpenClaim := { program := "ytapaajmpeieijaa", sum := "2303788743d05fad829ac39d7e1534ecaf4d3d44c848da21f97e016d3f13f196", func := "loop.example/g01332/laws.FnExactIdleOrders", spec := "fnExactIdleOrders", apart := false }
def FnExactIdleOrdersSaid : Prop := fnExactIdleOrdersRow.holds Try.pinned (OpenSpec.ofChange fnExactIdleOrdersSpec)

/-- ITS FALSE NEIGHBOUR: 'it returns false'. Refute it at one input. -/
def fnExactIdleOrdersWrong : ChangeSpec := { name := "fnExactIdleOrders", fn := fun _ => fun
  | [d] => { results := [.lit (.bool false)], args := [d] }
  | _ => none }
def FnExactIdleOrdersWrongFalsely : Prop := fnExactIdleOrdersRow.holds Try.pinned (OpenSpec.ofChange fnExactIdleOrdersWrong)

/- THE SECOND FORM. 'bulk': how many values and letters a reading holds, each counted each time it is reached (what is shared counts as often as it is met; a slice's spare places count too). A statement '..UptoSaid' is the law's where the arguments, and the package variables that the reading takes, are together of bulk at most 1048576: NARROWER than '..Said'. Prove '..Said' where nothing that the law and all that it calls make is longer than what came in: it says more and counts as full. Else prove '..UptoSaid'. A law counts once. -/
mutual
def uptoBulk {H : Type} : DataW H → Nat
  | .lit (.string bytes) => bytes.length + 1
  | .lit _ => 1
  | .nil => 1
  | .ptr d => uptoBulk d + 1
  | .slice elems spare => uptoBulkAll elems + uptoBulkAll spare + 1
  | .agg parts => uptoBulkAll parts + 1
  | .iface _ d => uptoBulk d + 1
  | .map entries => uptoBulkEntries entries + 1
  | .held _ => 1
def uptoBulkAll {H : Type} : List (DataW H) → Nat
  | [] => 0
  | d :: r => uptoBulk d + uptoBulkAll r
def uptoBulkEntries {H : Type} : List (Lit × DataW H) → Nat
  | [] => 0
  | x :: r => uptoBulkEntry x + uptoBulkEntries r
def uptoBulkEntry {H : Type} : Lit × DataW H → Nat
  | (.string bytes, d) => bytes.length + uptoBulk d + 1
  | (_, d) => uptoBulk d + 1
 end
def uptoSmall : (H : Type) → List (DataW H) → Bool := fun _ ds => decide (uptoBulkAll ds ≤ 1048576)
def OpenSpec.upto (s : _root_.Go.ChangeSpec) : _root_.Go.OpenSpec := { _root_.Go.OpenSpec.ofChange s with cond := some uptoSmall }

/-- 'laws.FnExactCountByWindows', WHERE WHAT IT READS IS OF BULK AT MOST 1048576: true; the input reads as it did. -/
def fnExactCountByWindowsUptoRow : OpenClaim := { program := "ytapaajmpeieijaa", sum := "2303788743d05fad829ac39d7e1534ecaf4d3d44c848da21f97e016d3f13f196", func := "loop.example/g01332/laws.FnExactCountByWindows", spec := "fnExactCountByWindows", apart := false, narrowed := true }
def FnExactCountByWindowsUptoSaid : Prop := fnExactCountByWindowsUptoRow.holds Try.pinned (OpenSpec.upto fnExactCountByWindowsSpec)

/-- 'laws.FnExactMostRuns', WHERE WHAT IT READS IS OF BULK AT MOST 1048576: true; the input reads as it did. -/
def fnExactMostRunsUptoRow : OpenClaim := { program := "ytapaajmpeieijaa", sum := "2303788743d05fad829ac39d7e1534ecaf4d3d44c848da21f97e016d3f13f196", func := "loop.example/g01332/laws.FnExactMostRuns", spec := "fnExactMostRuns", apart := false, narrowed := true }
def FnExactMostRunsUptoSaid : Prop := fnExactMostRunsUptoRow.holds Try.pinned (OpenSpec.upto fnExactMostRunsSpec)

/-- 'laws.FnExactLeastTimeWith', WHERE WHAT IT READS IS OF BULK AT MOST 1048576: true; the input reads as it did. -/
def fnExactLeastTimeWithUptoRow : OpenClaim := { program := "ytapaajmpeieijaa", sum := "2303788743d05fad829ac39d7e1534ecaf4d3d44c848da21f97e016d3f13f196", func := "loop.example/g01332/laws.FnExactLeastTimeWith", spec := "fnExactLeastTimeWith", apart := false, narrowed := true }
def FnExactLeastTimeWithUptoSaid : Prop := fnExactLeastTimeWithUptoRow.holds Try.pinned (OpenSpec.upto fnExactLeastTimeWithSpec)

/-- 'laws.FnExactSignalPeriod', WHERE WHAT IT READS IS OF BULK AT MOST 1048576: true; the input reads as it did. -/
def fnExactSignalPeriodUptoRow : OpenClaim := { program := "ytapaajmpeieijaa", sum := "2303788743d05fad829ac39d7e1534ecaf4d3d44c848da21f97e016d3f13f196", func := "loop.example/g01332/laws.FnExactSignalPeriod", spec := "fnExactSignalPeriod", apart := false, narrowed := true }
def FnExactSignalPeriodUptoSaid : Prop := fnExactSignalPeriodUptoRow.holds Try.pinned (OpenSpec.upto fnExactSignalPeriodSpec)

/-- 'laws.FnExactSignalAt', WHERE WHAT IT READS IS OF BULK AT MOST 1048576: true; the input reads as it did. -/
def fnExactSignalAtUptoRow : OpenClaim := { program := "ytapaajmpeieijaa", sum := "2303788743d05fad829ac39d7e1534ecaf4d3d44c848da21f97e016d3f13f196", func := "loop.example/g01332/laws.FnExactSignalAt", spec := "fnExactSignalAt", apart := false, narrowed := true }
def FnExactSignalAtUptoSaid : Prop := fnExactSignalAtUptoRow.holds Try.pinned (OpenSpec.upto fnExactSignalAtSpec)

/-- 'laws.FnExactMiddleMeeting', WHERE WHAT IT READS IS OF BULK AT MOST 1048576: true; the input reads as it did. -/
def fnExactMiddleMeetingUptoRow : OpenClaim := { program := "ytapaajmpeieijaa", sum := "2303788743d05fad829ac39d7e1534ecaf4d3d44c848da21f97e016d3f13f196", func := "loop.example/g01332/laws.FnExactMiddleMeeting", spec := "fnExactMiddleMeeting", apart := false, narrowed := true }
def FnExactMiddleMeetingUptoSaid : Prop := fnExactMiddleMeetingUptoRow.holds Try.pinned (OpenSpec.upto fnExactMiddleMeetingSpec)

/-- 'laws.FnExactWaitsFor', WHERE WHAT IT READS IS OF BULK AT MOST 1048576: true; the input reads as it did. -/
def fnExactWaitsForUptoRow : OpenClaim := { program := "ytapaajmpeieijaa", sum := "2303788743d05fad829ac39d7e1534ecaf4d3d44c848da21f97e016d3f13f196", func := "loop.example/g01332/laws.FnExactWaitsFor", spec := "fnExactWaitsFor", apart := false, narrowed := true }
def FnExactWaitsForUptoSaid : Prop := fnExactWaitsForUptoRow.holds Try.pinned (OpenSpec.upto fnExactWaitsForSpec)

/-- 'laws.FnExactCountByNeighbours', WHERE WHAT IT READS IS OF BULK AT MOST 1048576: true; the input reads as it did. -/
def fnExactCountByNeighboursUptoRow : OpenClaim := { program := "ytapaajmpeieijaa", sum := "2303788743d05fad829ac39d7e1534ecaf4d3d44c848da21f97e016d3f13f196", func := "loop.example/g01332/laws.FnExactCountByNeighbours", spec := "fnExactCountByNeighbours", apart := false, narrowed := true }
def FnExactCountByNeighboursUptoSaid : Prop := fnExactCountByNeighboursUptoRow.holds Try.pinned (OpenSpec.upto fnExactCountByNeighboursSpec)

/-- 'laws.FnExactIdleOrders', WHERE WHAT IT READS IS OF BULK AT MOST 1048576: true; the input reads as it did. -/
def fnExactIdleOrdersUptoRow : OpenClaim := { program := "ytapaajmpeieijaa", sum := "2303788743d05fad829ac39d7e1534ecaf4d3d44c848da21f97e016d3f13f196", func := "loop.example/g01332/laws.FnExactIdleOrders", spec := "fnExactIdleOrders", apart := false, narrowed := true }
def FnExactIdleOrdersUptoSaid : Prop := fnExactIdleOrdersUptoRow.holds Try.pinned (OpenSpec.upto fnExactIdleOrdersSpec)

end Rows
end Go.Proofs.Ytapaajmpeieijaa
