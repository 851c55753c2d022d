-- WRITTEN BY printx.py, a program of this session over the kit's print: not typed by hand. Lean checks it.
import Derived.Test.YtadmblidkliilaaProg
import Derived.Below
import Derived.Deep.Draws
import Derived.Deep.AppendLies
import Derived.Maps.AppendAt
import Derived.OwnWalk
import Derived.Laws.BytesArg
import Derived.Laws.MakeOwn
import Derived.Laws.OwnMore
import Derived.Deep.OwnRows
import Derived.Tactics
import Derived.Lib.ConvBytes
import Derived.Laws.Slices
import Derived.WalkKit
import Derived.KernelRfl
import Derived.RowKit3
import Derived.Deep.LoopGhost
import Derived.Deep.QuietTactic
import Derived.BigQuiet
import Derived.WideLaws
import Derived.Deep.DeepCutAuto
import Derived.Deep.CutBlock
import Derived.Deep.RegionHeld3
import Derived.Laws.Rows
import Derived.Lib.AppendStr
import Derived.ArgAppend
import Derived.Laws.IdiomCopy
import Derived.OrdersHeld
import Derived.Laws.BitsLemmas
import Derived.RowKit
import Derived.Test.YtadmblidkliilaaWWords
import Derived.Test.YtadmblidkliilaaWLast
import Derived.Test.YtadmblidkliilaaWTab
import Derived.Test.YtadmblidkliilaaWFour
import Derived.Test.YtadmblidkliilaaWQPut
import Derived.Test.YtadmblidkliilaaWApart
import Derived.Test.YtadmblidkliilaaWArr
import Derived.Test.YtadmblidkliilaaWZeros
import Derived.Test.YtadmblidkliilaaWFoot
import Derived.Test.YtadmblidkliilaaWKept
import Derived.Test.YtadmblidkliilaaWShare
import Derived.Test.YtadmblidkliilaaWN
import Derived.Test.YtadmblidkliilaaWFootNe
import Derived.Test.YtadmblidkliilaaWAt
import Derived.Test.YtadmblidkliilaaWEqStruct
import Derived.Test.YtadmblidkliilaaWRepsOne
import Derived.Test.YtadmblidkliilaaWInv
import Derived.Test.YtadmblidkliilaaWInvWords
import Derived.Test.YtadmblidkliilaaWGuard
import Derived.Test.YtadmblidkliilaaWNEv
import Derived.Test.YtadmblidkliilaaWMore
import Derived.Test.YtadmblidkliilaaX
namespace Go.Proofs.Ytadmblidkliilaa.A
open Go.RowKit Go.Proofs.YtadmblidkliilaaW.PrintWords Go.Proofs.YtadmblidkliilaaW.PrintLast Go.Proofs.YtadmblidkliilaaW.PrintMore Go.Proofs.Ytadmblidkliilaa.X
attribute [local go_sem] max2_int min2_int max_two min_two max_three min_three max_four min_four   -- for this text's walks alone
set_option linter.unusedVariables false
set_option linter.unusedSimpArgs false



def errW : Option Int → Value
  | none => .nilIface
  | some c => .iface 0 (.int .i64 c)
theorem errW_none : errW none = .nilIface := rfl
theorem errW_some (c : Int) : errW (some c) = .iface 0 (.int .i64 c) := rfl

theorem info3 : (Try.prog.info? 3).map (fun i => (i.zero, i.size, i.bytes)) = some (some (.int .i64 0), 1, 8) := by kernel_rfl
-- the values' own types

end Go.Proofs.Ytadmblidkliilaa.A
