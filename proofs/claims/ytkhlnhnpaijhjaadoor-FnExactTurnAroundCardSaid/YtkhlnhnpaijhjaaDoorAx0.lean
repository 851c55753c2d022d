-- WRITTEN BY printx.py, a program of this session over the kit's print: not typed by hand. Lean checks it.
import Derived.Test.YtkhlnhnpaijhjaaDoorProg
import Derived.Below
import Derived.Deep.Draws
import Derived.Deep.AppendLies
import Derived.Maps.AppendAt
import Derived.OwnWalk
import Derived.Laws.BytesArg
import Derived.Laws.MakeOwn
import Derived.Laws.OwnMore
import Derived.Deep.OwnRows
import Derived.Tactics
import Derived.Lib.ConvBytes
import Derived.Laws.Slices
import Derived.WalkKit
import Derived.KernelRfl
import Derived.RowKit3
import Derived.Deep.LoopGhost
import Derived.Deep.QuietTactic
import Derived.BigQuiet
import Derived.WideLaws
import Derived.Deep.DeepCutAuto
import Derived.Deep.CutBlock
import Derived.Deep.RegionHeld3
import Derived.Laws.Rows
import Derived.Lib.AppendStr
import Derived.ArgAppend
import Derived.Laws.IdiomCopy
import Derived.OrdersHeld
import Derived.Laws.BitsLemmas
import Derived.RowKit
import Derived.Test.YtkhlnhnpaijhjaaDoorWWords
import Derived.Test.YtkhlnhnpaijhjaaDoorWLast
import Derived.Test.YtkhlnhnpaijhjaaDoorWTab
import Derived.Test.YtkhlnhnpaijhjaaDoorWFour
import Derived.Test.YtkhlnhnpaijhjaaDoorWQPut
import Derived.Test.YtkhlnhnpaijhjaaDoorWApart
import Derived.Test.YtkhlnhnpaijhjaaDoorWArr
import Derived.Test.YtkhlnhnpaijhjaaDoorWZeros
import Derived.Test.YtkhlnhnpaijhjaaDoorWFoot
import Derived.Test.YtkhlnhnpaijhjaaDoorWKept
import Derived.Test.YtkhlnhnpaijhjaaDoorWShare
import Derived.Test.YtkhlnhnpaijhjaaDoorWN
import Derived.Test.YtkhlnhnpaijhjaaDoorWFootNe
import Derived.Test.YtkhlnhnpaijhjaaDoorWAt
import Derived.Test.YtkhlnhnpaijhjaaDoorWEqStruct
import Derived.Test.YtkhlnhnpaijhjaaDoorWRepsOne
import Derived.Test.YtkhlnhnpaijhjaaDoorWInv
import Derived.Test.YtkhlnhnpaijhjaaDoorWInvWords
import Derived.Test.YtkhlnhnpaijhjaaDoorWGuard
import Derived.Test.YtkhlnhnpaijhjaaDoorWNEv
import Derived.Test.YtkhlnhnpaijhjaaDoorWMore
import Derived.Test.YtkhlnhnpaijhjaaDoorX
namespace Go.Proofs.YtkhlnhnpaijhjaaDoor.A
open Go.RowKit Go.Proofs.YtkhlnhnpaijhjaaDoorW.PrintWords Go.Proofs.YtkhlnhnpaijhjaaDoorW.PrintLast Go.Proofs.YtkhlnhnpaijhjaaDoorW.PrintMore Go.Proofs.YtkhlnhnpaijhjaaDoor.X
attribute [local go_sem] max2_int min2_int max_two min_two max_three min_three max_four min_four   -- for this text's walks alone
set_option linter.unusedVariables false
set_option linter.unusedSimpArgs false



def errW : Option Int → Value
  | none => .nilIface
  | some c => .iface 0 (.int .i64 c)
theorem errW_none : errW none = .nilIface := rfl
theorem errW_some (c : Int) : errW (some c) = .iface 0 (.int .i64 c) := rfl

theorem info3 : (Tryd.prog.info? 3).map (fun i => (i.zero, i.size, i.bytes)) = some (some (.int .i64 0), 1, 8) := by kernel_rfl
theorem info4 : (Tryd.prog.info? 4).map (fun i => (i.zero, i.size, i.bytes)) = some (some (.bool false), 1, 1) := by kernel_rfl
-- the values' own types

end Go.Proofs.YtkhlnhnpaijhjaaDoor.A
