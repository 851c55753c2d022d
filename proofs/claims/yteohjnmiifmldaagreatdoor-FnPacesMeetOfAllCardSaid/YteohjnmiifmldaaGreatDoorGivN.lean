/- What the library's errors and number need of memory, as the print takes it: TabOK. No condition. -/
import Derived.Test.YteohjnmiifmldaaGreatDoorGivJ
import Derived.Test.YteohjnmiifmldaaGreatDoorShelf
import Derived.Test.YteohjnmiifmldaaGreatDoorWMore
import Derived.Test.YteohjnmiifmldaaGreatDoorX
import Derived.Lib.SmallJoins
import Derived.WalkKit
namespace Go.Proofs.YteohjnmiifmldaaGreatDoor.A
open Go.RowKit Go.Proofs.YteohjnmiifmldaaGreatDoorW.PrintWords Go.Proofs.YteohjnmiifmldaaGreatDoorW.PrintLast Go.Proofs.YteohjnmiifmldaaGreatDoorW.PrintMore Go.Proofs.YteohjnmiifmldaaGreatDoor.X
set_option linter.unusedVariables false
set_option linter.unusedSimpArgs false

/-- The two errors and the library's number lie as the library's text has them. -/
structure TabOK (w : World) : Prop where
  syn : ∃ (tp : TypeId) (p : Value), w.var? Tryz.prog "strconv.ErrSyntax" = some #[.iface tp p]
  ran : ∃ (tp : TypeId) (p : Value), w.var? Tryz.prog "strconv.ErrRange" = some #[.iface tp p]
  max : ∃ m : Int, w.cell? ⟨0, 0, none⟩ = some (.int .i64 m)
theorem gSyn : Tryz.prog.globalNamed "strconv.ErrSyntax" = some 1 := by kernel_rfl
theorem gRan : Tryz.prog.globalNamed "strconv.ErrRange" = some 2 := by kernel_rfl
theorem tab_below {w w' : World} (h : TabOK w) (hb : Below w.heap.size w w') : TabOK w' := by
  obtain ⟨⟨t1, p1, h2⟩, ⟨t2, p2, h3⟩, ⟨m, h4⟩⟩ := h
  exact ⟨⟨t1, p1, Go.Joins.var_stays gSyn h2 hb (Nat.le_refl _)⟩, ⟨t2, p2, Go.Joins.var_stays gRan h3 hb (Nat.le_refl _)⟩, ⟨m, (hb.cell (cell_spot h4).2).trans h4⟩⟩
end Go.Proofs.YteohjnmiifmldaaGreatDoor.A
