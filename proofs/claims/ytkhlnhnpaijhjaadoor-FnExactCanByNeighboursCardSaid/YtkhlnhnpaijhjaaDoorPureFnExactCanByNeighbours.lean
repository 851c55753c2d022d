/- The law FnExactCanByNeighbours is true at all arguments: the program and the reference come to one result; no condition. -/
import Derived.Test.YtkhlnhnpaijhjaaDoorAx2
import Derived.Test.YtkhlnhnpaijhjaaDoorAx4
import Derived.Test.YtkhlnhnpaijhjaaDoorAx7
import Derived.Test.YtkhlnhnpaijhjaaDoorPureBest
namespace Go.Proofs.YtkhlnhnpaijhjaaDoor.Pure
open Go.RowKit Go.Proofs.YtkhlnhnpaijhjaaDoor.A Go.Proofs.YtkhlnhnpaijhjaaDoorW.PrintWords Go.Proofs.YtkhlnhnpaijhjaaDoorW.PrintLast Go.Proofs.YtkhlnhnpaijhjaaDoorW.PrintMore
set_option linter.unusedVariables false
set_option linter.unusedSimpArgs false
namespace LFnExactCanByNeighbours
theorem both (a0 : ByteArray) (a1 : ByteArray) (s0 : a0.size ≤ 1048576) (s1 : a1.size ≤ 1048576) : ∃ r : Bool × Bool, ∀ k, 6000 < k → impl_CanByNeighbours.f k a0 a1 = some r ∧ spec_CanByNeighbours.f k a0 a1 = some r := by
  unfold impl_CanByNeighbours.f spec_CanByNeighbours.f
  by_cases h : twoB a0 a1 = true
  · obtain ⟨A, B, rfl, rfl, hA, h1, hB⟩ := two_rows a0 a1 h
    obtain ⟨r, r1, r2⟩ := bests A B hA h1 hB
    refine ⟨(r.2, true), fun k hk => ?_⟩
    rw [two_ok _ _ k (by omega), areo_ok _ _ (by omega) (by omega), Option.bind_some, Option.bind_some, if_pos h, if_pos h, (r2 k (by omega)).1, (r2 k (by omega)).2, Option.bind_some]
    exact ⟨rfl, rfl⟩
  · refine ⟨(false, false), fun k hk => ?_⟩
    rw [two_ok a0 a1 k (by omega), areo_ok a0 a1 (by omega) (by omega), Option.bind_some, Option.bind_some, if_neg h, if_neg h]
    exact ⟨rfl, rfl⟩
end LFnExactCanByNeighbours
open LFnExactCanByNeighbours
theorem FnExactCanByNeighbours : laws_FnExactCanByNeighbours.Pure := by
  intro a0 a1 _ _
  by_cases g0 : (a0.size : Int) > 1048576
  · refine ⟨7000, ?_⟩
    unfold laws_FnExactCanByNeighbours.f
    rw [if_pos g0]
  by_cases g1 : (a1.size : Int) > 1048576
  · refine ⟨7000, ?_⟩
    unfold laws_FnExactCanByNeighbours.f
    rw [if_neg g0]
    rw [if_pos g1]
  obtain ⟨r, hr⟩ := both a0 a1 (by omega) (by omega)
  refine ⟨7000, ?_⟩
  unfold laws_FnExactCanByNeighbours.f
  rw [if_neg g0, if_neg g1, (hr 7000 (by omega)).1, (hr 7000 (by omega)).2, Option.bind_some, Option.bind_some]
  rw [bne_self_eq_false, if_neg Bool.false_ne_true, bne_self_eq_false, if_neg Bool.false_ne_true]
end Go.Proofs.YtkhlnhnpaijhjaaDoor.Pure
