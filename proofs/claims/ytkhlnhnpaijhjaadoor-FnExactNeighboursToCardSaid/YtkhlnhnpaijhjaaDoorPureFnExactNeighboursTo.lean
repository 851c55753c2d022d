/- The law FnExactNeighboursTo is true at all arguments: the program and the reference come to one result; no condition. -/
import Derived.Test.YtkhlnhnpaijhjaaDoorAx4
import Derived.Test.YtkhlnhnpaijhjaaDoorAx5
import Derived.Test.YtkhlnhnpaijhjaaDoorAx7
import Derived.Test.YtkhlnhnpaijhjaaDoorPureBest
namespace Go.Proofs.YtkhlnhnpaijhjaaDoor.Pure
open Go.RowKit Go.Proofs.YtkhlnhnpaijhjaaDoor.A Go.Proofs.YtkhlnhnpaijhjaaDoorW.PrintWords Go.Proofs.YtkhlnhnpaijhjaaDoorW.PrintLast Go.Proofs.YtkhlnhnpaijhjaaDoorW.PrintMore
set_option linter.unusedVariables false
set_option linter.unusedSimpArgs false
namespace LFnExactNeighboursTo
theorem both (a0 : ByteArray) (a1 : ByteArray) (s0 : a0.size ≤ 1048576) (s1 : a1.size ≤ 1048576) : ∃ r : List Int × Bool, r.1.length ≤ 1000 ∧ ∀ k, 6000 < k → impl_NeighboursTo.f k a0 a1 = some r ∧ spec_NeighboursTo.f k a0 a1 = some r := by
  unfold impl_NeighboursTo.f spec_NeighboursTo.f
  by_cases h : twoB a0 a1 = true
  · obtain ⟨A, B, rfl, rfl, hA, h1, hB⟩ := two_rows a0 a1 h
    obtain ⟨r, r1, r2⟩ := bests A B hA h1 hB
    refine ⟨(r.1, r.2), (by show r.1.length ≤ 1000; omega), fun k hk => ?_⟩
    rw [two_ok _ _ k (by omega), areo_ok _ _ (by omega) (by omega), Option.bind_some, Option.bind_some, if_pos h, if_pos h, (r2 k (by omega)).1, (r2 k (by omega)).2, Option.bind_some]
    exact ⟨rfl, rfl⟩
  · refine ⟨([], false), by simp, fun k hk => ?_⟩
    rw [two_ok a0 a1 k (by omega), areo_ok a0 a1 (by omega) (by omega), Option.bind_some, Option.bind_some, if_neg h, if_neg h]
    exact ⟨rfl, rfl⟩
end LFnExactNeighboursTo
open LFnExactNeighboursTo
theorem FnExactNeighboursTo : laws_FnExactNeighboursTo.Pure := by
  intro a0 a1 _ _
  by_cases g0 : (a0.size : Int) > 1048576
  · refine ⟨7000, ?_⟩
    unfold laws_FnExactNeighboursTo.f
    rw [if_pos g0]
  by_cases g1 : (a1.size : Int) > 1048576
  · refine ⟨7000, ?_⟩
    unfold laws_FnExactNeighboursTo.f
    rw [if_neg g0]
    rw [if_pos g1]
  obtain ⟨r, hl, hr⟩ := both a0 a1 (by omega) (by omega)
  obtain ⟨ys, hy⟩ := marks r.1 (by omega)
  have Q := fun k (hk : 1000 < k) => eq_ok r.1 (by omega) k (by omega)
  refine ⟨7000, ?_⟩
  have bf : (r.2 != r.2) = false := bne_self_eq_false _
  unfold laws_FnExactNeighboursTo.f
  rw [if_neg g0, if_neg g1, (hr 7000 (by omega)).1, (hr 7000 (by omega)).2, Option.bind_some, Option.bind_some, Q 7000 (by omega), Option.bind_some, if_pos rfl, bf]
  simp only [laws_FnExactNeighboursTo.j0]
  rw [if_neg Bool.false_ne_true, (hy 6999 (by omega)).1, Option.bind_some, (hy 6999 (by omega)).2, Option.bind_some, if_neg (by omega), if_pos rfl, (hr 6999 (by omega)).1, Option.bind_some, Q 6999 (by omega), Option.bind_some, if_pos rfl, bf]
  simp only [laws_FnExactNeighboursTo.j1]
  rw [if_neg Bool.false_ne_true, (hy 6998 (by omega)).2, Option.bind_some, if_neg (by omega), if_pos rfl]
end Go.Proofs.YtkhlnhnpaijhjaaDoor.Pure
