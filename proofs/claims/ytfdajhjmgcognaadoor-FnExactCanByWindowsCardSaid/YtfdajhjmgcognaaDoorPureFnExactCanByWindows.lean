/- The law FnExactCanByWindows is true at all arguments: the program and the reference come to one result; no condition. -/
import Derived.Test.YtfdajhjmgcognaaDoorAx5
import Derived.Test.YtfdajhjmgcognaaDoorAx6
import Derived.Test.YtfdajhjmgcognaaDoorPureWin
namespace Go.Proofs.YtfdajhjmgcognaaDoor.Pure
open Go.RowKit Go.Proofs.YtfdajhjmgcognaaDoor.A Go.Proofs.YtfdajhjmgcognaaDoorW.PrintWords Go.Proofs.YtfdajhjmgcognaaDoorW.PrintLast Go.Proofs.YtfdajhjmgcognaaDoorW.PrintMore
set_option linter.unusedVariables false
set_option linter.unusedSimpArgs false
namespace LFnExactCanByWindows
theorem both (a0 : ByteArray) (a1 : ByteArray) (a2 : Int) (s0 : a0.size ≤ 1048576) (s1 : a1.size ≤ 1048576) : ∃ r : Bool × Bool, ∀ k, 6000 < k → impl_CanByWindows.f k a0 a1 a2 = some r ∧ spec_CanByWindows.f k a0 a1 a2 = some r := by
  unfold impl_CanByWindows.f spec_CanByWindows.f spec_odWide.f
  by_cases h : twoB a0 a1 = true
  · obtain ⟨A, B, rfl, rfl, hA, h1, hB⟩ := two_rows a0 a1 h
    by_cases c : 1 ≤ a2 ∧ a2 ≤ ((enc A).size : Int)
    · obtain ⟨n, rfl⟩ : ∃ n : Nat, a2 = n := ⟨a2.toNat, by omega⟩
      rw [enc_size] at c
      obtain ⟨o, b, o1, o2⟩ := windows A B hA hB n (by omega) (by omega)
      refine ⟨(b, true), fun k hk => ?_⟩
      rw [two_ok _ _ k (by omega), areo_ok _ _ (by omega) (by omega), Option.bind_some, Option.bind_some, if_pos h, if_pos h, in_eq, l1_eq, Option.bind_some, Option.bind_some, enc_size, decide_eq_true c, if_pos rfl, Option.bind_some, if_pos rfl, (o2 k (by omega)).1, (o2 k (by omega)).2, Option.bind_some, Option.bind_some]
      cases b <;> exact ⟨rfl, rfl⟩
    · refine ⟨(false, false), fun k hk => ?_⟩
      rw [two_ok _ _ k (by omega), areo_ok _ _ (by omega) (by omega), Option.bind_some, Option.bind_some, if_pos h, if_pos h, in_eq, l1_eq, Option.bind_some, Option.bind_some, decide_eq_false c, if_neg Bool.false_ne_true, Option.bind_some, if_neg Bool.false_ne_true]
      exact ⟨rfl, rfl⟩
  · refine ⟨(false, false), fun k hk => ?_⟩
    rw [two_ok a0 a1 k (by omega), areo_ok a0 a1 (by omega) (by omega), Option.bind_some, Option.bind_some, if_neg h, if_neg h]
    exact ⟨rfl, rfl⟩
end LFnExactCanByWindows
open LFnExactCanByWindows
theorem FnExactCanByWindows : laws_FnExactCanByWindows.Pure := by
  intro a0 a1 a2 _ _ _
  by_cases g0 : (a0.size : Int) > 1048576
  · refine ⟨7000, ?_⟩
    unfold laws_FnExactCanByWindows.f
    rw [if_pos g0]
  by_cases g1 : (a1.size : Int) > 1048576
  · refine ⟨7000, ?_⟩
    unfold laws_FnExactCanByWindows.f
    rw [if_neg g0]
    rw [if_pos g1]
  obtain ⟨r, hr⟩ := both a0 a1 a2 (by omega) (by omega)
  refine ⟨7000, ?_⟩
  unfold laws_FnExactCanByWindows.f
  rw [if_neg g0, if_neg g1, (hr 7000 (by omega)).1, (hr 7000 (by omega)).2, Option.bind_some, Option.bind_some]
  rw [bne_self_eq_false, if_neg Bool.false_ne_true, bne_self_eq_false, if_neg Bool.false_ne_true]
end Go.Proofs.YtfdajhjmgcognaaDoor.Pure
