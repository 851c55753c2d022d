/- The law FnExactFewestRuns is true at all arguments: the program and the reference come to one result; no condition. -/
import Derived.Test.YtfdajhjmgcognaaDoorAx4
import Derived.Test.YtfdajhjmgcognaaDoorAx6
import Derived.Test.YtfdajhjmgcognaaDoorPureRuns
namespace Go.Proofs.YtfdajhjmgcognaaDoor.Pure
open Go.RowKit Go.Proofs.YtfdajhjmgcognaaDoor.A Go.Proofs.YtfdajhjmgcognaaDoorW.PrintWords Go.Proofs.YtfdajhjmgcognaaDoorW.PrintLast Go.Proofs.YtfdajhjmgcognaaDoorW.PrintMore
set_option linter.unusedVariables false
set_option linter.unusedSimpArgs false
namespace LFnExactFewestRuns
theorem both (a0 : ByteArray) (a1 : ByteArray) (s0 : a0.size ≤ 1048576) (s1 : a1.size ≤ 1048576) : ∃ r : Int × Bool, ∀ k, 6000 < k → impl_FewestRuns.f k a0 a1 = some r ∧ spec_FewestRuns.f k a0 a1 = some r := by
  unfold impl_FewestRuns.f impl_RunsTo.f spec_FewestRuns.f
  by_cases h : twoB a0 a1 = true
  · obtain ⟨A, B, rfl, rfl, hA, h1, hB⟩ := two_rows a0 a1 h
    obtain ⟨D, d1, d2, d3⟩ := differ_ok A B hA hB
    refine ⟨(((runsUp (enc A) (enc B) B.length).length : Int), true), fun k hk => ?_⟩
    rw [two_ok _ _ k (by omega), areo_ok _ _ (by omega) (by omega), Option.bind_some, Option.bind_some, if_pos h, if_pos h, d3 k (by omega), Option.bind_some, parts_ok A B hA hB k (by omega) D d1 d2]
    unfold spec_odRuns.f
    rw [if_pos (plain_ok A B hA hB), enc_size, hA]
    exact ⟨rfl, rfl⟩
  · refine ⟨(0, false), fun k hk => ?_⟩
    rw [two_ok a0 a1 k (by omega), areo_ok a0 a1 (by omega) (by omega), Option.bind_some, Option.bind_some, if_neg h, if_neg h]
    exact ⟨rfl, rfl⟩
end LFnExactFewestRuns
open LFnExactFewestRuns
theorem FnExactFewestRuns : laws_FnExactFewestRuns.Pure := by
  intro a0 a1 _ _
  by_cases g0 : (a0.size : Int) > 1048576
  · refine ⟨7000, ?_⟩
    unfold laws_FnExactFewestRuns.f
    rw [if_pos g0]
  by_cases g1 : (a1.size : Int) > 1048576
  · refine ⟨7000, ?_⟩
    unfold laws_FnExactFewestRuns.f
    rw [if_neg g0]
    rw [if_pos g1]
  obtain ⟨r, hr⟩ := both a0 a1 (by omega) (by omega)
  refine ⟨7000, ?_⟩
  unfold laws_FnExactFewestRuns.f
  rw [if_neg g0, if_neg g1, (hr 7000 (by omega)).1, (hr 7000 (by omega)).2, Option.bind_some, Option.bind_some]
  rw [if_pos rfl, bne_self_eq_false, if_neg Bool.false_ne_true]
end Go.Proofs.YtfdajhjmgcognaaDoor.Pure
