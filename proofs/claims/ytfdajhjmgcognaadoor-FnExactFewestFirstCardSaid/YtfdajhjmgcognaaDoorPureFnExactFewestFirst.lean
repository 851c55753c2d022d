/- The law FnExactFewestFirst is true at all arguments: the program and the reference come to one result; no condition. -/
import Derived.Test.YtfdajhjmgcognaaDoorAx2
import Derived.Test.YtfdajhjmgcognaaDoorAx3
import Derived.Test.YtfdajhjmgcognaaDoorAx6
import Derived.Test.YtfdajhjmgcognaaDoorPureFnExactFirstsTo
namespace Go.Proofs.YtfdajhjmgcognaaDoor.Pure
open Go.RowKit Go.Proofs.YtfdajhjmgcognaaDoor.A Go.Proofs.YtfdajhjmgcognaaDoorW.PrintWords Go.Proofs.YtfdajhjmgcognaaDoorW.PrintLast Go.Proofs.YtfdajhjmgcognaaDoorW.PrintMore
set_option linter.unusedVariables false
set_option linter.unusedSimpArgs false
namespace LFnExactFewestFirst
theorem both (a0 : ByteArray) (a1 : ByteArray) (s0 : a0.size ≤ 1048576) (s1 : a1.size ≤ 1048576) : ∃ r : Int × Bool, ∀ k, 6000 < k → impl_FewestFirst.f k a0 a1 = some r ∧ spec_FewestFirst.f k a0 a1 = some r := by
  obtain ⟨r, hl, hr⟩ := LFnExactFirstsTo.both a0 a1 s0 s1
  refine ⟨((r.1.length : Int), r.2), fun k hk => ?_⟩
  unfold impl_FewestFirst.f
  rw [(hr k hk).1]
  refine ⟨rfl, ?_⟩
  have := (hr k hk).2
  unfold spec_FirstsTo.f at this
  unfold spec_FewestFirst.f
  rw [two_ok a0 a1 k (by omega), Option.bind_some] at this ⊢
  by_cases h : twoB a0 a1 = true
  · rw [if_pos h] at this ⊢
    obtain ⟨q, e1, e2⟩ := Option.bind_eq_some_iff.1 this
    rw [e1, Option.bind_some, ← Option.some.inj e2]
  · rw [if_neg h] at this ⊢
    rw [← Option.some.inj this]
    rfl
end LFnExactFewestFirst
open LFnExactFewestFirst
theorem FnExactFewestFirst : laws_FnExactFewestFirst.Pure := by
  intro a0 a1 _ _
  by_cases g0 : (a0.size : Int) > 1048576
  · refine ⟨7000, ?_⟩
    unfold laws_FnExactFewestFirst.f
    rw [if_pos g0]
  by_cases g1 : (a1.size : Int) > 1048576
  · refine ⟨7000, ?_⟩
    unfold laws_FnExactFewestFirst.f
    rw [if_neg g0]
    rw [if_pos g1]
  obtain ⟨r, hr⟩ := both a0 a1 (by omega) (by omega)
  refine ⟨7000, ?_⟩
  unfold laws_FnExactFewestFirst.f
  rw [if_neg g0, if_neg g1, (hr 7000 (by omega)).1, (hr 7000 (by omega)).2, Option.bind_some, Option.bind_some]
  rw [if_pos rfl, bne_self_eq_false, if_neg Bool.false_ne_true]
end Go.Proofs.YtfdajhjmgcognaaDoor.Pure
