/- The law FnExactMostRuns is true at every number: the two functions are one; no condition. -/
import Derived.Test.YtapaajmpeieijaaPureCommon
namespace Go.Proofs.Ytapaajmpeieijaa.Pure
open Go.RowKit Go.Proofs.Ytapaajmpeieijaa.A Go.Proofs.YtapaajmpeieijaaW.PrintWords Go.Proofs.YtapaajmpeieijaaW.PrintLast Go.Proofs.YtapaajmpeieijaaW.PrintMore
set_option linter.unusedVariables false
set_option linter.unusedSimpArgs false
namespace LFnExactMostRuns

end LFnExactMostRuns
open LFnExactMostRuns
theorem FnExactMostRuns : laws_FnExactMostRuns.Pure := by
  intro a0 _
  have e : impl_MostRuns.f a0 = spec_MostRuns.f a0 := by
    unfold impl_MostRuns.f spec_MostRuns.f impl_isOrderedMany.f spec_odSoldiers.f
    simp only [in_eq, l1_eq]
  have t : ∃ r, spec_MostRuns.f a0 = some r := by
    unfold spec_MostRuns.f spec_odSoldiers.f
    simp only [l1_eq, Option.bind_some]
    by_cases h : decide (1 ≤ a0 ∧ a0 ≤ 40) = true
    · rw [if_pos h]; exact ⟨_, rfl⟩
    · rw [if_neg h]; exact ⟨_, rfl⟩
  obtain ⟨r, hr⟩ := t
  unfold laws_FnExactMostRuns.f
  rw [e, hr]
  simp

end Go.Proofs.Ytapaajmpeieijaa.Pure
