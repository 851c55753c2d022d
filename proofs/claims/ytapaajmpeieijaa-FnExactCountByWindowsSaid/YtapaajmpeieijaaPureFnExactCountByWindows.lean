/- The law FnExactCountByWindows is true at every two numbers: the two functions are one; no condition. -/
import Derived.Test.YtapaajmpeieijaaPureCommon
namespace Go.Proofs.Ytapaajmpeieijaa.Pure
open Go.RowKit Go.Proofs.Ytapaajmpeieijaa.A Go.Proofs.YtapaajmpeieijaaW.PrintWords Go.Proofs.YtapaajmpeieijaaW.PrintLast Go.Proofs.YtapaajmpeieijaaW.PrintMore
set_option linter.unusedVariables false
set_option linter.unusedSimpArgs false
namespace LFnExactCountByWindows

end LFnExactCountByWindows
open LFnExactCountByWindows
theorem FnExactCountByWindows : laws_FnExactCountByWindows.Pure := by
  intro a0 a1 _ _
  have e : impl_CountByWindows.f a0 a1 = spec_CountByWindows.f a0 a1 := by
    unfold impl_CountByWindows.f spec_CountByWindows.f impl_isOrderedMany.f spec_odSoldiers.f
    simp only [in_eq, l1_eq]
  have t : ∃ r, spec_CountByWindows.f a0 a1 = some r := by
    unfold spec_CountByWindows.f spec_odSoldiers.f
    simp only [l1_eq, Option.bind_some, decide_eq_true_eq]
    by_cases h : 1 ≤ a0 ∧ a0 ≤ 40
    · rw [if_pos h]
      by_cases h2 : 1 ≤ a1 ∧ a1 ≤ a0
      · rw [if_pos h2, if_pos (by unfold wrap64; omega)]; exact ⟨_, rfl⟩
      · rw [if_neg h2]; exact ⟨_, rfl⟩
    · rw [if_neg h]; exact ⟨_, rfl⟩
  obtain ⟨r, hr⟩ := t
  unfold laws_FnExactCountByWindows.f
  rw [e, hr]
  simp

end Go.Proofs.Ytapaajmpeieijaa.Pure
