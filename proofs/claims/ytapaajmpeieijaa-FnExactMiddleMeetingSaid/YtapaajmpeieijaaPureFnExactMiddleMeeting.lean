/- The law FnExactMiddleMeeting is true at every number: outside 2 to 100 both answer nothing; inside, each is reckoned; no condition. -/
import Derived.Test.YtapaajmpeieijaaPureCommon
namespace Go.Proofs.Ytapaajmpeieijaa.Pure
open Go.RowKit Go.Proofs.Ytapaajmpeieijaa.A Go.Proofs.YtapaajmpeieijaaW.PrintWords Go.Proofs.YtapaajmpeieijaaW.PrintLast Go.Proofs.YtapaajmpeieijaaW.PrintMore
set_option linter.unusedVariables false
set_option linter.unusedSimpArgs false
namespace LFnExactMiddleMeeting

theorem within : ∀ n : Nat, n < 99 → laws_FnExactMiddleMeeting.f 1000 ((n : Int) + 2) = some true := by decide +kernel
end LFnExactMiddleMeeting
open LFnExactMiddleMeeting
theorem FnExactMiddleMeeting : laws_FnExactMiddleMeeting.Pure := by
  intro a0 _
  refine ⟨1000, ?_⟩
  by_cases h : 2 ≤ a0 ∧ a0 ≤ 100
  · have := within (a0 - 2).toNat (by omega)
    rwa [show (((a0 - 2).toNat : Nat) : Int) + 2 = a0 by omega] at this
  · have e : impl_MiddleMeeting.f 1000 a0 = some (0, 0, false) := by
      unfold impl_MiddleMeeting.f
      rw [in_eq, Option.bind_some, if_neg (by simpa using h)]
    have e2 : spec_MiddleMeeting.f 1000 a0 = some (0, 0, false) := by
      unfold spec_MiddleMeeting.f spec_siSoldiers.f
      rw [l1_eq, Option.bind_some, Option.bind_some]
      by_cases h1 : 1 ≤ a0 ∧ a0 ≤ 100
      · obtain rfl : a0 = 1 := by omega
        decide +kernel
      · rw [if_neg (by simpa using h1)]
        simp only [spec_MiddleMeeting.j0]
        rfl
    unfold laws_FnExactMiddleMeeting.f
    rw [e, e2]
    decide +kernel

end Go.Proofs.Ytapaajmpeieijaa.Pure
