/- The law FnExactSignalPeriod is true at every number and every signal: both periods are one; no condition. -/
import Derived.Test.YtapaajmpeieijaaPureCommon
namespace Go.Proofs.Ytapaajmpeieijaa.Pure
open Go.RowKit Go.Proofs.Ytapaajmpeieijaa.A Go.Proofs.YtapaajmpeieijaaW.PrintWords Go.Proofs.YtapaajmpeieijaaW.PrintLast Go.Proofs.YtapaajmpeieijaaW.PrintMore
set_option linter.unusedVariables false
set_option linter.unusedSimpArgs false
namespace LFnExactSignalPeriod

theorem good_eq (a0 a1 : Int) (a2 : Bool) (a3 : Int) : spec_siSignal.f a0 a1 a2 a3 = impl_isSignal.f a0 a1 a2 a3 := by
  unfold spec_siSignal.f impl_isSignal.f spec_siSoldiers.f impl_isSignalRow.f
  simp only [in_eq, l1_eq]
theorem good_is (a0 a1 : Int) (a2 : Bool) (a3 : Int) (wf : -9223372036854775808 ≤ a0 ∧ a0 ≤ 9223372036854775807) : impl_isSignal.f a0 a1 a2 a3 = some (decide ((1 ≤ a0 ∧ a0 ≤ 100) ∧ (0 ≤ a1 ∧ a1 ≤ a0 - 1) ∧ 1 ≤ a3 ∧ a3 ≤ 10)) := by
  unfold impl_isSignal.f impl_isSignalRow.f
  simp only [in_eq, Option.bind_some]
  by_cases h : 1 ≤ a0 ∧ a0 ≤ 100
  · rw [if_pos (by simpa using h), w_in (by omega) (by omega)]
    by_cases h2 : 0 ≤ a1 ∧ a1 ≤ a0 - 1
    · rw [if_pos (by simpa using h2)]; congr 1; simp [h, h2]
    · rw [if_neg (by simpa using h2)]; congr 1; simp [h2]
  · rw [if_neg (by simpa using h)]; congr 1; simp [h]
theorem around_eq (a0 : Int) (h : 2 ≤ a0) (h2 : a0 ≤ 100) : impl_around.f a0 = some (2 * (a0 - 1)) := by
  unfold impl_around.f
  rw [w_in (x := a0 - 1) (by omega) (by omega), w_in (by omega) (by omega)]
  unfold mx
  rw [if_neg (by omega)]
theorem wf_of {a : Int} (w : (Lit.int .i64 a).wf = true) : -9223372036854775808 ≤ a ∧ a ≤ 9223372036854775807 := by
  simpa [Lit.wf, IntKind.min, IntKind.max, IntKind.signed, IntKind.bits] using w

theorem period (a0 a1 : Int) (a2 : Bool) (a3 : Int) (wf : -9223372036854775808 ≤ a0 ∧ a0 ≤ 9223372036854775807) : ∃ r, spec_SignalPeriod.f a0 a1 a2 a3 = some r ∧ impl_SignalPeriod.f a0 a1 a2 a3 = some r := by
  unfold spec_SignalPeriod.f impl_SignalPeriod.f
  rw [good_eq, good_is a0 a1 a2 a3 wf, Option.bind_some, Option.bind_some]
  by_cases h : (1 ≤ a0 ∧ a0 ≤ 100) ∧ (0 ≤ a1 ∧ a1 ≤ a0 - 1) ∧ 1 ≤ a3 ∧ a3 ≤ 10
  · rw [if_pos (by simpa using h), if_pos (by simpa using h)]
    by_cases h1 : a0 = 1
    · subst h1
      rw [if_pos rfl]
      refine ⟨_, ?_, rfl⟩
      rw [w_in (x := 1 - 1) (by omega) (by omega), w_in (x := 2 * (1 - 1)) (by omega) (by omega), w_in (by omega) (by omega)]
      unfold spec_l1Most.f
      rw [if_pos (by omega)]
      rfl
    · rw [if_neg h1, around_eq a0 (by omega) (by omega), Option.bind_some]
      refine ⟨_, ?_, rfl⟩
      rw [w_in (x := a0 - 1) (by omega) (by omega), w_in (x := 2 * (a0 - 1)) (by omega) (by omega)]
      have hp : 2 * 1 ≤ (2 * (a0 - 1)) * a3 := Int.mul_le_mul (by omega) (by omega) (by omega) (by omega)
      have hq : (2 * (a0 - 1)) * a3 ≤ 198 * 10 := Int.mul_le_mul (by omega) (by omega) (by omega) (by omega)
      rw [w_in (by omega) (by omega)]
      unfold spec_l1Most.f
      rw [if_neg (by omega)]
      rfl
  · rw [if_neg (by simpa using h), if_neg (by simpa using h)]
    exact ⟨_, rfl, rfl⟩
end LFnExactSignalPeriod
open LFnExactSignalPeriod
theorem FnExactSignalPeriod (a0 a1_0 : Int) (a1_1 : Bool) (a1_2 : Int) (w0 : (Lit.int .i64 a0).wf = true) (w1 : (Lit.int .i64 a1_0).wf = true) (w2 : (Lit.int .i64 a1_2).wf = true) :
    laws_FnExactSignalPeriod.f a0 a1_0 a1_1 a1_2 = some true := by
  obtain ⟨r, h1, h2⟩ := period a0 a1_0 a1_1 a1_2 (wf_of w0)
  unfold laws_FnExactSignalPeriod.f laws_toSignal.f
  simp only [Option.bind_some, h1, h2]
  simp

end Go.Proofs.Ytapaajmpeieijaa.Pure
