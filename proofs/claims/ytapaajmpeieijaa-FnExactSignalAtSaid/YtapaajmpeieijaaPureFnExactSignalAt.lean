/- The law FnExactSignalAt is true at every number, signal and time: both places are reckoned alike; no condition. -/
import Derived.Test.YtapaajmpeieijaaPureCommon
namespace Go.Proofs.Ytapaajmpeieijaa.Pure
open Go.RowKit Go.Proofs.Ytapaajmpeieijaa.A Go.Proofs.YtapaajmpeieijaaW.PrintWords Go.Proofs.YtapaajmpeieijaaW.PrintLast Go.Proofs.YtapaajmpeieijaaW.PrintMore
set_option linter.unusedVariables false
set_option linter.unusedSimpArgs false
namespace LFnExactSignalAt

theorem good_eq (a0 a1 : Int) (a2 : Bool) (a3 : Int) : spec_siSignal.f a0 a1 a2 a3 = impl_isSignal.f a0 a1 a2 a3 := by
  unfold spec_siSignal.f impl_isSignal.f spec_siSoldiers.f impl_isSignalRow.f
  simp only [in_eq, l1_eq]
theorem good_is (a0 a1 : Int) (a2 : Bool) (a3 : Int) (wf : -9223372036854775808 ≤ a0 ∧ a0 ≤ 9223372036854775807) : impl_isSignal.f a0 a1 a2 a3 = some (decide ((1 ≤ a0 ∧ a0 ≤ 100) ∧ (0 ≤ a1 ∧ a1 ≤ a0 - 1) ∧ 1 ≤ a3 ∧ a3 ≤ 10)) := by
  unfold impl_isSignal.f impl_isSignalRow.f
  simp only [in_eq, Option.bind_some]
  by_cases h : 1 ≤ a0 ∧ a0 ≤ 100
  · rw [if_pos (by simpa using h), w_in (by omega) (by omega)]
    by_cases h2 : 0 ≤ a1 ∧ a1 ≤ a0 - 1
    · rw [if_pos (by simpa using h2)]; congr 1; simp [h, h2]
    · rw [if_neg (by simpa using h2)]; congr 1; simp [h2]
  · rw [if_neg (by simpa using h)]; congr 1; simp [h]
theorem around_eq (a0 : Int) (h : 2 ≤ a0) (h2 : a0 ≤ 100) : impl_around.f a0 = some (2 * (a0 - 1)) := by
  unfold impl_around.f
  rw [w_in (x := a0 - 1) (by omega) (by omega), w_in (by omega) (by omega)]
  unfold mx
  rw [if_neg (by omega)]
theorem wf_of {a : Int} (w : (Lit.int .i64 a).wf = true) : -9223372036854775808 ≤ a ∧ a ≤ 9223372036854775807 := by
  simpa [Lit.wf, IntKind.min, IntKind.max, IntKind.signed, IntKind.bits] using w

theorem at_eq (a0 a1 : Int) (a2 : Bool) (a3 t : Int) (h0 : 1 ≤ a0 ∧ a0 ≤ 100) (h3 : 1 ≤ a3) : ∃ r, spec_siAt.f a0 a1 a2 a3 t = some r ∧ impl_Signal_place.f a1 a2 a3 a0 t = some r := by
  unfold spec_siAt.f impl_Signal_place.f
  by_cases h1 : a0 = 1
  · rw [if_pos h1, if_pos h1]; exact ⟨_, rfl, rfl⟩
  · rw [if_neg h1, if_neg h1, around_eq a0 (by omega) (by omega), Option.bind_some, w_in (x := a0 - 1) (by omega) (by omega), w_in (x := 2 * (a0 - 1)) (by omega) (by omega)]
    cases a2 with
    | true =>
      rw [if_pos rfl, if_pos rfl, if_neg (by omega), if_neg (by omega), if_neg (by omega), if_neg (by omega)]
      refine ⟨_, ?_, rfl⟩
      generalize Int.tmod _ _ = x
      unfold spec_l1Least.f mn
      by_cases h : x < wrap64 (2 * (a0 - 1) - x)
      · rw [if_pos h, if_neg (by omega)]; rfl
      · have e : (if wrap64 (2 * (a0 - 1) - x) < x then wrap64 (2 * (a0 - 1) - x) else x) = wrap64 (2 * (a0 - 1) - x) := by split <;> omega
        rw [if_neg h, e]; rfl
    | false =>
      rw [if_neg Bool.false_ne_true, if_neg Bool.false_ne_true, if_neg (by omega), if_neg (by omega), if_neg (by omega), if_neg (by omega)]
      refine ⟨_, ?_, rfl⟩
      generalize Int.tmod _ _ = x
      unfold spec_l1Least.f mn
      by_cases h : x < wrap64 (2 * (a0 - 1) - x)
      · rw [if_pos h, if_neg (by omega)]; rfl
      · have e : (if wrap64 (2 * (a0 - 1) - x) < x then wrap64 (2 * (a0 - 1) - x) else x) = wrap64 (2 * (a0 - 1) - x) := by split <;> omega
        rw [if_neg h, e]; rfl
theorem both (a0 a1 : Int) (a2 : Bool) (a3 t : Int) (wf : -9223372036854775808 ≤ a0 ∧ a0 ≤ 9223372036854775807) : ∃ r, spec_SignalAt.f a0 a1 a2 a3 t = some r ∧ impl_SignalAt.f a0 a1 a2 a3 t = some r := by
  unfold spec_SignalAt.f impl_SignalAt.f spec_siTime.f impl_isSignalTime.f
  rw [good_eq, good_is a0 a1 a2 a3 wf, Option.bind_some, Option.bind_some]
  by_cases h : (1 ≤ a0 ∧ a0 ≤ 100) ∧ (0 ≤ a1 ∧ a1 ≤ a0 - 1) ∧ 1 ≤ a3 ∧ a3 ≤ 10
  · rw [if_pos (by simpa using h), if_pos (by simpa using h)]
    simp only [in_eq, l1_eq, Option.bind_some]
    by_cases h2 : 0 ≤ t ∧ t ≤ 100000
    · rw [if_pos (by simpa using h2), if_pos (by simpa using h2)]
      obtain ⟨r, e1, e2⟩ := at_eq a0 a1 a2 a3 t h.1 h.2.2.1
      rw [e1, e2]
      exact ⟨_, rfl, rfl⟩
    · rw [if_neg (by simpa using h2), if_neg (by simpa using h2)]
      exact ⟨_, rfl, rfl⟩
  · rw [if_neg (by simpa using h), if_neg (by simpa using h)]
    exact ⟨_, rfl, rfl⟩
end LFnExactSignalAt
open LFnExactSignalAt
theorem FnExactSignalAt (a0 a1_0 : Int) (a1_1 : Bool) (a1_2 a2 : Int) (w0 : (Lit.int .i64 a0).wf = true) (w1 : (Lit.int .i64 a1_0).wf = true) (w2 : (Lit.int .i64 a1_2).wf = true) (w3 : (Lit.int .i64 a2).wf = true) :
    laws_FnExactSignalAt.f a0 a1_0 a1_1 a1_2 a2 = some true := by
  obtain ⟨r, h1, h2⟩ := both a0 a1_0 a1_1 a1_2 a2 (wf_of w0)
  unfold laws_FnExactSignalAt.f laws_toSignal.f
  simp only [Option.bind_some, h1, h2]
  simp

end Go.Proofs.Ytapaajmpeieijaa.Pure
