/- The law FnExactLeastTimeWith is true at every two numbers: both loops ask the same of the same times and end by the fiftieth; no condition. -/
import Derived.Test.YtapaajmpeieijaaPureCommon
namespace Go.Proofs.Ytapaajmpeieijaa.Pure
open Go.RowKit Go.Proofs.Ytapaajmpeieijaa.A Go.Proofs.YtapaajmpeieijaaW.PrintWords Go.Proofs.YtapaajmpeieijaaW.PrintLast Go.Proofs.YtapaajmpeieijaaW.PrintMore
set_option linter.unusedVariables false
set_option linter.unusedSimpArgs false
namespace LFnExactLeastTimeWith

theorem same (x0 x1 : Int) : ∀ (k : Nat) (x : Int), impl_leastTimeWith.l0 k x0 x1 x = spec_siLeast.l0 k x0 x1 x := by
  intro k
  induction k with
  | zero => intro x; rfl
  | succ k ih =>
    intro x
    simp only [impl_leastTimeWith.l0, spec_siLeast.l0]
    rw [ih, Int.mul_comm (wrap64 _) x1]
theorem ends (x0 x1 : Int) (h0 : x0 ≤ 100) (h1 : 1 ≤ x1) (h2 : x1 ≤ 100) (d : Nat) : ∀ (k : Nat) (x : Int), 0 ≤ x → x + d = 60 → d < k → ∃ r, spec_siLeast.l0 k x0 x1 x = some r := by
  induction d with
  | zero =>
    intro k x hx hd hk
    obtain ⟨k, rfl⟩ : ∃ m, k = m + 1 := ⟨k - 1, by omega⟩
    obtain rfl : x = 60 := by omega
    simp only [spec_siLeast.l0]
    have e : wrap64 (wrap64 (2 * 60) + 1) = 121 := by rw [w_in (x := 2 * 60) (by omega) (by omega), w_in (by omega) (by omega)]; rfl
    rw [e, w_in (by omega) (by omega), if_neg (by omega)]
    exact ⟨_, rfl⟩
  | succ d ih =>
    intro k x hx hd hk
    obtain ⟨k, rfl⟩ : ∃ m, k = m + 1 := ⟨k - 1, by omega⟩
    simp only [spec_siLeast.l0]
    split
    · have e : wrap64 (x + 1) = x + 1 := by unfold wrap64; omega
      rw [e]
      exact ih k (x + 1) (by omega) (by omega) (by omega)
    · exact ⟨_, rfl⟩
end LFnExactLeastTimeWith
open LFnExactLeastTimeWith
theorem FnExactLeastTimeWith : laws_FnExactLeastTimeWith.Pure := by
  intro a0 a1 _ _
  have e : impl_LeastTimeWith.f 100 a0 a1 = spec_LeastTimeWith.f 100 a0 a1 := by
    unfold impl_LeastTimeWith.f spec_LeastTimeWith.f impl_isSignalRow.f spec_siSoldiers.f impl_leastTimeWith.f spec_siLeast.f
    simp only [in_eq, l1_eq, same]
  have t : ∃ r, spec_LeastTimeWith.f 100 a0 a1 = some r := by
    unfold spec_LeastTimeWith.f spec_siSoldiers.f spec_siLeast.f
    simp only [l1_eq, Option.bind_some, decide_eq_true_eq]
    by_cases h : 1 ≤ a0 ∧ a0 ≤ 100
    · rw [if_pos h]
      by_cases h2 : 1 ≤ a1 ∧ a1 ≤ a0
      · rw [if_pos h2]
        obtain ⟨r, hr⟩ := ends a0 a1 (by omega) (by omega) (by omega) 60 100 0 (by omega) (by omega) (by omega)
        rw [hr]; exact ⟨_, rfl⟩
      · rw [if_neg h2]; exact ⟨_, rfl⟩
    · rw [if_neg h]; exact ⟨_, rfl⟩
  obtain ⟨r, hr⟩ := t
  refine ⟨100, ?_⟩
  unfold laws_FnExactLeastTimeWith.f
  rw [e, hr]
  simp

end Go.Proofs.Ytapaajmpeieijaa.Pure
