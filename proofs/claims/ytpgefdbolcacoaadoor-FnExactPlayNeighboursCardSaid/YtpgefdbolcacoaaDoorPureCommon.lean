/- What the pure statements of this seat share: a number within bounds; a fresh list marked and held. -/
import Derived.Test.YtpgefdbolcacoaaDoorAx1
import Derived.Test.YtpgefdbolcacoaaDoorAx2
import Derived.Test.YtpgefdbolcacoaaDoorAx4
namespace Go.Proofs.YtpgefdbolcacoaaDoor.Pure
open Go.RowKit Go.Proofs.YtpgefdbolcacoaaDoor.A Go.Proofs.YtpgefdbolcacoaaDoorW.PrintWords Go.Proofs.YtpgefdbolcacoaaDoorW.PrintLast Go.Proofs.YtpgefdbolcacoaaDoorW.PrintMore
set_option linter.unusedVariables false
set_option linter.unusedSimpArgs false

theorem w_in {x : Int} (h0 : -9223372036854775808 ≤ x) (h1 : x ≤ 9223372036854775807) : wrap64 x = x := by unfold wrap64; omega
theorem in_eq (a l h : Int) : impl_in.f a l h = some (decide (l ≤ a ∧ a ≤ h)) := by
  unfold impl_in.f
  by_cases h1 : l ≤ a
  · rw [if_pos h1]; simp [h1]
  · rw [if_neg h1]; simp [h1]
theorem l1_eq (a l h : Int) : spec_l1In.f a l h = some (decide (l ≤ a ∧ a ≤ h)) := by
  unfold spec_l1In.f
  by_cases h1 : a ≥ l
  · rw [if_pos h1]; have : l ≤ a := h1; simp [this]
  · rw [if_neg h1]; have : ¬ l ≤ a := h1; simp [this]

theorem eq_self (l : List Int) (hl : l.length < 1000000000) (d : Nat) : ∀ (k : Nat) (i : Int), 0 ≤ i → i + d = (l.length : Int) → d < k → laws_eqIntS.l0 k l l i = some true := by
  induction d with
  | zero =>
    intro k i h0 h1 hk
    obtain ⟨k, rfl⟩ : ∃ m, k = m + 1 := ⟨k - 1, by omega⟩
    simp only [laws_eqIntS.l0]
    rw [if_neg (by omega)]
  | succ d ih =>
    intro k i h0 h1 hk
    obtain ⟨k, rfl⟩ : ∃ m, k = m + 1 := ⟨k - 1, by omega⟩
    simp only [laws_eqIntS.l0]
    rw [if_pos (by omega), if_pos h0, if_pos (by omega)]
    simp only [if_true]
    have e : wrap64 (i + 1) = i + 1 := by unfold wrap64; omega
    rw [e]
    exact ih k (i + 1) (by omega) (by omega) (by omega)
theorem eq_ok (l : List Int) (hl : l.length < 1000000000) (k : Nat) (hk : l.length < k) : laws_eqIntS.f k l l = some true := by
  unfold laws_eqIntS.f
  rw [if_pos rfl]
  exact eq_self l hl l.length k 0 (by omega) (by omega) hk
end Go.Proofs.YtpgefdbolcacoaaDoor.Pure
