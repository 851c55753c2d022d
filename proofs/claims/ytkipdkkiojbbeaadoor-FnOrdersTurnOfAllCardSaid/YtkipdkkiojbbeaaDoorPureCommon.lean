/- What the pure statements of this seat share: a number within bounds; a fresh list marked and held. -/
import Derived.Test.YtkipdkkiojbbeaaDoorAx1
import Derived.Test.YtkipdkkiojbbeaaDoorAx2
namespace Go.Proofs.YtkipdkkiojbbeaaDoor.Pure
open Go.RowKit Go.Proofs.YtkipdkkiojbbeaaDoor.A Go.Proofs.YtkipdkkiojbbeaaDoorW.PrintWords Go.Proofs.YtkipdkkiojbbeaaDoorW.PrintLast Go.Proofs.YtkipdkkiojbbeaaDoorW.PrintMore
set_option linter.unusedVariables false
set_option linter.unusedSimpArgs false

theorem w_in {x : Int} (h0 : -9223372036854775808 ≤ x) (h1 : x ≤ 9223372036854775807) : wrap64 x = x := by unfold wrap64; omega
theorem in_eq (a l h : Int) : impl_in.f a l h = some (decide (l ≤ a ∧ a ≤ h)) := by
  unfold impl_in.f
  by_cases h1 : l ≤ a
  · rw [if_pos h1]; simp [h1]
  · rw [if_neg h1]; simp [h1]
theorem l1_eq (a l h : Int) : spec_l1In.f a l h = some (decide (l ≤ a ∧ a ≤ h)) := by
  unfold spec_l1In.f
  by_cases h1 : a ≥ l
  · rw [if_pos h1]; have : l ≤ a := h1; simp [this]
  · rw [if_neg h1]; have : ¬ l ≤ a := h1; simp [this]

end Go.Proofs.YtkipdkkiojbbeaaDoor.Pure
