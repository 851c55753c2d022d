/- Numbers as digits: the reference's l1Num is the library's digits; no Go and no memory here. -/
import Derived.Test.YtbcehopnkkajgaaDoorAx1
import Derived.Test.YtbcehopnkkajgaaDoorAx2
import Derived.Test.YtbcehopnkkajgaaDoorGivJ
namespace Go.Proofs.YtbcehopnkkajgaaDoor.Pure
open Go.RowKit Go.Proofs.YtbcehopnkkajgaaDoor.A Go.Proofs.YtbcehopnkkajgaaDoorW.PrintWords Go.Proofs.YtbcehopnkkajgaaDoorW.PrintLast Go.Proofs.YtbcehopnkkajgaaDoorW.PrintMore
set_option linter.unusedVariables false
set_option linter.unusedSimpArgs false

theorem fuel0 {k : Nat} (h : 0 < k) : ∃ m, k = m + 1 := ⟨k - 1, by omega⟩
theorem w_in {x : Int} (h0 : -9223372036854775808 ≤ x) (h1 : x ≤ 9223372036854775807) : wrap64 x = x := by unfold wrap64; omega
theorem w_up {n : Nat} (h : n ≤ 9223372036854775806) : wrap64 ((n : Int) + 1) = ((n + 1 : Nat) : Int) := by unfold wrap64; omega
theorem l1_eq (a l h : Int) : spec_l1In.f a l h = some (decide (l ≤ a ∧ a ≤ h)) := by
  unfold spec_l1In.f
  by_cases h1 : a ≥ l
  · rw [if_pos h1]; have : l ≤ a := h1; simp [this]
  · rw [if_neg h1]; have : ¬ l ≤ a := h1; simp [this]
theorem in_eq (a l h : Int) : impl_in.f a l h = some (decide (l ≤ a ∧ a ≤ h)) := by
  unfold impl_in.f
  by_cases h1 : l ≤ a
  · rw [if_pos h1]; simp [h1]
  · rw [if_neg h1]; simp [h1]
/-- The digits of a number, as a text. -/
def digs (n : Nat) : ByteArray := ⟨(Lib.decDigits n).toArray⟩
theorem digs_bytes (n : Nat) : (digs n).data.toList = Lib.decDigits n := rfl
theorem digit_one (n : Nat) (h : n < 10) : strOfNums [(wrap64 (48 + (n : Int))) % 256] = ⟨#[UInt8.ofNat (48 + n)]⟩ := by
  rw [w_in (by omega) (by omega)]
  have : (48 + (n : Int)) % 256 = ((48 + n : Nat) : Int) := by omega
  rw [this]
  have h2 : ∀ m : Nat, m < 10 → strOfNums [((48 + m : Nat) : Int)] = ⟨#[UInt8.ofNat (48 + m)]⟩ := by decide
  exact h2 n h
theorem dec_len (n : Nat) : (Lib.decDigits n).length ≤ n + 1 := by
  induction n using Nat.strongRecOn with
  | _ n ih =>
    rw [Lib.decDigits]
    split
    · simp
    · rename_i h
      rw [List.length_append, List.length_singleton]
      have := ih (n / 10) (by omega)
      omega
end Go.Proofs.YtbcehopnkkajgaaDoor.Pure
