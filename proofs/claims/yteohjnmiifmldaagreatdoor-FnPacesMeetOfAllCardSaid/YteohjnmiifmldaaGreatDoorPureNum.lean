/- Numbers as digits: the reference's l1Num is the library's digits; no Go and no memory here. -/
import Derived.Test.YteohjnmiifmldaaGreatDoorAx10
import Derived.Test.YteohjnmiifmldaaGreatDoorAx2
import Derived.Test.YteohjnmiifmldaaGreatDoorAx3
import Derived.Test.YteohjnmiifmldaaGreatDoorGivJ
namespace Go.Proofs.YteohjnmiifmldaaGreatDoor.Pure
open Go.RowKit Go.Proofs.YteohjnmiifmldaaGreatDoor.A Go.Proofs.YteohjnmiifmldaaGreatDoorW.PrintWords Go.Proofs.YteohjnmiifmldaaGreatDoorW.PrintLast Go.Proofs.YteohjnmiifmldaaGreatDoorW.PrintMore
set_option linter.unusedVariables false
set_option linter.unusedSimpArgs false

theorem fuel0 {k : Nat} (h : 0 < k) : ∃ m, k = m + 1 := ⟨k - 1, by omega⟩
theorem w_in {x : Int} (h0 : -9223372036854775808 ≤ x) (h1 : x ≤ 9223372036854775807) : wrap64 x = x := by unfold wrap64; omega
theorem w_up {n : Nat} (h : n ≤ 9223372036854775806) : wrap64 ((n : Int) + 1) = ((n + 1 : Nat) : Int) := by unfold wrap64; omega
theorem l1_eq (a l h : Int) : spec_l1In.f a l h = some (decide (l ≤ a ∧ a ≤ h)) := by
  unfold spec_l1In.f
  by_cases h1 : a ≥ l
  · rw [if_pos h1]; have : l ≤ a := h1; simp [this]
  · rw [if_neg h1]; have : ¬ l ≤ a := h1; simp [this]
theorem in_eq (a l h : Int) : impl_in.f a l h = some (decide (l ≤ a ∧ a ≤ h)) := by
  unfold impl_in.f
  by_cases h1 : l ≤ a
  · rw [if_pos h1]; simp [h1]
  · rw [if_neg h1]; simp [h1]
/-- The digits of a number, as a text. -/
def digs (n : Nat) : ByteArray := ⟨(Lib.decDigits n).toArray⟩
theorem digs_bytes (n : Nat) : (digs n).data.toList = Lib.decDigits n := rfl
theorem digit_one (n : Nat) (h : n < 10) : strOfNums [(wrap64 (48 + (n : Int))) % 256] = ⟨#[UInt8.ofNat (48 + n)]⟩ := by
  rw [w_in (by omega) (by omega)]
  have : (48 + (n : Int)) % 256 = ((48 + n : Nat) : Int) := by omega
  rw [this]
  have h2 : ∀ m : Nat, m < 10 → strOfNums [((48 + m : Nat) : Int)] = ⟨#[UInt8.ofNat (48 + m)]⟩ := by decide
  exact h2 n h
theorem dec_len (n : Nat) : (Lib.decDigits n).length ≤ n + 1 := by
  induction n using Nat.strongRecOn with
  | _ n ih =>
    rw [Lib.decDigits]
    split
    · simp
    · rename_i h
      rw [List.length_append, List.length_singleton]
      have := ih (n / 10) (by omega)
      omega
theorem num_ok (d : Nat) : ∀ (n k : Nat), n ≤ d → n ≤ 1000000 → d < k → spec_l1Num.f k (n : Int) = some (digs n) := by
  induction d with
  | zero =>
    intro n k h hn hk
    obtain ⟨k, rfl⟩ := fuel0 (show 0 < k by omega)
    obtain rfl : n = 0 := by omega
    simp only [spec_l1Num.f]
    rw [if_pos (by omega), digit_one 0 (by omega)]
    unfold digs
    rw [Lib.decDigits]
    rfl
  | succ d ih =>
    intro n k h hn hk
    obtain ⟨k, rfl⟩ := fuel0 (show 0 < k by omega)
    simp only [spec_l1Num.f]
    by_cases c : n < 10
    · rw [if_pos (by omega), digit_one n c]
      unfold digs
      rw [Lib.decDigits, dif_pos c]
    · have e1 : wrap64 (Int.tdiv (n : Int) 10) = ((n / 10 : Nat) : Int) := by
        have : Int.tdiv (n : Int) 10 = ((n / 10 : Nat) : Int) := rfl
        rw [this, w_in (by omega) (by omega)]
      have e2 : Int.tmod (n : Int) 10 = ((n % 10 : Nat) : Int) := rfl
      have hl := dec_len (n / 10)
      have hs : (digs (n / 10)).size = (Lib.decDigits (n / 10)).length := rfl
      rw [if_neg (by omega), e1, ih (n / 10) k (by omega) (by omega) (by omega), Option.bind_some, e2, Option.bind_some, digit_one (n % 10) (by omega), if_pos (by
        have : (⟨#[UInt8.ofNat (48 + n % 10)]⟩ : ByteArray).size = 1 := rfl
        omega)]
      congr 1
      apply ByteArray.ext
      apply Array.toList_inj.1
      show ((digs (n / 10)) ++ (⟨#[UInt8.ofNat (48 + n % 10)]⟩ : ByteArray)).data.toList = Lib.decDigits n
      rw [ByteArray.data_append, Array.toList_append, digs_bytes]
      conv => rhs; rw [Lib.decDigits, dif_neg c]
theorem num_at (n k : Nat) (hn : n ≤ 1000000) (hk : n < k) : spec_l1Num.f k (n : Int) = some (digs n) := num_ok n n k (Nat.le_refl _) hn hk
end Go.Proofs.YteohjnmiifmldaaGreatDoor.Pure
