/- What the pure statements of this seat share: a number within bounds; a fresh list marked and held. -/
import Derived.Test.YtkhlnhnpaijhjaaDoorAx1
import Derived.Test.YtkhlnhnpaijhjaaDoorAx2
import Derived.Test.YtkhlnhnpaijhjaaDoorAx4
namespace Go.Proofs.YtkhlnhnpaijhjaaDoor.Pure
open Go.RowKit Go.Proofs.YtkhlnhnpaijhjaaDoor.A Go.Proofs.YtkhlnhnpaijhjaaDoorW.PrintWords Go.Proofs.YtkhlnhnpaijhjaaDoorW.PrintLast Go.Proofs.YtkhlnhnpaijhjaaDoorW.PrintMore
set_option linter.unusedVariables false
set_option linter.unusedSimpArgs false

theorem w_in {x : Int} (h0 : -9223372036854775808 ≤ x) (h1 : x ≤ 9223372036854775807) : wrap64 x = x := by unfold wrap64; omega
theorem in_eq (a l h : Int) : impl_in.f a l h = some (decide (l ≤ a ∧ a ≤ h)) := by
  unfold impl_in.f
  by_cases h1 : l ≤ a
  · rw [if_pos h1]; simp [h1]
  · rw [if_neg h1]; simp [h1]
theorem l1_eq (a l h : Int) : spec_l1In.f a l h = some (decide (l ≤ a ∧ a ≤ h)) := by
  unfold spec_l1In.f
  by_cases h1 : a ≥ l
  · rw [if_pos h1]; have : l ≤ a := h1; simp [this]
  · rw [if_neg h1]; have : ¬ l ≤ a := h1; simp [this]

theorem eq_self (l : List Int) (hl : l.length < 1000000000) (d : Nat) : ∀ (k : Nat) (i : Int), 0 ≤ i → i + d = (l.length : Int) → d < k → laws_eqIntS.l0 k l l i = some true := by
  induction d with
  | zero =>
    intro k i h0 h1 hk
    obtain ⟨k, rfl⟩ : ∃ m, k = m + 1 := ⟨k - 1, by omega⟩
    simp only [laws_eqIntS.l0]
    rw [if_neg (by omega)]
  | succ d ih =>
    intro k i h0 h1 hk
    obtain ⟨k, rfl⟩ : ∃ m, k = m + 1 := ⟨k - 1, by omega⟩
    simp only [laws_eqIntS.l0]
    rw [if_pos (by omega), if_pos h0, if_pos (by omega)]
    simp only [if_true]
    have e : wrap64 (i + 1) = i + 1 := by unfold wrap64; omega
    rw [e]
    exact ih k (i + 1) (by omega) (by omega) (by omega)
theorem eq_ok (l : List Int) (hl : l.length < 1000000000) (k : Nat) (hk : l.length < k) : laws_eqIntS.f k l l = some true := by
  unfold laws_eqIntS.f
  rw [if_pos rfl]
  exact eq_self l hl l.length k 0 (by omega) (by omega) hk
theorem mark_ok (n : Nat) (hn : n < 1000000000) (d : Nat) : ∀ (k : Nat) (i : Int) (l : List Int), l.length = n → 0 ≤ i → i + d = n → d < k → (∀ j : Nat, (j : Int) < i → l.getD j 0 = j + 1) →
    ∃ ys, laws_markIntS.l0 k l (i + 1) i = some ((n : Int) + 1, ys) ∧ ys.length = n ∧ ∀ j : Nat, j < n → ys.getD j 0 = (j : Int) + 1 := by
  induction d with
  | zero =>
    intro k i l hl h0 h1 hk hj
    obtain ⟨k, rfl⟩ : ∃ m, k = m + 1 := ⟨k - 1, by omega⟩
    refine ⟨l, ?_, hl, fun j hjn => hj j (by omega)⟩
    simp only [laws_markIntS.l0]
    rw [if_neg (by omega)]
    have : i = n := by omega
    rw [this]
  | succ d ih =>
    intro k i l hl h0 h1 hk hj
    obtain ⟨k, rfl⟩ : ∃ m, k = m + 1 := ⟨k - 1, by omega⟩
    obtain ⟨ys, h, h2, h3⟩ := ih k (i + 1) (l.set i.toNat (i + 1)) (by rw [List.length_set]; exact hl) (by omega) (by omega) (by omega) (by
      intro j hji
      rw [List.getD_eq_getElem?_getD, List.getElem?_set]
      by_cases e : i.toNat = j
      · rw [if_pos e, if_pos (by omega)]
        simp only [Option.getD_some]
        omega
      · rw [if_neg e, ← List.getD_eq_getElem?_getD]
        exact hj j (by omega))
    refine ⟨ys, ?_, h2, h3⟩
    simp only [laws_markIntS.l0]
    rw [if_pos (by omega), if_pos h0]
    have e : wrap64 (i + 1) = i + 1 := by unfold wrap64; omega
    have e2 : wrap64 (i + 1 + 1) = i + 1 + 1 := by unfold wrap64; omega
    rw [e, e2]
    exact h
theorem held_ok (n : Nat) (hn : n < 1000000000) (ys : List Int) (hl : ys.length = n) (hy : ∀ j : Nat, j < n → ys.getD j 0 = (j : Int) + 1) (d : Nat) : ∀ (k : Nat) (i : Int), 0 ≤ i → i + d = n → d < k →
    laws_heldIntS.l0 k ys (i + 1) i = some ((n : Int) + 1) := by
  induction d with
  | zero =>
    intro k i h0 h1 hk
    obtain ⟨k, rfl⟩ : ∃ m, k = m + 1 := ⟨k - 1, by omega⟩
    simp only [laws_heldIntS.l0]
    rw [if_neg (by omega)]
    have : i = n := by omega
    rw [this]
  | succ d ih =>
    intro k i h0 h1 hk
    obtain ⟨k, rfl⟩ : ∃ m, k = m + 1 := ⟨k - 1, by omega⟩
    simp only [laws_heldIntS.l0]
    have hr : rd ys i = i + 1 := by
      unfold rd
      rw [hy i.toNat (by omega)]
      omega
    have e : wrap64 (i + 1) = i + 1 := by unfold wrap64; omega
    have e2 : wrap64 (i + 1 + 1) = i + 1 + 1 := by unfold wrap64; omega
    rw [if_pos (by omega), if_pos h0, if_pos hr, e, e2]
    exact ih k (i + 1) (by omega) (by omega) (by omega)
theorem marks (l : List Int) (hl : l.length < 1000000000) : ∃ ys, ∀ k, l.length < k → laws_markIntS.f k l 1 = some ((l.length : Int) + 1, ys) ∧ laws_heldIntS.f k ys 1 = some ((l.length : Int) + 1) := by
  obtain ⟨ys, h1, h2, h3⟩ := mark_ok l.length hl l.length (l.length + 1) 0 l rfl (by omega) (by omega) (by omega) (fun j hj => by omega)
  refine ⟨ys, fun k hk => ⟨?_, ?_⟩⟩
  · unfold laws_markIntS.f
    exact at_rounds (g := fun k => laws_markIntS.l0 k l 1 0) (fun k => laws_markIntS.mono_l k l 1 0) hk h1
  · unfold laws_heldIntS.f
    exact held_ok l.length hl ys h2 h3 l.length k 0 (by omega) (by omega) hk

end Go.Proofs.YtkhlnhnpaijhjaaDoor.Pure
