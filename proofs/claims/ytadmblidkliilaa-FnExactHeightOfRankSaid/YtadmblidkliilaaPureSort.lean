/- Files whose rows or columns are put in order: both ways are one; no Go and no memory here. -/
import Derived.Test.YtadmblidkliilaaGivC
import Derived.Test.YtadmblidkliilaaGivS
import Derived.Test.YtadmblidkliilaaPureOrder
namespace Go.Proofs.Ytadmblidkliilaa.Pure
open Go.RowKit Go.Proofs.Ytadmblidkliilaa.A Go.Proofs.YtadmblidkliilaaW.PrintWords Go.Proofs.YtadmblidkliilaaW.PrintLast Go.Proofs.YtadmblidkliilaaW.PrintMore
set_option linter.unusedVariables false
set_option linter.unusedSimpArgs false

theorem sort_ord (l : List Int) : sortL l = ordL l := by
  refine srt_one ?_ (ord_srt l) ((List.mergeSort_perm l _).trans (ord_perm l).symm)
  have := List.pairwise_mergeSort (le := fun x y : Int => decide (x ≤ y)) (fun a b c h1 h2 => by simp only [decide_eq_true_eq] at *; omega) (fun a b => by simp only [Bool.or_eq_true, decide_eq_true_eq]; omega) l
  unfold Srt
  exact this.imp (fun h => by simpa using h)
theorem clone_ok (l : List Int) (h : l.length < 17592186044416) : slices_Clone_int_int.f l = some l := by
  unfold slices_Clone_int_int.f
  rw [if_pos h]
theorem sort_ok (l : List Int) (h : l.length < 17592186044416) : slices_Sort_int_int.f l = some (ordL l) := by
  unfold slices_Sort_int_int.f
  rw [if_pos h, sort_ord]
def rowsS (l : List (List Int)) : List (List Int) := l.map ordL
theorem getD_at (pre : List (List Int)) (r : List Int) (rest : List (List Int)) : (pre ++ r :: rest).getD pre.length [] = r := by
  rw [List.getD_eq_getElem?_getD, List.getElem?_append_right (Nat.le_refl _)]
  simp
theorem set_at (pre : List (List Int)) (r z : List Int) (rest : List (List Int)) : (pre ++ r :: rest).set pre.length z = (pre ++ [z]) ++ rest := by
  rw [List.set_append_right _ _ (Nat.le_refl _)]
  simp
theorem rows_fi (l : List (List Int)) (m : Nat) (h : Fi l m) : Fi (rowsS l) m := by
  have hw : ∀ r ∈ rowsS l, r.length = m := by
    intro r hr
    obtain ⟨x, hx, rfl⟩ := List.mem_map.1 hr
    rw [ord_len]
    exact h.wide x hx
  have hlen : (rowsS l).length = l.length := by simp [rowsS]
  refine ⟨by rw [hlen]; exact h.rows, h.cols, hw, ?_, ?_⟩
  · intro r hr y hy
    obtain ⟨x, hx, rfl⟩ := List.mem_map.1 hr
    exact h.high x hx y ((ord_perm x).mem_iff.1 hy)
  · have hr := h.rows
    cases l with
    | nil => simp at hr
    | cons a b =>
      have hm : ordL a ∈ rowsS (a :: b) := by simp [rowsS]
      exact ⟨hm, hw _ hm⟩
theorem fi_low {l : List (List Int)} {m : Nat} (h : Fi l m) : ∀ r ∈ l, r.length ≤ 8 := fun r hr => by rw [h.wide r hr]; exact h.cols.2
def colsS (l : List (List Int)) (m : Nat) : List (List Int) := turnL (rowsS (turnL l m)) l.length
theorem cols_fi (l : List (List Int)) (m : Nat) (h : Fi l m) : Fi (colsS l m) m := by
  have h1 := rows_fi _ _ (turn_fi l m h)
  have h2 := turn_fi _ _ h1
  have e : (rowsS (turnL l m)).length = m := by simp [rowsS, turn_len]
  rw [e] at h2
  exact h2
end Go.Proofs.Ytadmblidkliilaa.Pure
