/- Files whose rows or columns are put in order: both ways are one; no Go and no memory here. -/
import Derived.Test.YtohhlkehglahhaaGreatDoorAx1
import Derived.Test.YtohhlkehglahhaaGreatDoorAx13
import Derived.Test.YtohhlkehglahhaaGreatDoorAx2
import Derived.Test.YtohhlkehglahhaaGreatDoorGivC
import Derived.Test.YtohhlkehglahhaaGreatDoorGivS
import Derived.Test.YtohhlkehglahhaaGreatDoorPureFiles
import Derived.Test.YtohhlkehglahhaaGreatDoorPureOrder
namespace Go.Proofs.YtohhlkehglahhaaGreatDoor.Pure
open Go.RowKit Go.Proofs.YtohhlkehglahhaaGreatDoor.A Go.Proofs.YtohhlkehglahhaaGreatDoorW.PrintWords Go.Proofs.YtohhlkehglahhaaGreatDoorW.PrintLast Go.Proofs.YtohhlkehglahhaaGreatDoorW.PrintMore
set_option linter.unusedVariables false
set_option linter.unusedSimpArgs false
theorem sort_ord (l : List Int) : sortL l = ordL l := by
  refine srt_one ?_ (ord_srt l) ((List.mergeSort_perm l _).trans (ord_perm l).symm)
  have := List.pairwise_mergeSort (le := fun x y : Int => decide (x ≤ y)) (fun a b c h1 h2 => by simp only [decide_eq_true_eq] at *; omega) (fun a b => by simp only [Bool.or_eq_true, decide_eq_true_eq]; omega) l
  unfold Srt
  exact this.imp (fun h => by simpa using h)
theorem clone_ok (l : List Int) (h : l.length < 17592186044416) : slices_Clone_int_int.f l = some l := by
  unfold slices_Clone_int_int.f
  rw [if_pos h]
theorem copied_loop (L : List (List Int)) (hl : L.length ≤ 8) (hr : ∀ r ∈ L, r.length ≤ 8) (d : Nat) : ∀ (k i : Nat) (x : List (List Int)), i + d = L.length → x.length ≤ i → d < k → Qg2.l0 k x L (L.length : Int) (i : Int) = some (x ++ L.drop i) := by
  induction d with
  | zero =>
    intro k i x h hx hk
    obtain ⟨k, rfl⟩ := fuel1 (show 0 < k by omega)
    simp only [Qg2.l0]
    rw [if_neg (by omega), List.drop_eq_nil_of_le (by omega), List.append_nil]
  | succ d ih =>
    intro k i x h hx hk
    obtain ⟨k, rfl⟩ := fuel1 (show 0 < k by omega)
    have hi : i < L.length := by omega
    have hri := hr L[i] (List.getElem_mem hi)
    simp only [Qg2.l0]
    rw [if_pos (by omega), if_pos (by omega), if_pos (by omega), rl_at L i hi, clone_ok _ (by omega), Option.bind_some, if_pos (by omega), w_nat (by omega), ih k (i + 1) _ (by omega) (by simp; omega) (by omega), List.drop_eq_getElem_cons hi]
    simp only [List.append_assoc, List.singleton_append]
theorem copied_ok (L : List (List Int)) (hl : L.length ≤ 8) (hr : ∀ r ∈ L, r.length ≤ 8) (k : Nat) (hk : 10 < k) : Qg2.f k L = some L := by
  unfold Qg2.f
  have := copied_loop L hl hr L.length k 0 [] (by omega) (by simp) (by omega)
  simpa using this
def rowsS (l : List (List Int)) : List (List Int) := l.map ordL
theorem frows_loop (L : List (List Int)) (hl : L.length ≤ 8) (hr : ∀ r ∈ L, r.length ≤ 8) (d : Nat) : ∀ (k i : Nat) (x : List (List Int)), i + d = L.length → x.length ≤ i → 2000001 + d < k → Qq1.l0 k x L (L.length : Int) (i : Int) = some (x ++ rowsS (L.drop i)) := by
  induction d with
  | zero =>
    intro k i x h hx hk
    obtain ⟨k, rfl⟩ := fuel1 (show 0 < k by omega)
    simp only [Qq1.l0]
    rw [if_neg (by omega), List.drop_eq_nil_of_le (by omega)]
    simp [rowsS]
  | succ d ih =>
    intro k i x h hx hk
    obtain ⟨k, rfl⟩ := fuel1 (show 0 < k by omega)
    have hi : i < L.length := by omega
    have hri := hr L[i] (List.getElem_mem hi)
    simp only [Qq1.l0]
    rw [if_pos (by omega), if_pos (by omega), if_pos (by omega), rl_at L i hi, ord_ok _ (by omega) k (by omega), Option.bind_some, if_pos (by omega), w_nat (by omega), ih k (i + 1) _ (by omega) (by simp; omega) (by omega), List.drop_eq_getElem_cons hi]
    simp only [rowsS, List.map_cons, List.append_assoc, List.singleton_append]
theorem frows_ok (L : List (List Int)) (hl : L.length ≤ 8) (hr : ∀ r ∈ L, r.length ≤ 8) (k : Nat) (hk : 2000100 < k) : Qq1.f k L = some (rowsS L) := by
  unfold Qq1.f
  have := frows_loop L hl hr L.length k 0 [] (by omega) (by simp) (by omega)
  simpa using this
theorem rows_fi (l : List (List Int)) (m : Nat) (h : Fi l m) : Fi (rowsS l) m := by
  have hw : ∀ r ∈ rowsS l, r.length = m := by
    intro r hr
    obtain ⟨x, hx, rfl⟩ := List.mem_map.1 hr
    rw [ord_len]
    exact h.wide x hx
  have hlen : (rowsS l).length = l.length := by simp [rowsS]
  refine ⟨by rw [hlen]; exact h.rows, h.cols, hw, ?_, ?_⟩
  · intro r hr y hy
    obtain ⟨x, hx, rfl⟩ := List.mem_map.1 hr
    exact h.high x hx y ((ord_perm x).mem_iff.1 hy)
  · have hr := h.rows
    cases l with
    | nil => simp at hr
    | cons a b =>
      have hm : ordL a ∈ rowsS (a :: b) := by simp [rowsS]
      exact ⟨hm, hw _ hm⟩
theorem fi_low {l : List (List Int)} {m : Nat} (h : Fi l m) : ∀ r ∈ l, r.length ≤ 8 := fun r hr => by rw [h.wide r hr]; exact h.cols.2
def colsS (l : List (List Int)) (m : Nat) : List (List Int) := turnL (rowsS (turnL l m)) l.length
theorem cols_fi (l : List (List Int)) (m : Nat) (h : Fi l m) : Fi (colsS l m) m := by
  have h1 := rows_fi _ _ (turn_fi l m h)
  have h2 := turn_fi _ _ h1
  have e : (rowsS (turnL l m)).length = m := by simp [rowsS, turn_len]
  rw [e] at h2
  exact h2
theorem fcols_ok (l : List (List Int)) (m : Nat) (h : Fi l m) (k : Nat) (hk : 2000100 < k) : Qd2.f k l = some (colsS l m) := by
  have h0 := turn_fi l m h
  have h1 := rows_fi _ _ h0
  unfold Qd2.f
  rw [turn_ok l m h k (by omega), Option.bind_some, frows_ok _ h0.rows.2 (fi_low h0) k hk, Option.bind_some, turn_ok _ _ h1 k (by omega), Option.bind_some]
  rfl
end Go.Proofs.YtohhlkehglahhaaGreatDoor.Pure
