/- Files whose rows or columns are put in order: both ways are one; no Go and no memory here. -/
import Derived.Test.YthekdgadnhkbhaaGreatDoorAx9
import Derived.Test.YthekdgadnhkbhaaGreatDoorGivC
import Derived.Test.YthekdgadnhkbhaaGreatDoorGivS
import Derived.Test.YthekdgadnhkbhaaGreatDoorPureFiles
import Derived.Test.YthekdgadnhkbhaaGreatDoorPureOrder
namespace Go.Proofs.YthekdgadnhkbhaaGreatDoor.Pure
open Go.RowKit Go.Proofs.YthekdgadnhkbhaaGreatDoor.A Go.Proofs.YthekdgadnhkbhaaGreatDoorW.PrintWords Go.Proofs.YthekdgadnhkbhaaGreatDoorW.PrintLast Go.Proofs.YthekdgadnhkbhaaGreatDoorW.PrintMore
set_option linter.unusedVariables false
set_option linter.unusedSimpArgs false

theorem sort_ord (l : List Int) : sortL l = ordL l := by
  refine srt_one ?_ (ord_srt l) ((List.mergeSort_perm l _).trans (ord_perm l).symm)
  have := List.pairwise_mergeSort (le := fun x y : Int => decide (x ≤ y)) (fun a b c h1 h2 => by simp only [decide_eq_true_eq] at *; omega) (fun a b => by simp only [Bool.or_eq_true, decide_eq_true_eq]; omega) l
  unfold Srt
  exact this.imp (fun h => by simpa using h)
theorem clone_ok (l : List Int) (h : l.length < 17592186044416) : slices_Clone_int_int.f l = some l := by
  unfold slices_Clone_int_int.f
  rw [if_pos h]
theorem copied_loop (L : List (List Int)) (hl : L.length ≤ 8) (hr : ∀ r ∈ L, r.length ≤ 8) (d : Nat) : ∀ (k i : Nat) (x : List (List Int)), i + d = L.length → x.length ≤ i → d < k → impl_copied.l0 k x L (L.length : Int) (i : Int) = some (x ++ L.drop i) := by
  induction d with
  | zero =>
    intro k i x h hx hk
    obtain ⟨k, rfl⟩ := fuel1 (show 0 < k by omega)
    simp only [impl_copied.l0]
    rw [if_neg (by omega), List.drop_eq_nil_of_le (by omega), List.append_nil]
  | succ d ih =>
    intro k i x h hx hk
    obtain ⟨k, rfl⟩ := fuel1 (show 0 < k by omega)
    have hi : i < L.length := by omega
    have hri := hr L[i] (List.getElem_mem hi)
    simp only [impl_copied.l0]
    rw [if_pos (by omega), if_pos (by omega), if_pos (by omega), rl_at L i hi, clone_ok _ (by omega), Option.bind_some, if_pos (by omega), w_nat (by omega), ih k (i + 1) _ (by omega) (by simp; omega) (by omega), List.drop_eq_getElem_cons hi]
    simp only [List.append_assoc, List.singleton_append]
theorem copied_ok (L : List (List Int)) (hl : L.length ≤ 8) (hr : ∀ r ∈ L, r.length ≤ 8) (k : Nat) (hk : 10 < k) : impl_copied.f k L = some L := by
  unfold impl_copied.f
  have := copied_loop L hl hr L.length k 0 [] (by omega) (by simp) (by omega)
  simpa using this
end Go.Proofs.YthekdgadnhkbhaaGreatDoor.Pure
