/- The law FnExactCountSortedFiles is true of all numbers of rows and columns: both count the same ways; no condition. -/
import Derived.Test.YtadmblidkliilaaAx1
import Derived.Test.YtadmblidkliilaaAx2
import Derived.Test.YtadmblidkliilaaGivB
import Derived.Test.YtadmblidkliilaaPureSyt
namespace Go.Proofs.Ytadmblidkliilaa.Pure
open Go.RowKit Go.Proofs.Ytadmblidkliilaa.A Go.Proofs.Ytadmblidkliilaa.Syt Go.Proofs.YtadmblidkliilaaW.PrintWords Go.Proofs.YtadmblidkliilaaW.PrintLast Go.Proofs.YtadmblidkliilaaW.PrintMore
set_option linter.unusedVariables false
set_option linter.unusedSimpArgs false
namespace LFnExactCountSortedFiles
theorem l1C (a l h : Int) : spec_l1In.f a l h = some (decide (l ≤ a ∧ a ≤ h)) := by
  unfold spec_l1In.f
  by_cases c : l ≤ a
  · rw [if_pos c]; simp [c]
  · rw [if_neg c]; simp [c]
def okAt (r c : Nat) : Bool := match spec_CountSortedFiles.f 500 (r : Int) (c : Int) with
  | some (n, true) => n == ((val r c 0 0 0 0 : Nat) : Int)
  | _ => false
def okAll : Bool := upTo 4 fun r => upTo 5 fun c => (Nat.beq r 0 || Nat.beq c 0) || okAt r c
set_option maxRecDepth 100000 in
theorem okAll_ok : okAll = true := by decide +kernel
theorem spec_at {r c : Nat} (hr : 1 ≤ r ∧ r ≤ 4) (hc : 1 ≤ c ∧ c ≤ 5) : spec_CountSortedFiles.f 500 (r : Int) (c : Int) = some (((val r c 0 0 0 0 : Nat) : Int), true) := by
  have h := upTo_at (upTo_at okAll_ok hr.2) hc.2
  rw [show (Nat.beq r 0 || Nat.beq c 0) = false by
    have h1 : Nat.beq r 0 = false := by cases r with | zero => omega | succ _ => rfl
    have h2 : Nat.beq c 0 = false := by cases c with | zero => omega | succ _ => rfl
    rw [h1, h2]; rfl, Bool.false_or] at h
  unfold okAt at h
  split at h
  · rename_i n e
    rw [e, eq_of_beq h]
  · cases h
theorem spec_no (a0 a1 : Int) (h : ¬ ((1 ≤ a0 ∧ a0 ≤ 4) ∧ (1 ≤ a1 ∧ a1 ≤ 5))) : spec_CountSortedFiles.f 500 a0 a1 = some (0, false) := by
  unfold spec_CountSortedFiles.f
  rw [l1C, Option.bind_some]
  by_cases h1 : 1 ≤ a0 ∧ a0 ≤ 4
  · have h2 : ¬ (1 ≤ a1 ∧ a1 ≤ 5) := fun x => h ⟨h1, x⟩
    rw [decide_eq_true h1, if_pos rfl, l1C, Option.bind_some, decide_eq_false h2]
    simp only [spec_CountSortedFiles.j0]
    rw [if_pos (by decide)]
  · rw [decide_eq_false h1, if_neg (by decide)]
    simp only [spec_CountSortedFiles.j0]
    rw [if_pos (by decide)]
end LFnExactCountSortedFiles
open LFnExactCountSortedFiles
theorem FnExactCountSortedFiles (a0 a1 : Int) (w0 : (Lit.int .i64 a0).wf = true) (w1 : (Lit.int .i64 a1).wf = true) : ∃ k, laws_FnExactCountSortedFiles.f k a0 a1 = some true := by
  refine ⟨500, ?_⟩
  unfold laws_FnExactCountSortedFiles.f
  have hb : spec_CountSortedFiles.f 500 a0 a1 = impl_CountSortedFiles.f a0 a1 := by
    unfold impl_CountSortedFiles.f
    by_cases h : (1 ≤ a0 ∧ a0 ≤ 4) ∧ (1 ≤ a1 ∧ a1 ≤ 5)
    · rw [if_pos h]
      obtain ⟨r, rfl⟩ : ∃ n : Nat, a0 = (n : Int) := ⟨a0.toNat, by omega⟩
      obtain ⟨c, rfl⟩ : ∃ n : Nat, a1 = (n : Int) := ⟨a1.toNat, by omega⟩
      simp only [Int.toNat_natCast]
      exact spec_at (by omega) (by omega)
    · rw [if_neg h]
      exact spec_no a0 a1 h
  rw [hb]
  have : ∃ n b, impl_CountSortedFiles.f a0 a1 = some (n, b) := by
    unfold impl_CountSortedFiles.f
    split <;> exact ⟨_, _, rfl⟩
  obtain ⟨n, b, e⟩ := this
  rw [e, Option.bind_some, Option.bind_some, if_pos rfl, if_neg (by simp)]
end Go.Proofs.Ytadmblidkliilaa.Pure
