/- The law FnExactSortFileRows is true of all lists of lists: both put each row in order; no condition. -/
import Derived.Test.YtfedegnmnfhblaaPureFiles
import Derived.Test.YtfedegnmnfhblaaPureMarkSS
import Derived.Test.YtfedegnmnfhblaaPureSort
import Derived.Test.YtfedegnmnfhblaaWalkFnExactSortFileRows
namespace Go.Proofs.Ytfedegnmnfhblaa.Pure
open Go.RowKit Go.Proofs.Ytfedegnmnfhblaa.A Go.Proofs.YtfedegnmnfhblaaW.PrintWords Go.Proofs.YtfedegnmnfhblaaW.PrintLast Go.Proofs.YtfedegnmnfhblaaW.PrintMore
set_option linter.unusedVariables false
set_option linter.unusedSimpArgs false
namespace LFnExactSortFileRows

theorem both (l : List (List Int)) : ∃ K, ∃ r : List (List Int) × Bool, (r.1.length ≤ 1000 ∧ ∀ x ∈ r.1, x.length ≤ 1000) ∧ ∀ k, K ≤ k → spec_SortFileRows.f k l = some r ∧ impl_SortFileRows.f k l = some r := by
  cases hg : goodB l with
  | false =>
    refine ⟨100, ([], false), ⟨by simp, by simp⟩, fun k hk => ⟨?_, ?_⟩⟩
    · unfold spec_SortFileRows.f
      rw [good_ok l k (by omega), Option.bind_some, hg, if_neg Bool.false_ne_true]
    · unfold impl_SortFileRows.f
      rw [are_ok, Option.bind_some, hg, if_neg Bool.false_ne_true]
  | true =>
    have hf := fi_of l hg
    have hr := hf.rows
    have hc := hf.cols
    have hw := hf.wide
    have ht := turn_fi l _ hf
    have htr := ht.rows
    have htw := ht.wide
    have htl := turn_len l (l.headD []).length
    have hh0 : rd_L1 l 0 = l.headD [] := by
      cases l with
      | nil => rfl
      | cons a b => rfl
    generalize hmm : (l.headD []).length = m at *
    have hL := fi_low hf
    have hF : Fi (rowsS l) m := rows_fi l m hf
    refine ⟨3000000, ((rowsS l), true), ⟨by show ((rowsS l)).length ≤ 1000; have := hF.rows; omega, fun x hx => by have := fi_low hF x hx; omega⟩, fun k hk => ⟨?_, ?_⟩⟩
    · unfold spec_SortFileRows.f
      rw [good_ok l k (by omega), Option.bind_some, hg, if_pos rfl, frows_ok l hr.2 hL k (by omega), Option.bind_some]
    · unfold impl_SortFileRows.f
      rw [are_ok, Option.bind_some, hg, if_pos rfl, srows_ok l hr.2 hL k (by omega), Option.bind_some]

theorem tail (l0 : List (List Int)) (hm : ∀ r ∈ l0, r.length ≤ 9223372036854775807) (hl : l0.length ≤ 9223372036854775807)
    (hb : ∃ K, ∃ r : List (List Int) × Bool, (r.1.length ≤ 1000 ∧ ∀ x ∈ r.1, x.length ≤ 1000) ∧ ∀ k, K ≤ k → spec_SortFileRows.f k l0 = some r ∧ impl_SortFileRows.f k l0 = some r) :
    ∃ k, true = true ∧ laws_FnExactSortFileRows.Facts k l0 := by
  obtain ⟨K, r, ⟨hr1, hr2⟩, hK⟩ := hb
  obtain ⟨k, hk, hk2⟩ : ∃ k, K ≤ k ∧ 5000000 ≤ k := ⟨max K 5000000, by omega, by omega⟩
  refine ⟨k, rfl, ?_⟩
  obtain ⟨q, hq, hq2⟩ := sz_ok l0 hm hl k (by omega)
  refine ⟨q, hq, ?_⟩
  by_cases hneg : q < 0
  · exact .inl hneg
  · rcases hq2 with h | ⟨h1, h2⟩
    · exact absurd h hneg
    obtain ⟨m1, m2⟩ := marksSS l0 1048576 (by omega) h1 h2 k (by omega)
    obtain ⟨m3, m4⟩ := marksSS r.1 1000 (by omega) (by omega) hr2 k (by omega)
    exact .inr ⟨hneg, r.1, r.2, _, _, _, _, toSS_ok l0 1048576 (by omega) h1 h2 k (by omega), (hK k hk).1, (hK k hk).2, eqSS_ok r.1 1000 (by omega) (by omega) hr2 k (by omega), eqSS_ok l0 1048576 (by omega) (by omega) h2 k (by omega), m1, m3, m4, by omega, by omega⟩
end LFnExactSortFileRows
open LFnExactSortFileRows
theorem FnExactSortFileRows (l0 : List (List Int)) (m0 : l0.length ≤ maxLen) (y0 : l0.length * 24 ≤ 140737488351232) (ok0 : ∀ x ∈ l0, x.length ≤ maxLen ∧ ∀ a ∈ x, (Lit.int .i64 a).wf = true) : ∃ k, true = true ∧ laws_FnExactSortFileRows.Facts k l0 :=
  LFnExactSortFileRows.tail l0 (fun r hr => by have := (ok0 r hr).1; unfold maxLen at this; omega) (by unfold maxLen at m0; omega) (LFnExactSortFileRows.both l0)
end Go.Proofs.Ytfedegnmnfhblaa.Pure
