/- The law FnExactAreColumnsSorted is true of all lists of lists: columns are told to be in order from the front and from the end alike; no condition. -/
import Derived.Test.YtjbnhdmphanpdaaPureFiles
import Derived.Test.YtjbnhdmphanpdaaAx
namespace Go.Proofs.Ytjbnhdmphanpdaa.Pure
open Go.RowKit Go.Proofs.Ytjbnhdmphanpdaa.A Go.Proofs.YtjbnhdmphanpdaaW.PrintWords Go.Proofs.YtjbnhdmphanpdaaW.PrintLast Go.Proofs.YtjbnhdmphanpdaaW.PrintMore
set_option linter.unusedVariables false
set_option linter.unusedSimpArgs false
namespace LFnExactAreColumnsSorted
theorem tail (l0 : List (List Int)) (hm : ∀ r ∈ l0, r.length ≤ 9223372036854775807) (hl : l0.length ≤ 9223372036854775807) (hb : ∃ K r, ∀ k, K ≤ k → spec_AreColumnsSorted.f k l0 = some r ∧ impl_AreColumnsSorted.f k l0 = some r) :
    ∃ k, laws_FnExactAreColumnsSorted.f k l0 = some true := by
  obtain ⟨K, r, hK⟩ := hb
  obtain ⟨k, hk, hk2⟩ : ∃ k, K ≤ k ∧ 5000000 ≤ k := ⟨max K 5000000, by omega, by omega⟩
  refine ⟨k + 2, ?_⟩
  unfold laws_FnExactAreColumnsSorted.f
  obtain ⟨q, hq, hq2⟩ := sz_ok l0 hm hl (k + 2) (by omega)
  rw [hq, Option.bind_some]
  by_cases hneg : q < 0
  · rw [if_pos hneg]
  · rw [if_neg hneg]
    rcases hq2 with h | ⟨h1, h2⟩
    · exact absurd h hneg
    have T := fun k hk => toSS_ok l0 1048576 (by omega) h1 h2 k hk
    have E := fun k hk => eqSS_ok l0 1048576 (by omega) (by omega) h2 k hk
    rw [T _ (by omega), Option.bind_some, (hK (k + 2) (by omega)).1, Option.bind_some, Option.bind_some, (hK (k + 2) (by omega)).2, Option.bind_some]
    rw [show (r.1 != r.1) = false by simp, if_neg Bool.false_ne_true, show (r.2 != r.2) = false by simp]
    simp only [laws_FnExactAreColumnsSorted.j0]
    rw [if_neg Bool.false_ne_true, T _ (by omega), Option.bind_some, E _ (by omega), Option.bind_some, if_pos rfl]

theorem both (l : List (List Int)) : ∃ K r, ∀ k, K ≤ k → spec_AreColumnsSorted.f k l = some r ∧ impl_AreColumnsSorted.f k l = some r := by
  cases hg : goodB l with
  | false =>
    refine ⟨100, (false, false), fun k hk => ⟨?_, ?_⟩⟩
    · unfold spec_AreColumnsSorted.f
      rw [good_ok l k (by omega), Option.bind_some, hg, if_neg Bool.false_ne_true]
    · unfold impl_AreColumnsSorted.f
      rw [are_ok, Option.bind_some, hg, if_neg Bool.false_ne_true]
  | true =>
    have hf := fi_of l hg
    have hr := hf.rows
    have hc := hf.cols
    have hw := hf.wide
    have ht := turn_fi l _ hf
    have htr := ht.rows
    have htw := ht.wide
    generalize (l.headD []).length = m at *
    refine ⟨10001, (sortedB (turnL l m), true), fun k hk => ⟨?_, ?_⟩⟩
    · unfold spec_AreColumnsSorted.f
      rw [good_ok l k (by omega), Option.bind_some, hg, if_pos rfl, turn_ok l m hf k (by omega), Option.bind_some, sor_ok _ htr.2 (fun r h => by rw [htw r h]; exact hr) k (by omega), Option.bind_some]
    · unfold impl_AreColumnsSorted.f
      rw [are_ok, Option.bind_some, hg, if_pos rfl, turn_same_f, turn_ok l m hf k (by omega), Option.bind_some, rs_ok _ htr.2 (fun r h => by rw [htw r h]; exact hr) k (by omega), Option.bind_some]
end LFnExactAreColumnsSorted
open LFnExactAreColumnsSorted
theorem FnExactAreColumnsSorted (l0 : List (List Int)) (m0 : l0.length ≤ maxLen) (y0 : l0.length * 24 ≤ 140737488351232) (ok0 : ∀ x ∈ l0, x.length ≤ maxLen ∧ ∀ a ∈ x, (Lit.int .i64 a).wf = true) : ∃ k, laws_FnExactAreColumnsSorted.f k l0 = some true :=
  LFnExactAreColumnsSorted.tail l0 (fun r hr => by have := (ok0 r hr).1; unfold maxLen at this; omega) (by unfold maxLen at m0; omega) (LFnExactAreColumnsSorted.both l0)
end Go.Proofs.Ytjbnhdmphanpdaa.Pure
