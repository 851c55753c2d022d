/- The law FnExactAreFiles is true of all lists of lists: both are told by one test; no condition. -/
import Derived.Test.YtjbnhdmphanpdaaPureFiles
import Derived.Test.YtjbnhdmphanpdaaAx
namespace Go.Proofs.Ytjbnhdmphanpdaa.Pure
open Go.RowKit Go.Proofs.Ytjbnhdmphanpdaa.A Go.Proofs.YtjbnhdmphanpdaaW.PrintWords Go.Proofs.YtjbnhdmphanpdaaW.PrintLast Go.Proofs.YtjbnhdmphanpdaaW.PrintMore
set_option linter.unusedVariables false
set_option linter.unusedSimpArgs false
namespace LFnExactAreFiles
theorem tail (l0 : List (List Int)) (hm : ∀ r ∈ l0, r.length ≤ 9223372036854775807) (hl : l0.length ≤ 9223372036854775807) (hb : ∃ K r, ∀ k, K ≤ k → spec_AreFiles.f k l0 = some r ∧ impl_AreFiles.f l0 = some r) :
    ∃ k, laws_FnExactAreFiles.f k l0 = some true := by
  obtain ⟨K, r, hK⟩ := hb
  obtain ⟨k, hk, hk2⟩ : ∃ k, K ≤ k ∧ 5000000 ≤ k := ⟨max K 5000000, by omega, by omega⟩
  refine ⟨k + 2, ?_⟩
  unfold laws_FnExactAreFiles.f
  obtain ⟨q, hq, hq2⟩ := sz_ok l0 hm hl (k + 2) (by omega)
  rw [hq, Option.bind_some]
  by_cases hneg : q < 0
  · rw [if_pos hneg]
  · rw [if_neg hneg]
    rcases hq2 with h | ⟨h1, h2⟩
    · exact absurd h hneg
    have T := fun k hk => toSS_ok l0 1048576 (by omega) h1 h2 k hk
    have E := fun k hk => eqSS_ok l0 1048576 (by omega) (by omega) h2 k hk
    rw [T _ (by omega), Option.bind_some, (hK (k + 2) (by omega)).1, Option.bind_some, Option.bind_some, (hK (k + 2) (by omega)).2, Option.bind_some]
    rw [show (r != r) = false by simp, if_neg Bool.false_ne_true, Option.bind_some, E _ (by omega), Option.bind_some, if_pos rfl]

theorem both (l : List (List Int)) : ∃ K r, ∀ k, K ≤ k → spec_AreFiles.f k l = some r ∧ impl_AreFiles.f l = some r := by
  refine ⟨100, goodB l, fun k hk => ⟨?_, ?_⟩⟩
  · unfold spec_AreFiles.f
    rw [good_ok l k (by omega), Option.bind_some]
  · unfold impl_AreFiles.f
    rw [are_ok, Option.bind_some]
end LFnExactAreFiles
open LFnExactAreFiles
theorem FnExactAreFiles (l0 : List (List Int)) (m0 : l0.length ≤ maxLen) (y0 : l0.length * 24 ≤ 140737488351232) (ok0 : ∀ x ∈ l0, x.length ≤ maxLen ∧ ∀ a ∈ x, (Lit.int .i64 a).wf = true) : ∃ k, laws_FnExactAreFiles.f k l0 = some true :=
  LFnExactAreFiles.tail l0 (fun r hr => by have := (ok0 r hr).1; unfold maxLen at this; omega) (by unfold maxLen at m0; omega) (LFnExactAreFiles.both l0)
end Go.Proofs.Ytjbnhdmphanpdaa.Pure
