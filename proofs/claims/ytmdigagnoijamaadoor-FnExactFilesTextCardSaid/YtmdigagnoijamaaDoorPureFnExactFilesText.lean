/- The law FnExactFilesText is true at all lists: both write one text; no condition. -/
import Derived.Test.YtmdigagnoijamaaDoorAx1
import Derived.Test.YtmdigagnoijamaaDoorAx3
import Derived.Test.YtmdigagnoijamaaDoorAx6
import Derived.Test.YtmdigagnoijamaaDoorPureFText
namespace Go.Proofs.YtmdigagnoijamaaDoor.Pure
open Go.RowKit Go.Proofs.YtmdigagnoijamaaDoor.A Go.Proofs.YtmdigagnoijamaaDoorW.PrintWords Go.Proofs.YtmdigagnoijamaaDoorW.PrintLast Go.Proofs.YtmdigagnoijamaaDoorW.PrintMore
set_option linter.unusedVariables false
set_option linter.unusedSimpArgs false
theorem FnExactFilesText (l0 : List (List Int)) (m0 : l0.length ≤ maxLen) (y0 : l0.length * 24 ≤ 140737488351232) (ok0 : ∀ x ∈ l0, x.length ≤ maxLen ∧ ∀ a ∈ x, (Lit.int .i64 a).wf = true) : ∃ k, laws_FnExactFilesText.f k l0 = some true := by
  refine ⟨5000000, ?_⟩
  unfold laws_FnExactFilesText.f
  obtain ⟨q, hq, hq2⟩ := sz_ok l0 (fun r hr => by have := (ok0 r hr).1; unfold maxLen at this; omega) (by unfold maxLen at m0; omega) 5000000 (by omega)
  rw [hq, Option.bind_some]
  by_cases hneg : q < 0
  · rw [if_pos hneg]
  rw [if_neg hneg]
  rcases hq2 with h | ⟨h1, h2⟩
  · exact absurd h hneg
  obtain ⟨r, hr⟩ := both_ftexts l0
  rw [toSS_ok l0 1048576 (by omega) h1 h2 5000000 (by omega), Option.bind_some, (hr 5000000 (by omega)).2, Option.bind_some, Option.bind_some, (hr 5000000 (by omega)).1, Option.bind_some, if_pos rfl, bne_self_eq_false]
  simp only [laws_FnExactFilesText.j0]
  rw [if_neg Bool.false_ne_true, toSS_ok l0 1048576 (by omega) h1 h2 4999999 (by omega), Option.bind_some, eqSS_ok l0 1048576 (by omega) (by omega) h2 4999999 (by omega), Option.bind_some, if_pos rfl]
end Go.Proofs.YtmdigagnoijamaaDoor.Pure
