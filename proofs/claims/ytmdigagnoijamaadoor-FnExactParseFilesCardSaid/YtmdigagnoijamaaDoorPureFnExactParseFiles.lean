/- The law FnExactParseFiles is true at all texts: both read one list of files, and it is own memory; no condition. -/
import Derived.Test.YtmdigagnoijamaaDoorAx1
import Derived.Test.YtmdigagnoijamaaDoorAx3
import Derived.Test.YtmdigagnoijamaaDoorAx8
import Derived.Test.YtmdigagnoijamaaDoorPureMarkSS
import Derived.Test.YtmdigagnoijamaaDoorPureParse
import Derived.Test.YtmdigagnoijamaaDoorWalkFnExactParseFiles
namespace Go.Proofs.YtmdigagnoijamaaDoor.Pure
open Go.RowKit Go.Proofs.YtmdigagnoijamaaDoor.A Go.Proofs.YtmdigagnoijamaaDoorW.PrintWords Go.Proofs.YtmdigagnoijamaaDoorW.PrintLast Go.Proofs.YtmdigagnoijamaaDoorW.PrintMore
set_option linter.unusedVariables false
set_option linter.unusedSimpArgs false
theorem FnExactParseFiles (a0 : ByteArray) (w0 : a0.size ≤ 140737488351232) : ∃ k, true = true ∧ laws_FnExactParseFiles.Facts k a0 := by
  refine ⟨10000000000000, rfl, ?_⟩
  by_cases g0 : (a0.size : Int) > 1048576
  · exact .inl g0
  refine .inr ⟨g0, ?_⟩
  obtain ⟨r, ⟨h1, h2⟩, hk⟩ := both_parses a0.data.toList (by have : a0.data.toList.length = a0.size := rfl; omega)
  rw [B_data a0] at hk
  obtain ⟨hs, hi⟩ := hk 10000000000000 (Nat.le_refl _)
  obtain ⟨m3, m4⟩ := marksSS r.1 8 (by omega) (by omega) h2 10000000000000 (by omega)
  exact ⟨r.1, r.2, 0, [], _, _, hs, hi, eqSS_ok r.1 8 (by omega) (by omega) h2 10000000000000 (by omega), m3, m4, by omega, by omega⟩
end Go.Proofs.YtmdigagnoijamaaDoor.Pure
