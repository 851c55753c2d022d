/- The law FnExactRunsTo is true at all texts: the runs of both are one list, and it is own memory; no condition. -/
import Derived.Test.YtfdajhjmgcognaaDoorAx4
import Derived.Test.YtfdajhjmgcognaaDoorAx7
import Derived.Test.YtfdajhjmgcognaaDoorPureMarkSS
import Derived.Test.YtfdajhjmgcognaaDoorPureRuns
import Derived.Test.YtfdajhjmgcognaaDoorWalkFnExactRunsTo
namespace Go.Proofs.YtfdajhjmgcognaaDoor.Pure
open Go.RowKit Go.Proofs.YtfdajhjmgcognaaDoor.A Go.Proofs.YtfdajhjmgcognaaDoorW.PrintWords Go.Proofs.YtfdajhjmgcognaaDoorW.PrintLast Go.Proofs.YtfdajhjmgcognaaDoorW.PrintMore
set_option linter.unusedVariables false
set_option linter.unusedSimpArgs false
theorem eqSS_loop (l : List (List Int)) (hl : l.length ≤ 1000000) (hr : ∀ x ∈ l, x.length ≤ 1000) (d : Nat) : ∀ (k i : Nat), i + d = l.length → d + 1100 < k → laws_eqIntSS.l0 k l l (i : Int) = some true := by
  induction d with
  | zero =>
    intro k i h hk
    obtain ⟨k, rfl⟩ := fuel0 (show 0 < k by omega)
    simp only [laws_eqIntSS.l0]
    rw [if_neg (by omega)]
  | succ d ih =>
    intro k i h hk
    obtain ⟨k, rfl⟩ := fuel0 (show 0 < k by omega)
    have hx : (rd_L2 l (i : Int)).length ≤ 1000 := by
      unfold rd_L2
      rw [Int.toNat_natCast, List.getD_eq_getElem?_getD, List.getElem?_eq_getElem (by omega)]
      exact hr _ (List.getElem_mem _)
    simp only [laws_eqIntSS.l0]
    rw [if_pos (by omega), if_pos (by omega), if_pos (by omega), eq_ok _ (by omega) k (by omega), Option.bind_some, if_pos rfl, w_up (by omega)]
    exact ih k (i + 1) (by omega) (by omega)
theorem eqSS_same (l : List (List Int)) (hl : l.length ≤ 1000000) (hr : ∀ x ∈ l, x.length ≤ 1000) (k : Nat) (hk : l.length + 1100 < k) : laws_eqIntSS.f k l l = some true := by
  unfold laws_eqIntSS.f
  rw [if_pos rfl]
  exact eqSS_loop l hl hr l.length k 0 (by omega) hk
theorem FnExactRunsTo (a0 a1 : ByteArray) (w0 : a0.size ≤ 140737488351232) (w1 : a1.size ≤ 140737488351232) : ∃ k, true = true ∧ laws_FnExactRunsTo.Facts k a0 a1 := by
  refine ⟨10000, rfl, ?_⟩
  by_cases g0 : (a0.size : Int) > 1048576
  · exact .inl g0
  refine .inr ⟨g0, ?_⟩
  by_cases g1 : (a1.size : Int) > 1048576
  · exact .inl g1
  refine .inr ⟨g1, ?_⟩
  have ex : ∃ r : List (List Int) × Bool, (r.1.length ≤ 1000 ∧ ∀ x ∈ r.1, x.length ≤ 1000) ∧ spec_RunsTo.f 10000 a0 a1 = some r ∧ impl_RunsTo.f 10000 a0 a1 = some r := by
    unfold impl_RunsTo.f spec_RunsTo.f
    by_cases h : twoB a0 a1 = true
    · obtain ⟨A, B, rfl, rfl, hA, h1, hB⟩ := two_rows a0 a1 h
      obtain ⟨D, d1, d2, d3⟩ := differ_ok A B hA hB
      refine ⟨(runsUp (enc A) (enc B) B.length, true), ⟨?_, ?_⟩, ?_⟩
      · have := runs_len (enc A) (enc B) B.length
        show (runsUp (enc A) (enc B) B.length).length ≤ 1000
        omega
      · intro x hx
        have := runs_two (enc A) (enc B) B.length x hx
        omega
      · rw [two_ok _ _ 10000 (by omega), areo_ok _ _ (by omega) (by omega), Option.bind_some, Option.bind_some, if_pos h, if_pos h, d3 10000 (by omega), Option.bind_some, parts_ok A B hA hB 10000 (by omega) D d1 d2]
        unfold spec_odRuns.f
        rw [if_pos (plain_ok A B hA hB), enc_size, hA]
        exact ⟨rfl, rfl⟩
    · refine ⟨([], false), ⟨by simp, by simp⟩, ?_⟩
      rw [two_ok a0 a1 10000 (by omega), areo_ok a0 a1 (by omega) (by omega), Option.bind_some, Option.bind_some, if_neg h, if_neg h]
      exact ⟨rfl, rfl⟩
  obtain ⟨r, ⟨hr1, hr2⟩, hs, hi⟩ := ex
  obtain ⟨m3, m4⟩ := marksSS r.1 1000 (by omega) (by omega) hr2 10000 (by omega)
  exact ⟨r.1, r.2, 0, [], _, _, hs, hi, eqSS_same r.1 (by omega) hr2 10000 (by omega), m3, m4, by omega, by omega⟩
end Go.Proofs.YtfdajhjmgcognaaDoor.Pure
