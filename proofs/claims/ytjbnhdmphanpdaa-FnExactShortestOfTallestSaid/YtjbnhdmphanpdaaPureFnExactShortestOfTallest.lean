/- The law FnExactShortestOfTallest is true of all lists of lists: both are the least of the columns' greatest heights; no condition. -/
import Derived.Test.YtjbnhdmphanpdaaPureFiles
import Derived.Test.YtjbnhdmphanpdaaAx
namespace Go.Proofs.Ytjbnhdmphanpdaa.Pure
open Go.RowKit Go.Proofs.Ytjbnhdmphanpdaa.A Go.Proofs.YtjbnhdmphanpdaaW.PrintWords Go.Proofs.YtjbnhdmphanpdaaW.PrintLast Go.Proofs.YtjbnhdmphanpdaaW.PrintMore
set_option linter.unusedVariables false
set_option linter.unusedSimpArgs false
namespace LFnExactShortestOfTallest
theorem lp (L : List (List Int)) (hl : L.length ≤ 8) (hr : ∀ r ∈ L, 1 ≤ r.length ∧ r.length ≤ 8) (d : Nat) : ∀ (k i : Nat) (b : Int), i + d = L.length → d + 1001 < k → spec_ShortestOfTallest.l0 k b L (L.length : Int) (i : Int) = some (((L.drop i).map mxL).foldl min b, true) := by
  induction d with
  | zero =>
    intro k i b h hk
    obtain ⟨k, rfl⟩ := fuel1 (show 0 < k by omega)
    simp only [spec_ShortestOfTallest.l0]
    rw [if_neg (by omega), List.drop_eq_nil_of_le (by omega)]
    rfl
  | succ d ih =>
    intro k i b h hk
    obtain ⟨k, rfl⟩ := fuel1 (show 0 < k by omega)
    have hi : i < L.length := by omega
    have hri := hr L[i] (List.getElem_mem hi)
    simp only [spec_ShortestOfTallest.l0]
    rw [if_pos (by omega), if_pos (by omega), if_pos (by omega), rl_at L i hi, end_ok _ hri.1 (by omega) k (by omega), Option.bind_some, least_eq, Option.bind_some, w_nat (by omega), ih k (i + 1) _ (by omega) (by omega), List.drop_eq_getElem_cons hi]
    rfl
theorem tail (l0 : List (List Int)) (hm : ∀ r ∈ l0, r.length ≤ 9223372036854775807) (hl : l0.length ≤ 9223372036854775807) (hb : ∃ K r, ∀ k, K ≤ k → spec_ShortestOfTallest.f k l0 = some r ∧ impl_ShortestOfTallest.f k l0 = some r) :
    ∃ k, laws_FnExactShortestOfTallest.f k l0 = some true := by
  obtain ⟨K, r, hK⟩ := hb
  obtain ⟨k, hk, hk2⟩ : ∃ k, K ≤ k ∧ 5000000 ≤ k := ⟨max K 5000000, by omega, by omega⟩
  refine ⟨k + 2, ?_⟩
  unfold laws_FnExactShortestOfTallest.f
  obtain ⟨q, hq, hq2⟩ := sz_ok l0 hm hl (k + 2) (by omega)
  rw [hq, Option.bind_some]
  by_cases hneg : q < 0
  · rw [if_pos hneg]
  · rw [if_neg hneg]
    rcases hq2 with h | ⟨h1, h2⟩
    · exact absurd h hneg
    have T := fun k hk => toSS_ok l0 1048576 (by omega) h1 h2 k hk
    have E := fun k hk => eqSS_ok l0 1048576 (by omega) (by omega) h2 k hk
    rw [T _ (by omega), Option.bind_some, (hK (k + 2) (by omega)).1, Option.bind_some, Option.bind_some, (hK (k + 2) (by omega)).2, Option.bind_some]
    rw [if_pos rfl, show (r.2 != r.2) = false by simp]
    simp only [laws_FnExactShortestOfTallest.j0]
    rw [if_neg Bool.false_ne_true, T _ (by omega), Option.bind_some, E _ (by omega), Option.bind_some, if_pos rfl]

theorem both (l : List (List Int)) : ∃ K r, ∀ k, K ≤ k → spec_ShortestOfTallest.f k l = some r ∧ impl_ShortestOfTallest.f k l = some r := by
  cases hg : goodB l with
  | false =>
    refine ⟨100, (0, false), fun k hk => ⟨?_, ?_⟩⟩
    · unfold spec_ShortestOfTallest.f
      rw [good_ok l k (by omega), Option.bind_some, hg, if_neg Bool.false_ne_true]
    · unfold impl_ShortestOfTallest.f
      rw [are_ok, Option.bind_some, hg, if_neg Bool.false_ne_true]
  | true =>
    have hf := fi_of l hg
    have hr := hf.rows
    have hc := hf.cols
    have hw := hf.wide
    have ht := turn_fi l _ hf
    have htr := ht.rows
    have htw := ht.wide
    generalize (l.headD []).length = m at *
    have hp := ht.high
    have hlen := turn_len l m
    refine ⟨10001, (((turnL l m).map mxL).foldl min 999, true), fun k hk => ⟨?_, ?_⟩⟩
    · unfold spec_ShortestOfTallest.f
      rw [good_ok l k (by omega), Option.bind_some, hg, if_pos rfl, turn_ok l m hf k (by omega), Option.bind_some]
      have := lp (turnL l m) htr.2 (fun r h => by rw [htw r h]; exact hr) (turnL l m).length k 0 999 (by omega) (by omega)
      simpa using this
    · unfold impl_ShortestOfTallest.f
      rw [are_ok, Option.bind_some, hg, if_pos rfl, turn_same_f, turn_ok l m hf k (by omega), Option.bind_some, ofmax_ok _ (by omega) (fun r h => by rw [htw r h]; omega) k (by omega), Option.bind_some, min_ok _ (by simp; omega) (by simp; omega) k (by omega), Option.bind_some]
      congr 2
      generalize turnL l m = L at *
      cases L with
      | nil => simp at htr
      | cons a b =>
        have ha : mxL a ∈ a := mxL_mem a (by rw [htw a (by simp)]; exact hr.1)
        have hb := hp a (by simp) _ ha
        simp only [mnL, List.map_cons, List.headD_cons, List.foldl_cons]
        rw [show min (mxL a) (mxL a) = mxL a by omega, show min 999 (mxL a) = mxL a by omega]
end LFnExactShortestOfTallest
open LFnExactShortestOfTallest
theorem FnExactShortestOfTallest (l0 : List (List Int)) (m0 : l0.length ≤ maxLen) (y0 : l0.length * 24 ≤ 140737488351232) (ok0 : ∀ x ∈ l0, x.length ≤ maxLen ∧ ∀ a ∈ x, (Lit.int .i64 a).wf = true) : ∃ k, laws_FnExactShortestOfTallest.f k l0 = some true :=
  LFnExactShortestOfTallest.tail l0 (fun r hr => by have := (ok0 r hr).1; unfold maxLen at this; omega) (by unfold maxLen at m0; omega) (LFnExactShortestOfTallest.both l0)
end Go.Proofs.Ytjbnhdmphanpdaa.Pure
