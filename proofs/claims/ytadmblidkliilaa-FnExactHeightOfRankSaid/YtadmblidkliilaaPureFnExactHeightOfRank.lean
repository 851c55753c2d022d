/- The law FnExactHeightOfRank is true of all lists of lists: both take the height at a place of all heights in order; no condition. -/
import Derived.Test.YtadmblidkliilaaPureFiles
import Derived.Test.YtadmblidkliilaaPureSort
import Derived.Test.YtadmblidkliilaaAx7
namespace Go.Proofs.Ytadmblidkliilaa.Pure
open Go.RowKit Go.Proofs.Ytadmblidkliilaa.A Go.Proofs.YtadmblidkliilaaW.PrintWords Go.Proofs.YtadmblidkliilaaW.PrintLast Go.Proofs.YtadmblidkliilaaW.PrintMore
set_option linter.unusedVariables false
set_option linter.unusedSimpArgs false
namespace LFnExactHeightOfRank

theorem flat_eq (m : Nat) : ∀ l : List (List Int), (∀ r ∈ l, r.length = m) → (flatL l).length = l.length * m
  | [], _ => by simp [flatL]
  | r :: l, h => by
    simp only [flatL, List.length_append, List.length_cons, Nat.succ_mul]
    rw [flat_eq m l (fun x hx => h x (List.mem_cons_of_mem _ hx)), h r List.mem_cons_self, Nat.add_comm]
theorem tail (l0 : List (List Int)) (a : Int) (hm : ∀ r ∈ l0, r.length ≤ 9223372036854775807) (hl : l0.length ≤ 9223372036854775807) (hb : ∃ K r, ∀ k, K ≤ k → spec_HeightOfRank.f k l0 a = some r ∧ impl_HeightOfRank.f k l0 a = some r) :
    ∃ k, laws_FnExactHeightOfRank.f k l0 a = some true := by
  obtain ⟨K, r, hK⟩ := hb
  obtain ⟨k, hk, hk2⟩ : ∃ k, K ≤ k ∧ 5000000 ≤ k := ⟨max K 5000000, by omega, by omega⟩
  refine ⟨k + 2, ?_⟩
  unfold laws_FnExactHeightOfRank.f
  obtain ⟨q, hq, hq2⟩ := sz_ok l0 hm hl (k + 2) (by omega)
  rw [hq, Option.bind_some]
  by_cases hneg : q < 0
  · rw [if_pos hneg]
  · rw [if_neg hneg]
    rcases hq2 with h | ⟨h1, h2⟩
    · exact absurd h hneg
    have T := fun k hk => toSS_ok l0 1048576 (by omega) h1 h2 k hk
    have E := fun k hk => eqSS_ok l0 1048576 (by omega) (by omega) h2 k hk
    rw [T _ (by omega), Option.bind_some, (hK (k + 2) (by omega)).1, Option.bind_some, Option.bind_some, (hK (k + 2) (by omega)).2, Option.bind_some]
    rw [if_pos rfl, show (r.2 != r.2) = false by simp]
    simp only [laws_FnExactHeightOfRank.j0]
    rw [if_neg Bool.false_ne_true, T _ (by omega), Option.bind_some, E _ (by omega), Option.bind_some, if_pos rfl]

theorem both (l : List (List Int)) (a : Int) : ∃ K r, ∀ k, K ≤ k → spec_HeightOfRank.f k l a = some r ∧ impl_HeightOfRank.f k l a = some r := by
  cases hg : goodB l with
  | false =>
    refine ⟨100, (0, false), fun k hk => ⟨?_, ?_⟩⟩
    · unfold spec_HeightOfRank.f
      rw [good_ok l k (by omega), Option.bind_some, hg, if_neg Bool.false_ne_true]
    · unfold impl_HeightOfRank.f
      rw [are_ok, Option.bind_some, hg, if_neg Bool.false_ne_true]
  | true =>
    have hf := fi_of l hg
    have hr := hf.rows
    have hc := hf.cols
    have hw := hf.wide
    have hh0 : rd_L1 l 0 = l.headD [] := by
      cases l with
      | nil => rfl
      | cons a b => rfl
    generalize hmm : (l.headD []).length = m at *
    have hcols : ∀ r ∈ l, r.length ≤ 8 := fun r h => by rw [hw r h]; exact hc.2
    have hfl := flat_len l 8 hcols
    have hol := ord_len (flatL l)
    have hfe := flat_eq m l hw
    have h64 : l.length * m ≤ 64 := Nat.le_trans (Nat.mul_le_mul hr.2 hc.2) (by omega)
    have hlen : 0 < (l.length : Int) := by omega
    have hb : wrap64 (wrap64 ((l.length : Int) * (m : Int)) - 1) = ((l.length * m : Nat) : Int) - 1 := by
      rw [← Int.natCast_mul, show wrap64 ((l.length * m : Nat) : Int) = ((l.length * m : Nat) : Int) by unfold wrap64; omega]
      unfold wrap64
      omega
    by_cases c1 : 0 ≤ a ∧ a ≤ ((l.length * m : Nat) : Int) - 1
    · have c2 : a < ((ordL (flatL l)).length : Int) := by omega
      refine ⟨3000010, (rd (ordL (flatL l)) a, true), fun k hk => ⟨?_, ?_⟩⟩
      · unfold spec_HeightOfRank.f
        rw [good_ok l k (by omega), Option.bind_some, hg, if_pos rfl, if_pos hlen, hh0, hmm, hb, l1_eq, Option.bind_some, decide_eq_true c1, if_pos rfl, fall_ok l hr.2 hcols k (by omega), Option.bind_some, if_pos c1.1, if_pos c2]
      · unfold impl_HeightOfRank.f
        rw [are_ok, Option.bind_some, hg, if_pos rfl, if_pos hlen, hh0, hmm, hb, in_is, Option.bind_some, decide_eq_true c1, if_pos rfl, cat_ok l hr.2 hcols k (by omega), Option.bind_some]
        unfold slices_Sorted_int.f
        rw [if_pos (by omega), Option.bind_some, sort_ord, if_pos c1.1, if_pos c2]
    · refine ⟨10001, (0, false), fun k hk => ⟨?_, ?_⟩⟩
      · unfold spec_HeightOfRank.f
        rw [good_ok l k (by omega), Option.bind_some, hg, if_pos rfl, if_pos hlen, hh0, hmm, hb, l1_eq, Option.bind_some, decide_eq_false c1, if_neg Bool.false_ne_true]
      · unfold impl_HeightOfRank.f
        rw [are_ok, Option.bind_some, hg, if_pos rfl, if_pos hlen, hh0, hmm, hb, in_is, Option.bind_some, decide_eq_false c1, if_neg Bool.false_ne_true]
end LFnExactHeightOfRank
open LFnExactHeightOfRank
theorem FnExactHeightOfRank (l0 : List (List Int)) (a1 : Int) (m0 : l0.length ≤ maxLen) (y0 : l0.length * 24 ≤ 140737488351232) (ok0 : ∀ x ∈ l0, x.length ≤ maxLen ∧ ∀ a ∈ x, (Lit.int .i64 a).wf = true) (w1 : (Lit.int .i64 a1).wf = true) : ∃ k, laws_FnExactHeightOfRank.f k l0 a1 = some true :=
  LFnExactHeightOfRank.tail l0 a1 (fun r hr => by have := (ok0 r hr).1; unfold maxLen at this; omega) (by unfold maxLen at m0; omega) (LFnExactHeightOfRank.both l0 a1)
end Go.Proofs.Ytadmblidkliilaa.Pure
