/- The law FnExactCountUpTo is true of all lists of lists: both count the same heights, in whatever order; no condition. -/
import Derived.Test.YtnfljecjgpblnaaPureFiles
import Derived.Test.YtnfljecjgpblnaaPureOrder
import Derived.Test.YtnfljecjgpblnaaAx6
namespace Go.Proofs.Ytnfljecjgpblnaa.Pure
open Go.RowKit Go.Proofs.Ytnfljecjgpblnaa.A Go.Proofs.YtnfljecjgpblnaaW.PrintWords Go.Proofs.YtnfljecjgpblnaaW.PrintLast Go.Proofs.YtnfljecjgpblnaaW.PrintMore
set_option linter.unusedVariables false
set_option linter.unusedSimpArgs false
namespace LFnExactCountUpTo

def cntL (a : Int) (l : List Int) : Nat := (l.filter fun h => decide (h ≤ a)).length
theorem same : ∀ k : Nat, ∀ a b c d e, impl_CountUpTo.l0 k a b c d e = spec_CountUpTo.l0 k a b c d e := by
  intro k
  induction k with
  | zero => intros; rfl
  | succ k ih => intro a b c d e; simp only [impl_CountUpTo.l0, spec_CountUpTo.l0, ih]
theorem cnt_loop (a : Int) (L : List Int) (hl : L.length ≤ 1000) (d : Nat) : ∀ (k i q : Nat), i + d = L.length → q ≤ i → d < k → spec_CountUpTo.l0 k a (q : Int) L (L.length : Int) (i : Int) = some (((q + cntL a (L.drop i) : Nat) : Int), true) := by
  induction d with
  | zero =>
    intro k i q h hq hk
    obtain ⟨k, rfl⟩ := fuel1 (show 0 < k by omega)
    simp only [spec_CountUpTo.l0]
    rw [if_neg (by omega), List.drop_eq_nil_of_le (by omega)]
    rfl
  | succ d ih =>
    intro k i q h hq hk
    obtain ⟨k, rfl⟩ := fuel1 (show 0 < k by omega)
    have hi : i < L.length := by omega
    simp only [spec_CountUpTo.l0]
    rw [if_pos (by omega), if_pos (by omega), if_pos (by omega), rd_at L i hi, List.drop_eq_getElem_cons hi]
    unfold cntL
    rw [List.filter_cons]
    by_cases c : L[i] ≤ a
    · rw [if_pos c, decide_eq_true c, if_pos rfl, w_nat (by omega), w_nat (by omega), ih k (i + 1) (q + 1) (by omega) (by omega) (by omega), List.length_cons]
      unfold cntL
      congr 3
      omega
    · rw [if_neg c, decide_eq_false c, if_neg Bool.false_ne_true, w_nat (by omega), ih k (i + 1) q (by omega) (by omega) (by omega)]
      rfl
theorem cnt_perm (a : Int) (l : List Int) : cntL a (ordL l) = cntL a l := ((ord_perm l).filter _).length_eq
theorem tail (l0 : List (List Int)) (a : Int) (hm : ∀ r ∈ l0, r.length ≤ 9223372036854775807) (hl : l0.length ≤ 9223372036854775807) (hb : ∃ K r, ∀ k, K ≤ k → spec_CountUpTo.f k l0 a = some r ∧ impl_CountUpTo.f k l0 a = some r) :
    ∃ k, laws_FnExactCountUpTo.f k l0 a = some true := by
  obtain ⟨K, r, hK⟩ := hb
  obtain ⟨k, hk, hk2⟩ : ∃ k, K ≤ k ∧ 5000000 ≤ k := ⟨max K 5000000, by omega, by omega⟩
  refine ⟨k + 2, ?_⟩
  unfold laws_FnExactCountUpTo.f
  obtain ⟨q, hq, hq2⟩ := sz_ok l0 hm hl (k + 2) (by omega)
  rw [hq, Option.bind_some]
  by_cases hneg : q < 0
  · rw [if_pos hneg]
  · rw [if_neg hneg]
    rcases hq2 with h | ⟨h1, h2⟩
    · exact absurd h hneg
    have T := fun k hk => toSS_ok l0 1048576 (by omega) h1 h2 k hk
    have E := fun k hk => eqSS_ok l0 1048576 (by omega) (by omega) h2 k hk
    rw [T _ (by omega), Option.bind_some, (hK (k + 2) (by omega)).1, Option.bind_some, Option.bind_some, (hK (k + 2) (by omega)).2, Option.bind_some]
    rw [if_pos rfl, show (r.2 != r.2) = false by simp]
    simp only [laws_FnExactCountUpTo.j0]
    rw [if_neg Bool.false_ne_true, T _ (by omega), Option.bind_some, E _ (by omega), Option.bind_some, if_pos rfl]

theorem both (l : List (List Int)) (a : Int) : ∃ K r, ∀ k, K ≤ k → spec_CountUpTo.f k l a = some r ∧ impl_CountUpTo.f k l a = some r := by
  cases hg : goodB l with
  | false =>
    refine ⟨100, (0, false), fun k hk => ⟨?_, ?_⟩⟩
    · unfold spec_CountUpTo.f
      rw [good_ok l k (by omega), Option.bind_some, hg, if_neg Bool.false_ne_true]
      obtain ⟨k, rfl⟩ := fuel1 (show 0 < k by omega)
      simp only [spec_CountUpTo.j0]
      rw [if_pos trivial]
    · unfold impl_CountUpTo.f
      rw [are_ok, Option.bind_some, hg, if_neg Bool.false_ne_true]
      obtain ⟨k, rfl⟩ := fuel1 (show 0 < k by omega)
      simp only [impl_CountUpTo.j0]
      rw [if_pos trivial]
  | true =>
    have hf := fi_of l hg
    have hr := hf.rows
    have hc := hf.cols
    have hw := hf.wide
    have hh0 : rd_L1 l 0 = l.headD [] := by
      cases l with
      | nil => rfl
      | cons a b => rfl
    generalize hmm : (l.headD []).length = m at *
    have hcols : ∀ r ∈ l, r.length ≤ 8 := fun r h => by rw [hw r h]; exact hc.2
    have hfl := flat_len l 8 hcols
    have hol := ord_len (flatL l)
    by_cases c1 : 0 ≤ a ∧ a ≤ 1000
    · refine ⟨3000010, ((cntL a (flatL l) : Int), true), fun k hk => ⟨?_, ?_⟩⟩
      · unfold spec_CountUpTo.f spec_fiHeight.f
        rw [good_ok l k (by omega), Option.bind_some, hg, if_pos rfl, l1_eq, Option.bind_some, Option.bind_some, decide_eq_true c1]
        obtain ⟨k, rfl⟩ := fuel1 (show 0 < k by omega)
        simp only [spec_CountUpTo.j0]
        rw [if_neg (by decide), fall_ok l hr.2 hcols k (by omega), Option.bind_some]
        have := cnt_loop a (ordL (flatL l)) (by omega) (ordL (flatL l)).length k 0 0 (by omega) (by omega) (by omega)
        rw [List.drop_zero, Nat.zero_add, cnt_perm] at this
        exact this
      · unfold impl_CountUpTo.f impl_isSought.f
        rw [are_ok, Option.bind_some, hg, if_pos rfl, in_is, Option.bind_some, Option.bind_some, decide_eq_true c1]
        obtain ⟨k, rfl⟩ := fuel1 (show 0 < k by omega)
        simp only [impl_CountUpTo.j0]
        rw [if_neg (by decide), cat_ok l hr.2 hcols k (by omega), Option.bind_some, same]
        have := cnt_loop a (flatL l) (by omega) (flatL l).length k 0 0 (by omega) (by omega) (by omega)
        rw [List.drop_zero, Nat.zero_add] at this
        exact this
    · refine ⟨10001, (0, false), fun k hk => ⟨?_, ?_⟩⟩
      · unfold spec_CountUpTo.f spec_fiHeight.f
        rw [good_ok l k (by omega), Option.bind_some, hg, if_pos rfl, l1_eq, Option.bind_some, Option.bind_some, decide_eq_false c1]
        obtain ⟨k, rfl⟩ := fuel1 (show 0 < k by omega)
        simp only [spec_CountUpTo.j0]
        rw [if_pos (by decide)]
      · unfold impl_CountUpTo.f impl_isSought.f
        rw [are_ok, Option.bind_some, hg, if_pos rfl, in_is, Option.bind_some, Option.bind_some, decide_eq_false c1]
        obtain ⟨k, rfl⟩ := fuel1 (show 0 < k by omega)
        simp only [impl_CountUpTo.j0]
        rw [if_pos (by decide)]
end LFnExactCountUpTo
open LFnExactCountUpTo
theorem FnExactCountUpTo (l0 : List (List Int)) (a1 : Int) (m0 : l0.length ≤ maxLen) (y0 : l0.length * 24 ≤ 140737488351232) (ok0 : ∀ x ∈ l0, x.length ≤ maxLen ∧ ∀ a ∈ x, (Lit.int .i64 a).wf = true) (w1 : (Lit.int .i64 a1).wf = true) : ∃ k, laws_FnExactCountUpTo.f k l0 a1 = some true :=
  LFnExactCountUpTo.tail l0 a1 (fun r hr => by have := (ok0 r hr).1; unfold maxLen at this; omega) (by unfold maxLen at m0; omega) (LFnExactCountUpTo.both l0 a1)
end Go.Proofs.Ytnfljecjgpblnaa.Pure
