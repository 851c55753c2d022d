/- The law FnExactPlacesSearched is true of all lists of lists: both go the same way; no condition. -/
import Derived.Test.YtnfljecjgpblnaaPureFiles
import Derived.Test.YtnfljecjgpblnaaPureMarkSS
import Derived.Test.YtnfljecjgpblnaaWalkFnExactPlacesSearched
namespace Go.Proofs.Ytnfljecjgpblnaa.Pure
open Go.RowKit Go.Proofs.Ytnfljecjgpblnaa.A Go.Proofs.YtnfljecjgpblnaaW.PrintWords Go.Proofs.YtnfljecjgpblnaaW.PrintLast Go.Proofs.YtnfljecjgpblnaaW.PrintMore
set_option linter.unusedVariables false
set_option linter.unusedSimpArgs false
namespace LFnExactPlacesSearched

theorem in_eq (a l h : Int) : impl_in.f a l h = some (decide (l ≤ a ∧ a ≤ h)) := in_is a l h
theorem same : ∀ k : Nat, (∀ a b c d e, impl_PlacesSearched.l0 k a b c d e = spec_PlacesSearched.l0 k a b c d e) ∧ (∀ a b c d e f, impl_PlacesSearched.j2 k a b c d e f = spec_PlacesSearched.j2 k a b c d e f) := by
  intro k
  induction k with
  | zero => exact ⟨fun _ _ _ _ _ => rfl, fun _ _ _ _ _ _ => rfl⟩
  | succ k ih =>
    obtain ⟨h0, h1⟩ := ih
    refine ⟨fun a b c d e => ?_, fun a b c d e f => ?_⟩
    · simp only [impl_PlacesSearched.l0, spec_PlacesSearched.l0, h1]
    · simp only [impl_PlacesSearched.j2, spec_PlacesSearched.j2, h0]
theorem search (L : List (List Int)) (hl : L.length ≤ 8) (m : Nat) (hm : m ≤ 8) (hw : ∀ r ∈ L, r.length = m) (h : Int) (d : Nat) : ∀ (i c : Nat) (out : List (List Int)), i ≤ L.length → c ≤ m → (L.length - i) + c ≤ d → out.length + d ≤ 1000 → (∀ x ∈ out, x.length ≤ 1000) →
    ∃ r : List (List Int) × Bool, (r.1.length ≤ 1000 ∧ ∀ x ∈ r.1, x.length ≤ 1000) ∧ ∀ k, 2 * d + 2 < k → spec_PlacesSearched.l0 k L h out (i : Int) ((c : Int) - 1) = some r := by
  induction d with
  | zero =>
    intro i c out hi hc hd ho hx
    refine ⟨(out, true), ⟨by show out.length ≤ 1000; omega, hx⟩, fun k hk => ?_⟩
    obtain ⟨k, rfl⟩ := fuel1 (show 0 < k by omega)
    simp only [spec_PlacesSearched.l0]
    rw [if_neg (by omega)]
    obtain ⟨k, rfl⟩ := fuel1 (show 0 < k by omega)
    simp only [spec_PlacesSearched.j2]
    rw [if_neg Bool.false_ne_true]
  | succ d ih =>
    intro i c out hi hc hd ho hx
    by_cases hi2 : i < L.length
    · by_cases hc0 : c = 0
      · subst hc0
        refine ⟨(out, true), ⟨by show out.length ≤ 1000; omega, hx⟩, fun k hk => ?_⟩
        obtain ⟨k, rfl⟩ := fuel1 (show 0 < k by omega)
        simp only [spec_PlacesSearched.l0]
        rw [if_pos (by omega), decide_eq_false (by omega)]
        obtain ⟨k, rfl⟩ := fuel1 (show 0 < k by omega)
        simp only [spec_PlacesSearched.j2]
        rw [if_neg Bool.false_ne_true]
      · obtain ⟨c, rfl⟩ : ∃ b, c = b + 1 := ⟨c - 1, by omega⟩
        have hri := hw L[i] (List.getElem_mem hi2)
        have e1 : ((c + 1 : Nat) : Int) - 1 = (c : Int) := by omega
        have hx2 : ∀ x ∈ out ++ [[(i : Int), (c : Int)]], x.length ≤ 1000 := by
          intro x hxx
          rcases List.mem_append.1 hxx with hxx | hxx
          · exact hx x hxx
          · rw [List.mem_singleton.1 hxx]; simp
        have hlen : (out ++ [[(i : Int), (c : Int)]]).length = out.length + 1 := by simp
        rw [e1]
        have step : ∀ k, spec_PlacesSearched.l0 (k + 1 + 1) L h out (i : Int) (c : Int) = (if (rd L[i] (c : Int)) = h then (some (out ++ [[(i : Int), (c : Int)]], true)) else (if (rd L[i] (c : Int)) > h then (spec_PlacesSearched.l0 k L h (out ++ [[(i : Int), (c : Int)]]) (i : Int) ((c : Int) - 1)) else (spec_PlacesSearched.l0 k L h (out ++ [[(i : Int), (c : Int)]]) ((i + 1 : Nat) : Int) (c : Int)))) := by
          intro k
          obtain ⟨K, hK⟩ : ∃ K, K = k + 1 := ⟨_, rfl⟩
          rw [← hK]
          simp only [spec_PlacesSearched.l0]
          rw [if_pos (by omega), decide_eq_true (by omega), hK]
          simp only [spec_PlacesSearched.j2]
          rw [if_pos trivial, if_pos (by omega), Option.bind_some, if_pos (by omega), if_pos (by omega), if_pos (by omega), rl_at L i hi2, if_pos (by omega), w_nat (by omega), w_in (x := (c : Int) - 1) (by omega) (by omega)]
        by_cases q1 : (rd L[i] (c : Int)) = h
        · refine ⟨(out ++ [[(i : Int), (c : Int)]], true), ⟨by show (out ++ [[(i : Int), (c : Int)]]).length ≤ 1000; omega, hx2⟩, fun k hk => ?_⟩
          obtain ⟨k, rfl⟩ : ∃ j, k = j + 1 + 1 := ⟨k - 2, by omega⟩
          rw [step, if_pos q1]
        · by_cases q2 : (rd L[i] (c : Int)) > h
          · obtain ⟨r, hr, hh⟩ := ih i c (out ++ [[(i : Int), (c : Int)]]) hi (by omega) (by omega) (by omega) hx2
            refine ⟨r, hr, fun k hk => ?_⟩
            obtain ⟨k, rfl⟩ : ∃ j, k = j + 1 + 1 := ⟨k - 2, by omega⟩
            rw [step, if_neg q1, if_pos q2]
            exact hh k (by omega)
          · obtain ⟨r, hr, hh⟩ := ih (i + 1) (c + 1) (out ++ [[(i : Int), (c : Int)]]) (by omega) hc (by omega) (by omega) hx2
            refine ⟨r, hr, fun k hk => ?_⟩
            obtain ⟨k, rfl⟩ : ∃ j, k = j + 1 + 1 := ⟨k - 2, by omega⟩
            rw [step, if_neg q1, if_neg q2]
            have := hh k (by omega)
            rwa [e1] at this
    · refine ⟨(out, true), ⟨by show out.length ≤ 1000; omega, hx⟩, fun k hk => ?_⟩
      obtain ⟨k, rfl⟩ := fuel1 (show 0 < k by omega)
      simp only [spec_PlacesSearched.l0]
      rw [if_neg (by omega)]
      obtain ⟨k, rfl⟩ := fuel1 (show 0 < k by omega)
      simp only [spec_PlacesSearched.j2]
      rw [if_neg Bool.false_ne_true]

theorem both (l : List (List Int)) (a : Int) : ∃ K, ∃ r : List (List Int) × Bool, (r.1.length ≤ 1000 ∧ ∀ x ∈ r.1, x.length ≤ 1000) ∧ ∀ k, K ≤ k → spec_PlacesSearched.f k l a = some r ∧ impl_PlacesSearched.f k l a = some r := by
  cases hg : goodB l with
  | false =>
    refine ⟨100, ([], false), ⟨by simp, by simp⟩, fun k hk => ⟨?_, ?_⟩⟩
    · unfold spec_PlacesSearched.f
      rw [good_ok l k (by omega), Option.bind_some, hg, if_neg Bool.false_ne_true]
      obtain ⟨k, rfl⟩ := fuel1 (show 0 < k by omega)
      simp only [spec_PlacesSearched.j0]
      rw [if_pos trivial]
    · unfold impl_PlacesSearched.f
      rw [are_ok, Option.bind_some, hg, if_neg Bool.false_ne_true]
      obtain ⟨k, rfl⟩ := fuel1 (show 0 < k by omega)
      simp only [impl_PlacesSearched.j0]
      rw [if_pos trivial]
  | true =>
    have hf := fi_of l hg
    have hr := hf.rows
    have hc := hf.cols
    have hw := hf.wide
    have ht := turn_fi l _ hf
    have htr := ht.rows
    have htw := ht.wide
    have htl := turn_len l (l.headD []).length
    have hh0 : rd_L1 l 0 = l.headD [] := by
      cases l with
      | nil => rfl
      | cons a b => rfl
    generalize hmm : (l.headD []).length = m at *
    have hcols : ∀ r ∈ l, 1 ≤ r.length ∧ r.length ≤ 8 := fun r h => by rw [hw r h]; exact hc
    have hrows : ∀ r ∈ turnL l m, 1 ≤ r.length ∧ r.length ≤ 8 := fun r h => by rw [htw r h]; exact hr
    have sN : ∀ k, 1 < k → spec_PlacesSearched.j0 k l a true = some ([], false) := by
      intro k hk
      obtain ⟨k, rfl⟩ := fuel1 (show 0 < k by omega)
      simp only [spec_PlacesSearched.j0]
      rw [if_pos trivial]
    have iN : ∀ k, 1 < k → impl_PlacesSearched.j0 k l a true = some ([], false) := by
      intro k hk
      obtain ⟨k, rfl⟩ := fuel1 (show 0 < k by omega)
      simp only [impl_PlacesSearched.j0]
      rw [if_pos trivial]
    by_cases c1 : 0 ≤ a ∧ a ≤ 1000
    · cases c2 : sortedB l with
      | false =>
        refine ⟨10001, ([], false), ⟨by simp, by simp⟩, fun k hk => ⟨?_, ?_⟩⟩
        · unfold spec_PlacesSearched.f spec_fiHeight.f
          rw [good_ok l k (by omega), Option.bind_some, hg, if_pos rfl, l1_eq, Option.bind_some, Option.bind_some, if_pos (decide_eq_true c1), sor_ok l hr.2 hcols k (by omega), Option.bind_some, c2, if_neg Bool.false_ne_true]
          exact sN k (by omega)
        · unfold impl_PlacesSearched.f impl_isSought.f
          rw [are_ok, Option.bind_some, hg, if_pos rfl, in_eq, Option.bind_some, Option.bind_some, if_pos (decide_eq_true c1), rs_ok l hr.2 hcols k (by omega), Option.bind_some, c2, if_neg Bool.false_ne_true]
          exact iN k (by omega)
      | true =>
        cases c3 : sortedB (turnL l m) with
        | false =>
          refine ⟨10001, ([], false), ⟨by simp, by simp⟩, fun k hk => ⟨?_, ?_⟩⟩
          · unfold spec_PlacesSearched.f spec_fiHeight.f
            rw [good_ok l k (by omega), Option.bind_some, hg, if_pos rfl, l1_eq, Option.bind_some, Option.bind_some, if_pos (decide_eq_true c1), sor_ok l hr.2 hcols k (by omega), Option.bind_some, c2, if_pos rfl, turn_ok l m hf k (by omega), Option.bind_some, sor_ok _ htr.2 hrows k (by omega), Option.bind_some, c3]
            exact sN k (by omega)
          · unfold impl_PlacesSearched.f impl_isSought.f
            rw [are_ok, Option.bind_some, hg, if_pos rfl, in_eq, Option.bind_some, Option.bind_some, if_pos (decide_eq_true c1), rs_ok l hr.2 hcols k (by omega), Option.bind_some, c2, if_pos rfl, turn_same_f, turn_ok l m hf k (by omega), Option.bind_some, rs_ok _ htr.2 hrows k (by omega), Option.bind_some, c3]
            exact iN k (by omega)
        | true =>
          obtain ⟨r, hrr, hS⟩ := search l hr.2 m hc.2 hw a (l.length + m) 0 m [] (by omega) (Nat.le_refl _) (by omega) (by simp; omega) (by simp)
          have e0 : wrap64 (((rd_L1 l 0).length : Int) - 1) = (m : Int) - 1 := by rw [hh0, hmm, w_in (by omega) (by omega)]
          refine ⟨10001, r, hrr, fun k hk => ⟨?_, ?_⟩⟩
          · unfold spec_PlacesSearched.f spec_fiHeight.f
            rw [good_ok l k (by omega), Option.bind_some, hg, if_pos rfl, l1_eq, Option.bind_some, Option.bind_some, if_pos (decide_eq_true c1), sor_ok l hr.2 hcols k (by omega), Option.bind_some, c2, if_pos rfl, turn_ok l m hf k (by omega), Option.bind_some, sor_ok _ htr.2 hrows k (by omega), Option.bind_some, c3]
            obtain ⟨k, rfl⟩ := fuel1 (show 0 < k by omega)
            simp only [spec_PlacesSearched.j0]
            rw [if_neg (by decide), if_pos (by omega), e0]
            exact hS k (by omega)
          · unfold impl_PlacesSearched.f impl_isSought.f
            rw [are_ok, Option.bind_some, hg, if_pos rfl, in_eq, Option.bind_some, Option.bind_some, if_pos (decide_eq_true c1), rs_ok l hr.2 hcols k (by omega), Option.bind_some, c2, if_pos rfl, turn_same_f, turn_ok l m hf k (by omega), Option.bind_some, rs_ok _ htr.2 hrows k (by omega), Option.bind_some, c3]
            obtain ⟨k, rfl⟩ := fuel1 (show 0 < k by omega)
            simp only [impl_PlacesSearched.j0]
            rw [if_neg (by decide), if_pos (by omega), e0, (same k).1]
            exact hS k (by omega)
    · refine ⟨10001, ([], false), ⟨by simp, by simp⟩, fun k hk => ⟨?_, ?_⟩⟩
      · unfold spec_PlacesSearched.f spec_fiHeight.f
        rw [good_ok l k (by omega), Option.bind_some, hg, if_pos rfl, l1_eq, Option.bind_some, Option.bind_some, if_neg (by simpa using c1)]
        exact sN k (by omega)
      · unfold impl_PlacesSearched.f impl_isSought.f
        rw [are_ok, Option.bind_some, hg, if_pos rfl, in_eq, Option.bind_some, Option.bind_some, if_neg (by simpa using c1)]
        exact iN k (by omega)

theorem tail (l0 : List (List Int)) (a1 : Int) (hm : ∀ r ∈ l0, r.length ≤ 9223372036854775807) (hl : l0.length ≤ 9223372036854775807)
    (hb : ∃ K, ∃ r : List (List Int) × Bool, (r.1.length ≤ 1000 ∧ ∀ x ∈ r.1, x.length ≤ 1000) ∧ ∀ k, K ≤ k → spec_PlacesSearched.f k l0 a1 = some r ∧ impl_PlacesSearched.f k l0 a1 = some r) :
    ∃ k, true = true ∧ laws_FnExactPlacesSearched.Facts k l0 a1 := by
  obtain ⟨K, r, ⟨hr1, hr2⟩, hK⟩ := hb
  obtain ⟨k, hk, hk2⟩ : ∃ k, K ≤ k ∧ 5000000 ≤ k := ⟨max K 5000000, by omega, by omega⟩
  refine ⟨k, rfl, ?_⟩
  obtain ⟨q, hq, hq2⟩ := sz_ok l0 hm hl k (by omega)
  refine ⟨q, hq, ?_⟩
  by_cases hneg : q < 0
  · exact .inl hneg
  · rcases hq2 with h | ⟨h1, h2⟩
    · exact absurd h hneg
    obtain ⟨m1, m2⟩ := marksSS l0 1048576 (by omega) h1 h2 k (by omega)
    obtain ⟨m3, m4⟩ := marksSS r.1 1000 (by omega) (by omega) hr2 k (by omega)
    exact .inr ⟨hneg, r.1, r.2, _, _, _, _, toSS_ok l0 1048576 (by omega) h1 h2 k (by omega), (hK k hk).1, (hK k hk).2, eqSS_ok r.1 1000 (by omega) (by omega) hr2 k (by omega), eqSS_ok l0 1048576 (by omega) (by omega) h2 k (by omega), m1, m3, m4, by omega, by omega⟩
end LFnExactPlacesSearched
open LFnExactPlacesSearched
theorem FnExactPlacesSearched (l0 : List (List Int)) (a1 : Int) (m0 : l0.length ≤ maxLen) (y0 : l0.length * 24 ≤ 140737488351232) (ok0 : ∀ x ∈ l0, x.length ≤ maxLen ∧ ∀ a ∈ x, (Lit.int .i64 a).wf = true) (w1 : (Lit.int .i64 a1).wf = true) : ∃ k, true = true ∧ laws_FnExactPlacesSearched.Facts k l0 a1 :=
  LFnExactPlacesSearched.tail l0 a1 (fun r hr => by have := (ok0 r hr).1; unfold maxLen at this; omega) (by unfold maxLen at m0; omega) (LFnExactPlacesSearched.both l0 a1)
end Go.Proofs.Ytnfljecjgpblnaa.Pure
