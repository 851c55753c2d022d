/- The law FnExactExchangeFiles is true of all lists of lists: both exchange two files; no condition. -/
import Derived.Test.YtadmblidkliilaaPureFiles
import Derived.Test.YtadmblidkliilaaPureMarkSS
import Derived.Test.YtadmblidkliilaaPureSort
import Derived.Test.YtadmblidkliilaaPureOrder
import Derived.Test.YtadmblidkliilaaWalkFnExactExchangeFiles
namespace Go.Proofs.Ytadmblidkliilaa.Pure
open Go.RowKit Go.Proofs.Ytadmblidkliilaa.A Go.Proofs.YtadmblidkliilaaW.PrintWords Go.Proofs.YtadmblidkliilaaW.PrintLast Go.Proofs.YtadmblidkliilaaW.PrintMore
set_option linter.unusedVariables false
set_option linter.unusedSimpArgs false
namespace LFnExactExchangeFiles

def exch (l : List (List Int)) (a b : Nat) : List (List Int) := (l.set a (l.getD b [])).set b (l.getD a [])
theorem exch_len (l : List (List Int)) (a b : Nat) : (exch l a b).length = l.length := by unfold exch; rw [List.length_set, List.length_set]
theorem getD_in (l : List (List Int)) (i : Nat) (h : i < l.length) : l.getD i [] = l[i] := by rw [List.getD_eq_getElem?_getD, List.getElem?_eq_getElem h]; rfl
theorem exch_mem (l : List (List Int)) (a b : Nat) (ha : a < l.length) (hb : b < l.length) : ∀ x ∈ exch l a b, x ∈ l := by
  intro x hx
  unfold exch at hx
  rcases List.mem_or_eq_of_mem_set hx with h | h
  · rcases List.mem_or_eq_of_mem_set h with h | h
    · exact h
    · rw [h, getD_in l b hb]; exact List.getElem_mem _
  · rw [h, getD_in l a ha]; exact List.getElem_mem _
theorem exch_at (l : List (List Int)) (a b i : Nat) (ha : a < l.length) (hb : b < l.length) (hi : i < l.length) (hab : a ≠ b) : (exch l a b)[i]'(by rw [exch_len]; exact hi) = if i = a then l[b] else if i = b then l[a] else l[i] := by
  have e1 := getD_in l a ha
  have e2 := getD_in l b hb
  simp only [exch, List.getElem_set]
  simp only [e1, e2]
  by_cases h1 : i = a
  · subst h1
    rw [if_neg (fun e => hab e.symm), if_pos rfl, if_pos rfl]
  · by_cases h2 : i = b
    · subst h2
      rw [if_pos rfl, if_neg h1, if_pos rfl]
    · rw [if_neg (fun e => h2 e.symm), if_neg (fun e => h1 e.symm), if_neg h1, if_neg h2]
theorem sp_loop (l : List (List Int)) (hl : l.length ≤ 8) (hr : ∀ r ∈ l, r.length ≤ 8) (a b : Nat) (ha : a < l.length) (hb : b < l.length) (hab : a ≠ b) (d : Nat) : ∀ (k i : Nat) (acc : List (List Int)), i + d = l.length → acc = (exch l a b).take i → d < k →
    spec_ExchangeFiles.l0 k l (a : Int) (b : Int) acc (l.length : Int) (i : Int) = some (exch l a b, true) := by
  induction d with
  | zero =>
    intro k i acc h hacc hk
    obtain ⟨k, rfl⟩ := fuel1 (show 0 < k by omega)
    simp only [spec_ExchangeFiles.l0]
    rw [if_neg (by omega), hacc, List.take_of_length_le (by rw [exch_len]; omega)]
  | succ d ih =>
    intro k i acc h hacc hk
    obtain ⟨k, rfl⟩ := fuel1 (show 0 < k by omega)
    have hi : i < l.length := by omega
    have hal : acc.length ≤ 8 := by rw [hacc, List.length_take, exch_len]; omega
    have key : ∀ x, x = (exch l a b)[i]'(by rw [exch_len]; exact hi) → acc ++ [x] = (exch l a b).take (i + 1) := fun x hx => by rw [hx, hacc, List.take_succ_eq_append_getElem (by rw [exch_len]; exact hi)]
    have hra := hr _ (List.getElem_mem ha)
    have hrb := hr _ (List.getElem_mem hb)
    have hri := hr _ (List.getElem_mem hi)
    simp only [spec_ExchangeFiles.l0]
    rw [if_pos (by omega)]
    by_cases h1 : i = a
    · rw [if_pos (by omega), if_pos (by omega), if_pos (by omega), rl_at l b hb, own_ok _ (by omega), Option.bind_some, if_pos (by omega), w_nat (by omega)]
      exact ih k (i + 1) _ (by omega) (key _ (by rw [exch_at l a b i ha hb hi hab, if_pos h1])) (by omega)
    by_cases h2 : i = b
    · rw [if_neg (by omega), if_pos (by omega), if_pos (by omega), if_pos (by omega), rl_at l a ha, own_ok _ (by omega), Option.bind_some, if_pos (by omega), w_nat (by omega)]
      exact ih k (i + 1) _ (by omega) (key _ (by rw [exch_at l a b i ha hb hi hab, if_neg h1, if_pos h2])) (by omega)
    · rw [if_neg (by omega), if_neg (by omega), if_pos (by omega), if_pos (by omega), rl_at l i hi, own_ok _ (by omega), Option.bind_some, if_pos (by omega), w_nat (by omega)]
      exact ih k (i + 1) _ (by omega) (key _ (by rw [exch_at l a b i ha hb hi hab, if_neg h1, if_neg h2])) (by omega)
theorem sp_j (l : List (List Int)) (a b : Int) (k : Nat) (hk : 0 < k) : spec_ExchangeFiles.j0 k l a b true = some ([], false) := by
  obtain ⟨k, rfl⟩ := fuel1 hk
  simp only [spec_ExchangeFiles.j0]
  first | rw [if_pos rfl] | rw [if_pos trivial]
theorem both (l : List (List Int)) (a1 a2 : Int) : ∃ K, ∃ r : List (List Int) × Bool, (r.1.length ≤ 1000 ∧ ∀ x ∈ r.1, x.length ≤ 1000) ∧ ∀ k, K ≤ k → spec_ExchangeFiles.f k l a1 a2 = some r ∧ impl_ExchangeFiles.f k l a1 a2 = some r := by
  by_cases c : okE l a1 a2 = true
  · have c0 := c
    unfold okE at c
    simp only [Bool.and_eq_true, decide_eq_true_eq, Bool.not_eq_true', decide_eq_false_iff_not] at c
    obtain ⟨hg, h1, h2, h3⟩ := c
    have hf := fi_of l hg
    have hr := hf.rows
    have hc := hf.cols
    have hw : ∀ r ∈ l, r.length ≤ 8 := fun r h => by have := hf.wide r h; omega
    obtain ⟨a, rfl⟩ : ∃ n : Nat, a1 = (n : Int) := ⟨a1.toNat, by omega⟩
    obtain ⟨b, rfl⟩ : ∃ n : Nat, a2 = (n : Int) := ⟨a2.toNat, by omega⟩
    have wl : wrap64 ((l.length : Int) - 1) = (l.length : Int) - 1 := w_in (by omega) (by omega)
    have ha : a < l.length := by omega
    have hb : b < l.length := by omega
    have hab : a ≠ b := by omega
    refine ⟨10001, (exch l a b, true), ⟨by show (exch l a b).length ≤ 1000; rw [exch_len]; omega, fun x hx => by have := hw x (exch_mem l a b ha hb x hx); omega⟩, fun k hk => ⟨?_, ?_⟩⟩
    · unfold spec_ExchangeFiles.f
      rw [good_ok l k (by omega), Option.bind_some, hg, if_pos rfl, l1_eq, Option.bind_some, wl, decide_eq_true h1, if_pos rfl, l1_eq, Option.bind_some, decide_eq_true h2, if_pos rfl]
      obtain ⟨k, rfl⟩ := fuel1 (show 0 < k by omega)
      rw [show ((a : Int) == (b : Int)) = false from beq_eq_false_iff_ne.2 h3]
      simp only [spec_ExchangeFiles.j0]
      first | rw [if_neg Bool.false_ne_true] | simp only [Bool.false_eq_true, if_false]
      exact sp_loop l hr.2 hw a b ha hb hab l.length k 0 [] (by omega) (by simp) (by omega)
    · unfold impl_ExchangeFiles.f
      rw [if_pos c0, copied_ok l hr.2 hw k (by omega), Option.bind_some, if_pos rfl]
      rfl
  · refine ⟨10001, ([], false), ⟨by simp, by simp⟩, fun k hk => ⟨?_, ?_⟩⟩
    · unfold spec_ExchangeFiles.f
      rw [good_ok l k (by omega), Option.bind_some]
      by_cases hg : goodB l = true
      · have hr := (fi_of l hg).rows
        have wl : wrap64 ((l.length : Int) - 1) = (l.length : Int) - 1 := w_in (by omega) (by omega)
        rw [if_pos hg, l1_eq, Option.bind_some, wl]
        by_cases h1 : 0 ≤ a1 ∧ a1 ≤ (l.length : Int) - 1
        · rw [decide_eq_true h1, if_pos rfl, l1_eq, Option.bind_some]
          by_cases h2 : 0 ≤ a2 ∧ a2 ≤ (l.length : Int) - 1
          · rw [decide_eq_true h2, if_pos rfl]
            have h3 : a1 = a2 := Decidable.byContradiction fun h3 => c (by unfold okE; rw [hg, decide_eq_true h1, decide_eq_true h2, decide_eq_false h3]; rfl)
            rw [beq_iff_eq.2 h3]
            exact sp_j l a1 a2 k (by omega)
          · rw [decide_eq_false h2, if_neg Bool.false_ne_true]
            exact sp_j l a1 a2 k (by omega)
        · rw [decide_eq_false h1, if_neg Bool.false_ne_true]
          exact sp_j l a1 a2 k (by omega)
      · rw [if_neg hg]
        exact sp_j l a1 a2 k (by omega)
    · unfold impl_ExchangeFiles.f
      rw [if_neg c]

theorem tail (l0 : List (List Int)) (a1 a2 : Int) (hm : ∀ r ∈ l0, r.length ≤ 9223372036854775807) (hl : l0.length ≤ 9223372036854775807)
    (hb : ∃ K, ∃ r : List (List Int) × Bool, (r.1.length ≤ 1000 ∧ ∀ x ∈ r.1, x.length ≤ 1000) ∧ ∀ k, K ≤ k → spec_ExchangeFiles.f k l0 a1 a2 = some r ∧ impl_ExchangeFiles.f k l0 a1 a2 = some r) :
    ∃ k, true = true ∧ laws_FnExactExchangeFiles.Facts k l0 a1 a2 := by
  obtain ⟨K, r, ⟨hr1, hr2⟩, hK⟩ := hb
  obtain ⟨k, hk, hk2⟩ : ∃ k, K ≤ k ∧ 5000000 ≤ k := ⟨max K 5000000, by omega, by omega⟩
  refine ⟨k, rfl, ?_⟩
  obtain ⟨q, hq, hq2⟩ := sz_ok l0 hm hl k (by omega)
  refine ⟨q, hq, ?_⟩
  by_cases hneg : q < 0
  · exact .inl hneg
  · rcases hq2 with h | ⟨h1, h2⟩
    · exact absurd h hneg
    obtain ⟨m1, m2⟩ := marksSS l0 1048576 (by omega) h1 h2 k (by omega)
    obtain ⟨m3, m4⟩ := marksSS r.1 1000 (by omega) (by omega) hr2 k (by omega)
    exact .inr ⟨hneg, r.1, r.2, _, _, _, _, toSS_ok l0 1048576 (by omega) h1 h2 k (by omega), (hK k hk).1, (hK k hk).2, eqSS_ok r.1 1000 (by omega) (by omega) hr2 k (by omega), eqSS_ok l0 1048576 (by omega) (by omega) h2 k (by omega), m1, m3, m4, by omega, by omega⟩
end LFnExactExchangeFiles
open LFnExactExchangeFiles
theorem FnExactExchangeFiles (l0 : List (List Int)) (a1 a2 : Int) (m0 : l0.length ≤ maxLen) (y0 : l0.length * 24 ≤ 140737488351232) (ok0 : ∀ x ∈ l0, x.length ≤ maxLen ∧ ∀ a ∈ x, (Lit.int .i64 a).wf = true) (w1 : (Lit.int .i64 a1).wf = true) (w2 : (Lit.int .i64 a2).wf = true) : ∃ k, true = true ∧ laws_FnExactExchangeFiles.Facts k l0 a1 a2 :=
  LFnExactExchangeFiles.tail l0 a1 a2 (fun r hr => by have := (ok0 r hr).1; unfold maxLen at this; omega) (by unfold maxLen at m0; omega) (LFnExactExchangeFiles.both l0 a1 a2)
end Go.Proofs.Ytadmblidkliilaa.Pure
