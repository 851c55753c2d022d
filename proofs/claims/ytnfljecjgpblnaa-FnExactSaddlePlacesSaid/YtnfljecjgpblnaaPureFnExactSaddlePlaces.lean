/- The law FnExactSaddlePlaces is true of all lists of lists: both ask of each place whether its height is the least of its row and the greatest of its column; no condition. -/
import Derived.Test.YtnfljecjgpblnaaPureFiles
import Derived.Test.YtnfljecjgpblnaaPureMarkSS
import Derived.Test.YtnfljecjgpblnaaWalkFnExactSaddlePlaces
namespace Go.Proofs.Ytnfljecjgpblnaa.Pure
open Go.RowKit Go.Proofs.Ytnfljecjgpblnaa.A Go.Proofs.YtnfljecjgpblnaaW.PrintWords Go.Proofs.YtnfljecjgpblnaaW.PrintLast Go.Proofs.YtnfljecjgpblnaaW.PrintMore
set_option linter.unusedVariables false
set_option linter.unusedSimpArgs false
namespace LFnExactSaddlePlaces

/-- What a row's places give. -/
def cells (row : List Int) (mn : Int) (T : List (List Int)) (i : Int) : Nat → Nat → List (List Int) → List (List Int)
  | 0, _, out => out
  | d + 1, c, out => cells row mn T i d (c + 1) (if rd row (c : Int) = mn ∧ rd row (c : Int) = mxL (rd_L1 T (c : Int)) then out ++ [[i, (c : Int)]] else out)
theorem cells_ok (row : List Int) (mn : Int) (T : List (List Int)) (i : Int) (d : Nat) : ∀ (c : Nat) (out : List (List Int)), (∀ x ∈ out, x.length ≤ 1000) → (cells row mn T i d c out).length ≤ out.length + d ∧ ∀ x ∈ cells row mn T i d c out, x.length ≤ 1000 := by
  induction d with
  | zero => intro c out hx; exact ⟨Nat.le_refl _, hx⟩
  | succ d ih =>
    intro c out hx
    show (cells row mn T i d (c + 1) _).length ≤ _ ∧ ∀ x ∈ cells row mn T i d (c + 1) _, _
    by_cases h : rd row (c : Int) = mn ∧ rd row (c : Int) = mxL (rd_L1 T (c : Int))
    · rw [if_pos h]
      obtain ⟨h1, h2⟩ := ih (c + 1) (out ++ [[i, (c : Int)]]) (by
        intro x hxx
        rcases List.mem_append.1 hxx with hxx | hxx
        · exact hx x hxx
        · rw [List.mem_singleton.1 hxx]; simp)
      refine ⟨?_, h2⟩
      simp only [List.length_append, List.length_singleton] at h1
      omega
    · rw [if_neg h]
      obtain ⟨h1, h2⟩ := ih (c + 1) out hx
      exact ⟨by omega, h2⟩
theorem s_in (L T : List (List Int)) (row : List Int) (hr : row.length ≤ 8) (hT : T.length = row.length) (hTr : ∀ r ∈ T, 1 ≤ r.length ∧ r.length ≤ 8) (mn i n : Int) (d : Nat) : ∀ (k c : Nat) (out : List (List Int)), 1001 < k → c + d = row.length → out.length + d ≤ 1000 →
    spec_SaddlePlaces.l1 (k + d + 1) T out i mn L n i row (row.length : Int) (c : Int) = spec_SaddlePlaces.l0 k T (cells row mn T i d c out) L n (wrap64 (i + 1)) := by
  induction d with
  | zero =>
    intro k c out hk h ho
    simp only [spec_SaddlePlaces.l1]
    rw [if_neg (by omega)]
    rfl
  | succ d ih =>
    intro k c out hk h ho
    obtain ⟨K, hK⟩ : ∃ K, K = k + d + 1 := ⟨_, rfl⟩
    rw [show k + (d + 1) + 1 = K + 1 by omega]
    have hc : c < T.length := by omega
    have hTc := hTr T[c] (List.getElem_mem hc)
    simp only [spec_SaddlePlaces.l1]
    rw [if_pos (by omega), if_pos (by omega), if_pos (by omega), if_pos (by omega), rl_at T c hc, end_ok _ hTc.1 (by omega) K (by omega), Option.bind_some, w_nat (by omega)]
    simp only [cells]
    rw [rl_at T c hc]
    by_cases q1 : rd row (c : Int) = mn
    · rw [if_pos q1]
      by_cases q2 : rd row (c : Int) = mxL T[c]
      · rw [if_pos q2, if_pos (by omega), if_pos ⟨q1, q2⟩, hK, ih k (c + 1) _ hk (by omega) (by simp; omega)]
      · rw [if_neg q2, if_neg (fun q => q2 q.2), hK, ih k (c + 1) _ hk (by omega) (by omega)]
    · rw [if_neg q1, if_neg (fun q => q1 q.1), hK, ih k (c + 1) _ hk (by omega) (by omega)]
theorem i_in (L T : List (List Int)) (row : List Int) (hr : row.length ≤ 8) (hT : T.length = row.length) (mns : List Int) (i : Nat) (hi : i < mns.length) (n : Int) (d : Nat) : ∀ (k c : Nat) (out : List (List Int)), c + d = row.length → out.length + d ≤ 1000 →
    impl_SaddlePlaces.l1 (k + d + 1) out mns (T.map mxL) (i : Int) L n (i : Int) row (row.length : Int) (c : Int) = impl_SaddlePlaces.l0 k (cells row (rd mns (i : Int)) T (i : Int) d c out) mns (T.map mxL) L n (wrap64 ((i : Int) + 1)) := by
  induction d with
  | zero =>
    intro k c out h ho
    simp only [impl_SaddlePlaces.l1]
    rw [if_neg (by omega)]
    rfl
  | succ d ih =>
    intro k c out h ho
    obtain ⟨K, hK⟩ : ∃ K, K = k + d + 1 := ⟨_, rfl⟩
    rw [show k + (d + 1) + 1 = K + 1 by omega]
    have hc : c < T.length := by omega
    have hm : rd (T.map mxL) (c : Int) = mxL T[c] := by rw [rd_at _ c (by simpa using hc)]; simp
    simp only [impl_SaddlePlaces.l1]
    rw [if_pos (by omega), if_pos (by omega), if_pos (by omega), if_pos (by omega), if_pos (by omega), w_nat (n := c) (by omega), if_pos (show (c : Int) < ((T.map mxL).length : Int) by simp; omega), hm]
    simp only [cells]
    rw [rl_at T c hc]
    by_cases q1 : rd row (c : Int) = rd mns (i : Int)
    · rw [if_pos q1]
      by_cases q2 : rd row (c : Int) = mxL T[c]
      · rw [if_pos q2, if_pos (by omega), if_pos ⟨q1, q2⟩, hK, ih k (c + 1) _ (by omega) (by simp; omega)]
      · rw [if_neg q2, if_neg (fun q => q2 q.2), hK, ih k (c + 1) _ (by omega) (by omega)]
    · rw [if_neg q1, if_neg (fun q => q1 q.1), hK, ih k (c + 1) _ (by omega) (by omega)]
theorem out_ok (L T : List (List Int)) (m : Nat) (hm : 1 ≤ m ∧ m ≤ 8) (hl : L.length ≤ 8) (hw : ∀ r ∈ L, r.length = m) (hT : T.length = m) (hTr : ∀ r ∈ T, 1 ≤ r.length ∧ r.length ≤ 8) (d : Nat) : ∀ (i : Nat) (out : List (List Int)), i + d = L.length → out.length ≤ 8 * i → (∀ x ∈ out, x.length ≤ 1000) →
    ∃ r : List (List Int) × Bool, (r.1.length ≤ 1000 ∧ ∀ x ∈ r.1, x.length ≤ 1000) ∧ ∀ k, 1100 + 20 * d < k → spec_SaddlePlaces.l0 k T out L (L.length : Int) (i : Int) = some r ∧ impl_SaddlePlaces.l0 k out (L.map mnL) (T.map mxL) L (L.length : Int) (i : Int) = some r := by
  induction d with
  | zero =>
    intro i out h ho hx
    refine ⟨(out, true), ⟨by show out.length ≤ 1000; omega, hx⟩, fun k hk => ?_⟩
    obtain ⟨k, rfl⟩ := fuel1 (show 0 < k by omega)
    simp only [spec_SaddlePlaces.l0, impl_SaddlePlaces.l0]
    rw [if_neg (by omega), if_neg (by omega)]
    exact ⟨rfl, rfl⟩
  | succ d ih =>
    intro i out h ho hx
    have hi : i < L.length := by omega
    have hri := hw L[i] (List.getElem_mem hi)
    have hmn : rd (L.map mnL) (i : Int) = mnL L[i] := by rw [rd_at _ i (by simpa using hi)]; simp
    obtain ⟨c1, c2⟩ := cells_ok L[i] (mnL L[i]) T (i : Int) m 0 out hx
    obtain ⟨r, hr, hh⟩ := ih (i + 1) (cells L[i] (mnL L[i]) T (i : Int) m 0 out) (by omega) (by omega) c2
    refine ⟨r, hr, fun k hk => ?_⟩
    obtain ⟨k, rfl⟩ : ∃ j, k = j + m + 1 + 1 := ⟨k - m - 2, by omega⟩
    obtain ⟨h1, h2⟩ := hh k (by omega)
    obtain ⟨K, hK⟩ : ∃ K, K = k + m + 1 := ⟨_, rfl⟩
    have s1 := s_in L T L[i] (by omega) (by omega) hTr (mnL L[i]) (i : Int) (L.length : Int) m k 0 out (by omega) (by omega) (by omega)
    have s2 := i_in L T L[i] (by omega) (by omega) (L.map mnL) i (by simpa using hi) (L.length : Int) m k 0 out (by omega) (by omega)
    have c0 : ((0 : Nat) : Int) = 0 := rfl
    rw [c0, w_nat (by omega), ← hK] at s1 s2
    rw [hmn] at s2
    rw [← hK]
    simp only [spec_SaddlePlaces.l0, impl_SaddlePlaces.l0]
    rw [if_pos (by omega), if_pos (by omega), if_pos (by omega), if_pos (by omega), if_pos (by omega), if_pos (by omega), rl_at L i hi, end_ok _ (by omega) (by omega) K (by omega), Option.bind_some, s1, s2]
    exact ⟨h1, h2⟩

theorem both (l : List (List Int)) : ∃ K, ∃ r : List (List Int) × Bool, (r.1.length ≤ 1000 ∧ ∀ x ∈ r.1, x.length ≤ 1000) ∧ ∀ k, K ≤ k → spec_SaddlePlaces.f k l = some r ∧ impl_SaddlePlaces.f k l = some r := by
  cases hg : goodB l with
  | false =>
    refine ⟨100, ([], false), ⟨by simp, by simp⟩, fun k hk => ⟨?_, ?_⟩⟩
    · unfold spec_SaddlePlaces.f
      rw [good_ok l k (by omega), Option.bind_some, hg, if_neg Bool.false_ne_true]
    · unfold impl_SaddlePlaces.f
      rw [are_ok, Option.bind_some, hg, if_neg Bool.false_ne_true]
  | true =>
    have hf := fi_of l hg
    have hr := hf.rows
    have hc := hf.cols
    have hw := hf.wide
    have ht := turn_fi l _ hf
    have htr := ht.rows
    have htw := ht.wide
    have htl := turn_len l (l.headD []).length
    have hh0 : rd_L1 l 0 = l.headD [] := by
      cases l with
      | nil => rfl
      | cons a b => rfl
    generalize hmm : (l.headD []).length = m at *
    have hcols : ∀ r ∈ l, 1 ≤ r.length ∧ r.length ≤ 8 := fun r h => by rw [hw r h]; exact hc
    have hrows : ∀ r ∈ turnL l m, 1 ≤ r.length ∧ r.length ≤ 8 := fun r h => by rw [htw r h]; exact hr
    obtain ⟨r, hrr, hS⟩ := out_ok l (turnL l m) m hc hr.2 hw (turn_len l m) hrows l.length 0 [] (by omega) (by simp) (by simp)
    refine ⟨10001, r, hrr, fun k hk => ⟨?_, ?_⟩⟩
    · unfold spec_SaddlePlaces.f
      rw [good_ok l k (by omega), Option.bind_some, hg, if_pos rfl, turn_ok l m hf k (by omega), Option.bind_some]
      exact (hS k (by omega)).1
    · unfold impl_SaddlePlaces.f
      rw [are_ok, Option.bind_some, hg, if_pos rfl, ofmin_ok l (by omega) (fun r h => by rw [hw r h]; omega) k (by omega), Option.bind_some, turn_same_f, turn_ok l m hf k (by omega), Option.bind_some, ofmax_ok _ (by omega) (fun r h => by rw [htw r h]; omega) k (by omega), Option.bind_some]
      exact (hS k (by omega)).2

theorem tail (l0 : List (List Int)) (hm : ∀ r ∈ l0, r.length ≤ 9223372036854775807) (hl : l0.length ≤ 9223372036854775807)
    (hb : ∃ K, ∃ r : List (List Int) × Bool, (r.1.length ≤ 1000 ∧ ∀ x ∈ r.1, x.length ≤ 1000) ∧ ∀ k, K ≤ k → spec_SaddlePlaces.f k l0 = some r ∧ impl_SaddlePlaces.f k l0 = some r) :
    ∃ k, true = true ∧ laws_FnExactSaddlePlaces.Facts k l0 := by
  obtain ⟨K, r, ⟨hr1, hr2⟩, hK⟩ := hb
  obtain ⟨k, hk, hk2⟩ : ∃ k, K ≤ k ∧ 5000000 ≤ k := ⟨max K 5000000, by omega, by omega⟩
  refine ⟨k, rfl, ?_⟩
  obtain ⟨q, hq, hq2⟩ := sz_ok l0 hm hl k (by omega)
  refine ⟨q, hq, ?_⟩
  by_cases hneg : q < 0
  · exact .inl hneg
  · rcases hq2 with h | ⟨h1, h2⟩
    · exact absurd h hneg
    obtain ⟨m1, m2⟩ := marksSS l0 1048576 (by omega) h1 h2 k (by omega)
    obtain ⟨m3, m4⟩ := marksSS r.1 1000 (by omega) (by omega) hr2 k (by omega)
    exact .inr ⟨hneg, r.1, r.2, _, _, _, _, toSS_ok l0 1048576 (by omega) h1 h2 k (by omega), (hK k hk).1, (hK k hk).2, eqSS_ok r.1 1000 (by omega) (by omega) hr2 k (by omega), eqSS_ok l0 1048576 (by omega) (by omega) h2 k (by omega), m1, m3, m4, by omega, by omega⟩
end LFnExactSaddlePlaces
open LFnExactSaddlePlaces
theorem FnExactSaddlePlaces (l0 : List (List Int)) (m0 : l0.length ≤ maxLen) (y0 : l0.length * 24 ≤ 140737488351232) (ok0 : ∀ x ∈ l0, x.length ≤ maxLen ∧ ∀ a ∈ x, (Lit.int .i64 a).wf = true) : ∃ k, true = true ∧ laws_FnExactSaddlePlaces.Facts k l0 :=
  LFnExactSaddlePlaces.tail l0 (fun r hr => by have := (ok0 r hr).1; unfold maxLen at this; omega) (by unfold maxLen at m0; omega) (LFnExactSaddlePlaces.both l0)
end Go.Proofs.Ytnfljecjgpblnaa.Pure
