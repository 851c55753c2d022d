/- What each function of the files comes to, at files and at what are none. No condition. -/
import Derived.Test.YtieahbiaoceokaaAx10
import Derived.Test.YtieahbiaoceokaaAx11
import Derived.Test.YtieahbiaoceokaaAx12
import Derived.Test.YtieahbiaoceokaaAx7
import Derived.Test.YtieahbiaoceokaaAx8
import Derived.Test.YtieahbiaoceokaaAx9
import Derived.Test.YtieahbiaoceokaaPureMat
namespace Go.Proofs.Ytieahbiaoceokaa.Pure
open Go.RowKit Go.Proofs.Ytieahbiaoceokaa.A Go.Proofs.YtieahbiaoceokaaW.PrintWords Go.Proofs.YtieahbiaoceokaaW.PrintLast Go.Proofs.YtieahbiaoceokaaW.PrintMore
set_option linter.unusedVariables false
set_option linter.unusedSimpArgs false
theorem vsame_loop (a b : List Int) (hl : a.length = b.length) (h8 : a.length ≤ 1000000) (d : Nat) : ∀ (k i : Nat), i + d = a.length → d < k → laws_vSame.l0 k a b (a.length : Int) (i : Int) = some (decide (a.drop i = b.drop i)) := by
  induction d with
  | zero =>
    intro k i h hk
    obtain ⟨k, rfl⟩ := fuel1 (show 0 < k by omega)
    simp only [laws_vSame.l0]
    rw [if_neg (by omega), List.drop_eq_nil_of_le (by omega), List.drop_eq_nil_of_le (by omega)]
    rfl
  | succ d ih =>
    intro k i h hk
    obtain ⟨k, rfl⟩ := fuel1 (show 0 < k by omega)
    have hi : i < a.length := by omega
    have hj : i < b.length := by omega
    simp only [laws_vSame.l0]
    rw [if_pos (by omega), if_pos (by omega), if_pos (by omega), if_pos (by omega), rd_at a i hi, rd_at b i hj, List.drop_eq_getElem_cons hi, List.drop_eq_getElem_cons hj]
    by_cases c : a[i] = b[i]
    · rw [if_pos c, w_nat (by omega), ih k (i + 1) (by omega) (by omega)]
      congr 1
      exact decide_eq_decide.2 ⟨fun h => by rw [c, h], fun h => (List.cons.inj h).2⟩
    · rw [if_neg c, decide_eq_false (fun e => c (List.cons.inj e).1)]
theorem vsame_ok (a b : List Int) (h8 : a.length ≤ 1000000) (k : Nat) (hk : a.length < k) : laws_vSame.f k a b = some (decide (a = b)) := by
  unfold laws_vSame.f
  by_cases hl : a.length = b.length
  · rw [if_pos (by omega)]
    have := vsame_loop a b hl h8 a.length k 0 (by omega) hk
    simpa using this
  · rw [if_neg (by omega), decide_eq_false (fun e => hl (by rw [e]))]
theorem vrows_loop (a b : List (List Int)) (hl : a.length = b.length) (h8 : a.length ≤ 1000000) (hr : ∀ r ∈ a, r.length ≤ 1000) (d : Nat) : ∀ (k i : Nat), i + d = a.length → d + 1001 < k → laws_vRows.l0 k a b (a.length : Int) (i : Int) = some (decide (a.drop i = b.drop i)) := by
  induction d with
  | zero =>
    intro k i h hk
    obtain ⟨k, rfl⟩ := fuel1 (show 0 < k by omega)
    simp only [laws_vRows.l0]
    rw [if_neg (by omega), List.drop_eq_nil_of_le (by omega), List.drop_eq_nil_of_le (by omega)]
    rfl
  | succ d ih =>
    intro k i h hk
    obtain ⟨k, rfl⟩ := fuel1 (show 0 < k by omega)
    have hi : i < a.length := by omega
    have hj : i < b.length := by omega
    have hri := hr a[i] (List.getElem_mem hi)
    simp only [laws_vRows.l0]
    rw [if_pos (by omega), if_pos (by omega), if_pos (by omega), if_pos (by omega), rl_at a i hi, rl_at b i hj, vsame_ok _ _ (by omega) k (by omega), Option.bind_some, List.drop_eq_getElem_cons hi, List.drop_eq_getElem_cons hj]
    by_cases c : a[i] = b[i]
    · rw [decide_eq_true c, if_pos rfl, w_nat (by omega), ih k (i + 1) (by omega) (by omega)]
      congr 1
      exact decide_eq_decide.2 ⟨fun h => by rw [c, h], fun h => (List.cons.inj h).2⟩
    · rw [decide_eq_false c, if_neg Bool.false_ne_true, decide_eq_false (fun e => c (List.cons.inj e).1)]
theorem vrows_ok (a b : List (List Int)) (h8 : a.length ≤ 1000000) (hr : ∀ r ∈ a, r.length ≤ 1000) (k : Nat) (hk : a.length + 1001 < k) : laws_vRows.f k a b = some (decide (a = b)) := by
  unfold laws_vRows.f
  by_cases hl : a.length = b.length
  · rw [if_pos (by omega)]
    have := vrows_loop a b hl h8 hr a.length k 0 (by omega) (by omega)
    simpa using this
  · rw [if_neg (by omega), decide_eq_false (fun e => hl (by rw [e]))]
namespace GAreRowsSorted
theorem non (l : List (List Int)) (hg : goodB l = false) (k : Nat) (hk : 3000001 ≤ k) : spec_AreRowsSorted.f k l = some (false, false) ∧ impl_AreRowsSorted.f k l = some (false, false) := by
  constructor
  · unfold spec_AreRowsSorted.f
    rw [good_ok l k (by omega), Option.bind_some, hg, if_neg Bool.false_ne_true]
  · unfold impl_AreRowsSorted.f
    rw [are_ok, Option.bind_some, hg, if_neg Bool.false_ne_true]
theorem val (l : List (List Int)) (m : Nat) (hg : goodB l = true) (hf : Fi l m) (hmm : (l.headD []).length = m) (k : Nat) (hk : 3000001 ≤ k) : spec_AreRowsSorted.f k l = some (sortedB l, true) ∧ impl_AreRowsSorted.f k l = some (sortedB l, true) := by
    have hr := hf.rows
    have hc := hf.cols
    have hw := hf.wide
    have ht := turn_fi l _ hf
    have htr := ht.rows
    have htw := ht.wide
    have htl := turn_len l m
    have hh0 : rd_L2 l 0 = l.headD [] := by
      cases l with
      | nil => rfl
      | cons a b => rfl
    constructor
    · unfold spec_AreRowsSorted.f
      rw [good_ok l k (by omega), Option.bind_some, hg, if_pos rfl, sor_ok l hr.2 (fun r h => by rw [hw r h]; exact hc) k (by omega), Option.bind_some]
    · unfold impl_AreRowsSorted.f
      rw [are_ok, Option.bind_some, hg, if_pos rfl, rs_ok l hr.2 (fun r h => by rw [hw r h]; exact hc) k (by omega), Option.bind_some]
end GAreRowsSorted
namespace GAreColumnsSorted
theorem non (l : List (List Int)) (hg : goodB l = false) (k : Nat) (hk : 3000001 ≤ k) : spec_AreColumnsSorted.f k l = some (false, false) ∧ impl_AreColumnsSorted.f k l = some (false, false) := by
  constructor
  · unfold spec_AreColumnsSorted.f
    rw [good_ok l k (by omega), Option.bind_some, hg, if_neg Bool.false_ne_true]
  · unfold impl_AreColumnsSorted.f
    rw [are_ok, Option.bind_some, hg, if_neg Bool.false_ne_true]
theorem val (l : List (List Int)) (m : Nat) (hg : goodB l = true) (hf : Fi l m) (hmm : (l.headD []).length = m) (k : Nat) (hk : 3000001 ≤ k) : spec_AreColumnsSorted.f k l = some (sortedB (turnL l m), true) ∧ impl_AreColumnsSorted.f k l = some (sortedB (turnL l m), true) := by
    have hr := hf.rows
    have hc := hf.cols
    have hw := hf.wide
    have ht := turn_fi l _ hf
    have htr := ht.rows
    have htw := ht.wide
    have htl := turn_len l m
    have hh0 : rd_L2 l 0 = l.headD [] := by
      cases l with
      | nil => rfl
      | cons a b => rfl
    constructor
    · unfold spec_AreColumnsSorted.f
      rw [good_ok l k (by omega), Option.bind_some, hg, if_pos rfl, turn_ok l m hf k (by omega), Option.bind_some, sor_ok _ htr.2 (fun r h => by rw [htw r h]; exact hr) k (by omega), Option.bind_some]
    · unfold impl_AreColumnsSorted.f
      rw [are_ok, Option.bind_some, hg, if_pos rfl, turn_same_f, turn_ok l m hf k (by omega), Option.bind_some, rs_ok _ htr.2 (fun r h => by rw [htw r h]; exact hr) k (by omega), Option.bind_some]
end GAreColumnsSorted
namespace GTallestOfShortest
theorem lp (L : List (List Int)) (hl : L.length ≤ 8) (hr : ∀ r ∈ L, 1 ≤ r.length ∧ r.length ≤ 8) (d : Nat) : ∀ (k i : Nat) (b : Int), i + d = L.length → d + 1001 < k → spec_TallestOfShortest.l0 k b L (L.length : Int) (i : Int) = some (((L.drop i).map mnL).foldl max b, true) := by
  induction d with
  | zero =>
    intro k i b h hk
    obtain ⟨k, rfl⟩ := fuel1 (show 0 < k by omega)
    simp only [spec_TallestOfShortest.l0]
    rw [if_neg (by omega), List.drop_eq_nil_of_le (by omega)]
    rfl
  | succ d ih =>
    intro k i b h hk
    obtain ⟨k, rfl⟩ := fuel1 (show 0 < k by omega)
    have hi : i < L.length := by omega
    have hri := hr L[i] (List.getElem_mem hi)
    simp only [spec_TallestOfShortest.l0]
    rw [if_pos (by omega), if_pos (by omega), if_pos (by omega), rl_at L i hi, end_ok _ hri.1 (by omega) k (by omega), Option.bind_some, most_eq, Option.bind_some, w_nat (by omega), ih k (i + 1) _ (by omega) (by omega), List.drop_eq_getElem_cons hi]
    rfl
theorem non (l : List (List Int)) (hg : goodB l = false) (k : Nat) (hk : 3000001 ≤ k) : spec_TallestOfShortest.f k l = some (0, false) ∧ impl_TallestOfShortest.f k l = some (0, false) := by
  constructor
  · unfold spec_TallestOfShortest.f
    rw [good_ok l k (by omega), Option.bind_some, hg, if_neg Bool.false_ne_true]
  · unfold impl_TallestOfShortest.f
    rw [are_ok, Option.bind_some, hg, if_neg Bool.false_ne_true]
theorem val (l : List (List Int)) (m : Nat) (hg : goodB l = true) (hf : Fi l m) (hmm : (l.headD []).length = m) (k : Nat) (hk : 3000001 ≤ k) : spec_TallestOfShortest.f k l = some ((l.map mnL).foldl max 0, true) ∧ impl_TallestOfShortest.f k l = some ((l.map mnL).foldl max 0, true) := by
    have hr := hf.rows
    have hc := hf.cols
    have hw := hf.wide
    have ht := turn_fi l _ hf
    have htr := ht.rows
    have htw := ht.wide
    have htl := turn_len l m
    have hh0 : rd_L2 l 0 = l.headD [] := by
      cases l with
      | nil => rfl
      | cons a b => rfl
    constructor
    · unfold spec_TallestOfShortest.f
      rw [good_ok l k (by omega), Option.bind_some, hg, if_pos rfl]
      have := lp l hr.2 (fun r h => by rw [hw r h]; exact hc) l.length k 0 0 (by omega) (by omega)
      simpa using this
    · unfold impl_TallestOfShortest.f
      rw [are_ok, Option.bind_some, hg, if_pos rfl, ofmin_ok l (by omega) (fun r h => by rw [hw r h]; omega) k (by omega), Option.bind_some, max_ok _ (by simp; omega) (by simp; omega) k (by omega), Option.bind_some]
      congr 2
      have hp := hf.high
      cases l with
      | nil => simp at hr
      | cons a b =>
        have ha : mnL a ∈ a := mnL_mem a (by rw [hw a (by simp)]; exact hc.1)
        have hb := hp a (by simp) _ ha
        simp only [mxL, List.map_cons, List.headD_cons, List.foldl_cons]
        rw [show max (mnL a) (mnL a) = mnL a by omega, show max 0 (mnL a) = mnL a by omega]
end GTallestOfShortest
namespace GShortestOfTallest
theorem lp (L : List (List Int)) (hl : L.length ≤ 8) (hr : ∀ r ∈ L, 1 ≤ r.length ∧ r.length ≤ 8) (d : Nat) : ∀ (k i : Nat) (b : Int), i + d = L.length → d + 1001 < k → spec_ShortestOfTallest.l0 k b L (L.length : Int) (i : Int) = some (((L.drop i).map mxL).foldl min b, true) := by
  induction d with
  | zero =>
    intro k i b h hk
    obtain ⟨k, rfl⟩ := fuel1 (show 0 < k by omega)
    simp only [spec_ShortestOfTallest.l0]
    rw [if_neg (by omega), List.drop_eq_nil_of_le (by omega)]
    rfl
  | succ d ih =>
    intro k i b h hk
    obtain ⟨k, rfl⟩ := fuel1 (show 0 < k by omega)
    have hi : i < L.length := by omega
    have hri := hr L[i] (List.getElem_mem hi)
    simp only [spec_ShortestOfTallest.l0]
    rw [if_pos (by omega), if_pos (by omega), if_pos (by omega), rl_at L i hi, end_ok _ hri.1 (by omega) k (by omega), Option.bind_some, least_eq, Option.bind_some, w_nat (by omega), ih k (i + 1) _ (by omega) (by omega), List.drop_eq_getElem_cons hi]
    rfl
theorem non (l : List (List Int)) (hg : goodB l = false) (k : Nat) (hk : 3000001 ≤ k) : spec_ShortestOfTallest.f k l = some (0, false) ∧ impl_ShortestOfTallest.f k l = some (0, false) := by
  constructor
  · unfold spec_ShortestOfTallest.f
    rw [good_ok l k (by omega), Option.bind_some, hg, if_neg Bool.false_ne_true]
  · unfold impl_ShortestOfTallest.f
    rw [are_ok, Option.bind_some, hg, if_neg Bool.false_ne_true]
theorem val (l : List (List Int)) (m : Nat) (hg : goodB l = true) (hf : Fi l m) (hmm : (l.headD []).length = m) (k : Nat) (hk : 3000001 ≤ k) : spec_ShortestOfTallest.f k l = some (((turnL l m).map mxL).foldl min 999, true) ∧ impl_ShortestOfTallest.f k l = some (((turnL l m).map mxL).foldl min 999, true) := by
    have hr := hf.rows
    have hc := hf.cols
    have hw := hf.wide
    have ht := turn_fi l _ hf
    have htr := ht.rows
    have htw := ht.wide
    have htl := turn_len l m
    have hh0 : rd_L2 l 0 = l.headD [] := by
      cases l with
      | nil => rfl
      | cons a b => rfl
    have hp := ht.high
    have hlen := turn_len l m
    constructor
    · unfold spec_ShortestOfTallest.f
      rw [good_ok l k (by omega), Option.bind_some, hg, if_pos rfl, turn_ok l m hf k (by omega), Option.bind_some]
      have := lp (turnL l m) htr.2 (fun r h => by rw [htw r h]; exact hr) (turnL l m).length k 0 999 (by omega) (by omega)
      simpa using this
    · unfold impl_ShortestOfTallest.f
      rw [are_ok, Option.bind_some, hg, if_pos rfl, turn_same_f, turn_ok l m hf k (by omega), Option.bind_some, ofmax_ok _ (by omega) (fun r h => by rw [htw r h]; omega) k (by omega), Option.bind_some, min_ok _ (by simp; omega) (by simp; omega) k (by omega), Option.bind_some]
      congr 2
      generalize turnL l m = L at *
      cases L with
      | nil => simp at htr
      | cons a b =>
        have ha : mxL a ∈ a := mxL_mem a (by rw [htw a (by simp)]; exact hr.1)
        have hb := hp a (by simp) _ ha
        simp only [mnL, List.map_cons, List.headD_cons, List.foldl_cons]
        rw [show min (mxL a) (mxL a) = mxL a by omega, show min 999 (mxL a) = mxL a by omega]
end GShortestOfTallest
namespace GTurnFiles

theorem non (l : List (List Int)) (hg : goodB l = false) (k : Nat) (hk : 3000001 ≤ k) : spec_TurnFiles.f k l = some ([], false) ∧ impl_TurnFiles.f k l = some ([], false) := by
  constructor
  · unfold spec_TurnFiles.f
    rw [good_ok l k (by omega), Option.bind_some, hg, if_neg Bool.false_ne_true]
  · unfold impl_TurnFiles.f
    rw [are_ok, Option.bind_some, hg, if_neg Bool.false_ne_true]
theorem val (l : List (List Int)) (m : Nat) (hg : goodB l = true) (hf : Fi l m) (hmm : (l.headD []).length = m) (k : Nat) (hk : 3000001 ≤ k) : spec_TurnFiles.f k l = some (turnL l m, true) ∧ impl_TurnFiles.f k l = some (turnL l m, true) := by
    have hr := hf.rows
    have hc := hf.cols
    have hw := hf.wide
    have ht := turn_fi l _ hf
    have htr := ht.rows
    have htw := ht.wide
    have htl := turn_len l m
    have hh0 : rd_L2 l 0 = l.headD [] := by
      cases l with
      | nil => rfl
      | cons a b => rfl
    constructor
    · unfold spec_TurnFiles.f
      rw [good_ok l k (by omega), Option.bind_some, hg, if_pos rfl, turn_ok l m hf k (by omega), Option.bind_some]
    · unfold impl_TurnFiles.f
      rw [are_ok, Option.bind_some, hg, if_pos rfl, turn_same_f, turn_ok l m hf k (by omega), Option.bind_some]
end GTurnFiles
namespace GSortFileRows

theorem non (l : List (List Int)) (hg : goodB l = false) (k : Nat) (hk : 3000001 ≤ k) : spec_SortFileRows.f k l = some ([], false) ∧ impl_SortFileRows.f k l = some ([], false) := by
  constructor
  · unfold spec_SortFileRows.f
    rw [good_ok l k (by omega), Option.bind_some, hg, if_neg Bool.false_ne_true]
  · unfold impl_SortFileRows.f
    rw [are_ok, Option.bind_some, hg, if_neg Bool.false_ne_true]
theorem val (l : List (List Int)) (m : Nat) (hg : goodB l = true) (hf : Fi l m) (hmm : (l.headD []).length = m) (k : Nat) (hk : 3000001 ≤ k) : spec_SortFileRows.f k l = some ((rowsS l), true) ∧ impl_SortFileRows.f k l = some ((rowsS l), true) := by
    have hr := hf.rows
    have hc := hf.cols
    have hw := hf.wide
    have ht := turn_fi l _ hf
    have htr := ht.rows
    have htw := ht.wide
    have htl := turn_len l m
    have hh0 : rd_L2 l 0 = l.headD [] := by
      cases l with
      | nil => rfl
      | cons a b => rfl
    have hL := fi_low hf
    have hF : Fi (rowsS l) m := rows_fi l m hf
    constructor
    · unfold spec_SortFileRows.f
      rw [good_ok l k (by omega), Option.bind_some, hg, if_pos rfl, frows_ok l hr.2 hL k (by omega), Option.bind_some]
    · unfold impl_SortFileRows.f
      rw [are_ok, Option.bind_some, hg, if_pos rfl, srows_ok l hr.2 hL k (by omega), Option.bind_some]
end GSortFileRows
namespace GSortFileColumns

theorem non (l : List (List Int)) (hg : goodB l = false) (k : Nat) (hk : 3000001 ≤ k) : spec_SortFileColumns.f k l = some ([], false) ∧ impl_SortFileColumns.f k l = some ([], false) := by
  constructor
  · unfold spec_SortFileColumns.f
    rw [good_ok l k (by omega), Option.bind_some, hg, if_neg Bool.false_ne_true]
  · unfold impl_SortFileColumns.f
    rw [are_ok, Option.bind_some, hg, if_neg Bool.false_ne_true]
theorem val (l : List (List Int)) (m : Nat) (hg : goodB l = true) (hf : Fi l m) (hmm : (l.headD []).length = m) (k : Nat) (hk : 3000001 ≤ k) : spec_SortFileColumns.f k l = some ((colsS l m), true) ∧ impl_SortFileColumns.f k l = some ((colsS l m), true) := by
    have hr := hf.rows
    have hc := hf.cols
    have hw := hf.wide
    have ht := turn_fi l _ hf
    have htr := ht.rows
    have htw := ht.wide
    have htl := turn_len l m
    have hh0 : rd_L2 l 0 = l.headD [] := by
      cases l with
      | nil => rfl
      | cons a b => rfl
    have hL := fi_low hf
    have hF : Fi (colsS l m) m := cols_fi l m hf
    constructor
    · unfold spec_SortFileColumns.f
      rw [good_ok l k (by omega), Option.bind_some, hg, if_pos rfl, fcols_ok l m hf k (by omega), Option.bind_some]
    · unfold impl_SortFileColumns.f
      rw [are_ok, Option.bind_some, hg, if_pos rfl, scols_ok l m hf k (by omega), Option.bind_some]
end GSortFileColumns
namespace GSortBoth

theorem non (l : List (List Int)) (hg : goodB l = false) (k : Nat) (hk : 3000001 ≤ k) : spec_SortBoth.f k l = some ([], false) ∧ impl_SortBoth.f k l = some ([], false) := by
  constructor
  · unfold spec_SortBoth.f
    rw [good_ok l k (by omega), Option.bind_some, hg, if_neg Bool.false_ne_true]
  · unfold impl_SortBoth.f
    rw [are_ok, Option.bind_some, hg, if_neg Bool.false_ne_true]
theorem val (l : List (List Int)) (m : Nat) (hg : goodB l = true) (hf : Fi l m) (hmm : (l.headD []).length = m) (k : Nat) (hk : 3000001 ≤ k) : spec_SortBoth.f k l = some ((colsS (rowsS l) m), true) ∧ impl_SortBoth.f k l = some ((colsS (rowsS l) m), true) := by
    have hr := hf.rows
    have hc := hf.cols
    have hw := hf.wide
    have ht := turn_fi l _ hf
    have htr := ht.rows
    have htw := ht.wide
    have htl := turn_len l m
    have hh0 : rd_L2 l 0 = l.headD [] := by
      cases l with
      | nil => rfl
      | cons a b => rfl
    have hL := fi_low hf
    have hF : Fi (colsS (rowsS l) m) m := cols_fi _ m (rows_fi l m hf)
    constructor
    · unfold spec_SortBoth.f
      rw [good_ok l k (by omega), Option.bind_some, hg, if_pos rfl, frows_ok l hr.2 hL k (by omega), Option.bind_some, fcols_ok _ m (rows_fi l m hf) k (by omega), Option.bind_some]
    · unfold impl_SortBoth.f
      rw [are_ok, Option.bind_some, hg, if_pos rfl, srows_ok l hr.2 hL k (by omega), Option.bind_some, scols_ok _ m (rows_fi l m hf) k (by omega), Option.bind_some]
end GSortBoth
namespace GFileDisorder
theorem dis_in (r : List Int) (hr : r.length ≤ 1000) (L : List (List Int)) (n i : Int) (d : Nat) : ∀ (k j q : Nat), 1 ≤ j → j + d = r.length → q + d ≤ 1000000 →
    impl_descents.l1 (k + d + 1) (q : Int) r (j : Int) L n i = impl_descents.l0 k ((q + ((List.range' (j - 1) d).filter (desc r)).length : Nat) : Int) L n (wrap64 (i + 1)) := by
  induction d with
  | zero =>
    intro k j q hj h hq
    simp only [impl_descents.l1]
    rw [if_neg (by omega)]
    rfl
  | succ d ih =>
    intro k j q hj h hq
    have e1 : wrap64 ((j : Int) - 1) = ((j - 1 : Nat) : Int) := by rw [w_in (by omega) (by omega)]; omega
    obtain ⟨K, hK⟩ : ∃ K, K = k + d + 1 := ⟨_, rfl⟩
    rw [show k + (d + 1) + 1 = K + 1 by omega]
    simp only [impl_descents.l1]
    rw [if_pos (by omega), e1, if_pos (by omega), if_pos (by omega), if_pos (by omega), rd_D, rd_D]
    have hd : desc r (j - 1) = decide (r.getD (j - 1) 0 > r.getD j 0) := by unfold desc; rw [show j - 1 + 1 = j by omega]
    have hr' : List.range' (j - 1) (d + 1) = (j - 1) :: List.range' j d := by rw [List.range'_succ, show j - 1 + 1 = j by omega]
    rw [hr', List.filter_cons, hd]
    by_cases c : r.getD (j - 1) 0 > r.getD j 0
    · rw [if_pos c, decide_eq_true c, if_pos rfl, w_nat (by omega), w_nat (by omega), hK, ih k (j + 1) (q + 1) (by omega) (by omega) (by omega), show j + 1 - 1 = j by omega, List.length_cons]
      congr 2
      omega
    · rw [if_neg c, decide_eq_false c, if_neg Bool.false_ne_true, w_nat (by omega), hK, ih k (j + 1) q (by omega) (by omega) (by omega), show j + 1 - 1 = j by omega]
theorem dis_loop (L : List (List Int)) (hl : L.length ≤ 8) (hr : ∀ r ∈ L, 1 ≤ r.length ∧ r.length ≤ 8) (d : Nat) : ∀ (k i q : Nat), i + d = L.length → 20 * d < k → q + 8 * d ≤ 1000 → impl_descents.l0 k (q : Int) L (L.length : Int) (i : Int) = some ((q + disL (L.drop i) : Nat) : Int) := by
  induction d with
  | zero =>
    intro k i q h hk hq
    obtain ⟨k, rfl⟩ := fuel1 (show 0 < k by omega)
    simp only [impl_descents.l0]
    rw [if_neg (by omega), List.drop_eq_nil_of_le (by omega)]
    rfl
  | succ d ih =>
    intro k i q h hk hq
    have hi : i < L.length := by omega
    have hri := hr L[i] (List.getElem_mem hi)
    have hci := cnt_le L[i]
    obtain ⟨k, rfl⟩ : ∃ m, k = (m + (L[i].length - 1) + 1) + 1 := ⟨k - (L[i].length - 1) - 2, by omega⟩
    simp only [impl_descents.l0]
    rw [if_pos (by omega), if_pos (by omega), if_pos (by omega), rl_at L i hi]
    have := dis_in L[i] (by omega) L (L.length : Int) (i : Int) (L[i].length - 1) k 1 q (by omega) (by omega) (by omega)
    have c1 : ((1 : Nat) : Int) = 1 := rfl
    rw [c1] at this
    have e : ((List.range' (1 - 1) (L[i].length - 1)).filter (desc L[i])).length = cntR L[i] := by
      unfold cntR
      rw [List.range_eq_range']
    rw [this, e, w_nat (by omega), ih k (i + 1) _ (by omega) (by omega) (by omega), List.drop_eq_getElem_cons hi]
    congr 2
    simp only [disL, List.map_cons, List.sum_cons]
    omega
theorem dis_ok (L : List (List Int)) (hl : L.length ≤ 8) (hr : ∀ r ∈ L, 1 ≤ r.length ∧ r.length ≤ 8) (k : Nat) (hk : 1000 < k) : impl_descents.f k L = some (disL L : Int) := by
  unfold impl_descents.f
  have := dis_loop L hl hr L.length k 0 0 (by omega) (by omega) (by omega)
  simpa using this

theorem val (l : List (List Int)) (m : Nat) (hg : goodB l = true) (hf : Fi l m) (k : Nat) (hk : 3000001 ≤ k) : impl_FileDisorder.f k l = some (((disL l + disL (turnL l m) : Nat) : Int), true) := by
  have hr := hf.rows
  have hc := hf.cols
  have hw := hf.wide
  have ht := turn_fi l _ hf
  have htr := ht.rows
  have htw := ht.wide
  have h1 := dis_le l (fun r h => by rw [hw r h]; exact hc.2)
  have h2 := dis_le (turnL l m) (fun r h => by rw [htw r h]; exact hr.2)
  unfold impl_FileDisorder.f
  rw [are_ok, Option.bind_some, hg, if_pos rfl, dis_ok l hr.2 (fun r h => by rw [hw r h]; exact hc) k (by omega), Option.bind_some, turn_same_f, turn_ok l m hf k (by omega), Option.bind_some, dis_ok _ htr.2 (fun r h => by rw [htw r h]; exact hr) k (by omega), Option.bind_some]
  have : wrap64 ((disL l : Int) + (disL (turnL l m) : Int)) = ((disL l + disL (turnL l m) : Nat) : Int) := by unfold wrap64; omega
  rw [this]
end GFileDisorder
namespace GSaddlePlaces

/-- What a row's places give. -/
def cells (row : List Int) (mn : Int) (T : List (List Int)) (i : Int) : Nat → Nat → List (List Int) → List (List Int)
  | 0, _, out => out
  | d + 1, c, out => cells row mn T i d (c + 1) (if rd row (c : Int) = mn ∧ rd row (c : Int) = mxL (rd_L2 T (c : Int)) then out ++ [[i, (c : Int)]] else out)
theorem cells_ok (row : List Int) (mn : Int) (T : List (List Int)) (i : Int) (d : Nat) : ∀ (c : Nat) (out : List (List Int)), (∀ x ∈ out, x.length ≤ 1000) → (cells row mn T i d c out).length ≤ out.length + d ∧ ∀ x ∈ cells row mn T i d c out, x.length ≤ 1000 := by
  induction d with
  | zero => intro c out hx; exact ⟨Nat.le_refl _, hx⟩
  | succ d ih =>
    intro c out hx
    show (cells row mn T i d (c + 1) _).length ≤ _ ∧ ∀ x ∈ cells row mn T i d (c + 1) _, _
    by_cases h : rd row (c : Int) = mn ∧ rd row (c : Int) = mxL (rd_L2 T (c : Int))
    · rw [if_pos h]
      obtain ⟨h1, h2⟩ := ih (c + 1) (out ++ [[i, (c : Int)]]) (by
        intro x hxx
        rcases List.mem_append.1 hxx with hxx | hxx
        · exact hx x hxx
        · rw [List.mem_singleton.1 hxx]; simp)
      refine ⟨?_, h2⟩
      simp only [List.length_append, List.length_singleton] at h1
      omega
    · rw [if_neg h]
      obtain ⟨h1, h2⟩ := ih (c + 1) out hx
      exact ⟨by omega, h2⟩
theorem s_in (L T : List (List Int)) (row : List Int) (hr : row.length ≤ 8) (hT : T.length = row.length) (hTr : ∀ r ∈ T, 1 ≤ r.length ∧ r.length ≤ 8) (mn i n : Int) (d : Nat) : ∀ (k c : Nat) (out : List (List Int)), 1001 < k → c + d = row.length → out.length + d ≤ 1000 →
    spec_SaddlePlaces.l1 (k + d + 1) T out i mn L n i row (row.length : Int) (c : Int) = spec_SaddlePlaces.l0 k T (cells row mn T i d c out) L n (wrap64 (i + 1)) := by
  induction d with
  | zero =>
    intro k c out hk h ho
    simp only [spec_SaddlePlaces.l1]
    rw [if_neg (by omega)]
    rfl
  | succ d ih =>
    intro k c out hk h ho
    obtain ⟨K, hK⟩ : ∃ K, K = k + d + 1 := ⟨_, rfl⟩
    rw [show k + (d + 1) + 1 = K + 1 by omega]
    have hc : c < T.length := by omega
    have hTc := hTr T[c] (List.getElem_mem hc)
    simp only [spec_SaddlePlaces.l1]
    rw [if_pos (by omega), if_pos (by omega), if_pos (by omega), if_pos (by omega), rl_at T c hc, end_ok _ hTc.1 (by omega) K (by omega), Option.bind_some, w_nat (by omega)]
    simp only [cells]
    rw [rl_at T c hc]
    by_cases q1 : rd row (c : Int) = mn
    · rw [if_pos q1]
      by_cases q2 : rd row (c : Int) = mxL T[c]
      · rw [if_pos q2, if_pos (by omega), if_pos ⟨q1, q2⟩, hK, ih k (c + 1) _ hk (by omega) (by simp; omega)]
      · rw [if_neg q2, if_neg (fun q => q2 q.2), hK, ih k (c + 1) _ hk (by omega) (by omega)]
    · rw [if_neg q1, if_neg (fun q => q1 q.1), hK, ih k (c + 1) _ hk (by omega) (by omega)]
theorem i_in (L T : List (List Int)) (row : List Int) (hr : row.length ≤ 8) (hT : T.length = row.length) (mns : List Int) (i : Nat) (hi : i < mns.length) (n : Int) (d : Nat) : ∀ (k c : Nat) (out : List (List Int)), c + d = row.length → out.length + d ≤ 1000 →
    impl_SaddlePlaces.l1 (k + d + 1) out mns (T.map mxL) (i : Int) L n (i : Int) row (row.length : Int) (c : Int) = impl_SaddlePlaces.l0 k (cells row (rd mns (i : Int)) T (i : Int) d c out) mns (T.map mxL) L n (wrap64 ((i : Int) + 1)) := by
  induction d with
  | zero =>
    intro k c out h ho
    simp only [impl_SaddlePlaces.l1]
    rw [if_neg (by omega)]
    rfl
  | succ d ih =>
    intro k c out h ho
    obtain ⟨K, hK⟩ : ∃ K, K = k + d + 1 := ⟨_, rfl⟩
    rw [show k + (d + 1) + 1 = K + 1 by omega]
    have hc : c < T.length := by omega
    have hm : rd (T.map mxL) (c : Int) = mxL T[c] := by rw [rd_at _ c (by simpa using hc)]; simp
    simp only [impl_SaddlePlaces.l1]
    rw [if_pos (by omega), if_pos (by omega), if_pos (by omega), if_pos (by omega), if_pos (by omega), w_nat (n := c) (by omega), if_pos (show (c : Int) < ((T.map mxL).length : Int) by simp; omega), hm]
    simp only [cells]
    rw [rl_at T c hc]
    by_cases q1 : rd row (c : Int) = rd mns (i : Int)
    · rw [if_pos q1]
      by_cases q2 : rd row (c : Int) = mxL T[c]
      · rw [if_pos q2, if_pos (by omega), if_pos ⟨q1, q2⟩, hK, ih k (c + 1) _ (by omega) (by simp; omega)]
      · rw [if_neg q2, if_neg (fun q => q2 q.2), hK, ih k (c + 1) _ (by omega) (by omega)]
    · rw [if_neg q1, if_neg (fun q => q1 q.1), hK, ih k (c + 1) _ (by omega) (by omega)]
/-- The places that are told. -/
def sadL (L T : List (List Int)) (m : Nat) : Nat → Nat → List (List Int) → List (List Int)
  | 0, _, out => out
  | d + 1, i, out => sadL L T m d (i + 1) (cells (L.getD i []) (mnL (L.getD i [])) T (i : Int) m 0 out)
theorem out_ok (L T : List (List Int)) (m : Nat) (hm : 1 ≤ m ∧ m ≤ 8) (hl : L.length ≤ 8) (hw : ∀ r ∈ L, r.length = m) (hT : T.length = m) (hTr : ∀ r ∈ T, 1 ≤ r.length ∧ r.length ≤ 8) (d : Nat) : ∀ (i : Nat) (out : List (List Int)), i + d = L.length → out.length ≤ 8 * i → (∀ x ∈ out, x.length ≤ 1000) →
    ∀ k, 1100 + 20 * d < k → spec_SaddlePlaces.l0 k T out L (L.length : Int) (i : Int) = some (sadL L T m d i out, true) ∧ impl_SaddlePlaces.l0 k out (L.map mnL) (T.map mxL) L (L.length : Int) (i : Int) = some (sadL L T m d i out, true) := by
  induction d with
  | zero =>
    intro i out h ho hx k hk
    obtain ⟨k, rfl⟩ := fuel1 (show 0 < k by omega)
    simp only [spec_SaddlePlaces.l0, impl_SaddlePlaces.l0]
    rw [if_neg (by omega), if_neg (by omega)]
    exact ⟨rfl, rfl⟩
  | succ d ih =>
    intro i out h ho hx k hk
    have hi : i < L.length := by omega
    have hri := hw L[i] (List.getElem_mem hi)
    have hmn : rd (L.map mnL) (i : Int) = mnL L[i] := by rw [rd_at _ i (by simpa using hi)]; simp
    obtain ⟨c1, c2⟩ := cells_ok L[i] (mnL L[i]) T (i : Int) m 0 out hx
    have hh := ih (i + 1) (cells L[i] (mnL L[i]) T (i : Int) m 0 out) (by omega) (by omega) c2
    obtain ⟨k, rfl⟩ : ∃ j, k = j + m + 1 + 1 := ⟨k - m - 2, by omega⟩
    obtain ⟨h1, h2⟩ := hh k (by omega)
    obtain ⟨K, hK⟩ : ∃ K, K = k + m + 1 := ⟨_, rfl⟩
    have s1 := s_in L T L[i] (by omega) (by omega) hTr (mnL L[i]) (i : Int) (L.length : Int) m k 0 out (by omega) (by omega) (by omega)
    have s2 := i_in L T L[i] (by omega) (by omega) (L.map mnL) i (by simpa using hi) (L.length : Int) m k 0 out (by omega) (by omega)
    have c0 : ((0 : Nat) : Int) = 0 := rfl
    have hD : L.getD i [] = L[i] := by rw [List.getD_eq_getElem?_getD, List.getElem?_eq_getElem hi]; rfl
    rw [c0, w_nat (by omega), ← hK] at s1 s2
    rw [hmn] at s2
    rw [← hK]
    simp only [spec_SaddlePlaces.l0, impl_SaddlePlaces.l0, sadL]
    rw [if_pos (by omega), if_pos (by omega), if_pos (by omega), if_pos (by omega), if_pos (by omega), if_pos (by omega), rl_at L i hi, end_ok _ (by omega) (by omega) K (by omega), Option.bind_some, s1, s2, hD]
    exact ⟨h1, h2⟩
theorem non (l : List (List Int)) (hg : goodB l = false) (k : Nat) (hk : 3000001 ≤ k) : spec_SaddlePlaces.f k l = some ([], false) ∧ impl_SaddlePlaces.f k l = some ([], false) := by
  constructor
  · unfold spec_SaddlePlaces.f
    rw [good_ok l k (by omega), Option.bind_some, hg, if_neg Bool.false_ne_true]
  · unfold impl_SaddlePlaces.f
    rw [are_ok, Option.bind_some, hg, if_neg Bool.false_ne_true]
theorem val (l : List (List Int)) (m : Nat) (hg : goodB l = true) (hf : Fi l m) (hmm : (l.headD []).length = m) (k : Nat) (hk : 3000001 ≤ k) : spec_SaddlePlaces.f k l = some (sadL l (turnL l m) m l.length 0 [], true) ∧ impl_SaddlePlaces.f k l = some (sadL l (turnL l m) m l.length 0 [], true) := by
  have hr := hf.rows
  have hc := hf.cols
  have hw := hf.wide
  have ht := turn_fi l _ hf
  have htr := ht.rows
  have htw := ht.wide
  have htl := turn_len l m
  have hrows : ∀ r ∈ turnL l m, 1 ≤ r.length ∧ r.length ≤ 8 := fun r h => by rw [htw r h]; exact hr
  have hS := out_ok l (turnL l m) m hc hr.2 hw (turn_len l m) hrows l.length 0 [] (by omega) (by simp) (by simp) k (by omega)
  constructor
  · unfold spec_SaddlePlaces.f
    rw [good_ok l k (by omega), Option.bind_some, hg, if_pos rfl, turn_ok l m hf k (by omega), Option.bind_some]
    exact hS.1
  · unfold impl_SaddlePlaces.f
    rw [are_ok, Option.bind_some, hg, if_pos rfl, ofmin_ok l (by omega) (fun r h => by rw [hw r h]; omega) k (by omega), Option.bind_some, turn_same_f, turn_ok l m hf k (by omega), Option.bind_some, ofmax_ok _ (by omega) (fun r h => by rw [htw r h]; omega) k (by omega), Option.bind_some]
    exact hS.2
theorem cells_mem (row : List Int) (mn : Int) (T : List (List Int)) (i : Int) (d : Nat) : ∀ (c : Nat) (out : List (List Int)) (p : List Int), p ∈ cells row mn T i d c out ↔ p ∈ out ∨ ∃ j : Nat, c ≤ j ∧ j < c + d ∧ p = [i, (j : Int)] ∧ rd row (j : Int) = mn ∧ rd row (j : Int) = mxL (rd_L2 T (j : Int)) := by
  induction d with
  | zero =>
    intro c out p
    simp only [cells]
    constructor
    · exact .inl
    · rintro (h | ⟨j, h1, h2, _⟩)
      · exact h
      · omega
  | succ d ih =>
    intro c out p
    simp only [cells]
    rw [ih]
    by_cases h : rd row (c : Int) = mn ∧ rd row (c : Int) = mxL (rd_L2 T (c : Int))
    · rw [if_pos h, List.mem_append, List.mem_singleton]
      constructor
      · rintro ((h1 | h1) | ⟨j, h1, h2, h3⟩)
        · exact .inl h1
        · exact .inr ⟨c, by omega, by omega, h1, h⟩
        · exact .inr ⟨j, by omega, by omega, h3⟩
      · rintro (h1 | ⟨j, h1, h2, h3⟩)
        · exact .inl (.inl h1)
        · by_cases e : j = c
          · subst e
            exact .inl (.inr h3.1)
          · exact .inr ⟨j, by omega, by omega, h3⟩
    · rw [if_neg h]
      constructor
      · rintro (h1 | ⟨j, h1, h2, h3⟩)
        · exact .inl h1
        · exact .inr ⟨j, by omega, by omega, h3⟩
      · rintro (h1 | ⟨j, h1, h2, h3⟩)
        · exact .inl h1
        · by_cases e : j = c
          · subst e
            exact absurd h3.2 h
          · exact .inr ⟨j, by omega, by omega, h3⟩
theorem sad_mem (L T : List (List Int)) (m : Nat) (d : Nat) : ∀ (i : Nat) (out : List (List Int)) (p : List Int), p ∈ sadL L T m d i out ↔ p ∈ out ∨ ∃ a j : Nat, i ≤ a ∧ a < i + d ∧ j < m ∧ p = [(a : Int), (j : Int)] ∧ rd (L.getD a []) (j : Int) = mnL (L.getD a []) ∧ rd (L.getD a []) (j : Int) = mxL (rd_L2 T (j : Int)) := by
  induction d with
  | zero =>
    intro i out p
    simp only [sadL]
    constructor
    · exact .inl
    · rintro (h | ⟨a, j, h1, h2, _⟩)
      · exact h
      · omega
  | succ d ih =>
    intro i out p
    simp only [sadL]
    rw [ih, cells_mem]
    constructor
    · rintro ((h1 | ⟨j, h1, h2, h3, h4⟩) | ⟨a, j, h1, h2, h3⟩)
      · exact .inl h1
      · exact .inr ⟨i, j, by omega, by omega, by omega, h3, h4⟩
      · exact .inr ⟨a, j, by omega, by omega, h3⟩
    · rintro (h1 | ⟨a, j, h1, h2, h3, h4, h5⟩)
      · exact .inl (.inl h1)
      · by_cases e : a = i
        · subst e
          exact .inl (.inr ⟨j, by omega, by omega, h4, h5⟩)
        · exact .inr ⟨a, j, by omega, by omega, h3, h4, h5⟩
end GSaddlePlaces
end Go.Proofs.Ytieahbiaoceokaa.Pure
