/- Plain facts of tables of numbers: rows and columns in order, turned twice, the tallest of the shortest and the shortest of the tallest. No condition. -/
import Derived.Test.YtieahbiaoceokaaPureSort
namespace Go.Proofs.Ytieahbiaoceokaa.Pure
open Go.RowKit Go.Proofs.Ytieahbiaoceokaa.A Go.Proofs.YtieahbiaoceokaaW.PrintWords Go.Proofs.YtieahbiaoceokaaW.PrintLast Go.Proofs.YtieahbiaoceokaaW.PrintMore
set_option linter.unusedVariables false
set_option linter.unusedSimpArgs false

/-! ### rows in order -/
theorem desc_head (a b : Int) (t : List Int) (i : Nat) : desc (a :: b :: t) (i + 1) = desc (b :: t) i := by
  unfold desc
  simp [List.getD_cons_succ]
theorem any_range_succ (p : Nat → Bool) (n : Nat) : (List.range (n + 1)).any p = (p 0 || (List.range n).any fun i => p (i + 1)) := by
  rw [List.range_succ_eq_map, List.any_cons, List.any_map]
  rfl
theorem srtB_cons (a b : Int) (t : List Int) : srtB (a :: b :: t) = (decide (a ≤ b) && srtB (b :: t)) := by
  unfold srtB
  rw [show (a :: b :: t).length - 1 = t.length + 1 by simp, any_range_succ, show (b :: t).length - 1 = t.length by simp]
  simp only [desc_head, Bool.not_or]
  congr 1
  unfold desc
  simp only [List.getD_cons_zero, List.getD_cons_succ]
  by_cases h : a ≤ b
  · rw [decide_eq_true h, decide_eq_false (by omega)]; rfl
  · rw [decide_eq_false h, decide_eq_true (by omega)]; rfl
theorem srtB_iff : ∀ r : List Int, srtB r = true ↔ Srt r
  | [] => by simp [srtB, Srt]
  | [a] => by simp [srtB, Srt]
  | a :: b :: t => by
    rw [srtB_cons, Bool.and_eq_true, decide_eq_true_eq, srtB_iff (b :: t)]
    unfold Srt
    constructor
    · rintro ⟨h1, h2⟩
      refine List.pairwise_cons.2 ⟨fun x hx => ?_, h2⟩
      rcases List.mem_cons.1 hx with rfl | hx
      · exact h1
      · exact Int.le_trans h1 ((List.pairwise_cons.1 h2).1 x hx)
    · intro h
      obtain ⟨h1, h2⟩ := List.pairwise_cons.1 h
      exact ⟨h1 b (by simp), h2⟩
theorem ord_id_iff (r : List Int) : srtB r = true ↔ ordL r = r := by
  rw [srtB_iff]
  constructor
  · intro h
    exact srt_one (ord_srt r) h (ord_perm r)
  · intro h
    rw [← h]
    exact ord_srt r
theorem sorted_iff (l : List (List Int)) : sortedB l = true ↔ rowsS l = l := by
  unfold sortedB rowsS
  rw [List.all_eq_true]
  constructor
  · intro h
    exact (List.map_congr_left fun r hr => (ord_id_iff r).1 (h r hr)).trans (List.map_id' l)
  · intro h r hr
    rw [ord_id_iff]
    obtain ⟨i, hi, rfl⟩ := List.mem_iff_getElem.1 hr
    have h2 : (l.map ordL)[i]'(by simpa using hi) = l[i] := by simp only [h]
    simpa using h2
theorem sortedB_eq (l : List (List Int)) : sortedB l = decide (rowsS l = l) := by
  by_cases h : rowsS l = l
  · rw [decide_eq_true h, (sorted_iff l).2 h]
  · rw [decide_eq_false h, Bool.eq_false_iff]
    exact fun x => h ((sorted_iff l).1 x)
theorem rows_sorted (l : List (List Int)) : sortedB (rowsS l) = true := by
  unfold sortedB rowsS
  rw [List.all_eq_true]
  intro r hr
  obtain ⟨x, hx, rfl⟩ := List.mem_map.1 hr
  exact (srtB_iff _).2 (ord_srt x)

/-! ### turned twice -/
theorem turn_get (l : List (List Int)) (m : Nat) (c : Nat) (hc : c < m) : (turnL l m)[c]'(by rw [turn_len]; exact hc) = l.map fun r => r.getD c 0 := by
  unfold turnL
  rw [List.getElem_map, List.getElem_range]
theorem turn_turn (l : List (List Int)) (m : Nat) (h : Fi l m) : turnL (turnL l m) l.length = l := by
  apply List.ext_getElem
  · rw [turn_len]
  · intro i h1 h2
    rw [turn_len] at h1
    rw [turn_get _ _ i h1]
    apply List.ext_getElem
    · rw [List.length_map, turn_len, h.wide _ (List.getElem_mem h2)]
    · intro j h3 h4
      rw [List.length_map, turn_len] at h3
      rw [List.getElem_map, turn_get l m j h3, List.getD_eq_getElem?_getD, List.getElem?_map, List.getElem?_eq_getElem h2]
      simp only [Option.map_some, Option.getD_some]
      rw [List.getD_eq_getElem?_getD, List.getElem?_eq_getElem h4]
      rfl
theorem cols_turned (l : List (List Int)) (m : Nat) (h : Fi l m) : turnL (colsS l m) m = rowsS (turnL l m) := by
  have h0 := turn_fi l m h
  have h1 := rows_fi _ _ h0
  have e : (rowsS (turnL l m)).length = m := by simp [rowsS, turn_len]
  have := turn_turn _ _ h1
  rw [e] at this
  exact this
theorem cols_sorted (l : List (List Int)) (m : Nat) (h : Fi l m) : sortedB (turnL (colsS l m) m) = true := by
  rw [cols_turned l m h]
  exact rows_sorted _
theorem cols_eq_iff (l : List (List Int)) (m : Nat) (h : Fi l m) : colsS l m = l ↔ sortedB (turnL l m) = true := by
  rw [sorted_iff]
  constructor
  · intro e
    rw [← cols_turned l m h, e]
  · intro e
    unfold colsS
    rw [e]
    exact turn_turn l m h

/-! ### columns put in order keep rows in order -/
def cntL (a : Int) (l : List Int) : Nat := (l.filter fun h => decide (h ≤ a)).length
theorem cnt_perm {a b : List Int} (h : a.Perm b) (t : Int) : cntL t a = cntL t b := (h.filter _).length_eq
theorem cnt_hi {s : List Int} (hs : Srt s) {i : Nat} (hi : i < s.length) {t : Int} (h : t < s[i]) : cntL t s ≤ i := by
  unfold cntL
  have e : s.filter (fun h => decide (h ≤ t)) = (s.take i).filter (fun h => decide (h ≤ t)) := by
    have h0 : (s.drop i).filter (fun h => decide (h ≤ t)) = [] := by
      rw [List.filter_eq_nil_iff]
      intro x hx
      obtain ⟨j, hj, rfl⟩ := List.mem_iff_getElem.1 hx
      rw [List.getElem_drop]
      have hle : s[i] ≤ s[i + j]'(by simp at hj; omega) := by
        rcases Nat.eq_zero_or_pos j with rfl | hp
        · exact Int.le_refl _
        · exact List.pairwise_iff_getElem.1 hs i (i + j) hi (by simp at hj; omega) (by omega)
      simp only [decide_eq_true_eq]
      omega
    conv => lhs; rw [← List.take_append_drop i s]
    rw [List.filter_append, h0, List.append_nil]
  rw [e]
  exact Nat.le_trans (List.length_filter_le _ _) (by simp; omega)
theorem cnt_lo {s : List Int} (hs : Srt s) {i : Nat} (hi : i < s.length) : i + 1 ≤ cntL s[i] s := by
  obtain ⟨t, ht⟩ : ∃ t, t = s[i] := ⟨_, rfl⟩
  rw [← ht]
  unfold cntL
  have h0 : (s.take (i + 1)).filter (fun h => decide (h ≤ t)) = s.take (i + 1) := by
    rw [ht]
    rw [List.filter_eq_self]
    intro x hx
    obtain ⟨j, hj, rfl⟩ := List.mem_iff_getElem.1 hx
    rw [List.getElem_take]
    simp only [List.length_take] at hj
    have hle : s[j]'(by omega) ≤ s[i] := by
      rcases Nat.lt_or_eq_of_le (show j ≤ i by omega) with hp | rfl
      · exact List.pairwise_iff_getElem.1 hs j i (by omega) hi hp
      · exact Int.le_refl _
    simp only [decide_eq_true_eq]
    exact hle
  conv => rhs; rw [← List.take_append_drop (i + 1) s]
  rw [List.filter_append, h0, List.length_append, List.length_take]
  omega
theorem cnt_map_le {α : Type} (f g : α → Int) (t : Int) : ∀ X : List α, (∀ r ∈ X, f r ≤ g r) → cntL t (X.map g) ≤ cntL t (X.map f)
  | [], _ => Nat.le_refl _
  | r :: X, h => by
    have ih := cnt_map_le f g t X (fun x hx => h x (List.mem_cons_of_mem _ hx))
    have h0 := h r List.mem_cons_self
    unfold cntL at ih ⊢
    rw [List.map_cons, List.map_cons, List.filter_cons, List.filter_cons]
    by_cases c : g r ≤ t
    · rw [if_pos (by simpa using c), if_pos (by simp; omega), List.length_cons, List.length_cons]
      omega
    · rw [if_neg (by simpa using c)]
      by_cases d : f r ≤ t
      · rw [if_pos (by simpa using d), List.length_cons]
        omega
      · rw [if_neg (by simpa using d)]
        exact ih
theorem ord_le {α : Type} (f g : α → Int) (X : List α) (h : ∀ r ∈ X, f r ≤ g r) (i : Nat) (hi : i < X.length) : (ordL (X.map f)).getD i 0 ≤ (ordL (X.map g)).getD i 0 := by
  have l1 : i < (ordL (X.map f)).length := by rw [ord_len]; simpa using hi
  have l2 : i < (ordL (X.map g)).length := by rw [ord_len]; simpa using hi
  rw [List.getD_eq_getElem?_getD, List.getElem?_eq_getElem l1, List.getD_eq_getElem?_getD, List.getElem?_eq_getElem l2]
  simp only [Option.getD_some]
  apply Classical.byContradiction
  intro hn
  have h1 := cnt_hi (ord_srt (X.map f)) l1 (t := (ordL (X.map g))[i]) (by omega)
  have h2 := cnt_lo (ord_srt (X.map g)) l2
  rw [cnt_perm (ord_perm _)] at h1 h2
  have h3 := cnt_map_le f g (ordL (X.map g))[i] X h
  omega
theorem srt_get {r : List Int} (h : Srt r) {j k : Nat} (hjk : j ≤ k) (hk : k < r.length) : r.getD j 0 ≤ r.getD k 0 := by
  rw [List.getD_eq_getElem?_getD, List.getElem?_eq_getElem (show j < r.length by omega), List.getD_eq_getElem?_getD, List.getElem?_eq_getElem hk]
  simp only [Option.getD_some]
  rcases Nat.lt_or_eq_of_le hjk with hp | rfl
  · exact List.pairwise_iff_getElem.1 h j k (by omega) hk hp
  · exact Int.le_refl _
theorem both_sorted (l : List (List Int)) (m : Nat) (h : Fi l m) (hs : sortedB l = true) : sortedB (colsS l m) = true := by
  have hw := h.wide
  unfold sortedB at hs ⊢
  rw [List.all_eq_true] at hs ⊢
  intro r hr
  obtain ⟨i, hi, rfl⟩ := List.mem_iff_getElem.1 hr
  have hi2 : i < l.length := by have : (colsS l m).length = l.length := by unfold colsS; rw [turn_len]
                                omega
  rw [srtB_iff]
  have e : (colsS l m)[i] = (rowsS (turnL l m)).map fun c => c.getD i 0 := by
    unfold colsS
    exact turn_get _ _ i hi2
  rw [e]
  unfold Srt
  rw [List.pairwise_iff_getElem]
  intro j k hj hk hjk
  simp only [List.length_map, rowsS, turn_len] at hj hk
  simp only [List.getElem_map, rowsS]
  rw [turn_get l m j hj, turn_get l m k hk]
  exact ord_le _ _ l (fun r hr => srt_get ((srtB_iff r).1 (hs r hr)) (by omega) (by rw [hw r hr]; exact hk)) i hi2

/-! ### in disorder -/
theorem cntR_zero (r : List Int) : cntR r = 0 ↔ srtB r = true := by
  unfold cntR srtB
  rw [List.length_eq_zero_iff, List.filter_eq_nil_iff, Bool.not_eq_true', List.any_eq_false]
theorem dis_zero : ∀ l : List (List Int), disL l = 0 ↔ sortedB l = true
  | [] => by simp [disL, sortedB]
  | r :: l => by
    have ih := dis_zero l
    have hr := cntR_zero r
    unfold disL sortedB at ih ⊢
    rw [List.map_cons, List.sum_cons, List.all_cons, Bool.and_eq_true, ← ih, ← hr]
    omega

/-! ### the tallest of the shortest, the shortest of the tallest -/
def lowL (l : List (List Int)) : Int := (l.map mnL).foldl max 0
def highL (l : List (List Int)) (m : Nat) : Int := ((turnL l m).map mxL).foldl min 999
theorem getD_mem' {r : List Int} {j : Nat} (h : j < r.length) : r.getD j 0 ∈ r := by
  rw [List.getD_eq_getElem?_getD, List.getElem?_eq_getElem h]
  exact List.getElem_mem h
theorem low_at (l : List (List Int)) (m : Nat) (h : Fi l m) : ∃ r ∈ l, lowL l = mnL r := by
  have hr0 := h.head
  rcases mem_foldl_max (l.map mnL) 0 with e | hm
  · exfalso
    have h1 := foldl_max_mem (l.map mnL) 0 _ (List.mem_map.2 ⟨_, hr0.1, rfl⟩)
    have h2 := (h.high _ hr0.1 _ (mnL_mem _ (by rw [hr0.2]; exact h.cols.1))).1
    omega
  · obtain ⟨r, hr, e⟩ := List.mem_map.1 hm
    exact ⟨r, hr, e.symm⟩
theorem low_ge (l : List (List Int)) {r : List Int} (hr : r ∈ l) : mnL r ≤ lowL l := foldl_max_mem (l.map mnL) 0 _ (List.mem_map.2 ⟨_, hr, rfl⟩)
theorem high_le (l : List (List Int)) (m : Nat) {c : List Int} (hc : c ∈ turnL l m) : highL l m ≤ mxL c := foldl_min_mem _ 999 _ (List.mem_map.2 ⟨_, hc, rfl⟩)
theorem high_at (l : List (List Int)) (m : Nat) (h : Fi l m) : ∃ c ∈ turnL l m, highL l m = mxL c := by
  have ht := turn_fi l m h
  rcases mem_foldl_min ((turnL l m).map mxL) 999 with e | hm
  · refine ⟨_, ht.head.1, ?_⟩
    have h1 := high_le l m ht.head.1
    have h2 := (ht.high _ ht.head.1 _ (mxL_mem _ (by rw [ht.head.2]; exact h.rows.1))).2
    unfold highL at h1 ⊢
    rw [e] at h1 ⊢
    omega
  · obtain ⟨r, hr, e⟩ := List.mem_map.1 hm
    exact ⟨r, hr, e.symm⟩
theorem col_of (l : List (List Int)) (m : Nat) {c : List Int} (hc : c ∈ turnL l m) : ∃ j, j < m ∧ ∃ h : j < (turnL l m).length, (turnL l m)[j] = c ∧ c = l.map fun r => r.getD j 0 := by
  obtain ⟨j, hj, e⟩ := List.mem_iff_getElem.1 hc
  have hj2 : j < m := by rw [turn_len] at hj; exact hj
  exact ⟨j, hj2, hj, e, by rw [← e, turn_get l m j hj2]⟩
theorem between (l : List (List Int)) (m : Nat) (h : Fi l m) {r : List Int} (hr : r ∈ l) {j : Nat} (hj : j < m) {c : List Int} (hc : c = l.map fun r => r.getD j 0) : mnL r ≤ r.getD j 0 ∧ r.getD j 0 ≤ mxL c := by
  refine ⟨mnL_le r _ (getD_mem' (by rw [h.wide r hr]; exact hj)), le_mxL c _ ?_⟩
  rw [hc]
  exact List.mem_map.2 ⟨r, hr, rfl⟩
theorem low_high (l : List (List Int)) (m : Nat) (h : Fi l m) : lowL l ≤ highL l m := by
  obtain ⟨r, hr, e1⟩ := low_at l m h
  obtain ⟨c, hc, e2⟩ := high_at l m h
  obtain ⟨j, hj, _, _, e3⟩ := col_of l m hc
  have := between l m h hr hj e3
  omega
end Go.Proofs.Ytieahbiaoceokaa.Pure
