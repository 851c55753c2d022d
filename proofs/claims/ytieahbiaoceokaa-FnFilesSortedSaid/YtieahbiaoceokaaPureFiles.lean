/- Plain facts on the printed functions over files: what each comes to, for all lists; no Go and no memory here. -/
import Derived.Test.YtieahbiaoceokaaAx1
import Derived.Test.YtieahbiaoceokaaAx10
import Derived.Test.YtieahbiaoceokaaAx7
import Derived.Test.YtieahbiaoceokaaAx8
import Derived.Test.YtieahbiaoceokaaAx9
import Derived.Test.YtieahbiaoceokaaGiv
namespace Go.Proofs.Ytieahbiaoceokaa.Pure
open Go.RowKit Go.Proofs.Ytieahbiaoceokaa.A Go.Proofs.YtieahbiaoceokaaW.PrintWords Go.Proofs.YtieahbiaoceokaaW.PrintLast Go.Proofs.YtieahbiaoceokaaW.PrintMore
set_option linter.unusedVariables false
set_option linter.unusedSimpArgs false

theorem w_in {x : Int} (h0 : -9223372036854775808 ≤ x) (h1 : x ≤ 9223372036854775807) : wrap64 x = x := by unfold wrap64; omega
theorem w_nat {n : Nat} (h : n ≤ 9223372036854775806) : wrap64 ((n : Int) + 1) = ((n + 1 : Nat) : Int) := by unfold wrap64; omega
theorem l1_eq (a l h : Int) : spec_l1In.f a l h = some (decide (l ≤ a ∧ a ≤ h)) := by
  unfold spec_l1In.f
  by_cases h1 : a ≥ l
  · rw [if_pos h1]; have : l ≤ a := h1; simp [this]
  · rw [if_neg h1]; have : ¬ l ≤ a := h1; simp [this]
theorem rd_at (l : List Int) (i : Nat) (h : i < l.length) : rd l (i : Int) = l[i] := by
  unfold rd
  rw [Int.toNat_natCast, List.getD_eq_getElem?_getD, List.getElem?_eq_getElem h]
  rfl
theorem rd_D (l : List Int) (i : Nat) : rd l (i : Int) = l.getD i 0 := by
  unfold rd
  rw [Int.toNat_natCast]
theorem rl_at (l : List (List Int)) (i : Nat) (h : i < l.length) : rd_L2 l (i : Int) = l[i] := by
  unfold rd_L2
  rw [Int.toNat_natCast, List.getD_eq_getElem?_getD, List.getElem?_eq_getElem h]
  rfl
theorem fuel1 {k : Nat} (h : 0 < k) : ∃ m, k = m + 1 := ⟨k - 1, by omega⟩

/-! ### the copies and the comparisons -/
/-! ### are there files? -/
theorem all_loop (l : List Int) (hl : l.length ≤ 9223372036854775806) (d : Nat) : ∀ (k i : Nat), i + d = l.length → d < k → spec_l1All.l0 k 1 999 l (l.length : Int) (i : Int) = some (!(l.drop i).any badH) := by
  induction d with
  | zero =>
    intro k i h hk
    obtain ⟨k, rfl⟩ := fuel1 (show 0 < k by omega)
    simp only [spec_l1All.l0]
    rw [if_neg (by omega), List.drop_eq_nil_of_le (by omega)]
    rfl
  | succ d ih =>
    intro k i h hk
    obtain ⟨k, rfl⟩ := fuel1 (show 0 < k by omega)
    have hi : i < l.length := by omega
    simp only [spec_l1All.l0]
    rw [if_pos (by omega), if_pos (by omega), if_pos (by omega), rd_at l i hi, l1_eq, Option.bind_some, List.drop_eq_getElem_cons hi, List.any_cons]
    have hb : badH l[i] = !decide (1 ≤ l[i] ∧ l[i] ≤ 999) := rfl
    cases e : decide (1 ≤ l[i] ∧ l[i] ≤ 999) with
    | true =>
      rw [if_pos rfl, hb, e, w_nat (by omega), ih k (i + 1) (by omega) (by omega)]
      rfl
    | false =>
      rw [if_neg (by simp), hb, e]
      rfl
theorem all_ok (l : List Int) (hl : l.length ≤ 9223372036854775806) (k : Nat) (hk : l.length < k) : spec_l1All.f k l 1 999 = some (!l.any badH) := by
  unfold spec_l1All.f
  exact all_loop l hl l.length k 0 (by omega) hk
theorem good_loop (r0 : List Int) (rest : List (List Int)) (h8 : (r0 :: rest).length ≤ 8) (hr0 : r0.length ≤ 8) (d : Nat) : ∀ (k i : Nat), i + d = (r0 :: rest).length → d + 8 < k →
    spec_fiGood.l0 k (r0 :: rest) (r0 :: rest) ((r0 :: rest).length : Int) (i : Int) = some (!((r0 :: rest).drop i).any (badRow r0.length)) := by
  induction d with
  | zero =>
    intro k i h hk
    obtain ⟨k, rfl⟩ := fuel1 (show 0 < k by omega)
    simp only [spec_fiGood.l0]
    rw [if_neg (by omega), List.drop_eq_nil_of_le (by omega)]
    rfl
  | succ d ih =>
    intro k i h hk
    obtain ⟨k, rfl⟩ := fuel1 (show 0 < k by omega)
    have hi : i < (r0 :: rest).length := by omega
    have h00 : rd_L2 (r0 :: rest) 0 = r0 := rfl
    simp only [spec_fiGood.l0]
    rw [if_pos (by omega), if_pos (by omega), if_pos (by omega), if_pos (by omega), rl_at _ i hi, h00, List.drop_eq_getElem_cons hi, List.any_cons]
    generalize (r0 :: rest)[i] = r
    by_cases e : r.length = r0.length
    · rw [if_pos (by omega), all_ok r (by omega) k (by omega), Option.bind_some, badRow_eq e]
      cases eb : r.any badH with
      | true => rfl
      | false =>
        simp only [Bool.not_false, if_true, Bool.false_or]
        rw [w_nat (by omega), ih k (i + 1) (by omega) (by omega)]
    · rw [if_neg (by omega), badRow_ne e]
      rfl
theorem good_ok (l : List (List Int)) (k : Nat) (hk : 20 < k) : spec_fiGood.f k l = some (goodB l) := by
  obtain ⟨k, rfl⟩ := fuel1 (show 0 < k by omega)
  unfold spec_fiGood.f
  rw [l1_eq, Option.bind_some]
  by_cases h1 : 1 ≤ l.length ∧ l.length ≤ 8
  · obtain ⟨r0, rest, rfl⟩ : ∃ r0 rest, l = r0 :: rest := by
      cases l with
      | nil => simp at h1
      | cons a b => exact ⟨a, b, rfl⟩
    have h00 : rd_L2 (r0 :: rest) 0 = r0 := rfl
    rw [if_pos (by simp only [decide_eq_true_eq]; omega), if_pos (by omega), h00, l1_eq, Option.bind_some, goodB_cons, decide_eq_true h1]
    by_cases h2 : 1 ≤ r0.length ∧ r0.length ≤ 8
    · simp only [spec_fiGood.j0]
      rw [if_neg (by simp only [Bool.not_eq_true', decide_eq_false_iff_not]; omega), decide_eq_true h2]
      have := good_loop r0 rest h1.2 h2.2 (r0 :: rest).length k 0 (by omega) (by omega)
      simpa using this
    · simp only [spec_fiGood.j0]
      rw [if_pos (by simp only [Bool.not_eq_true', decide_eq_false_iff_not]; omega), decide_eq_false h2]
      rfl
  · rw [if_neg (by simp only [decide_eq_true_eq]; omega)]
    simp only [spec_fiGood.j0, if_true]
    congr 1
    simp [goodB, h1]
theorem are_ok (l : List (List Int)) : impl_areFiles.f l = some (goodB l) := rfl
/-- What files are. -/
structure Fi (l : List (List Int)) (m : Nat) : Prop where
  rows : 1 ≤ l.length ∧ l.length ≤ 8
  cols : 1 ≤ m ∧ m ≤ 8
  wide : ∀ r ∈ l, r.length = m
  high : ∀ r ∈ l, ∀ h ∈ r, 1 ≤ h ∧ h ≤ 999
  head : l.headD [] ∈ l ∧ (l.headD []).length = m
theorem fi_of (l : List (List Int)) (h : goodB l = true) : Fi l (l.headD []).length := by
  unfold goodB at h
  rw [Bool.and_eq_true, Bool.and_eq_true, decide_eq_true_eq, decide_eq_true_eq, Bool.not_eq_true'] at h
  obtain ⟨h1, h2, h3⟩ := h
  rw [List.any_eq_false] at h3
  have each : ∀ r ∈ l, r.length = (l.headD []).length ∧ ∀ x ∈ r, 1 ≤ x ∧ x ≤ 999 := by
    intro r hr
    have := h3 r hr
    unfold badRow at this
    rw [Bool.or_eq_true] at this
    refine ⟨?_, fun x hx => ?_⟩
    · apply Classical.byContradiction
      intro hne
      exact this (.inl (by simpa using hne))
    · apply Classical.byContradiction
      intro hne
      exact this (.inr (List.any_eq_true.2 ⟨x, hx, by unfold badH; simp only [Bool.not_eq_true', decide_eq_false_iff_not]; exact hne⟩))
  refine ⟨h1, h2, fun r hr => (each r hr).1, fun r hr => (each r hr).2, ?_, rfl⟩
  cases l with
  | nil => simp at h1
  | cons a b => simp

/-! ### rows in order -/
/-- the neighbours at i are in disorder -/
def desc (r : List Int) (i : Nat) : Bool := decide (r.getD i 0 > r.getD (i + 1) 0)
def srtB (r : List Int) : Bool := !(List.range (r.length - 1)).any (desc r)
def sortedB (l : List (List Int)) : Bool := l.all srtB
theorem sor_in (r : List Int) (hr : r.length ≤ 1000) (L : List (List Int)) (n i : Int) (d : Nat) : ∀ (k j : Nat), 1 ≤ j → j + d = r.length →
    spec_fiSorted.l1 (k + d + 1) r (j : Int) L n i = if (List.range' (j - 1) d).any (desc r) = true then some false else spec_fiSorted.l0 k L n (wrap64 (i + 1)) := by
  induction d with
  | zero =>
    intro k j hj h
    simp only [spec_fiSorted.l1]
    rw [if_neg (by omega)]
    rfl
  | succ d ih =>
    intro k j hj h
    have e1 : wrap64 ((j : Int) - 1) = ((j - 1 : Nat) : Int) := by rw [w_in (by omega) (by omega)]; omega
    obtain ⟨K, hK⟩ : ∃ K, K = k + d + 1 := ⟨_, rfl⟩
    rw [show k + (d + 1) + 1 = K + 1 by omega]
    simp only [spec_fiSorted.l1]
    rw [if_pos (by omega), e1, if_pos (by omega), if_pos (by omega), if_pos (by omega), rd_D, rd_D]
    have hd : desc r (j - 1) = decide (r.getD (j - 1) 0 > r.getD j 0) := by unfold desc; rw [show j - 1 + 1 = j by omega]
    have hr' : List.range' (j - 1) (d + 1) = (j - 1) :: List.range' j d := by rw [List.range'_succ, show j - 1 + 1 = j by omega]
    rw [hr', List.any_cons, hd]
    by_cases c : r.getD (j - 1) 0 > r.getD j 0
    · rw [if_pos c, decide_eq_true c]
      rfl
    · rw [if_neg c, decide_eq_false c, w_nat (by omega), hK, ih k (j + 1) (by omega) (by omega), show j + 1 - 1 = j by omega, Bool.false_or]
theorem srt_range (r : List Int) (h : 1 ≤ r.length) : (List.range' (1 - 1) (r.length - 1)).any (desc r) = !srtB r := by
  unfold srtB
  rw [Bool.not_not, List.range_eq_range']
theorem sor_loop (L : List (List Int)) (hl : L.length ≤ 1000) (hr : ∀ r ∈ L, 1 ≤ r.length ∧ r.length ≤ 1000) (d : Nat) : ∀ (k i : Nat), i + d = L.length → 1010 * d < k → spec_fiSorted.l0 k L (L.length : Int) (i : Int) = some ((L.drop i).all srtB) := by
  induction d with
  | zero =>
    intro k i h hk
    obtain ⟨k, rfl⟩ := fuel1 (show 0 < k by omega)
    simp only [spec_fiSorted.l0]
    rw [if_neg (by omega), List.drop_eq_nil_of_le (by omega)]
    rfl
  | succ d ih =>
    intro k i h hk
    have hi : i < L.length := by omega
    have hri := hr L[i] (List.getElem_mem hi)
    obtain ⟨k, rfl⟩ : ∃ m, k = (m + (L[i].length - 1) + 1) + 1 := ⟨k - (L[i].length - 1) - 2, by omega⟩
    simp only [spec_fiSorted.l0]
    rw [if_pos (by omega), if_pos (by omega), if_pos (by omega), rl_at L i hi]
    have := sor_in L[i] (by omega) L (L.length : Int) (i : Int) (L[i].length - 1) k 1 (by omega) (by omega)
    have c1 : ((1 : Nat) : Int) = 1 := rfl
    rw [c1] at this
    rw [this, srt_range _ hri.1, w_nat (by omega), ih k (i + 1) (by omega) (by omega), List.drop_eq_getElem_cons hi, List.all_cons]
    cases srtB L[i] <;> rfl
theorem sor_ok (L : List (List Int)) (hl : L.length ≤ 8) (hr : ∀ r ∈ L, 1 ≤ r.length ∧ r.length ≤ 8) (k : Nat) (hk : 10000 < k) : spec_fiSorted.f k L = some (sortedB L) := by
  unfold spec_fiSorted.f
  have := sor_loop L (by omega) (fun r h => by have := hr r h; omega) L.length k 0 (by omega) (by omega)
  simpa [sortedB] using this
theorem less_ok (a b : Int) : cmp_Less_int.f a b = some (decide (a < b)) := by
  unfold cmp_Less_int.f cmp_isNaN_int.f
  simp
theorem iss_loop (r : List Int) (hr : r.length ≤ 1000) (i : Nat) : ∀ (k : Nat), i < r.length → i < k → slices_IsSorted_int_int.l0 k r (i : Int) = some (!(List.range i).any (desc r)) := by
  induction i with
  | zero =>
    intro k h hk
    obtain ⟨k, rfl⟩ := fuel1 (show 0 < k by omega)
    simp only [slices_IsSorted_int_int.l0]
    rw [if_neg (by omega)]
    rfl
  | succ i ih =>
    intro k h hk
    obtain ⟨k, rfl⟩ := fuel1 (show 0 < k by omega)
    have e1 : wrap64 (((i + 1 : Nat) : Int) - 1) = (i : Int) := by rw [w_in (by omega) (by omega)]; omega
    simp only [slices_IsSorted_int_int.l0]
    rw [if_pos (by omega), if_pos (by omega), if_pos (by omega), e1, if_pos (by omega), if_pos (by omega), less_ok, Option.bind_some, rd_D, rd_D, List.range_succ, List.any_append]
    have hd : decide (r.getD (i + 1) 0 < r.getD i 0) = desc r i := rfl
    rw [hd]
    cases hb : desc r i with
    | true => simp [hb]
    | false =>
      rw [if_neg (by simp), ih k (by omega) (by omega)]
      simp [hb]
theorem iss_ok (r : List Int) (h1 : 1 ≤ r.length) (hr : r.length ≤ 1000) (k : Nat) (hk : 1000 < k) : slices_IsSorted_int_int.f k r = some (srtB r) := by
  unfold slices_IsSorted_int_int.f
  have e1 : wrap64 ((r.length : Int) - 1) = ((r.length - 1 : Nat) : Int) := by rw [w_in (by omega) (by omega)]; omega
  rw [e1]
  exact iss_loop r hr (r.length - 1) k (by omega) (by omega)
theorem rs_loop (L : List (List Int)) (hl : L.length ≤ 1000) (hr : ∀ r ∈ L, 1 ≤ r.length ∧ r.length ≤ 1000) (d : Nat) : ∀ (k i : Nat), i + d = L.length → d + 1001 < k →
    ∃ q : Int, slices_IndexFunc_int_int_at_impl_rowsSorted_1.l0 k L (L.length : Int) (i : Int) = some q ∧ decide (q ≥ 0) = !((L.drop i).all srtB) := by
  induction d with
  | zero =>
    intro k i h hk
    obtain ⟨k, rfl⟩ := fuel1 (show 0 < k by omega)
    simp only [slices_IndexFunc_int_int_at_impl_rowsSorted_1.l0]
    rw [if_neg (by omega), List.drop_eq_nil_of_le (by omega)]
    exact ⟨_, rfl, rfl⟩
  | succ d ih =>
    intro k i h hk
    obtain ⟨k, rfl⟩ := fuel1 (show 0 < k by omega)
    have hi : i < L.length := by omega
    have hri := hr L[i] (List.getElem_mem hi)
    simp only [slices_IndexFunc_int_int_at_impl_rowsSorted_1.l0]
    rw [if_pos (by omega), if_pos (by omega), if_pos (by omega), rl_at L i hi]
    unfold impl_rowsSorted_1.f
    rw [iss_ok _ hri.1 hri.2 k (by omega), Option.bind_some, Option.bind_some, List.drop_eq_getElem_cons hi, List.all_cons]
    cases srtB L[i] with
    | true =>
      obtain ⟨q, e, he⟩ := ih k (i + 1) (by omega) (by omega)
      refine ⟨q, ?_, by rw [he]; rfl⟩
      rw [if_neg (by simp), w_nat (by omega), e]
    | false =>
      refine ⟨i, by rw [if_pos (by rfl)], ?_⟩
      simp
theorem rs_ok (L : List (List Int)) (hl : L.length ≤ 8) (hr : ∀ r ∈ L, 1 ≤ r.length ∧ r.length ≤ 8) (k : Nat) (hk : 10000 < k) : impl_rowsSorted.f k L = some (sortedB L) := by
  obtain ⟨q, e, he⟩ := rs_loop L (by omega) (fun r h => by have := hr r h; omega) L.length k 0 (by omega) (by omega)
  unfold impl_rowsSorted.f slices_ContainsFunc_int_int_at_impl_rowsSorted_1.f slices_IndexFunc_int_int_at_impl_rowsSorted_1.f
  have c0 : ((0 : Nat) : Int) = 0 := rfl
  rw [c0] at e
  rw [e, Option.bind_some, Option.bind_some, he, Bool.not_not]
  rfl

/-! ### rows as columns -/
def turnL (l : List (List Int)) (m : Nat) : List (List Int) := (List.range m).map fun c => l.map fun r => r.getD c 0
theorem turn_same : ∀ k : Nat, (∀ a b c d, impl_turnFiles.l0 k a b c d = spec_fiTurn.l0 k a b c d) ∧ (∀ a b c d e f g h i, impl_turnFiles.l1 k a b c d e f g h i = spec_fiTurn.l1 k a b c d e f g h i) := by
  intro k
  induction k with
  | zero => exact ⟨fun _ _ _ _ => rfl, fun _ _ _ _ _ _ _ _ _ => rfl⟩
  | succ k ih =>
    obtain ⟨h0, h1⟩ := ih
    refine ⟨fun a b c d => ?_, fun a b c d e f g h i => ?_⟩
    · simp only [impl_turnFiles.l0, spec_fiTurn.l0, h1]
    · simp only [impl_turnFiles.l1, spec_fiTurn.l1, h0, h1]
theorem turn_same_f (k : Nat) (l : List (List Int)) : impl_turnFiles.f k l = spec_fiTurn.f k l := by
  unfold impl_turnFiles.f spec_fiTurn.f
  rw [(turn_same k).1]
theorem turn_in (L : List (List Int)) (m c : Nat) (hc : c < m) (hm : m ≤ 8) (hl : L.length ≤ 8) (hw : ∀ r ∈ L, r.length = m) (x3 : List (List Int)) (h3 : x3.length ≤ 8) (d : Nat) : ∀ (k i : Nat) (x5 : List Int), i + d = L.length → x5.length ≤ i →
    spec_fiTurn.l1 (k + d + 1) L x3 (c : Int) x5 (m : Int) (c : Int) L (L.length : Int) (i : Int) = spec_fiTurn.l0 k L (x3 ++ [x5 ++ (L.drop i).map fun r => r.getD c 0]) (m : Int) ((c + 1 : Nat) : Int) := by
  induction d with
  | zero =>
    intro k i x5 h h5
    simp only [spec_fiTurn.l1]
    rw [if_neg (by omega), if_pos (by omega), List.drop_eq_nil_of_le (by omega), w_nat (by omega)]
    simp
  | succ d ih =>
    intro k i x5 h h5
    have hi : i < L.length := by omega
    have hri := hw L[i] (List.getElem_mem hi)
    obtain ⟨K, hK⟩ : ∃ K, K = k + d + 1 := ⟨_, rfl⟩
    rw [show k + (d + 1) + 1 = K + 1 by omega]
    simp only [spec_fiTurn.l1]
    rw [if_pos (by omega), if_pos (by omega), if_pos (by omega), if_pos (by omega), rl_at L i hi, if_pos (by omega), if_pos (by omega), w_nat (by omega), hK, ih k (i + 1) _ (by omega) (by simp; omega), rd_D, List.drop_eq_getElem_cons hi]
    simp only [List.map_cons, List.append_assoc, List.singleton_append]
theorem turn_loop (L : List (List Int)) (m : Nat) (hm : m ≤ 8) (hl : L.length ≤ 8) (hw : ∀ r ∈ L, r.length = m) (d : Nat) : ∀ (k c : Nat), c + d = m → 12 * d < k → spec_fiTurn.l0 k L (turnL L c) (m : Int) (c : Int) = some (turnL L m) := by
  induction d with
  | zero =>
    intro k c h hk
    obtain ⟨k, rfl⟩ := fuel1 (show 0 < k by omega)
    obtain rfl : c = m := by omega
    simp only [spec_fiTurn.l0]
    rw [if_neg (by omega)]
  | succ d ih =>
    intro k c h hk
    obtain ⟨k, rfl⟩ : ∃ q, k = (q + L.length + 1) + 1 := ⟨k - L.length - 2, by omega⟩
    simp only [spec_fiTurn.l0]
    rw [if_pos (by omega)]
    have := turn_in L m c (by omega) hm hl hw (turnL L c) (by simp [turnL]; omega) L.length k 0 [] (by omega) (by simp)
    have c0 : ((0 : Nat) : Int) = 0 := rfl
    rw [c0] at this
    rw [this]
    have e : turnL L c ++ [[] ++ (L.drop 0).map fun r => r.getD c 0] = turnL L (c + 1) := by simp [turnL, List.range_succ]
    rw [e]
    exact ih k (c + 1) (by omega) (by omega)
theorem turn_ok (l : List (List Int)) (m : Nat) (h : Fi l m) (k : Nat) (hk : 200 < k) : spec_fiTurn.f k l = some (turnL l m) := by
  unfold spec_fiTurn.f
  have hr := h.rows
  have hc := h.cols
  rw [if_pos (by omega)]
  have h0 : ((rd_L2 l 0).length : Int) = (m : Int) := by
    have e : rd_L2 l 0 = l.headD [] := by
      cases l with
      | nil => rfl
      | cons a b => rfl
    rw [e, h.head.2]
  rw [h0]
  exact turn_loop l m hc.2 hr.2 h.wide m k 0 (by omega) (by omega)
theorem turn_len (l : List (List Int)) (m : Nat) : (turnL l m).length = m := by simp [turnL]
theorem turn_row (l : List (List Int)) (m : Nat) : ∀ r ∈ turnL l m, r.length = l.length := by
  intro r hr
  obtain ⟨c, _, rfl⟩ := List.mem_map.1 hr
  simp
theorem turn_fi (l : List (List Int)) (m : Nat) (h : Fi l m) : Fi (turnL l m) l.length := by
  have hne : turnL l m ≠ [] := by
    intro e
    have := turn_len l m
    rw [e] at this
    have := h.cols
    simp at *
    omega
  refine ⟨by rw [turn_len]; exact h.cols, h.rows, turn_row l m, ?_, ?_⟩
  · intro r hr x hx
    obtain ⟨c, hc, rfl⟩ := List.mem_map.1 hr
    obtain ⟨q, hq, rfl⟩ := List.mem_map.1 hx
    have hw := h.wide q hq
    have hcm := List.mem_range.1 hc
    have hcq : c < q.length := by omega
    rw [List.getD_eq_getElem?_getD, List.getElem?_eq_getElem hcq]
    exact h.high q hq _ (List.getElem_mem hcq)
  · cases e : turnL l m with
    | nil => exact absurd e hne
    | cons a b =>
      have : a ∈ turnL l m := by rw [e]; simp
      exact ⟨by simp, turn_row l m a this⟩

/-! ### disorder -/
def cntR (r : List Int) : Nat := ((List.range (r.length - 1)).filter (desc r)).length
def disL (l : List (List Int)) : Nat := (l.map cntR).sum
theorem cnt_le (r : List Int) : cntR r ≤ r.length := by
  unfold cntR
  have := List.length_filter_le (desc r) (List.range (r.length - 1))
  simp at this
  omega
theorem dis_le (L : List (List Int)) (hr : ∀ r ∈ L, r.length ≤ 8) : disL L ≤ 8 * L.length := by
  induction L with
  | nil => simp [disL]
  | cons a b ih =>
    have h1 := cnt_le a
    have h2 := hr a (by simp)
    have h3 := ih (fun r h => hr r (by simp [h]))
    simp only [disL, List.map_cons, List.sum_cons, List.length_cons] at *
    omega
/-! ### the least and the greatest -/
theorem most_eq (a b : Int) : spec_l1Most.f a b = some (max a b) := by
  unfold spec_l1Most.f
  by_cases h : a > b
  · rw [if_pos h]; congr 1; omega
  · rw [if_neg h]; congr 1; omega
theorem least_eq (a b : Int) : spec_l1Least.f a b = some (min a b) := by
  unfold spec_l1Least.f
  by_cases h : a < b
  · rw [if_pos h]; congr 1; omega
  · rw [if_neg h]; congr 1; omega
theorem mx_eq (a b : Int) : mx a b = max a b := by unfold mx; split <;> omega
theorem mn_eq (a b : Int) : mn a b = min a b := by unfold mn; split <;> omega
def mnL (r : List Int) : Int := r.foldl min (r.headD 0)
def mxL (r : List Int) : Int := r.foldl max (r.headD 0)
theorem end_loop (r : List Int) (hr : r.length ≤ 1000) (d : Nat) : ∀ (k i : Nat) (a b : Int), i + d = r.length → d < k → spec_fiEnd.l0 k a b r (r.length : Int) (i : Int) = some ((r.drop i).foldl min a, (r.drop i).foldl max b) := by
  induction d with
  | zero =>
    intro k i a b h hk
    obtain ⟨k, rfl⟩ := fuel1 (show 0 < k by omega)
    simp only [spec_fiEnd.l0]
    rw [if_neg (by omega), List.drop_eq_nil_of_le (by omega)]
    rfl
  | succ d ih =>
    intro k i a b h hk
    obtain ⟨k, rfl⟩ := fuel1 (show 0 < k by omega)
    have hi : i < r.length := by omega
    simp only [spec_fiEnd.l0]
    rw [if_pos (by omega), if_pos (by omega), if_pos (by omega), least_eq, Option.bind_some, most_eq, Option.bind_some, w_nat (by omega), ih k (i + 1) _ _ (by omega) (by omega), rd_at r i hi, List.drop_eq_getElem_cons hi]
    rfl
theorem end_ok (r : List Int) (h1 : 1 ≤ r.length) (hr : r.length ≤ 1000) (k : Nat) (hk : 1000 < k) : spec_fiEnd.f k r = some (mnL r, mxL r) := by
  unfold spec_fiEnd.f
  have e : rd r 0 = r.headD 0 := by
    cases r with
    | nil => simp at h1
    | cons a b => rfl
  rw [if_pos (by omega), e]
  have := end_loop r hr r.length k 0 (r.headD 0) (r.headD 0) (by omega) (by omega)
  simpa [mnL, mxL] using this
theorem max_loop (r : List Int) (hr : r.length ≤ 1000) (d : Nat) : ∀ (k i : Nat) (a : Int), i + d = r.length → d < k → slices_Max_int_int.l0 k r a (i : Int) = some ((r.drop i).foldl max a) := by
  induction d with
  | zero =>
    intro k i a h hk
    obtain ⟨k, rfl⟩ := fuel1 (show 0 < k by omega)
    simp only [slices_Max_int_int.l0]
    rw [if_neg (by omega), List.drop_eq_nil_of_le (by omega)]
    rfl
  | succ d ih =>
    intro k i a h hk
    obtain ⟨k, rfl⟩ := fuel1 (show 0 < k by omega)
    have hi : i < r.length := by omega
    simp only [slices_Max_int_int.l0]
    rw [if_pos (by omega), if_pos (by omega), w_nat (by omega), ih k (i + 1) _ (by omega) (by omega), rd_at r i hi, List.drop_eq_getElem_cons hi, mx_eq]
    rfl
theorem min_loop (r : List Int) (hr : r.length ≤ 1000) (d : Nat) : ∀ (k i : Nat) (a : Int), i + d = r.length → d < k → slices_Min_int_int.l0 k r a (i : Int) = some ((r.drop i).foldl min a) := by
  induction d with
  | zero =>
    intro k i a h hk
    obtain ⟨k, rfl⟩ := fuel1 (show 0 < k by omega)
    simp only [slices_Min_int_int.l0]
    rw [if_neg (by omega), List.drop_eq_nil_of_le (by omega)]
    rfl
  | succ d ih =>
    intro k i a h hk
    obtain ⟨k, rfl⟩ := fuel1 (show 0 < k by omega)
    have hi : i < r.length := by omega
    simp only [slices_Min_int_int.l0]
    rw [if_pos (by omega), if_pos (by omega), w_nat (by omega), ih k (i + 1) _ (by omega) (by omega), rd_at r i hi, List.drop_eq_getElem_cons hi, mn_eq]
    rfl
theorem max_ok (r : List Int) (h1 : 1 ≤ r.length) (hr : r.length ≤ 1000) (k : Nat) (hk : 1000 < k) : slices_Max_int_int.f k r = some (mxL r) := by
  unfold slices_Max_int_int.f
  rw [if_neg (by omega), if_pos (by omega)]
  cases r with
  | nil => simp at h1
  | cons a b =>
    have e : rd (a :: b) 0 = a := rfl
    have := max_loop (a :: b) hr b.length k 1 a (by simp; omega) (by simp at hr; omega)
    have c1 : ((1 : Nat) : Int) = 1 := rfl
    rw [c1] at this
    rw [e, this]
    simp [mxL]
theorem min_ok (r : List Int) (h1 : 1 ≤ r.length) (hr : r.length ≤ 1000) (k : Nat) (hk : 1000 < k) : slices_Min_int_int.f k r = some (mnL r) := by
  unfold slices_Min_int_int.f
  rw [if_neg (by omega), if_pos (by omega)]
  cases r with
  | nil => simp at h1
  | cons a b =>
    have e : rd (a :: b) 0 = a := rfl
    have := min_loop (a :: b) hr b.length k 1 a (by simp; omega) (by simp at hr; omega)
    have c1 : ((1 : Nat) : Int) = 1 := rfl
    rw [c1] at this
    rw [e, this]
    simp [mnL]
theorem ofmin_loop (L : List (List Int)) (hl : L.length ≤ 1000) (hr : ∀ r ∈ L, 1 ≤ r.length ∧ r.length ≤ 1000) (d : Nat) : ∀ (k i : Nat) (x : List Int), i + d = L.length → d + 1001 < k → x.length ≤ i →
    impl_ofRows_at_slices_Min_int_int.l0 k x L (L.length : Int) (i : Int) = some (x ++ (L.drop i).map mnL) := by
  induction d with
  | zero =>
    intro k i x h hk hx
    obtain ⟨k, rfl⟩ := fuel1 (show 0 < k by omega)
    simp only [impl_ofRows_at_slices_Min_int_int.l0]
    rw [if_neg (by omega), List.drop_eq_nil_of_le (by omega)]
    simp
  | succ d ih =>
    intro k i x h hk hx
    obtain ⟨k, rfl⟩ := fuel1 (show 0 < k by omega)
    have hi : i < L.length := by omega
    have hri := hr L[i] (List.getElem_mem hi)
    simp only [impl_ofRows_at_slices_Min_int_int.l0]
    rw [if_pos (by omega), if_pos (by omega), if_pos (by omega), rl_at L i hi, min_ok _ hri.1 hri.2 k (by omega), Option.bind_some, if_pos (by omega), w_nat (by omega), ih k (i + 1) _ (by omega) (by omega) (by simp; omega), List.drop_eq_getElem_cons hi]
    simp only [List.map_cons, List.append_assoc, List.singleton_append]
theorem ofmax_loop (L : List (List Int)) (hl : L.length ≤ 1000) (hr : ∀ r ∈ L, 1 ≤ r.length ∧ r.length ≤ 1000) (d : Nat) : ∀ (k i : Nat) (x : List Int), i + d = L.length → d + 1001 < k → x.length ≤ i →
    impl_ofRows_at_slices_Max_int_int.l0 k x L (L.length : Int) (i : Int) = some (x ++ (L.drop i).map mxL) := by
  induction d with
  | zero =>
    intro k i x h hk hx
    obtain ⟨k, rfl⟩ := fuel1 (show 0 < k by omega)
    simp only [impl_ofRows_at_slices_Max_int_int.l0]
    rw [if_neg (by omega), List.drop_eq_nil_of_le (by omega)]
    simp
  | succ d ih =>
    intro k i x h hk hx
    obtain ⟨k, rfl⟩ := fuel1 (show 0 < k by omega)
    have hi : i < L.length := by omega
    have hri := hr L[i] (List.getElem_mem hi)
    simp only [impl_ofRows_at_slices_Max_int_int.l0]
    rw [if_pos (by omega), if_pos (by omega), if_pos (by omega), rl_at L i hi, max_ok _ hri.1 hri.2 k (by omega), Option.bind_some, if_pos (by omega), w_nat (by omega), ih k (i + 1) _ (by omega) (by omega) (by simp; omega), List.drop_eq_getElem_cons hi]
    simp only [List.map_cons, List.append_assoc, List.singleton_append]
theorem ofmin_ok (L : List (List Int)) (hl : L.length ≤ 1000) (hr : ∀ r ∈ L, 1 ≤ r.length ∧ r.length ≤ 1000) (k : Nat) (hk : 3000 < k) : impl_ofRows_at_slices_Min_int_int.f k L = some (L.map mnL) := by
  unfold impl_ofRows_at_slices_Min_int_int.f
  have := ofmin_loop L hl hr L.length k 0 [] (by omega) (by omega) (by simp)
  simpa using this
theorem ofmax_ok (L : List (List Int)) (hl : L.length ≤ 1000) (hr : ∀ r ∈ L, 1 ≤ r.length ∧ r.length ≤ 1000) (k : Nat) (hk : 3000 < k) : impl_ofRows_at_slices_Max_int_int.f k L = some (L.map mxL) := by
  unfold impl_ofRows_at_slices_Max_int_int.f
  have := ofmax_loop L hl hr L.length k 0 [] (by omega) (by omega) (by simp)
  simpa using this
theorem foldl_min_le (l : List Int) : ∀ a : Int, l.foldl min a ≤ a := by
  induction l with
  | nil => intro a; exact Int.le_refl _
  | cons x l ih => intro a; have := ih (min a x); simp only [List.foldl_cons]; omega
theorem le_foldl_max (l : List Int) : ∀ a : Int, a ≤ l.foldl max a := by
  induction l with
  | nil => intro a; exact Int.le_refl _
  | cons x l ih => intro a; have := ih (max a x); simp only [List.foldl_cons]; omega
theorem mem_foldl_min (l : List Int) : ∀ a : Int, l.foldl min a = a ∨ l.foldl min a ∈ l := by
  induction l with
  | nil => intro a; exact .inl rfl
  | cons x l ih =>
    intro a
    simp only [List.foldl_cons, List.mem_cons]
    rcases ih (min a x) with h | h
    · rw [h]
      rcases Int.le_total a x with g | g
      · exact .inl (by omega)
      · exact .inr (.inl (by omega))
    · exact .inr (.inr h)
theorem mem_foldl_max (l : List Int) : ∀ a : Int, l.foldl max a = a ∨ l.foldl max a ∈ l := by
  induction l with
  | nil => intro a; exact .inl rfl
  | cons x l ih =>
    intro a
    simp only [List.foldl_cons, List.mem_cons]
    rcases ih (max a x) with h | h
    · rw [h]
      rcases Int.le_total a x with g | g
      · exact .inr (.inl (by omega))
      · exact .inl (by omega)
    · exact .inr (.inr h)
theorem foldl_min_mem (l : List Int) : ∀ (a : Int), ∀ x ∈ l, l.foldl min a ≤ x := by
  induction l with
  | nil => intro a x hx; simp at hx
  | cons y l ih =>
    intro a x hx
    simp only [List.foldl_cons]
    rcases List.mem_cons.1 hx with rfl | hx
    · have := foldl_min_le l (min a x); omega
    · exact ih _ x hx
theorem foldl_max_mem (l : List Int) : ∀ (a : Int), ∀ x ∈ l, x ≤ l.foldl max a := by
  induction l with
  | nil => intro a x hx; simp at hx
  | cons y l ih =>
    intro a x hx
    simp only [List.foldl_cons]
    rcases List.mem_cons.1 hx with rfl | hx
    · have := le_foldl_max l (max a x); omega
    · exact ih _ x hx
theorem mnL_mem (r : List Int) (h : 1 ≤ r.length) : mnL r ∈ r := by
  cases r with
  | nil => simp at h
  | cons a b =>
    rcases mem_foldl_min (a :: b) a with e | e
    · show (a :: b).foldl min a ∈ _
      rw [e]; simp
    · exact e
theorem mxL_mem (r : List Int) (h : 1 ≤ r.length) : mxL r ∈ r := by
  cases r with
  | nil => simp at h
  | cons a b =>
    rcases mem_foldl_max (a :: b) a with e | e
    · show (a :: b).foldl max a ∈ _
      rw [e]; simp
    · exact e
theorem mnL_le (r : List Int) : ∀ x ∈ r, mnL r ≤ x := foldl_min_mem r _
theorem le_mxL (r : List Int) : ∀ x ∈ r, x ≤ mxL r := foldl_max_mem r _

end Go.Proofs.Ytieahbiaoceokaa.Pure
