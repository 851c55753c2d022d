/- Plain facts on the printed functions over files: what each comes to, for all lists; no Go and no memory here. -/
import Derived.Test.YtadmblidkliilaaAx1
import Derived.Test.YtadmblidkliilaaAx2
import Derived.Test.YtadmblidkliilaaAx3
import Derived.Test.YtadmblidkliilaaGiv
namespace Go.Proofs.Ytadmblidkliilaa.Pure
open Go.RowKit Go.Proofs.Ytadmblidkliilaa.A Go.Proofs.YtadmblidkliilaaW.PrintWords Go.Proofs.YtadmblidkliilaaW.PrintLast Go.Proofs.YtadmblidkliilaaW.PrintMore
set_option linter.unusedVariables false
set_option linter.unusedSimpArgs false

theorem w_in {x : Int} (h0 : -9223372036854775808 ≤ x) (h1 : x ≤ 9223372036854775807) : wrap64 x = x := by unfold wrap64; omega
theorem w_nat {n : Nat} (h : n ≤ 9223372036854775806) : wrap64 ((n : Int) + 1) = ((n + 1 : Nat) : Int) := by unfold wrap64; omega
theorem l1_eq (a l h : Int) : spec_l1In.f a l h = some (decide (l ≤ a ∧ a ≤ h)) := by
  unfold spec_l1In.f
  by_cases h1 : a ≥ l
  · rw [if_pos h1]; have : l ≤ a := h1; simp [this]
  · rw [if_neg h1]; have : ¬ l ≤ a := h1; simp [this]
theorem rd_at (l : List Int) (i : Nat) (h : i < l.length) : rd l (i : Int) = l[i] := by
  unfold rd
  rw [Int.toNat_natCast, List.getD_eq_getElem?_getD, List.getElem?_eq_getElem h]
  rfl
theorem rd_D (l : List Int) (i : Nat) : rd l (i : Int) = l.getD i 0 := by
  unfold rd
  rw [Int.toNat_natCast]
theorem rl_at (l : List (List Int)) (i : Nat) (h : i < l.length) : rd_L1 l (i : Int) = l[i] := by
  unfold rd_L1
  rw [Int.toNat_natCast, List.getD_eq_getElem?_getD, List.getElem?_eq_getElem h]
  rfl
theorem fuel1 {k : Nat} (h : 0 < k) : ∃ m, k = m + 1 := ⟨k - 1, by omega⟩

/-! ### the copies and the comparisons -/
theorem toS_loop (l : List Int) (hl : l.length ≤ 35184372088832) (d : Nat) : ∀ (k i : Nat) (x : List Int), x.length = l.length → i + d = l.length → d < k → x.take i = l.take i → laws_toIntS.l0 k l x (i : Int) = some l := by
  induction d with
  | zero =>
    intro k i x hx h hk ht
    obtain ⟨k, rfl⟩ := fuel1 (show 0 < k by omega)
    simp only [laws_toIntS.l0]
    rw [if_neg (by omega)]
    rw [List.take_of_length_le (by omega), List.take_of_length_le (by omega)] at ht
    rw [ht]
  | succ d ih =>
    intro k i x hx h hk ht
    obtain ⟨k, rfl⟩ := fuel1 (show 0 < k by omega)
    simp only [laws_toIntS.l0]
    rw [if_pos (by omega), if_pos (by omega), if_pos (by omega), w_nat (by omega), Int.toNat_natCast]
    refine ih k (i + 1) _ (by rw [List.length_set]; exact hx) (by omega) (by omega) ?_
    rw [rd_at l i (by omega), List.take_succ_eq_append_getElem (by rw [List.length_set]; omega), List.take_succ_eq_append_getElem (by omega), List.take_set_of_le (Nat.le_refl _), ht]
    simp
theorem toS_ok (l : List Int) (hl : l.length ≤ 35184372088832) (k : Nat) (hk : l.length < k) : laws_toIntS.f k l = some l := by
  unfold laws_toIntS.f
  rw [if_pos (by omega), if_pos (by omega)]
  exact toS_loop l hl l.length k 0 _ (by simp) (by omega) hk rfl
theorem toSS_loop (l : List (List Int)) (M : Nat) (hM : M ≤ 35184372088832) (hl : l.length ≤ 1048576) (hr : ∀ r ∈ l, r.length ≤ M) (d : Nat) : ∀ (k i : Nat) (x : List (List Int)), x.length = l.length → i + d = l.length → d + M < k → x.take i = l.take i → laws_toIntSS.l0 k l x (i : Int) = some l := by
  induction d with
  | zero =>
    intro k i x hx h hk ht
    obtain ⟨k, rfl⟩ := fuel1 (show 0 < k by omega)
    simp only [laws_toIntSS.l0]
    rw [if_neg (by omega)]
    rw [List.take_of_length_le (by omega), List.take_of_length_le (by omega)] at ht
    rw [ht]
  | succ d ih =>
    intro k i x hx h hk ht
    obtain ⟨k, rfl⟩ := fuel1 (show 0 < k by omega)
    have hi : i < l.length := by omega
    have hri := hr l[i] (List.getElem_mem hi)
    simp only [laws_toIntSS.l0]
    rw [if_pos (by omega), if_pos (by omega), rl_at l i hi, toS_ok _ (by omega) k (by omega), Option.bind_some, if_pos (by omega), w_nat (by omega), Int.toNat_natCast]
    refine ih k (i + 1) _ (by rw [List.length_set]; exact hx) (by omega) (by omega) ?_
    rw [List.take_succ_eq_append_getElem (by rw [List.length_set]; omega), List.take_succ_eq_append_getElem (by omega), List.take_set_of_le (Nat.le_refl _), ht]
    simp
theorem toSS_ok (l : List (List Int)) (M : Nat) (hM : M ≤ 35184372088832) (hl : l.length ≤ 1048576) (hr : ∀ r ∈ l, r.length ≤ M) (k : Nat) (hk : l.length + M < k) : laws_toIntSS.f k l = some l := by
  unfold laws_toIntSS.f
  rw [if_pos (by omega), if_pos (by omega)]
  exact toSS_loop l M hM hl hr l.length k 0 _ (by simp) (by omega) hk rfl
theorem sz_loop (l : List (List Int)) (hm : ∀ r ∈ l, r.length ≤ 9223372036854775807) (hlen : l.length ≤ 1048576) (d : Nat) : ∀ (k i : Nat) (left : Int), 0 ≤ left → left ≤ 1048576 → i + d = l.length → d < k →
    ∃ r, laws_szIntSS.l0 k l left (i : Int) = some r ∧ (r < 0 ∨ ∀ x ∈ l.drop i, x.length ≤ 1048576) := by
  induction d with
  | zero =>
    intro k i left h0 h1 h hk
    obtain ⟨k, rfl⟩ := fuel1 (show 0 < k by omega)
    simp only [laws_szIntSS.l0]
    rw [if_neg (by omega), List.drop_eq_nil_of_le (by omega)]
    exact ⟨_, rfl, .inr (by simp)⟩
  | succ d ih =>
    intro k i left h0 h1 h hk
    obtain ⟨k, rfl⟩ := fuel1 (show 0 < k by omega)
    have hi : i < l.length := by omega
    have hri := hm l[i] (List.getElem_mem hi)
    simp only [laws_szIntSS.l0]
    rw [if_pos (by omega), if_pos (by omega), rl_at l i hi]
    unfold laws_szIntS.f
    rw [w_in (x := left - (l[i].length : Int)) (by omega) (by omega)]
    by_cases hs : left - (l[i].length : Int) < 0
    · rw [if_pos hs, Option.bind_some, if_pos (by omega)]
      exact ⟨_, rfl, .inl (by omega)⟩
    · rw [if_neg hs, Option.bind_some, if_neg hs, w_nat (by omega)]
      obtain ⟨r, e, hr⟩ := ih k (i + 1) (left - (l[i].length : Int)) (by omega) (by omega) (by omega) (by omega)
      refine ⟨r, e, ?_⟩
      rcases hr with hr | hr
      · exact .inl hr
      · refine .inr fun x hx => ?_
        rw [List.drop_eq_getElem_cons hi] at hx
        rcases List.mem_cons.1 hx with rfl | hx
        · omega
        · exact hr x hx
theorem sz_ok (l : List (List Int)) (hm : ∀ r ∈ l, r.length ≤ 9223372036854775807) (hlen : l.length ≤ 9223372036854775807) (k : Nat) (hk : 1048577 < k) :
    ∃ r, laws_szIntSS.f k l 1048576 = some r ∧ (r < 0 ∨ (l.length ≤ 1048576 ∧ ∀ x ∈ l, x.length ≤ 1048576)) := by
  unfold laws_szIntSS.f
  rw [w_in (x := 1048576 - (l.length : Int)) (by omega) (by omega)]
  by_cases hs : 1048576 - (l.length : Int) < 0
  · rw [if_pos hs]
    exact ⟨_, rfl, .inl (by omega)⟩
  · rw [if_neg hs]
    obtain ⟨r, e, hr⟩ := sz_loop l hm (by omega) l.length k 0 (1048576 - (l.length : Int)) (by omega) (by omega) (by omega) (by omega)
    refine ⟨r, e, ?_⟩
    rcases hr with hr | hr
    · exact .inl hr
    · exact .inr ⟨by omega, fun x hx => hr x (by simpa using hx)⟩
theorem eqS_loop (l : List Int) (hl : l.length ≤ 9223372036854775806) (d : Nat) : ∀ (k i : Nat), i + d = l.length → d < k → laws_eqIntS.l0 k l l (i : Int) = some true := by
  induction d with
  | zero =>
    intro k i h hk
    obtain ⟨k, rfl⟩ := fuel1 (show 0 < k by omega)
    simp only [laws_eqIntS.l0]
    rw [if_neg (by omega)]
  | succ d ih =>
    intro k i h hk
    obtain ⟨k, rfl⟩ := fuel1 (show 0 < k by omega)
    simp only [laws_eqIntS.l0]
    rw [if_pos (by omega), if_pos (by omega), if_pos (by omega)]
    simp only [if_true]
    rw [w_nat (by omega)]
    exact ih k (i + 1) (by omega) (by omega)
theorem eqS_ok (l : List Int) (hl : l.length ≤ 9223372036854775806) (k : Nat) (hk : l.length < k) : laws_eqIntS.f k l l = some true := by
  unfold laws_eqIntS.f
  simp only [if_true]
  exact eqS_loop l hl l.length k 0 (by omega) hk
theorem eqSS_loop (l : List (List Int)) (M : Nat) (hM : M ≤ 9223372036854775806) (hl : l.length ≤ 9223372036854775806) (hr : ∀ r ∈ l, r.length ≤ M) (d : Nat) : ∀ (k i : Nat), i + d = l.length → d + M < k → laws_eqIntSS.l0 k l l (i : Int) = some true := by
  induction d with
  | zero =>
    intro k i h hk
    obtain ⟨k, rfl⟩ := fuel1 (show 0 < k by omega)
    simp only [laws_eqIntSS.l0]
    rw [if_neg (by omega)]
  | succ d ih =>
    intro k i h hk
    obtain ⟨k, rfl⟩ := fuel1 (show 0 < k by omega)
    have hi : i < l.length := by omega
    have hri := hr l[i] (List.getElem_mem hi)
    simp only [laws_eqIntSS.l0]
    rw [if_pos (by omega), if_pos (by omega), if_pos (by omega), rl_at l i hi, eqS_ok _ (by omega) k (by omega), Option.bind_some]
    simp only [if_true]
    rw [w_nat (by omega)]
    exact ih k (i + 1) (by omega) (by omega)
theorem eqSS_ok (l : List (List Int)) (M : Nat) (hM : M ≤ 9223372036854775806) (hl : l.length ≤ 9223372036854775806) (hr : ∀ r ∈ l, r.length ≤ M) (k : Nat) (hk : l.length + M < k) : laws_eqIntSS.f k l l = some true := by
  unfold laws_eqIntSS.f
  simp only [if_true]
  exact eqSS_loop l M hM hl hr l.length k 0 (by omega) hk

/-! ### are there files? -/
theorem all_loop (l : List Int) (hl : l.length ≤ 9223372036854775806) (d : Nat) : ∀ (k i : Nat), i + d = l.length → d < k → spec_l1All.l0 k 1 999 l (l.length : Int) (i : Int) = some (!(l.drop i).any badH) := by
  induction d with
  | zero =>
    intro k i h hk
    obtain ⟨k, rfl⟩ := fuel1 (show 0 < k by omega)
    simp only [spec_l1All.l0]
    rw [if_neg (by omega), List.drop_eq_nil_of_le (by omega)]
    rfl
  | succ d ih =>
    intro k i h hk
    obtain ⟨k, rfl⟩ := fuel1 (show 0 < k by omega)
    have hi : i < l.length := by omega
    simp only [spec_l1All.l0]
    rw [if_pos (by omega), if_pos (by omega), if_pos (by omega), rd_at l i hi, l1_eq, Option.bind_some, List.drop_eq_getElem_cons hi, List.any_cons]
    have hb : badH l[i] = !decide (1 ≤ l[i] ∧ l[i] ≤ 999) := rfl
    cases e : decide (1 ≤ l[i] ∧ l[i] ≤ 999) with
    | true =>
      rw [if_pos rfl, hb, e, w_nat (by omega), ih k (i + 1) (by omega) (by omega)]
      rfl
    | false =>
      rw [if_neg (by simp), hb, e]
      rfl
theorem all_ok (l : List Int) (hl : l.length ≤ 9223372036854775806) (k : Nat) (hk : l.length < k) : spec_l1All.f k l 1 999 = some (!l.any badH) := by
  unfold spec_l1All.f
  exact all_loop l hl l.length k 0 (by omega) hk
theorem good_loop (r0 : List Int) (rest : List (List Int)) (h8 : (r0 :: rest).length ≤ 8) (hr0 : r0.length ≤ 8) (d : Nat) : ∀ (k i : Nat), i + d = (r0 :: rest).length → d + 8 < k →
    spec_fiGood.l0 k (r0 :: rest) (r0 :: rest) ((r0 :: rest).length : Int) (i : Int) = some (!((r0 :: rest).drop i).any (badRow r0.length)) := by
  induction d with
  | zero =>
    intro k i h hk
    obtain ⟨k, rfl⟩ := fuel1 (show 0 < k by omega)
    simp only [spec_fiGood.l0]
    rw [if_neg (by omega), List.drop_eq_nil_of_le (by omega)]
    rfl
  | succ d ih =>
    intro k i h hk
    obtain ⟨k, rfl⟩ := fuel1 (show 0 < k by omega)
    have hi : i < (r0 :: rest).length := by omega
    have h00 : rd_L1 (r0 :: rest) 0 = r0 := rfl
    simp only [spec_fiGood.l0]
    rw [if_pos (by omega), if_pos (by omega), if_pos (by omega), if_pos (by omega), rl_at _ i hi, h00, List.drop_eq_getElem_cons hi, List.any_cons]
    generalize (r0 :: rest)[i] = r
    by_cases e : r.length = r0.length
    · rw [if_pos (by omega), all_ok r (by omega) k (by omega), Option.bind_some, badRow_eq e]
      cases eb : r.any badH with
      | true => rfl
      | false =>
        simp only [Bool.not_false, if_true, Bool.false_or]
        rw [w_nat (by omega), ih k (i + 1) (by omega) (by omega)]
    · rw [if_neg (by omega), badRow_ne e]
      rfl
theorem good_ok (l : List (List Int)) (k : Nat) (hk : 20 < k) : spec_fiGood.f k l = some (goodB l) := by
  obtain ⟨k, rfl⟩ := fuel1 (show 0 < k by omega)
  unfold spec_fiGood.f
  rw [l1_eq, Option.bind_some]
  by_cases h1 : 1 ≤ l.length ∧ l.length ≤ 8
  · obtain ⟨r0, rest, rfl⟩ : ∃ r0 rest, l = r0 :: rest := by
      cases l with
      | nil => simp at h1
      | cons a b => exact ⟨a, b, rfl⟩
    have h00 : rd_L1 (r0 :: rest) 0 = r0 := rfl
    rw [if_pos (by simp only [decide_eq_true_eq]; omega), if_pos (by omega), h00, l1_eq, Option.bind_some, goodB_cons, decide_eq_true h1]
    by_cases h2 : 1 ≤ r0.length ∧ r0.length ≤ 8
    · simp only [spec_fiGood.j0]
      rw [if_neg (by simp only [Bool.not_eq_true', decide_eq_false_iff_not]; omega), decide_eq_true h2]
      have := good_loop r0 rest h1.2 h2.2 (r0 :: rest).length k 0 (by omega) (by omega)
      simpa using this
    · simp only [spec_fiGood.j0]
      rw [if_pos (by simp only [Bool.not_eq_true', decide_eq_false_iff_not]; omega), decide_eq_false h2]
      rfl
  · rw [if_neg (by simp only [decide_eq_true_eq]; omega)]
    simp only [spec_fiGood.j0, if_true]
    congr 1
    simp [goodB, h1]
theorem are_ok (l : List (List Int)) : impl_areFiles.f l = some (goodB l) := rfl
/-- What files are. -/
structure Fi (l : List (List Int)) (m : Nat) : Prop where
  rows : 1 ≤ l.length ∧ l.length ≤ 8
  cols : 1 ≤ m ∧ m ≤ 8
  wide : ∀ r ∈ l, r.length = m
  high : ∀ r ∈ l, ∀ h ∈ r, 1 ≤ h ∧ h ≤ 999
  head : l.headD [] ∈ l ∧ (l.headD []).length = m
theorem fi_of (l : List (List Int)) (h : goodB l = true) : Fi l (l.headD []).length := by
  unfold goodB at h
  rw [Bool.and_eq_true, Bool.and_eq_true, decide_eq_true_eq, decide_eq_true_eq, Bool.not_eq_true'] at h
  obtain ⟨h1, h2, h3⟩ := h
  rw [List.any_eq_false] at h3
  have each : ∀ r ∈ l, r.length = (l.headD []).length ∧ ∀ x ∈ r, 1 ≤ x ∧ x ≤ 999 := by
    intro r hr
    have := h3 r hr
    unfold badRow at this
    rw [Bool.or_eq_true] at this
    refine ⟨?_, fun x hx => ?_⟩
    · apply Classical.byContradiction
      intro hne
      exact this (.inl (by simpa using hne))
    · apply Classical.byContradiction
      intro hne
      exact this (.inr (List.any_eq_true.2 ⟨x, hx, by unfold badH; simp only [Bool.not_eq_true', decide_eq_false_iff_not]; exact hne⟩))
  refine ⟨h1, h2, fun r hr => (each r hr).1, fun r hr => (each r hr).2, ?_, rfl⟩
  cases l with
  | nil => simp at h1
  | cons a b => simp

/-! ### rows in order -/
/-- the neighbours at i are in disorder -/
def desc (r : List Int) (i : Nat) : Bool := decide (r.getD i 0 > r.getD (i + 1) 0)
def srtB (r : List Int) : Bool := !(List.range (r.length - 1)).any (desc r)
def sortedB (l : List (List Int)) : Bool := l.all srtB
theorem srt_range (r : List Int) (h : 1 ≤ r.length) : (List.range' (1 - 1) (r.length - 1)).any (desc r) = !srtB r := by
  unfold srtB
  rw [Bool.not_not, List.range_eq_range']
/-! ### rows as columns -/
def turnL (l : List (List Int)) (m : Nat) : List (List Int) := (List.range m).map fun c => l.map fun r => r.getD c 0
theorem turn_len (l : List (List Int)) (m : Nat) : (turnL l m).length = m := by simp [turnL]
theorem turn_row (l : List (List Int)) (m : Nat) : ∀ r ∈ turnL l m, r.length = l.length := by
  intro r hr
  obtain ⟨c, _, rfl⟩ := List.mem_map.1 hr
  simp
theorem turn_fi (l : List (List Int)) (m : Nat) (h : Fi l m) : Fi (turnL l m) l.length := by
  have hne : turnL l m ≠ [] := by
    intro e
    have := turn_len l m
    rw [e] at this
    have := h.cols
    simp at *
    omega
  refine ⟨by rw [turn_len]; exact h.cols, h.rows, turn_row l m, ?_, ?_⟩
  · intro r hr x hx
    obtain ⟨c, hc, rfl⟩ := List.mem_map.1 hr
    obtain ⟨q, hq, rfl⟩ := List.mem_map.1 hx
    have hw := h.wide q hq
    have hcm := List.mem_range.1 hc
    have hcq : c < q.length := by omega
    rw [List.getD_eq_getElem?_getD, List.getElem?_eq_getElem hcq]
    exact h.high q hq _ (List.getElem_mem hcq)
  · cases e : turnL l m with
    | nil => exact absurd e hne
    | cons a b =>
      have : a ∈ turnL l m := by rw [e]; simp
      exact ⟨by simp, turn_row l m a this⟩

/-! ### disorder -/
def cntR (r : List Int) : Nat := ((List.range (r.length - 1)).filter (desc r)).length
def disL (l : List (List Int)) : Nat := (l.map cntR).sum
theorem cnt_le (r : List Int) : cntR r ≤ r.length := by
  unfold cntR
  have := List.length_filter_le (desc r) (List.range (r.length - 1))
  simp at this
  omega
theorem dis_le (L : List (List Int)) (hr : ∀ r ∈ L, r.length ≤ 8) : disL L ≤ 8 * L.length := by
  induction L with
  | nil => simp [disL]
  | cons a b ih =>
    have h1 := cnt_le a
    have h2 := hr a (by simp)
    have h3 := ih (fun r h => hr r (by simp [h]))
    simp only [disL, List.map_cons, List.sum_cons, List.length_cons] at *
    omega
/-! ### the least and the greatest -/
theorem mx_eq (a b : Int) : mx a b = max a b := by unfold mx; split <;> omega
theorem mn_eq (a b : Int) : mn a b = min a b := by unfold mn; split <;> omega
def mnL (r : List Int) : Int := r.foldl min (r.headD 0)
def mxL (r : List Int) : Int := r.foldl max (r.headD 0)
theorem foldl_min_le (l : List Int) : ∀ a : Int, l.foldl min a ≤ a := by
  induction l with
  | nil => intro a; exact Int.le_refl _
  | cons x l ih => intro a; have := ih (min a x); simp only [List.foldl_cons]; omega
theorem le_foldl_max (l : List Int) : ∀ a : Int, a ≤ l.foldl max a := by
  induction l with
  | nil => intro a; exact Int.le_refl _
  | cons x l ih => intro a; have := ih (max a x); simp only [List.foldl_cons]; omega
theorem mem_foldl_min (l : List Int) : ∀ a : Int, l.foldl min a = a ∨ l.foldl min a ∈ l := by
  induction l with
  | nil => intro a; exact .inl rfl
  | cons x l ih =>
    intro a
    simp only [List.foldl_cons, List.mem_cons]
    rcases ih (min a x) with h | h
    · rw [h]
      rcases Int.le_total a x with g | g
      · exact .inl (by omega)
      · exact .inr (.inl (by omega))
    · exact .inr (.inr h)
theorem mem_foldl_max (l : List Int) : ∀ a : Int, l.foldl max a = a ∨ l.foldl max a ∈ l := by
  induction l with
  | nil => intro a; exact .inl rfl
  | cons x l ih =>
    intro a
    simp only [List.foldl_cons, List.mem_cons]
    rcases ih (max a x) with h | h
    · rw [h]
      rcases Int.le_total a x with g | g
      · exact .inr (.inl (by omega))
      · exact .inl (by omega)
    · exact .inr (.inr h)
theorem foldl_min_mem (l : List Int) : ∀ (a : Int), ∀ x ∈ l, l.foldl min a ≤ x := by
  induction l with
  | nil => intro a x hx; simp at hx
  | cons y l ih =>
    intro a x hx
    simp only [List.foldl_cons]
    rcases List.mem_cons.1 hx with rfl | hx
    · have := foldl_min_le l (min a x); omega
    · exact ih _ x hx
theorem foldl_max_mem (l : List Int) : ∀ (a : Int), ∀ x ∈ l, x ≤ l.foldl max a := by
  induction l with
  | nil => intro a x hx; simp at hx
  | cons y l ih =>
    intro a x hx
    simp only [List.foldl_cons]
    rcases List.mem_cons.1 hx with rfl | hx
    · have := le_foldl_max l (max a x); omega
    · exact ih _ x hx
theorem mnL_mem (r : List Int) (h : 1 ≤ r.length) : mnL r ∈ r := by
  cases r with
  | nil => simp at h
  | cons a b =>
    rcases mem_foldl_min (a :: b) a with e | e
    · show (a :: b).foldl min a ∈ _
      rw [e]; simp
    · exact e
theorem mxL_mem (r : List Int) (h : 1 ≤ r.length) : mxL r ∈ r := by
  cases r with
  | nil => simp at h
  | cons a b =>
    rcases mem_foldl_max (a :: b) a with e | e
    · show (a :: b).foldl max a ∈ _
      rw [e]; simp
    · exact e
theorem mnL_le (r : List Int) : ∀ x ∈ r, mnL r ≤ x := foldl_min_mem r _
theorem le_mxL (r : List Int) : ∀ x ∈ r, x ≤ mxL r := foldl_max_mem r _

end Go.Proofs.Ytadmblidkliilaa.Pure
