/- Plain facts on the printed functions over files: what each comes to, for all lists; no Go and no memory here. -/
import Derived.Test.YtohhlkehglahhaaGreatDoorAx16
import Derived.Test.YtohhlkehglahhaaGreatDoorAx17
import Derived.Test.YtohhlkehglahhaaGreatDoorAx2
import Derived.Test.YtohhlkehglahhaaGreatDoorAx3
import Derived.Test.YtohhlkehglahhaaGreatDoorAx5
import Derived.Test.YtohhlkehglahhaaGreatDoorAx6
import Derived.Test.YtohhlkehglahhaaGreatDoorGiv
namespace Go.Proofs.YtohhlkehglahhaaGreatDoor.Pure
open Go.RowKit Go.Proofs.YtohhlkehglahhaaGreatDoor.A Go.Proofs.YtohhlkehglahhaaGreatDoorW.PrintWords Go.Proofs.YtohhlkehglahhaaGreatDoorW.PrintLast Go.Proofs.YtohhlkehglahhaaGreatDoorW.PrintMore
set_option linter.unusedVariables false
set_option linter.unusedSimpArgs false
theorem w_in {x : Int} (h0 : -9223372036854775808 ≤ x) (h1 : x ≤ 9223372036854775807) : wrap64 x = x := by unfold wrap64; omega
theorem w_nat {n : Nat} (h : n ≤ 9223372036854775806) : wrap64 ((n : Int) + 1) = ((n + 1 : Nat) : Int) := by unfold wrap64; omega
theorem l1_eq (a l h : Int) : Qj1.f a l h = some (decide (l ≤ a ∧ a ≤ h)) := by
  unfold Qj1.f
  by_cases h1 : a ≥ l
  · rw [if_pos h1]; have : l ≤ a := h1; simp [this]
  · rw [if_neg h1]; have : ¬ l ≤ a := h1; simp [this]
theorem rd_at (l : List Int) (i : Nat) (h : i < l.length) : rd l (i : Int) = l[i] := by
  unfold rd
  rw [Int.toNat_natCast, List.getD_eq_getElem?_getD, List.getElem?_eq_getElem h]
  rfl
theorem rd_D (l : List Int) (i : Nat) : rd l (i : Int) = l.getD i 0 := by
  unfold rd
  rw [Int.toNat_natCast]
theorem rl_at (l : List (List Int)) (i : Nat) (h : i < l.length) : rd_L2 l (i : Int) = l[i] := by
  unfold rd_L2
  rw [Int.toNat_natCast, List.getD_eq_getElem?_getD, List.getElem?_eq_getElem h]
  rfl
theorem fuel1 {k : Nat} (h : 0 < k) : ∃ m, k = m + 1 := ⟨k - 1, by omega⟩
theorem all_loop (l : List Int) (hl : l.length ≤ 9223372036854775806) (d : Nat) : ∀ (k i : Nat), i + d = l.length → d < k → Qj2.l0 k 1 999 l (l.length : Int) (i : Int) = some (!(l.drop i).any badH) := by
  induction d with
  | zero =>
    intro k i h hk
    obtain ⟨k, rfl⟩ := fuel1 (show 0 < k by omega)
    simp only [Qj2.l0]
    rw [if_neg (by omega), List.drop_eq_nil_of_le (by omega)]
    rfl
  | succ d ih =>
    intro k i h hk
    obtain ⟨k, rfl⟩ := fuel1 (show 0 < k by omega)
    have hi : i < l.length := by omega
    simp only [Qj2.l0]
    rw [if_pos (by omega), if_pos (by omega), if_pos (by omega), rd_at l i hi, l1_eq, Option.bind_some, List.drop_eq_getElem_cons hi, List.any_cons]
    have hb : badH l[i] = !decide (1 ≤ l[i] ∧ l[i] ≤ 999) := rfl
    cases e : decide (1 ≤ l[i] ∧ l[i] ≤ 999) with
    | true =>
      rw [if_pos rfl, hb, e, w_nat (by omega), ih k (i + 1) (by omega) (by omega)]
      rfl
    | false =>
      rw [if_neg (by simp), hb, e]
      rfl
theorem all_ok (l : List Int) (hl : l.length ≤ 9223372036854775806) (k : Nat) (hk : l.length < k) : Qj2.f k l 1 999 = some (!l.any badH) := by
  unfold Qj2.f
  exact all_loop l hl l.length k 0 (by omega) hk
theorem good_loop (r0 : List Int) (rest : List (List Int)) (h8 : (r0 :: rest).length ≤ 8) (hr0 : r0.length ≤ 8) (d : Nat) : ∀ (k i : Nat), i + d = (r0 :: rest).length → d + 8 < k →
    Qr.l0 k (r0 :: rest) (r0 :: rest) ((r0 :: rest).length : Int) (i : Int) = some (!((r0 :: rest).drop i).any (badRow r0.length)) := by
  induction d with
  | zero =>
    intro k i h hk
    obtain ⟨k, rfl⟩ := fuel1 (show 0 < k by omega)
    simp only [Qr.l0]
    rw [if_neg (by omega), List.drop_eq_nil_of_le (by omega)]
    rfl
  | succ d ih =>
    intro k i h hk
    obtain ⟨k, rfl⟩ := fuel1 (show 0 < k by omega)
    have hi : i < (r0 :: rest).length := by omega
    have h00 : rd_L2 (r0 :: rest) 0 = r0 := rfl
    simp only [Qr.l0]
    rw [if_pos (by omega), if_pos (by omega), if_pos (by omega), if_pos (by omega), rl_at _ i hi, h00, List.drop_eq_getElem_cons hi, List.any_cons]
    generalize (r0 :: rest)[i] = r
    by_cases e : r.length = r0.length
    · rw [if_pos (by omega), all_ok r (by omega) k (by omega), Option.bind_some, badRow_eq e]
      cases eb : r.any badH with
      | true => rfl
      | false =>
        simp only [Bool.not_false, if_true, Bool.false_or]
        rw [w_nat (by omega), ih k (i + 1) (by omega) (by omega)]
    · rw [if_neg (by omega), badRow_ne e]
      rfl
theorem good_ok (l : List (List Int)) (k : Nat) (hk : 20 < k) : Qr.f k l = some (goodB l) := by
  obtain ⟨k, rfl⟩ := fuel1 (show 0 < k by omega)
  unfold Qr.f
  rw [l1_eq, Option.bind_some]
  by_cases h1 : 1 ≤ l.length ∧ l.length ≤ 8
  · obtain ⟨r0, rest, rfl⟩ : ∃ r0 rest, l = r0 :: rest := by
      cases l with
      | nil => simp at h1
      | cons a b => exact ⟨a, b, rfl⟩
    have h00 : rd_L2 (r0 :: rest) 0 = r0 := rfl
    rw [if_pos (by simp only [decide_eq_true_eq]; omega), if_pos (by omega), h00, l1_eq, Option.bind_some, goodB_cons, decide_eq_true h1]
    by_cases h2 : 1 ≤ r0.length ∧ r0.length ≤ 8
    · simp only [Qr.j0]
      rw [if_neg (by simp only [Bool.not_eq_true', decide_eq_false_iff_not]; omega), decide_eq_true h2]
      have := good_loop r0 rest h1.2 h2.2 (r0 :: rest).length k 0 (by omega) (by omega)
      simpa using this
    · simp only [Qr.j0]
      rw [if_pos (by simp only [Bool.not_eq_true', decide_eq_false_iff_not]; omega), decide_eq_false h2]
      rfl
  · rw [if_neg (by simp only [decide_eq_true_eq]; omega)]
    simp only [Qr.j0, if_true]
    congr 1
    simp [goodB, h1]
theorem are_ok (l : List (List Int)) : Qz.f l = some (goodB l) := rfl
structure Fi (l : List (List Int)) (m : Nat) : Prop where
  rows : 1 ≤ l.length ∧ l.length ≤ 8
  cols : 1 ≤ m ∧ m ≤ 8
  wide : ∀ r ∈ l, r.length = m
  high : ∀ r ∈ l, ∀ h ∈ r, 1 ≤ h ∧ h ≤ 999
  head : l.headD [] ∈ l ∧ (l.headD []).length = m
theorem fi_of (l : List (List Int)) (h : goodB l = true) : Fi l (l.headD []).length := by
  unfold goodB at h
  rw [Bool.and_eq_true, Bool.and_eq_true, decide_eq_true_eq, decide_eq_true_eq, Bool.not_eq_true'] at h
  obtain ⟨h1, h2, h3⟩ := h
  rw [List.any_eq_false] at h3
  have each : ∀ r ∈ l, r.length = (l.headD []).length ∧ ∀ x ∈ r, 1 ≤ x ∧ x ≤ 999 := by
    intro r hr
    have := h3 r hr
    unfold badRow at this
    rw [Bool.or_eq_true] at this
    refine ⟨?_, fun x hx => ?_⟩
    · apply Classical.byContradiction
      intro hne
      exact this (.inl (by simpa using hne))
    · apply Classical.byContradiction
      intro hne
      exact this (.inr (List.any_eq_true.2 ⟨x, hx, by unfold badH; simp only [Bool.not_eq_true', decide_eq_false_iff_not]; exact hne⟩))
  refine ⟨h1, h2, fun r hr => (each r hr).1, fun r hr => (each r hr).2, ?_, rfl⟩
  cases l with
  | nil => simp at h1
  | cons a b => simp
def desc (r : List Int) (i : Nat) : Bool := decide (r.getD i 0 > r.getD (i + 1) 0)
def srtB (r : List Int) : Bool := !(List.range (r.length - 1)).any (desc r)
def sortedB (l : List (List Int)) : Bool := l.all srtB
theorem sor_in (r : List Int) (hr : r.length ≤ 1000) (L : List (List Int)) (n i : Int) (d : Nat) : ∀ (k j : Nat), 1 ≤ j → j + d = r.length →
    Qa1.l1 (k + d + 1) r (j : Int) L n i = if (List.range' (j - 1) d).any (desc r) = true then some false else Qa1.l0 k L n (wrap64 (i + 1)) := by
  induction d with
  | zero =>
    intro k j hj h
    simp only [Qa1.l1]
    rw [if_neg (by omega)]
    rfl
  | succ d ih =>
    intro k j hj h
    have e1 : wrap64 ((j : Int) - 1) = ((j - 1 : Nat) : Int) := by rw [w_in (by omega) (by omega)]; omega
    obtain ⟨K, hK⟩ : ∃ K, K = k + d + 1 := ⟨_, rfl⟩
    rw [show k + (d + 1) + 1 = K + 1 by omega]
    simp only [Qa1.l1]
    rw [if_pos (by omega), e1, if_pos (by omega), if_pos (by omega), if_pos (by omega), rd_D, rd_D]
    have hd : desc r (j - 1) = decide (r.getD (j - 1) 0 > r.getD j 0) := by unfold desc; rw [show j - 1 + 1 = j by omega]
    have hr' : List.range' (j - 1) (d + 1) = (j - 1) :: List.range' j d := by rw [List.range'_succ, show j - 1 + 1 = j by omega]
    rw [hr', List.any_cons, hd]
    by_cases c : r.getD (j - 1) 0 > r.getD j 0
    · rw [if_pos c, decide_eq_true c]
      rfl
    · rw [if_neg c, decide_eq_false c, w_nat (by omega), hK, ih k (j + 1) (by omega) (by omega), show j + 1 - 1 = j by omega, Bool.false_or]
theorem srt_range (r : List Int) (h : 1 ≤ r.length) : (List.range' (1 - 1) (r.length - 1)).any (desc r) = !srtB r := by
  unfold srtB
  rw [Bool.not_not, List.range_eq_range']
theorem sor_loop (L : List (List Int)) (hl : L.length ≤ 1000) (hr : ∀ r ∈ L, 1 ≤ r.length ∧ r.length ≤ 1000) (d : Nat) : ∀ (k i : Nat), i + d = L.length → 1010 * d < k → Qa1.l0 k L (L.length : Int) (i : Int) = some ((L.drop i).all srtB) := by
  induction d with
  | zero =>
    intro k i h hk
    obtain ⟨k, rfl⟩ := fuel1 (show 0 < k by omega)
    simp only [Qa1.l0]
    rw [if_neg (by omega), List.drop_eq_nil_of_le (by omega)]
    rfl
  | succ d ih =>
    intro k i h hk
    have hi : i < L.length := by omega
    have hri := hr L[i] (List.getElem_mem hi)
    obtain ⟨k, rfl⟩ : ∃ m, k = (m + (L[i].length - 1) + 1) + 1 := ⟨k - (L[i].length - 1) - 2, by omega⟩
    simp only [Qa1.l0]
    rw [if_pos (by omega), if_pos (by omega), if_pos (by omega), rl_at L i hi]
    have := sor_in L[i] (by omega) L (L.length : Int) (i : Int) (L[i].length - 1) k 1 (by omega) (by omega)
    have c1 : ((1 : Nat) : Int) = 1 := rfl
    rw [c1] at this
    rw [this, srt_range _ hri.1, w_nat (by omega), ih k (i + 1) (by omega) (by omega), List.drop_eq_getElem_cons hi, List.all_cons]
    cases srtB L[i] <;> rfl
theorem sor_ok (L : List (List Int)) (hl : L.length ≤ 8) (hr : ∀ r ∈ L, 1 ≤ r.length ∧ r.length ≤ 8) (k : Nat) (hk : 10000 < k) : Qa1.f k L = some (sortedB L) := by
  unfold Qa1.f
  have := sor_loop L (by omega) (fun r h => by have := hr r h; omega) L.length k 0 (by omega) (by omega)
  simpa [sortedB] using this
theorem less_ok (a b : Int) : cmp_Less_int.f a b = some (decide (a < b)) := by
  unfold cmp_Less_int.f cmp_isNaN_int.f
  simp
theorem iss_loop (r : List Int) (hr : r.length ≤ 1000) (i : Nat) : ∀ (k : Nat), i < r.length → i < k → slices_IsSorted_int_int.l0 k r (i : Int) = some (!(List.range i).any (desc r)) := by
  induction i with
  | zero =>
    intro k h hk
    obtain ⟨k, rfl⟩ := fuel1 (show 0 < k by omega)
    simp only [slices_IsSorted_int_int.l0]
    rw [if_neg (by omega)]
    rfl
  | succ i ih =>
    intro k h hk
    obtain ⟨k, rfl⟩ := fuel1 (show 0 < k by omega)
    have e1 : wrap64 (((i + 1 : Nat) : Int) - 1) = (i : Int) := by rw [w_in (by omega) (by omega)]; omega
    simp only [slices_IsSorted_int_int.l0]
    rw [if_pos (by omega), if_pos (by omega), if_pos (by omega), e1, if_pos (by omega), if_pos (by omega), less_ok, Option.bind_some, rd_D, rd_D, List.range_succ, List.any_append]
    have hd : decide (r.getD (i + 1) 0 < r.getD i 0) = desc r i := rfl
    rw [hd]
    cases hb : desc r i with
    | true => simp [hb]
    | false =>
      rw [if_neg (by simp), ih k (by omega) (by omega)]
      simp [hb]
theorem iss_ok (r : List Int) (h1 : 1 ≤ r.length) (hr : r.length ≤ 1000) (k : Nat) (hk : 1000 < k) : slices_IsSorted_int_int.f k r = some (srtB r) := by
  unfold slices_IsSorted_int_int.f
  have e1 : wrap64 ((r.length : Int) - 1) = ((r.length - 1 : Nat) : Int) := by rw [w_in (by omega) (by omega)]; omega
  rw [e1]
  exact iss_loop r hr (r.length - 1) k (by omega) (by omega)
theorem rs_loop (L : List (List Int)) (hl : L.length ≤ 1000) (hr : ∀ r ∈ L, 1 ≤ r.length ∧ r.length ≤ 1000) (d : Nat) : ∀ (k i : Nat), i + d = L.length → d + 1001 < k →
    ∃ q : Int, Qm.l0 k L (L.length : Int) (i : Int) = some q ∧ decide (q ≥ 0) = !((L.drop i).all srtB) := by
  induction d with
  | zero =>
    intro k i h hk
    obtain ⟨k, rfl⟩ := fuel1 (show 0 < k by omega)
    simp only [Qm.l0]
    rw [if_neg (by omega), List.drop_eq_nil_of_le (by omega)]
    exact ⟨_, rfl, rfl⟩
  | succ d ih =>
    intro k i h hk
    obtain ⟨k, rfl⟩ := fuel1 (show 0 < k by omega)
    have hi : i < L.length := by omega
    have hri := hr L[i] (List.getElem_mem hi)
    simp only [Qm.l0]
    rw [if_pos (by omega), if_pos (by omega), if_pos (by omega), rl_at L i hi]
    unfold Qq2.f
    rw [iss_ok _ hri.1 hri.2 k (by omega), Option.bind_some, Option.bind_some, List.drop_eq_getElem_cons hi, List.all_cons]
    cases srtB L[i] with
    | true =>
      obtain ⟨q, e, he⟩ := ih k (i + 1) (by omega) (by omega)
      refine ⟨q, ?_, by rw [he]; rfl⟩
      rw [if_neg (by simp), w_nat (by omega), e]
    | false =>
      refine ⟨i, by rw [if_pos (by rfl)], ?_⟩
      simp
theorem rs_ok (L : List (List Int)) (hl : L.length ≤ 8) (hr : ∀ r ∈ L, 1 ≤ r.length ∧ r.length ≤ 8) (k : Nat) (hk : 10000 < k) : Qn1.f k L = some (sortedB L) := by
  obtain ⟨q, e, he⟩ := rs_loop L (by omega) (fun r h => by have := hr r h; omega) L.length k 0 (by omega) (by omega)
  unfold Qn1.f Ql1.f Qm.f
  have c0 : ((0 : Nat) : Int) = 0 := rfl
  rw [c0] at e
  rw [e, Option.bind_some, Option.bind_some, he, Bool.not_not]
  rfl
def turnL (l : List (List Int)) (m : Nat) : List (List Int) := (List.range m).map fun c => l.map fun r => r.getD c 0
theorem turn_same : ∀ k : Nat, (∀ a b c d, Qv.l0 k a b c d = Qx.l0 k a b c d) ∧ (∀ a b c d e f g h i, Qv.l1 k a b c d e f g h i = Qx.l1 k a b c d e f g h i) := by
  intro k
  induction k with
  | zero => exact ⟨fun _ _ _ _ => rfl, fun _ _ _ _ _ _ _ _ _ => rfl⟩
  | succ k ih =>
    obtain ⟨h0, h1⟩ := ih
    refine ⟨fun a b c d => ?_, fun a b c d e f g h i => ?_⟩
    · simp only [Qv.l0, Qx.l0, h1]
    · simp only [Qv.l1, Qx.l1, h0, h1]
theorem turn_same_f (k : Nat) (l : List (List Int)) : Qv.f k l = Qx.f k l := by
  unfold Qv.f Qx.f
  rw [(turn_same k).1]
theorem turn_in (L : List (List Int)) (m c : Nat) (hc : c < m) (hm : m ≤ 8) (hl : L.length ≤ 8) (hw : ∀ r ∈ L, r.length = m) (x3 : List (List Int)) (h3 : x3.length ≤ 8) (d : Nat) : ∀ (k i : Nat) (x5 : List Int), i + d = L.length → x5.length ≤ i →
    Qx.l1 (k + d + 1) L x3 (c : Int) x5 (m : Int) (c : Int) L (L.length : Int) (i : Int) = Qx.l0 k L (x3 ++ [x5 ++ (L.drop i).map fun r => r.getD c 0]) (m : Int) ((c + 1 : Nat) : Int) := by
  induction d with
  | zero =>
    intro k i x5 h h5
    simp only [Qx.l1]
    rw [if_neg (by omega), if_pos (by omega), List.drop_eq_nil_of_le (by omega), w_nat (by omega)]
    simp
  | succ d ih =>
    intro k i x5 h h5
    have hi : i < L.length := by omega
    have hri := hw L[i] (List.getElem_mem hi)
    obtain ⟨K, hK⟩ : ∃ K, K = k + d + 1 := ⟨_, rfl⟩
    rw [show k + (d + 1) + 1 = K + 1 by omega]
    simp only [Qx.l1]
    rw [if_pos (by omega), if_pos (by omega), if_pos (by omega), if_pos (by omega), rl_at L i hi, if_pos (by omega), if_pos (by omega), w_nat (by omega), hK, ih k (i + 1) _ (by omega) (by simp; omega), rd_D, List.drop_eq_getElem_cons hi]
    simp only [List.map_cons, List.append_assoc, List.singleton_append]
theorem turn_loop (L : List (List Int)) (m : Nat) (hm : m ≤ 8) (hl : L.length ≤ 8) (hw : ∀ r ∈ L, r.length = m) (d : Nat) : ∀ (k c : Nat), c + d = m → 12 * d < k → Qx.l0 k L (turnL L c) (m : Int) (c : Int) = some (turnL L m) := by
  induction d with
  | zero =>
    intro k c h hk
    obtain ⟨k, rfl⟩ := fuel1 (show 0 < k by omega)
    obtain rfl : c = m := by omega
    simp only [Qx.l0]
    rw [if_neg (by omega)]
  | succ d ih =>
    intro k c h hk
    obtain ⟨k, rfl⟩ : ∃ q, k = (q + L.length + 1) + 1 := ⟨k - L.length - 2, by omega⟩
    simp only [Qx.l0]
    rw [if_pos (by omega)]
    have := turn_in L m c (by omega) hm hl hw (turnL L c) (by simp [turnL]; omega) L.length k 0 [] (by omega) (by simp)
    have c0 : ((0 : Nat) : Int) = 0 := rfl
    rw [c0] at this
    rw [this]
    have e : turnL L c ++ [[] ++ (L.drop 0).map fun r => r.getD c 0] = turnL L (c + 1) := by simp [turnL, List.range_succ]
    rw [e]
    exact ih k (c + 1) (by omega) (by omega)
theorem turn_ok (l : List (List Int)) (m : Nat) (h : Fi l m) (k : Nat) (hk : 200 < k) : Qx.f k l = some (turnL l m) := by
  unfold Qx.f
  have hr := h.rows
  have hc := h.cols
  rw [if_pos (by omega)]
  have h0 : ((rd_L2 l 0).length : Int) = (m : Int) := by
    have e : rd_L2 l 0 = l.headD [] := by
      cases l with
      | nil => rfl
      | cons a b => rfl
    rw [e, h.head.2]
  rw [h0]
  exact turn_loop l m hc.2 hr.2 h.wide m k 0 (by omega) (by omega)
theorem turn_len (l : List (List Int)) (m : Nat) : (turnL l m).length = m := by simp [turnL]
theorem turn_row (l : List (List Int)) (m : Nat) : ∀ r ∈ turnL l m, r.length = l.length := by
  intro r hr
  obtain ⟨c, _, rfl⟩ := List.mem_map.1 hr
  simp
theorem turn_fi (l : List (List Int)) (m : Nat) (h : Fi l m) : Fi (turnL l m) l.length := by
  have hne : turnL l m ≠ [] := by
    intro e
    have := turn_len l m
    rw [e] at this
    have := h.cols
    simp at *
    omega
  refine ⟨by rw [turn_len]; exact h.cols, h.rows, turn_row l m, ?_, ?_⟩
  · intro r hr x hx
    obtain ⟨c, hc, rfl⟩ := List.mem_map.1 hr
    obtain ⟨q, hq, rfl⟩ := List.mem_map.1 hx
    have hw := h.wide q hq
    have hcm := List.mem_range.1 hc
    have hcq : c < q.length := by omega
    rw [List.getD_eq_getElem?_getD, List.getElem?_eq_getElem hcq]
    exact h.high q hq _ (List.getElem_mem hcq)
  · cases e : turnL l m with
    | nil => exact absurd e hne
    | cons a b =>
      have : a ∈ turnL l m := by rw [e]; simp
      exact ⟨by simp, turn_row l m a this⟩
def cntR (r : List Int) : Nat := ((List.range (r.length - 1)).filter (desc r)).length
def disL (l : List (List Int)) : Nat := (l.map cntR).sum
theorem dis_same : ∀ k : Nat, (∀ a b c d, Qh1.l0 k a b c d = Qs.l0 k a b c d) ∧ (∀ a b c d e f, Qh1.l1 k a b c d e f = Qs.l1 k a b c d e f) := by
  intro k
  induction k with
  | zero => exact ⟨fun _ _ _ _ => rfl, fun _ _ _ _ _ _ => rfl⟩
  | succ k ih =>
    obtain ⟨h0, h1⟩ := ih
    refine ⟨fun a b c d => ?_, fun a b c d e f => ?_⟩
    · simp only [Qh1.l0, Qs.l0, h1]
    · simp only [Qh1.l1, Qs.l1, h0, h1]
theorem dis_same_f (k : Nat) (l : List (List Int)) : Qh1.f k l = Qs.f k l := by
  unfold Qh1.f Qs.f
  rw [(dis_same k).1]
theorem dis_in (r : List Int) (hr : r.length ≤ 1000) (L : List (List Int)) (n i : Int) (d : Nat) : ∀ (k j q : Nat), 1 ≤ j → j + d = r.length → q + d ≤ 1000000 →
    Qs.l1 (k + d + 1) (q : Int) r (j : Int) L n i = Qs.l0 k ((q + ((List.range' (j - 1) d).filter (desc r)).length : Nat) : Int) L n (wrap64 (i + 1)) := by
  induction d with
  | zero =>
    intro k j q hj h hq
    simp only [Qs.l1]
    rw [if_neg (by omega)]
    rfl
  | succ d ih =>
    intro k j q hj h hq
    have e1 : wrap64 ((j : Int) - 1) = ((j - 1 : Nat) : Int) := by rw [w_in (by omega) (by omega)]; omega
    obtain ⟨K, hK⟩ : ∃ K, K = k + d + 1 := ⟨_, rfl⟩
    rw [show k + (d + 1) + 1 = K + 1 by omega]
    simp only [Qs.l1]
    rw [if_pos (by omega), e1, if_pos (by omega), if_pos (by omega), if_pos (by omega), rd_D, rd_D]
    have hd : desc r (j - 1) = decide (r.getD (j - 1) 0 > r.getD j 0) := by unfold desc; rw [show j - 1 + 1 = j by omega]
    have hr' : List.range' (j - 1) (d + 1) = (j - 1) :: List.range' j d := by rw [List.range'_succ, show j - 1 + 1 = j by omega]
    rw [hr', List.filter_cons, hd]
    by_cases c : r.getD (j - 1) 0 > r.getD j 0
    · rw [if_pos c, decide_eq_true c, if_pos rfl, w_nat (by omega), w_nat (by omega), hK, ih k (j + 1) (q + 1) (by omega) (by omega) (by omega), show j + 1 - 1 = j by omega, List.length_cons]
      congr 2
      omega
    · rw [if_neg c, decide_eq_false c, if_neg Bool.false_ne_true, w_nat (by omega), hK, ih k (j + 1) q (by omega) (by omega) (by omega), show j + 1 - 1 = j by omega]
theorem cnt_le (r : List Int) : cntR r ≤ r.length := by
  unfold cntR
  have := List.length_filter_le (desc r) (List.range (r.length - 1))
  simp at this
  omega
theorem dis_loop (L : List (List Int)) (hl : L.length ≤ 8) (hr : ∀ r ∈ L, 1 ≤ r.length ∧ r.length ≤ 8) (d : Nat) : ∀ (k i q : Nat), i + d = L.length → 20 * d < k → q + 8 * d ≤ 1000 → Qs.l0 k (q : Int) L (L.length : Int) (i : Int) = some ((q + disL (L.drop i) : Nat) : Int) := by
  induction d with
  | zero =>
    intro k i q h hk hq
    obtain ⟨k, rfl⟩ := fuel1 (show 0 < k by omega)
    simp only [Qs.l0]
    rw [if_neg (by omega), List.drop_eq_nil_of_le (by omega)]
    rfl
  | succ d ih =>
    intro k i q h hk hq
    have hi : i < L.length := by omega
    have hri := hr L[i] (List.getElem_mem hi)
    have hci := cnt_le L[i]
    obtain ⟨k, rfl⟩ : ∃ m, k = (m + (L[i].length - 1) + 1) + 1 := ⟨k - (L[i].length - 1) - 2, by omega⟩
    simp only [Qs.l0]
    rw [if_pos (by omega), if_pos (by omega), if_pos (by omega), rl_at L i hi]
    have := dis_in L[i] (by omega) L (L.length : Int) (i : Int) (L[i].length - 1) k 1 q (by omega) (by omega) (by omega)
    have c1 : ((1 : Nat) : Int) = 1 := rfl
    rw [c1] at this
    have e : ((List.range' (1 - 1) (L[i].length - 1)).filter (desc L[i])).length = cntR L[i] := by
      unfold cntR
      rw [List.range_eq_range']
    rw [this, e, w_nat (by omega), ih k (i + 1) _ (by omega) (by omega) (by omega), List.drop_eq_getElem_cons hi]
    congr 2
    simp only [disL, List.map_cons, List.sum_cons]
    omega
theorem dis_ok (L : List (List Int)) (hl : L.length ≤ 8) (hr : ∀ r ∈ L, 1 ≤ r.length ∧ r.length ≤ 8) (k : Nat) (hk : 1000 < k) : Qs.f k L = some (disL L : Int) := by
  unfold Qs.f
  have := dis_loop L hl hr L.length k 0 0 (by omega) (by omega) (by omega)
  simpa using this
end Go.Proofs.YtohhlkehglahhaaGreatDoor.Pure
