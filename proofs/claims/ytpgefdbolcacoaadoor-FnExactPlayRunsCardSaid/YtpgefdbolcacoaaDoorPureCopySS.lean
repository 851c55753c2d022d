/- Lists of lists copied and compared: what that comes to; no Go and no memory here. -/
import Derived.Test.YtpgefdbolcacoaaDoorAx2
import Derived.Test.YtpgefdbolcacoaaDoorAx4
import Derived.Test.YtpgefdbolcacoaaDoorAx5
import Derived.Test.YtpgefdbolcacoaaDoorAx7
import Derived.Test.YtpgefdbolcacoaaDoorPureChase
namespace Go.Proofs.YtpgefdbolcacoaaDoor.Pure
open Go.RowKit Go.Proofs.YtpgefdbolcacoaaDoor.A Go.Proofs.YtpgefdbolcacoaaDoorW.PrintWords Go.Proofs.YtpgefdbolcacoaaDoorW.PrintLast Go.Proofs.YtpgefdbolcacoaaDoorW.PrintMore
set_option linter.unusedVariables false
set_option linter.unusedSimpArgs false

theorem rd_at (l : List Int) (i : Nat) (h : i < l.length) : rd l (i : Int) = l[i] := by
  unfold rd
  rw [Int.toNat_natCast, List.getD_eq_getElem?_getD, List.getElem?_eq_getElem h]
  rfl
theorem rd_D (l : List Int) (i : Nat) : rd l (i : Int) = l.getD i 0 := by
  unfold rd
  rw [Int.toNat_natCast]
theorem rl_at (l : List (List Int)) (i : Nat) (h : i < l.length) : rd_L3 l (i : Int) = l[i] := by
  unfold rd_L3
  rw [Int.toNat_natCast, List.getD_eq_getElem?_getD, List.getElem?_eq_getElem h]
  rfl
/-! ### the copies and the comparisons -/
theorem toS_loop (l : List Int) (hl : l.length ≤ 35184372088832) (d : Nat) : ∀ (k i : Nat) (x : List Int), x.length = l.length → i + d = l.length → d < k → x.take i = l.take i → laws_toIntS.l0 k l x (i : Int) = some l := by
  induction d with
  | zero =>
    intro k i x hx h hk ht
    obtain ⟨k, rfl⟩ := fuel0 (show 0 < k by omega)
    simp only [laws_toIntS.l0]
    rw [if_neg (by omega)]
    rw [List.take_of_length_le (by omega), List.take_of_length_le (by omega)] at ht
    rw [ht]
  | succ d ih =>
    intro k i x hx h hk ht
    obtain ⟨k, rfl⟩ := fuel0 (show 0 < k by omega)
    simp only [laws_toIntS.l0]
    rw [if_pos (by omega), if_pos (by omega), if_pos (by omega), w_up (by omega), Int.toNat_natCast]
    refine ih k (i + 1) _ (by rw [List.length_set]; exact hx) (by omega) (by omega) ?_
    rw [rd_at l i (by omega), List.take_succ_eq_append_getElem (by rw [List.length_set]; omega), List.take_succ_eq_append_getElem (by omega), List.take_set_of_le (Nat.le_refl _), ht]
    simp
theorem toS_ok (l : List Int) (hl : l.length ≤ 35184372088832) (k : Nat) (hk : l.length < k) : laws_toIntS.f k l = some l := by
  unfold laws_toIntS.f
  rw [if_pos (by omega), if_pos (by omega)]
  exact toS_loop l hl l.length k 0 _ (by simp) (by omega) hk rfl
theorem toSS_loop (l : List (List Int)) (M : Nat) (hM : M ≤ 35184372088832) (hl : l.length ≤ 1048576) (hr : ∀ r ∈ l, r.length ≤ M) (d : Nat) : ∀ (k i : Nat) (x : List (List Int)), x.length = l.length → i + d = l.length → d + M < k → x.take i = l.take i → laws_toIntSS.l0 k l x (i : Int) = some l := by
  induction d with
  | zero =>
    intro k i x hx h hk ht
    obtain ⟨k, rfl⟩ := fuel0 (show 0 < k by omega)
    simp only [laws_toIntSS.l0]
    rw [if_neg (by omega)]
    rw [List.take_of_length_le (by omega), List.take_of_length_le (by omega)] at ht
    rw [ht]
  | succ d ih =>
    intro k i x hx h hk ht
    obtain ⟨k, rfl⟩ := fuel0 (show 0 < k by omega)
    have hi : i < l.length := by omega
    have hri := hr l[i] (List.getElem_mem hi)
    simp only [laws_toIntSS.l0]
    rw [if_pos (by omega), if_pos (by omega), rl_at l i hi, toS_ok _ (by omega) k (by omega), Option.bind_some, if_pos (by omega), w_up (by omega), Int.toNat_natCast]
    refine ih k (i + 1) _ (by rw [List.length_set]; exact hx) (by omega) (by omega) ?_
    rw [List.take_succ_eq_append_getElem (by rw [List.length_set]; omega), List.take_succ_eq_append_getElem (by omega), List.take_set_of_le (Nat.le_refl _), ht]
    simp
theorem toSS_ok (l : List (List Int)) (M : Nat) (hM : M ≤ 35184372088832) (hl : l.length ≤ 1048576) (hr : ∀ r ∈ l, r.length ≤ M) (k : Nat) (hk : l.length + M < k) : laws_toIntSS.f k l = some l := by
  unfold laws_toIntSS.f
  rw [if_pos (by omega), if_pos (by omega)]
  exact toSS_loop l M hM hl hr l.length k 0 _ (by simp) (by omega) hk rfl
theorem sz_loop (l : List (List Int)) (hm : ∀ r ∈ l, r.length ≤ 9223372036854775807) (hlen : l.length ≤ 1048576) (d : Nat) : ∀ (k i : Nat) (left : Int), 0 ≤ left → left ≤ 1048576 → i + d = l.length → d < k →
    ∃ r, laws_szIntSS.l0 k l left (i : Int) = some r ∧ (r < 0 ∨ ∀ x ∈ l.drop i, x.length ≤ 1048576) := by
  induction d with
  | zero =>
    intro k i left h0 h1 h hk
    obtain ⟨k, rfl⟩ := fuel0 (show 0 < k by omega)
    simp only [laws_szIntSS.l0]
    rw [if_neg (by omega), List.drop_eq_nil_of_le (by omega)]
    exact ⟨_, rfl, .inr (by simp)⟩
  | succ d ih =>
    intro k i left h0 h1 h hk
    obtain ⟨k, rfl⟩ := fuel0 (show 0 < k by omega)
    have hi : i < l.length := by omega
    have hri := hm l[i] (List.getElem_mem hi)
    simp only [laws_szIntSS.l0]
    rw [if_pos (by omega), if_pos (by omega), rl_at l i hi]
    unfold laws_szIntS.f
    rw [w_in (x := left - (l[i].length : Int)) (by omega) (by omega)]
    by_cases hs : left - (l[i].length : Int) < 0
    · rw [if_pos hs, Option.bind_some, if_pos (by omega)]
      exact ⟨_, rfl, .inl (by omega)⟩
    · rw [if_neg hs, Option.bind_some, if_neg hs, w_up (by omega)]
      obtain ⟨r, e, hr⟩ := ih k (i + 1) (left - (l[i].length : Int)) (by omega) (by omega) (by omega) (by omega)
      refine ⟨r, e, ?_⟩
      rcases hr with hr | hr
      · exact .inl hr
      · refine .inr fun x hx => ?_
        rw [List.drop_eq_getElem_cons hi] at hx
        rcases List.mem_cons.1 hx with rfl | hx
        · omega
        · exact hr x hx
theorem sz_ok (l : List (List Int)) (hm : ∀ r ∈ l, r.length ≤ 9223372036854775807) (hlen : l.length ≤ 9223372036854775807) (k : Nat) (hk : 1048577 < k) :
    ∃ r, laws_szIntSS.f k l 1048576 = some r ∧ (r < 0 ∨ (l.length ≤ 1048576 ∧ ∀ x ∈ l, x.length ≤ 1048576)) := by
  unfold laws_szIntSS.f
  rw [w_in (x := 1048576 - (l.length : Int)) (by omega) (by omega)]
  by_cases hs : 1048576 - (l.length : Int) < 0
  · rw [if_pos hs]
    exact ⟨_, rfl, .inl (by omega)⟩
  · rw [if_neg hs]
    obtain ⟨r, e, hr⟩ := sz_loop l hm (by omega) l.length k 0 (1048576 - (l.length : Int)) (by omega) (by omega) (by omega) (by omega)
    refine ⟨r, e, ?_⟩
    rcases hr with hr | hr
    · exact .inl hr
    · exact .inr ⟨by omega, fun x hx => hr x (by simpa using hx)⟩
theorem eqS_loop (l : List Int) (hl : l.length ≤ 9223372036854775806) (d : Nat) : ∀ (k i : Nat), i + d = l.length → d < k → laws_eqIntS.l0 k l l (i : Int) = some true := by
  induction d with
  | zero =>
    intro k i h hk
    obtain ⟨k, rfl⟩ := fuel0 (show 0 < k by omega)
    simp only [laws_eqIntS.l0]
    rw [if_neg (by omega)]
  | succ d ih =>
    intro k i h hk
    obtain ⟨k, rfl⟩ := fuel0 (show 0 < k by omega)
    simp only [laws_eqIntS.l0]
    rw [if_pos (by omega), if_pos (by omega), if_pos (by omega)]
    simp only [if_true]
    rw [w_up (by omega)]
    exact ih k (i + 1) (by omega) (by omega)
theorem eqS_ok (l : List Int) (hl : l.length ≤ 9223372036854775806) (k : Nat) (hk : l.length < k) : laws_eqIntS.f k l l = some true := by
  unfold laws_eqIntS.f
  simp only [if_true]
  exact eqS_loop l hl l.length k 0 (by omega) hk
theorem eqSS_loop (l : List (List Int)) (M : Nat) (hM : M ≤ 9223372036854775806) (hl : l.length ≤ 9223372036854775806) (hr : ∀ r ∈ l, r.length ≤ M) (d : Nat) : ∀ (k i : Nat), i + d = l.length → d + M < k → laws_eqIntSS.l0 k l l (i : Int) = some true := by
  induction d with
  | zero =>
    intro k i h hk
    obtain ⟨k, rfl⟩ := fuel0 (show 0 < k by omega)
    simp only [laws_eqIntSS.l0]
    rw [if_neg (by omega)]
  | succ d ih =>
    intro k i h hk
    obtain ⟨k, rfl⟩ := fuel0 (show 0 < k by omega)
    have hi : i < l.length := by omega
    have hri := hr l[i] (List.getElem_mem hi)
    simp only [laws_eqIntSS.l0]
    rw [if_pos (by omega), if_pos (by omega), if_pos (by omega), rl_at l i hi, eqS_ok _ (by omega) k (by omega), Option.bind_some]
    simp only [if_true]
    rw [w_up (by omega)]
    exact ih k (i + 1) (by omega) (by omega)
theorem eqSS_ok (l : List (List Int)) (M : Nat) (hM : M ≤ 9223372036854775806) (hl : l.length ≤ 9223372036854775806) (hr : ∀ r ∈ l, r.length ≤ M) (k : Nat) (hk : l.length + M < k) : laws_eqIntSS.f k l l = some true := by
  unfold laws_eqIntSS.f
  simp only [if_true]
  exact eqSS_loop l M hM hl hr l.length k 0 (by omega) hk

end Go.Proofs.YtpgefdbolcacoaaDoor.Pure
