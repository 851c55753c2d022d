/- Paces: which lists are some, and their texts: the program and the reference are one; no Go and no memory here. -/
import Derived.Test.YtbcehopnkkajgaaDoorAx1
import Derived.Test.YtbcehopnkkajgaaDoorAx2
import Derived.Test.YtbcehopnkkajgaaDoorAx3
import Derived.Test.YtbcehopnkkajgaaDoorAx5
import Derived.Test.YtbcehopnkkajgaaDoorGivJ
import Derived.Test.YtbcehopnkkajgaaDoorPureNum
namespace Go.Proofs.YtbcehopnkkajgaaDoor.Pure
open Go.RowKit Go.Proofs.YtbcehopnkkajgaaDoor.A Go.Proofs.YtbcehopnkkajgaaDoorW.PrintWords Go.Proofs.YtbcehopnkkajgaaDoorW.PrintLast Go.Proofs.YtbcehopnkkajgaaDoorW.PrintMore
set_option linter.unusedVariables false
set_option linter.unusedSimpArgs false

def goodQ (a b : Int) : Bool := decide (1 ≤ a ∧ a ≤ 60) && decide (0 ≤ b ∧ b ≤ a - 1)
def goodP (l : List S37) : Bool := decide (1 ≤ (l.length : Int) ∧ (l.length : Int) ≤ 6) && l.all fun p => goodQ p.f0 p.f1
theorem rt_at (l : List S37) (i : Nat) (h : i < l.length) : rd_T37 l (i : Int) = l[i] := by
  unfold rd_T37
  rw [Int.toNat_natCast, List.getD_eq_getElem?_getD, List.getElem?_eq_getElem h]
  rfl
theorem space_ok (a b : Int) : spec_spPace.f a b = some (goodQ a b) := by
  unfold spec_spPace.f goodQ
  rw [l1_eq, l1_eq, Option.bind_some]
  by_cases c : 1 ≤ a ∧ a ≤ 60
  · rw [decide_eq_true c, if_pos rfl, Option.bind_some, w_in (by omega) (by omega)]
    rfl
  · rw [decide_eq_false c, if_neg Bool.false_ne_true]
    rfl
theorem ispace_ok (a b : Int) : impl_isPace.f a b = some (goodQ a b) := by
  unfold impl_isPace.f goodQ
  rw [in_eq, in_eq, Option.bind_some]
  by_cases c : 1 ≤ a ∧ a ≤ 60
  · rw [decide_eq_true c, if_pos rfl, Option.bind_some, w_in (by omega) (by omega)]
    rfl
  · rw [decide_eq_false c, if_neg Bool.false_ne_true]
    rfl
theorem sgood_loop (l : List S37) (hl : l.length ≤ 6) (d : Nat) : ∀ (k i : Nat), i + d = l.length → d < k → spec_spGood.l0 k l (l.length : Int) (i : Int) = some ((l.drop i).all fun p => goodQ p.f0 p.f1) := by
  induction d with
  | zero =>
    intro k i h hk
    obtain ⟨k, rfl⟩ := fuel0 (show 0 < k by omega)
    simp only [spec_spGood.l0]
    rw [if_neg (by omega), List.drop_eq_nil_of_le (by omega)]
    rfl
  | succ d ih =>
    intro k i h hk
    obtain ⟨k, rfl⟩ := fuel0 (show 0 < k by omega)
    have hi : i < l.length := by omega
    simp only [spec_spGood.l0]
    rw [if_pos (by omega), if_pos (by omega), if_pos (by omega), rt_at l i hi, space_ok, Option.bind_some, List.drop_eq_getElem_cons hi, List.all_cons]
    cases goodQ l[i].f0 l[i].f1 with
    | true => rw [if_pos rfl, w_up (by omega), ih k (i + 1) (by omega) (by omega)]; rfl
    | false => rw [if_neg Bool.false_ne_true]; rfl
theorem pgood_ok (l : List S37) (k : Nat) (hk : 10 < k) : spec_spGood.f k l = some (goodP l) := by
  unfold spec_spGood.f goodP
  rw [l1_eq, Option.bind_some]
  by_cases c : 1 ≤ (l.length : Int) ∧ (l.length : Int) ≤ 6
  · have c0 : ((0 : Nat) : Int) = 0 := rfl
    have := sgood_loop l (by omega) l.length k 0 (by omega) (by omega)
    rw [c0, List.drop_zero] at this
    rw [decide_eq_true c, if_pos rfl, this]
    rfl
  · rw [decide_eq_false c, if_neg Bool.false_ne_true]
    rfl
theorem idx_loop (l : List S37) (hl : l.length ≤ 6) (d : Nat) : ∀ (k i : Nat), i + d = l.length → d < k → ∃ r, impl_Pace_at_impl_arePaces_1_39.l0 k l (l.length : Int) (i : Int) = some r ∧ decide (r ≥ 0) = !((l.drop i).all fun p => goodQ p.f0 p.f1) := by
  induction d with
  | zero =>
    intro k i h hk
    obtain ⟨k, rfl⟩ := fuel0 (show 0 < k by omega)
    simp only [impl_Pace_at_impl_arePaces_1_39.l0]
    rw [if_neg (by omega), List.drop_eq_nil_of_le (by omega)]
    exact ⟨_, rfl, rfl⟩
  | succ d ih =>
    intro k i h hk
    obtain ⟨k, rfl⟩ := fuel0 (show 0 < k by omega)
    have hi : i < l.length := by omega
    simp only [impl_Pace_at_impl_arePaces_1_39.l0]
    unfold impl_arePaces_1.f
    rw [if_pos (by omega), if_pos (by omega), if_pos (by omega), rt_at l i hi, ispace_ok, Option.bind_some, Option.bind_some, List.drop_eq_getElem_cons hi, List.all_cons]
    cases goodQ l[i].f0 l[i].f1 with
    | true =>
      obtain ⟨r, h1, h2⟩ := ih k (i + 1) (by omega) (by omega)
      rw [Bool.not_true, if_neg Bool.false_ne_true, w_up (by omega), h1]
      exact ⟨r, rfl, h2⟩
    | false =>
      rw [Bool.not_false, if_pos rfl]
      exact ⟨_, rfl, decide_eq_true (by omega)⟩
theorem agood_ok (l : List S37) (k : Nat) (hk : 10 < k) : impl_arePaces.f k l = some (goodP l) := by
  unfold impl_arePaces.f goodP
  rw [in_eq, Option.bind_some]
  by_cases c : 1 ≤ (l.length : Int) ∧ (l.length : Int) ≤ 6
  · have c0 : ((0 : Nat) : Int) = 0 := rfl
    obtain ⟨r, h1, h2⟩ := idx_loop l (by omega) l.length k 0 (by omega) (by omega)
    rw [c0] at h1
    rw [List.drop_zero] at h2
    unfold impl_Pace_at_impl_arePaces_1_28.f impl_Pace_at_impl_arePaces_1_39.f
    rw [decide_eq_true c, if_pos rfl, h1, Option.bind_some, Option.bind_some, h2, Bool.not_not]
    rfl
  · rw [decide_eq_false c, if_neg Bool.false_ne_true]
    rfl
/-! ### texts -/
def B (x : List UInt8) : ByteArray := ⟨x.toArray⟩
theorem B_app (x y : List UInt8) : B x ++ B y = B (x ++ y) := by
  apply ByteArray.ext
  apply Array.toList_inj.1
  rw [ByteArray.data_append, Array.toList_append]
  rfl
theorem B_size (x : List UInt8) : (B x).size = x.length := rfl
def wordL (p : S37) : List UInt8 := (Lib.decDigits p.f0.toNat ++ [43]) ++ Lib.decDigits p.f1.toNat
def tailL (l : List S37) : List UInt8 := (l.map fun p => [44] ++ wordL p).flatten
theorem word_len (p : S37) (h : goodQ p.f0 p.f1 = true) : (wordL p).length ≤ 200 ∧ 0 ≤ p.f0 ∧ p.f0 < 100 ∧ 0 ≤ p.f1 ∧ p.f1 < 100 := by
  unfold goodQ at h
  simp only [Bool.and_eq_true, decide_eq_true_eq] at h
  obtain ⟨⟨h1, h2⟩, h3, h4⟩ := h
  have e1 := dec_len p.f0.toNat
  have e2 := dec_len p.f1.toNat
  unfold wordL
  simp only [List.length_append, List.length_singleton]
  omega
theorem tail_len : ∀ l : List S37, (l.all fun p => goodQ p.f0 p.f1) = true → (tailL l).length ≤ 201 * l.length
  | [], _ => by simp [tailL]
  | p :: l, h => by
    rw [List.all_cons, Bool.and_eq_true] at h
    have := tail_len l h.2
    have := (word_len p h.1).1
    unfold tailL at *
    rw [List.map_cons, List.flatten_cons, List.length_append, List.length_append, List.length_singleton, List.length_cons]
    omega
theorem B_plus : (⟨#[43]⟩ : ByteArray) = B [43] := rfl
theorem B_comma : (⟨#[44]⟩ : ByteArray) = B [44] := rfl
theorem digs_B (n : Nat) : digs n = B (Lib.decDigits n) := rfl
theorem itoa_word (p : S37) (h : goodQ p.f0 p.f1 = true) : strconv_Itoa.f p.f0 = some (B (Lib.decDigits p.f0.toNat)) ∧ strconv_Itoa.f p.f1 = some (B (Lib.decDigits p.f1.toNat)) := by
  obtain ⟨_, h1, h2, h3, h4⟩ := word_len p h
  unfold strconv_Itoa.f
  rw [if_pos ⟨h1, h2⟩, if_pos ⟨h3, h4⟩]
  exact ⟨rfl, rfl⟩
theorem itext_loop (l : List S37) (hl : l.length ≤ 6) (hg : (l.all fun p => goodQ p.f0 p.f1) = true) (d : Nat) : ∀ (k i : Nat) (ws : List ByteArray), i + d = l.length → ws.length ≤ i → d < k →
    impl_pacesText.l0 k ws l (l.length : Int) (i : Int) = (strings_Join.f (ws ++ (l.drop i).map fun p => B (wordL p)) (⟨#[44]⟩ : ByteArray)).bind fun t => some t := by
  induction d with
  | zero =>
    intro k i ws h hw hk
    obtain ⟨k, rfl⟩ := fuel0 (show 0 < k by omega)
    simp only [impl_pacesText.l0]
    rw [if_neg (by omega), List.drop_eq_nil_of_le (by omega), List.map_nil, List.append_nil]
  | succ d ih =>
    intro k i ws h hws hk
    obtain ⟨k, rfl⟩ := fuel0 (show 0 < k by omega)
    have hi : i < l.length := by omega
    have hgi : goodQ l[i].f0 l[i].f1 = true := List.all_eq_true.1 hg l[i] (List.getElem_mem hi)
    have hw := (word_len l[i] hgi).1
    have hw' : (Lib.decDigits l[i].f0.toNat).length + 1 + (Lib.decDigits l[i].f1.toNat).length ≤ 200 := by
      have := hw
      unfold wordL at this
      rw [List.length_append, List.length_append, List.length_singleton] at this
      exact this
    obtain ⟨n1, n2⟩ := itoa_word l[i] hgi
    simp only [impl_pacesText.l0]
    rw [if_pos (by omega), if_pos (by omega), if_pos (by omega), rt_at l i hi, n1, Option.bind_some, if_pos (by rw [B_size]; omega), n2, Option.bind_some, B_plus, B_app, B_app]
    rw [if_pos (by rw [B_size, B_size, List.length_append]; simp only [List.length_singleton]; omega), if_pos (by omega), w_up (by omega), ih k (i + 1) _ (by omega) (by simp; omega) (by omega), List.drop_eq_getElem_cons hi, List.map_cons, List.append_assoc]
    rfl
theorem joined (p : S37) (l : List S37) : Lib.join (((p :: l).map fun p => B (wordL p)).map (·.data.toList)) [44] = wordL p ++ tailL l := by
  rw [List.map_cons, List.map_cons, Lib.join_cons]
  unfold Lib.joinTail tailL
  rw [List.map_map, List.map_map]
  rfl
theorem itext_ok (p : S37) (l : List S37) (hl : (p :: l).length ≤ 6) (hg : ((p :: l).all fun p => goodQ p.f0 p.f1) = true) (k : Nat) (hk : 1000 < k) : impl_pacesText.f k (p :: l) = some (B (wordL p ++ tailL l)) := by
  unfold impl_pacesText.f
  have c0 : ((0 : Nat) : Int) = 0 := rfl
  have := itext_loop (p :: l) hl hg (p :: l).length k 0 [] (by omega) (by simp) (by omega)
  rw [c0, List.drop_zero, List.nil_append] at this
  rw [this]
  have hgp : goodQ p.f0 p.f1 = true := List.all_eq_true.1 hg p List.mem_cons_self
  have hw := (word_len p hgp).1
  have hg2 : (l.all fun p => goodQ p.f0 p.f1) = true := by rw [List.all_cons, Bool.and_eq_true] at hg; exact hg.2
  have ht := tail_len l hg2
  have hlen : (p :: l).length = l.length + 1 := rfl
  unfold strings_Join.f
  have e : ((⟨#[44]⟩ : ByteArray).data.toList) = [44] := rfl
  rw [e, joined p l, if_pos (by rw [List.length_append, List.length_map]; omega), Option.bind_some]
  rfl
end Go.Proofs.YtbcehopnkkajgaaDoor.Pure
