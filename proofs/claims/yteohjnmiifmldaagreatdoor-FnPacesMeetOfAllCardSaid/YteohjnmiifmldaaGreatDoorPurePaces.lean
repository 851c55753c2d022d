/- Paces: which lists are some, and their texts: the program and the reference are one; no Go and no memory here. -/
import Derived.Test.YteohjnmiifmldaaGreatDoorAx10
import Derived.Test.YteohjnmiifmldaaGreatDoorAx11
import Derived.Test.YteohjnmiifmldaaGreatDoorAx2
import Derived.Test.YteohjnmiifmldaaGreatDoorAx3
import Derived.Test.YteohjnmiifmldaaGreatDoorGivJ
import Derived.Test.YteohjnmiifmldaaGreatDoorPureNum
namespace Go.Proofs.YteohjnmiifmldaaGreatDoor.Pure
open Go.RowKit Go.Proofs.YteohjnmiifmldaaGreatDoor.A Go.Proofs.YteohjnmiifmldaaGreatDoorW.PrintWords Go.Proofs.YteohjnmiifmldaaGreatDoorW.PrintLast Go.Proofs.YteohjnmiifmldaaGreatDoorW.PrintMore
set_option linter.unusedVariables false
set_option linter.unusedSimpArgs false

def goodQ (a b : Int) : Bool := decide (1 ≤ a ∧ a ≤ 60) && decide (0 ≤ b ∧ b ≤ a - 1)
def goodP (l : List S38) : Bool := decide (1 ≤ (l.length : Int) ∧ (l.length : Int) ≤ 6) && l.all fun p => goodQ p.f0 p.f1
theorem rt_at (l : List S38) (i : Nat) (h : i < l.length) : rd_T38 l (i : Int) = l[i] := by
  unfold rd_T38
  rw [Int.toNat_natCast, List.getD_eq_getElem?_getD, List.getElem?_eq_getElem h]
  rfl
theorem space_ok (a b : Int) : spec_spPace.f a b = some (goodQ a b) := by
  unfold spec_spPace.f goodQ
  rw [l1_eq, l1_eq, Option.bind_some]
  by_cases c : 1 ≤ a ∧ a ≤ 60
  · rw [decide_eq_true c, if_pos rfl, Option.bind_some, w_in (by omega) (by omega)]
    rfl
  · rw [decide_eq_false c, if_neg Bool.false_ne_true]
    rfl
theorem ispace_ok (a b : Int) : impl_isPace.f a b = some (goodQ a b) := by
  unfold impl_isPace.f goodQ
  rw [in_eq, in_eq, Option.bind_some]
  by_cases c : 1 ≤ a ∧ a ≤ 60
  · rw [decide_eq_true c, if_pos rfl, Option.bind_some, w_in (by omega) (by omega)]
    rfl
  · rw [decide_eq_false c, if_neg Bool.false_ne_true]
    rfl
theorem sgood_loop (l : List S38) (hl : l.length ≤ 6) (d : Nat) : ∀ (k i : Nat), i + d = l.length → d < k → spec_spGood.l0 k l (l.length : Int) (i : Int) = some ((l.drop i).all fun p => goodQ p.f0 p.f1) := by
  induction d with
  | zero =>
    intro k i h hk
    obtain ⟨k, rfl⟩ := fuel0 (show 0 < k by omega)
    simp only [spec_spGood.l0]
    rw [if_neg (by omega), List.drop_eq_nil_of_le (by omega)]
    rfl
  | succ d ih =>
    intro k i h hk
    obtain ⟨k, rfl⟩ := fuel0 (show 0 < k by omega)
    have hi : i < l.length := by omega
    simp only [spec_spGood.l0]
    rw [if_pos (by omega), if_pos (by omega), if_pos (by omega), rt_at l i hi, space_ok, Option.bind_some, List.drop_eq_getElem_cons hi, List.all_cons]
    cases goodQ l[i].f0 l[i].f1 with
    | true => rw [if_pos rfl, w_up (by omega), ih k (i + 1) (by omega) (by omega)]; rfl
    | false => rw [if_neg Bool.false_ne_true]; rfl
theorem pgood_ok (l : List S38) (k : Nat) (hk : 10 < k) : spec_spGood.f k l = some (goodP l) := by
  unfold spec_spGood.f goodP
  rw [l1_eq, Option.bind_some]
  by_cases c : 1 ≤ (l.length : Int) ∧ (l.length : Int) ≤ 6
  · have c0 : ((0 : Nat) : Int) = 0 := rfl
    have := sgood_loop l (by omega) l.length k 0 (by omega) (by omega)
    rw [c0, List.drop_zero] at this
    rw [decide_eq_true c, if_pos rfl, this]
    rfl
  · rw [decide_eq_false c, if_neg Bool.false_ne_true]
    rfl
theorem idx_loop (l : List S38) (hl : l.length ≤ 6) (d : Nat) : ∀ (k i : Nat), i + d = l.length → d < k → ∃ r, impl_Pace_at_impl_arePaces_1_69.l0 k l (l.length : Int) (i : Int) = some r ∧ decide (r ≥ 0) = !((l.drop i).all fun p => goodQ p.f0 p.f1) := by
  induction d with
  | zero =>
    intro k i h hk
    obtain ⟨k, rfl⟩ := fuel0 (show 0 < k by omega)
    simp only [impl_Pace_at_impl_arePaces_1_69.l0]
    rw [if_neg (by omega), List.drop_eq_nil_of_le (by omega)]
    exact ⟨_, rfl, rfl⟩
  | succ d ih =>
    intro k i h hk
    obtain ⟨k, rfl⟩ := fuel0 (show 0 < k by omega)
    have hi : i < l.length := by omega
    simp only [impl_Pace_at_impl_arePaces_1_69.l0]
    unfold impl_arePaces_1.f
    rw [if_pos (by omega), if_pos (by omega), if_pos (by omega), rt_at l i hi, ispace_ok, Option.bind_some, Option.bind_some, List.drop_eq_getElem_cons hi, List.all_cons]
    cases goodQ l[i].f0 l[i].f1 with
    | true =>
      obtain ⟨r, h1, h2⟩ := ih k (i + 1) (by omega) (by omega)
      rw [Bool.not_true, if_neg Bool.false_ne_true, w_up (by omega), h1]
      exact ⟨r, rfl, h2⟩
    | false =>
      rw [Bool.not_false, if_pos rfl]
      exact ⟨_, rfl, decide_eq_true (by omega)⟩
theorem agood_ok (l : List S38) (k : Nat) (hk : 10 < k) : impl_arePaces.f k l = some (goodP l) := by
  unfold impl_arePaces.f goodP
  rw [in_eq, Option.bind_some]
  by_cases c : 1 ≤ (l.length : Int) ∧ (l.length : Int) ≤ 6
  · have c0 : ((0 : Nat) : Int) = 0 := rfl
    obtain ⟨r, h1, h2⟩ := idx_loop l (by omega) l.length k 0 (by omega) (by omega)
    rw [c0] at h1
    rw [List.drop_zero] at h2
    unfold impl_Pace_at_impl_arePaces_1_55.f impl_Pace_at_impl_arePaces_1_69.f
    rw [decide_eq_true c, if_pos rfl, h1, Option.bind_some, Option.bind_some, h2, Bool.not_not]
    rfl
  · rw [decide_eq_false c, if_neg Bool.false_ne_true]
    rfl
/-! ### texts -/
def B (x : List UInt8) : ByteArray := ⟨x.toArray⟩
theorem B_app (x y : List UInt8) : B x ++ B y = B (x ++ y) := by
  apply ByteArray.ext
  apply Array.toList_inj.1
  rw [ByteArray.data_append, Array.toList_append]
  rfl
theorem B_size (x : List UInt8) : (B x).size = x.length := rfl
def wordL (p : S38) : List UInt8 := (Lib.decDigits p.f0.toNat ++ [43]) ++ Lib.decDigits p.f1.toNat
def tailL (l : List S38) : List UInt8 := (l.map fun p => [44] ++ wordL p).flatten
theorem word_len (p : S38) (h : goodQ p.f0 p.f1 = true) : (wordL p).length ≤ 200 ∧ 0 ≤ p.f0 ∧ p.f0 < 100 ∧ 0 ≤ p.f1 ∧ p.f1 < 100 := by
  unfold goodQ at h
  simp only [Bool.and_eq_true, decide_eq_true_eq] at h
  obtain ⟨⟨h1, h2⟩, h3, h4⟩ := h
  have e1 := dec_len p.f0.toNat
  have e2 := dec_len p.f1.toNat
  unfold wordL
  simp only [List.length_append, List.length_singleton]
  omega
theorem tail_len : ∀ l : List S38, (l.all fun p => goodQ p.f0 p.f1) = true → (tailL l).length ≤ 201 * l.length
  | [], _ => by simp [tailL]
  | p :: l, h => by
    rw [List.all_cons, Bool.and_eq_true] at h
    have := tail_len l h.2
    have := (word_len p h.1).1
    unfold tailL at *
    rw [List.map_cons, List.flatten_cons, List.length_append, List.length_append, List.length_singleton, List.length_cons]
    omega
theorem B_plus : (⟨#[43]⟩ : ByteArray) = B [43] := rfl
theorem B_comma : (⟨#[44]⟩ : ByteArray) = B [44] := rfl
theorem num_word (p : S38) (h : goodQ p.f0 p.f1 = true) (k : Nat) (hk : 200 < k) : spec_l1Num.f k p.f0 = some (B (Lib.decDigits p.f0.toNat)) ∧ spec_l1Num.f k p.f1 = some (B (Lib.decDigits p.f1.toNat)) := by
  obtain ⟨_, h1, h2, h3, h4⟩ := word_len p h
  have e1 := num_at p.f0.toNat k (by omega) (by omega)
  have e2 := num_at p.f1.toNat k (by omega) (by omega)
  rw [Int.toNat_of_nonneg h1] at e1
  rw [Int.toNat_of_nonneg h3] at e2
  exact ⟨e1, e2⟩
theorem itoa_word (p : S38) (h : goodQ p.f0 p.f1 = true) : strconv_Itoa.f p.f0 = some (B (Lib.decDigits p.f0.toNat)) ∧ strconv_Itoa.f p.f1 = some (B (Lib.decDigits p.f1.toNat)) := by
  obtain ⟨_, h1, h2, h3, h4⟩ := word_len p h
  unfold strconv_Itoa.f
  rw [if_pos ⟨h1, h2⟩, if_pos ⟨h3, h4⟩]
  exact ⟨rfl, rfl⟩
theorem stext_loop (l : List S38) (hl : l.length ≤ 6) (hg : (l.all fun p => goodQ p.f0 p.f1) = true) (d : Nat) : ∀ (k i : Nat) (x : List UInt8), i + d = l.length → 1 ≤ i → x.length ≤ 201 * i → d + 300 < k →
    spec_spText.l0 k (B x) l (l.length : Int) (i : Int) = some (B (x ++ tailL (l.drop i))) := by
  induction d with
  | zero =>
    intro k i x h h1 hx hk
    obtain ⟨k, rfl⟩ := fuel0 (show 0 < k by omega)
    simp only [spec_spText.l0]
    rw [if_neg (by omega), List.drop_eq_nil_of_le (by omega)]
    unfold tailL
    rw [List.map_nil, List.flatten_nil, List.append_nil]
  | succ d ih =>
    intro k i x h h1 hx hk
    obtain ⟨k, rfl⟩ := fuel0 (show 0 < k by omega)
    have hi : i < l.length := by omega
    have hgi : goodQ l[i].f0 l[i].f1 = true := List.all_eq_true.1 hg l[i] (List.getElem_mem hi)
    have hw := (word_len l[i] hgi).1
    have hw' : (Lib.decDigits l[i].f0.toNat).length + 1 + (Lib.decDigits l[i].f1.toNat).length ≤ 200 := by
      have := hw
      unfold wordL at this
      rw [List.length_append, List.length_append, List.length_singleton] at this
      exact this
    obtain ⟨n1, n2⟩ := num_word l[i] hgi k (by omega)
    simp only [spec_spText.l0]
    rw [if_pos (by omega), if_pos (by omega), if_pos (by omega), if_pos (by omega), if_pos (by rw [B_size]; omega), rt_at l i hi, n1, Option.bind_some, if_pos (by rw [B_size]; omega), n2, Option.bind_some, B_plus, B_comma, B_app, B_app, B_app, B_app]
    rw [if_pos (by rw [B_size, B_size, List.length_append]; simp only [List.length_singleton]; omega), if_pos (by rw [B_size, B_size, List.length_append, List.length_append, List.length_append]; simp only [List.length_singleton]; omega), w_up (by omega)]
    have := ih k (i + 1) ((x ++ [44]) ++ wordL l[i]) (by omega) (by omega) (by rw [List.length_append, List.length_append]; simp only [List.length_singleton]; omega) (by omega)
    rw [show (x ++ [44]) ++ ((Lib.decDigits l[i].f0.toNat ++ [43]) ++ Lib.decDigits l[i].f1.toNat) = (x ++ [44]) ++ wordL l[i] from rfl, this, List.drop_eq_getElem_cons hi]
    congr 2
    unfold tailL
    rw [List.map_cons, List.flatten_cons, List.append_assoc, List.append_assoc, List.append_assoc]
theorem stext_ok (p : S38) (l : List S38) (hl : (p :: l).length ≤ 6) (hg : ((p :: l).all fun p => goodQ p.f0 p.f1) = true) (k : Nat) (hk : 1000 < k) : spec_spText.f k (p :: l) = some (B (wordL p ++ tailL l)) := by
  obtain ⟨k, rfl⟩ := fuel0 (show 0 < k by omega)
  unfold spec_spText.f
  have hgp : goodQ p.f0 p.f1 = true := List.all_eq_true.1 hg p List.mem_cons_self
  have hw := (word_len p hgp).1
  have hw' : (Lib.decDigits p.f0.toNat).length + 1 + (Lib.decDigits p.f1.toNat).length ≤ 200 := by
    have := hw
    unfold wordL at this
    rw [List.length_append, List.length_append, List.length_singleton] at this
    exact this
  obtain ⟨n1, n2⟩ := num_word p hgp k (by omega)
  have hr : rd_T38 (p :: l) 0 = p := rfl
  have c1 : wrap64 (0 + 1) = ((1 : Nat) : Int) := by unfold wrap64; omega
  have hlen : (p :: l).length = l.length + 1 := rfl
  simp only [spec_spText.l0]
  rw [if_pos (by omega), if_pos (by omega), if_pos (by omega), if_neg (by omega), hr, n1, Option.bind_some, if_pos (by rw [B_size]; omega), n2, Option.bind_some, B_plus, B_app, B_app]
  rw [if_pos (by rw [B_size, B_size, List.length_append]; simp only [List.length_singleton]; omega), if_pos (by
    rw [B_size, List.length_append, List.length_append]
    have : (⟨#[]⟩ : ByteArray).size = 0 := rfl
    simp only [List.length_singleton]
    omega), c1]
  have e0 : (⟨#[]⟩ : ByteArray) ++ B ((Lib.decDigits p.f0.toNat ++ [43]) ++ Lib.decDigits p.f1.toNat) = B (wordL p) := B_app [] _
  rw [e0]
  exact stext_loop (p :: l) hl hg l.length k 1 (wordL p) (by omega) (by omega) (by omega) (by omega)
theorem itext_loop (l : List S38) (hl : l.length ≤ 6) (hg : (l.all fun p => goodQ p.f0 p.f1) = true) (d : Nat) : ∀ (k i : Nat) (ws : List ByteArray), i + d = l.length → ws.length ≤ i → d < k →
    impl_pacesText.l0 k ws l (l.length : Int) (i : Int) = (strings_Join.f (ws ++ (l.drop i).map fun p => B (wordL p)) (⟨#[44]⟩ : ByteArray)).bind fun t => some t := by
  induction d with
  | zero =>
    intro k i ws h hw hk
    obtain ⟨k, rfl⟩ := fuel0 (show 0 < k by omega)
    simp only [impl_pacesText.l0]
    rw [if_neg (by omega), List.drop_eq_nil_of_le (by omega), List.map_nil, List.append_nil]
  | succ d ih =>
    intro k i ws h hws hk
    obtain ⟨k, rfl⟩ := fuel0 (show 0 < k by omega)
    have hi : i < l.length := by omega
    have hgi : goodQ l[i].f0 l[i].f1 = true := List.all_eq_true.1 hg l[i] (List.getElem_mem hi)
    have hw := (word_len l[i] hgi).1
    have hw' : (Lib.decDigits l[i].f0.toNat).length + 1 + (Lib.decDigits l[i].f1.toNat).length ≤ 200 := by
      have := hw
      unfold wordL at this
      rw [List.length_append, List.length_append, List.length_singleton] at this
      exact this
    obtain ⟨n1, n2⟩ := itoa_word l[i] hgi
    simp only [impl_pacesText.l0]
    rw [if_pos (by omega), if_pos (by omega), if_pos (by omega), rt_at l i hi, n1, Option.bind_some, if_pos (by rw [B_size]; omega), n2, Option.bind_some, B_plus, B_app, B_app]
    rw [if_pos (by rw [B_size, B_size, List.length_append]; simp only [List.length_singleton]; omega), if_pos (by omega), w_up (by omega), ih k (i + 1) _ (by omega) (by simp; omega) (by omega), List.drop_eq_getElem_cons hi, List.map_cons, List.append_assoc]
    rfl
theorem joined (p : S38) (l : List S38) : Lib.join (((p :: l).map fun p => B (wordL p)).map (·.data.toList)) [44] = wordL p ++ tailL l := by
  rw [List.map_cons, List.map_cons, Lib.join_cons]
  unfold Lib.joinTail tailL
  rw [List.map_map, List.map_map]
  rfl
theorem itext_ok (p : S38) (l : List S38) (hl : (p :: l).length ≤ 6) (hg : ((p :: l).all fun p => goodQ p.f0 p.f1) = true) (k : Nat) (hk : 1000 < k) : impl_pacesText.f k (p :: l) = some (B (wordL p ++ tailL l)) := by
  unfold impl_pacesText.f
  have c0 : ((0 : Nat) : Int) = 0 := rfl
  have := itext_loop (p :: l) hl hg (p :: l).length k 0 [] (by omega) (by simp) (by omega)
  rw [c0, List.drop_zero, List.nil_append] at this
  rw [this]
  have hgp : goodQ p.f0 p.f1 = true := List.all_eq_true.1 hg p List.mem_cons_self
  have hw := (word_len p hgp).1
  have hg2 : (l.all fun p => goodQ p.f0 p.f1) = true := by rw [List.all_cons, Bool.and_eq_true] at hg; exact hg.2
  have ht := tail_len l hg2
  have hlen : (p :: l).length = l.length + 1 := rfl
  unfold strings_Join.f
  have e : ((⟨#[44]⟩ : ByteArray).data.toList) = [44] := rfl
  rw [e, joined p l, if_pos (by rw [List.length_append, List.length_map]; omega), Option.bind_some]
  rfl
end Go.Proofs.YteohjnmiifmldaaGreatDoor.Pure
