/- Rows of soldiers as lists of looks: what the reference's functions on rows come to; orders to neighbours: chase and plan are one. No Go and no memory here. -/
import Derived.Test.YtkipdkkiojbbeaaDoorAx8
import Derived.Test.YtkipdkkiojbbeaaDoorPureCommon
import Derived.Laws.Strings
namespace Go.Proofs.YtkipdkkiojbbeaaDoor.Pure
open Go.RowKit Go.Proofs.YtkipdkkiojbbeaaDoor.A Go.Proofs.YtkipdkkiojbbeaaDoorW.PrintWords Go.Proofs.YtkipdkkiojbbeaaDoorW.PrintLast Go.Proofs.YtkipdkkiojbbeaaDoorW.PrintMore
set_option linter.unusedVariables false
set_option linter.unusedSimpArgs false

theorem fuel0 {k : Nat} (h : 0 < k) : ∃ m, k = m + 1 := ⟨k - 1, by omega⟩
theorem w_up {n : Nat} (h : n ≤ 9223372036854775806) : wrap64 ((n : Int) + 1) = ((n + 1 : Nat) : Int) := by unfold wrap64; omega
theorem w_down {n : Nat} (h : n ≤ 9223372036854775806) (h0 : 0 < n) : wrap64 ((n : Int) - 1) = ((n - 1 : Nat) : Int) := by unfold wrap64; omega
/-! ### texts of rows -/
def face (b : Bool) : UInt8 := if b then 62 else 60
def enc (l : List Bool) : ByteArray := (l.map face).toByteArray
theorem enc_size (l : List Bool) : (enc l).size = l.length := by unfold enc; rw [List.size_toByteArray, List.length_map]
theorem enc_append (a b : List Bool) : enc a ++ enc b = enc (a ++ b) := by unfold enc; rw [List.map_append, List.toByteArray_append]
theorem face_inj {a b : Bool} (h : face a = face b) : a = b := by cases a <;> cases b <;> first | rfl | (exact absurd h (by decide))
theorem map_face_inj : ∀ {a b : List Bool}, a.map face = b.map face → a = b
  | [], [], _ => rfl
  | [], _ :: _, h => by simp at h
  | _ :: _, [], h => by simp at h
  | x :: a, y :: b, h => by
    simp only [List.map_cons, List.cons.injEq] at h
    rw [face_inj h.1, map_face_inj h.2]
theorem enc_inj {a b : List Bool} (h : enc a = enc b) : a = b := by
  unfold enc at h
  exact map_face_inj (List.toByteArray_inj.1 h)
theorem enc_data (l : List Bool) : (enc l).toList = l.map face := by
  rw [Go.ByteArray.toList_eq]
  unfold enc
  rw [List.data_toByteArray]
theorem enc_beq (a b : List Bool) : ((enc a).toList == (enc b).toList) = (a == b) := by
  rw [enc_data, enc_data]
  rw [Bool.eq_iff_iff, beq_iff_eq, beq_iff_eq]
  exact ⟨map_face_inj, fun h => by rw [h]⟩
theorem bt_enc (l : List Bool) (i : Nat) : bt (enc l) (i : Int) = if i < l.length then (if l.getD i false then 62 else 60) else 0 := by
  unfold bt
  rw [Int.toNat_natCast]
  by_cases h : i < l.length
  · rw [if_pos h, dif_pos (by rw [enc_size]; exact h)]
    have : (enc l)[i]'(by rw [enc_size]; exact h) = face l[i] := by
      unfold enc
      rw [List.getElem_toByteArray, List.getElem_map]
    rw [this, List.getD_eq_getElem?_getD, List.getElem?_eq_getElem h]
    cases l[i] <;> rfl
  · rw [if_neg h, dif_neg (by rw [enc_size]; exact h)]
theorem bt_at (l : List Bool) (i : Nat) (h : i < l.length) : bt (enc l) (i : Int) = if l.getD i false then 62 else 60 := by rw [bt_enc, if_pos h]
theorem enc_take (l : List Bool) (i : Nat) : (enc l).extract 0 i = enc (l.take i) := by
  by_cases h : i ≤ l.length
  · have e : enc l = enc (l.take i) ++ enc (l.drop i) := by rw [enc_append, List.take_append_drop]
    rw [e, ByteArray.extract_append_eq_left (by rw [enc_size, List.length_take]; omega)]
  · rw [List.take_of_length_le (by omega)]
    have := ByteArray.extract_zero_max_size (a := enc l) (i := i)
    rw [enc_size] at this
    rwa [show max i l.length = i by omega] at this
theorem enc_drop (l : List Bool) (i : Nat) (h : i ≤ l.length) : (enc l).extract i (enc l).size = enc (l.drop i) := by
  have e : enc l = enc (l.take i) ++ enc (l.drop i) := by rw [enc_append, List.take_append_drop]
  have s : (enc l).size = (enc (l.take i)).size + (enc (l.drop i)).size := by rw [enc_size, enc_size, enc_size, List.length_take, List.length_drop]; omega
  rw [s, e, ByteArray.extract_append_eq_right (by rw [enc_size, List.length_take]; omega) rfl]
theorem take_set_drop (l : List Bool) (i : Nat) (b : Bool) (h : i < l.length) : l.take i ++ [b] ++ l.drop (i + 1) = l.set i b := by
  rw [List.set_eq_take_append_cons_drop, if_pos h, List.append_assoc]
  rfl
/-! ### soldiers turned -/
def flipL (l : List Bool) (f t : Nat) : List Bool := l.mapIdx fun j b => (b != decide (f ≤ j ∧ j ≤ t))
theorem flip_len (l : List Bool) (f t : Nat) : (flipL l f t).length = l.length := by unfold flipL; rw [List.length_mapIdx]
theorem flip_getD (l : List Bool) (f t j : Nat) (h : j < l.length) : (flipL l f t).getD j false = (l.getD j false != decide (f ≤ j ∧ j ≤ t)) := by
  unfold flipL
  rw [List.getD_eq_getElem?_getD, List.getD_eq_getElem?_getD, List.getElem?_mapIdx, List.getElem?_eq_getElem h]
  rfl
theorem flip_get (l : List Bool) (f t j : Nat) (h : j < (flipL l f t).length) (h' : j < l.length) : (flipL l f t)[j] = (l[j] != decide (f ≤ j ∧ j ≤ t)) := by
  simp [flipL]
theorem flip_none (l : List Bool) (f t : Nat) (h : t < f) : flipL l f t = l := by
  refine List.ext_getElem (flip_len l f t) fun j h1 h2 => ?_
  rw [flip_get l f t j h1 h2, decide_eq_false (by omega), Bool.bne_false]
theorem flip_step (l : List Bool) (f t : Nat) (h : f ≤ t) (hf : f < l.length) : flipL (l.set f (!l.getD f false)) (f + 1) t = flipL l f t := by
  refine List.ext_getElem (by rw [flip_len, flip_len, List.length_set]) fun j h1 h2 => ?_
  rw [flip_get _ _ _ _ h1 (by rw [flip_len] at h1; exact h1), flip_get _ _ _ _ h2 (by rw [flip_len] at h2; exact h2), List.getElem_set]
  by_cases e : f = j
  · subst e
    rw [if_pos rfl, decide_eq_false (by omega), decide_eq_true (by omega), List.getD_eq_getElem?_getD, List.getElem?_eq_getElem hf]
    cases l[f] <;> rfl
  · rw [if_neg e]
    congr 1
    exact decide_eq_decide.2 (by omega)
theorem other_ok (b : Bool) : spec_rwOther.f (if b then 62 else 60) = some (enc [!b]) := by
  unfold spec_rwOther.f
  cases b
  · rfl
  · rfl
theorem odTurn_loop (t : Nat) (ht : t ≤ 1000000000) (d : Nat) : ∀ (k i : Nat) (l : List Bool), i + d = t + 1 → t < l.length → l.length ≤ 1000000000 → d < k → spec_odTurn.l0 k (enc l) (t : Int) (i : Int) = some (enc (flipL l i t)) := by
  induction d with
  | zero =>
    intro k i l h hl hL hk
    obtain ⟨k, rfl⟩ := fuel0 (show 0 < k by omega)
    simp only [spec_odTurn.l0]
    rw [if_neg (by omega), flip_none _ _ _ (by omega)]
  | succ d ih =>
    intro k i l h hl hL hk
    obtain ⟨k, rfl⟩ := fuel0 (show 0 < k by omega)
    have hi : i < l.length := by omega
    simp only [spec_odTurn.l0]
    rw [if_pos (by omega), if_pos (by omega), enc_size, if_pos (by omega), if_pos (by omega), bt_at l i hi, other_ok, Option.bind_some, Int.toNat_natCast, w_up (by omega), Int.toNat_natCast, enc_take, enc_append, ← enc_size l, enc_drop l (i + 1) (by omega)]
    rw [if_pos (by rw [enc_size, enc_size, List.length_take]; simp; omega), if_pos (by omega), if_pos (by rw [enc_size]; omega), if_pos (by rw [enc_size, enc_size]; simp; omega), enc_append, take_set_drop l i _ hi, ih k (i + 1) _ (by omega) (by rw [List.length_set]; exact hl) (by rw [List.length_set]; exact hL) (by omega), flip_step l i t (by omega) hi]
theorem odTurn_ok (k f t : Nat) (l : List Bool) (hft : f ≤ t + 1) (ht : t < l.length) (hL : l.length ≤ 1000000000) (hk : t + 1 - f < k) : spec_odTurn.f k (enc l) (f : Int) (t : Int) = some (enc (flipL l f t)) := by
  unfold spec_odTurn.f
  exact odTurn_loop t (by omega) (t + 1 - f) k f l (by omega) ht hL hk
theorem most_is (a b : Int) : spec_l1Most.f a b = some (max a b) := by
  unfold spec_l1Most.f
  by_cases h : a > b
  · rw [if_pos h]; congr 1; omega
  · rw [if_neg h]; congr 1; omega
theorem least_is (a b : Int) : spec_l1Least.f a b = some (min a b) := by
  unfold spec_l1Least.f
  by_cases h : a < b
  · rw [if_pos h]; congr 1; omega
  · rw [if_neg h]; congr 1; omega
def around (l : List Bool) (i : Nat) : List Bool := flipL l (i - 1) (min (l.length - 1) (i + 1))
theorem span_ok (n i k : Nat) (hi : i < n) (hk : 5 < k) : i - 1 ≤ min (n - 1) (i + 1) + 1 ∧ min (n - 1) (i + 1) < n ∧ min (n - 1) (i + 1) + 1 - (i - 1) < k := by
  refine ⟨?_, ?_, ?_⟩
  · have := Nat.le_min.2 ⟨(show i - 1 ≤ n - 1 by omega), (show i - 1 ≤ i + 1 by omega)⟩
    exact Nat.le_succ_of_le this
  · have := Nat.min_le_left (n - 1) (i + 1)
    omega
  · have := Nat.min_le_right (n - 1) (i + 1)
    omega
theorem span_lo (i : Nat) (hi : i < 1000000000) : max 0 (wrap64 ((i : Int) - 1)) = ((i - 1 : Nat) : Int) := by
  rw [w_in (by omega) (by omega)]
  cases i with
  | zero => rfl
  | succ i => rw [Int.max_eq_right (by omega)]; omega
theorem span_hi (n i : Nat) (hi : i < n) (hn : n ≤ 1000000000) : min (wrap64 ((n : Int) - 1)) (wrap64 ((i : Int) + 1)) = ((min (n - 1) (i + 1) : Nat) : Int) := by
  rw [w_down (by omega) (by omega), w_up (by omega)]
  rcases Nat.le_total (n - 1) (i + 1) with h | h
  · rw [Nat.min_eq_left h, Int.min_eq_left (by omega)]
  · rw [Nat.min_eq_right h, Int.min_eq_right (by omega)]
theorem odAround_ok (k i : Nat) (l : List Bool) (hi : i < l.length) (hL : l.length ≤ 1000000000) (hk : 5 < k) : spec_odAround.f k (enc l) (i : Int) = some (enc (around l i)) := by
  obtain ⟨h1, h2, h3⟩ := span_ok l.length i k hi hk
  have h4 := odTurn_ok k (i - 1) (min (l.length - 1) (i + 1)) l h1 h2 hL h3
  unfold spec_odAround.f
  rw [most_is, least_is, Option.bind_some, Option.bind_some, enc_size, span_lo i (by omega), span_hi l.length i hi hL, h4, Option.bind_some]
  rfl
/-! ### orders to neighbours -/
def nwith (L : Nat → Bool) : Nat → Nat → List Int → Bool → Bool → List Int × Bool
  | 0, _, out, _, now => (out, !now)
  | d + 1, i, out, before, now => nwith L d (i + 1) (if now then out ++ [(i : Int)] else out) now (L i != (before != now))
theorem nwith_len (L : Nat → Bool) (d : Nat) : ∀ (i : Nat) (out : List Int) (b n : Bool), (nwith L d i out b n).1.length ≤ out.length + d := by
  induction d with
  | zero => intro i out b n; exact Nat.le_refl _
  | succ d ih =>
    intro i out b n
    have := ih (i + 1) (if n then out ++ [(i : Int)] else out) n (L i != (b != n))
    have h2 : (if n then out ++ [(i : Int)] else out).length ≤ out.length + 1 := by cases n <;> simp
    show (nwith L d (i + 1) _ _ _).1.length ≤ _
    omega
theorem rdOf_D (l : List Bool) (i : Nat) : rdOf false l (i : Int) = l.getD i false := by
  unfold rdOf
  rw [Int.toNat_natCast]
/-- Where two rows differ. -/
def dif (a b : List Bool) (j : Nat) : Bool := (a.getD j false != b.getD j false)
theorem bt_same (a b : List Bool) (j : Nat) (ha : j < a.length) (hb : j < b.length) : (bt (enc a) (j : Int) = bt (enc b) (j : Int)) ↔ dif a b j = false := by
  rw [bt_at a j ha, bt_at b j hb]
  unfold dif
  cases a.getD j false <;> cases b.getD j false <;> simp
theorem around_dif (a b : List Bool) (i j : Nat) (hj : j < a.length) : dif (around a i) b j = (dif a b j != decide (i - 1 ≤ j ∧ j ≤ i + 1)) := by
  unfold dif around
  rw [flip_getD _ _ _ _ hj]
  have : decide (i - 1 ≤ j ∧ j ≤ min (a.length - 1) (i + 1)) = decide (i - 1 ≤ j ∧ j ≤ i + 1) := decide_eq_decide.2 (by omega)
  rw [this]
  cases a.getD j false <;> cases b.getD j false <;> cases decide (i - 1 ≤ j ∧ j ≤ i + 1) <;> rfl
theorem eq_of_dif (a b : List Bool) (h : a.length = b.length) : (a == b) = true ↔ ∀ j, j < a.length → dif a b j = false := by
  rw [beq_iff_eq]
  constructor
  · intro e j hj
    subst e
    simp [dif]
  · intro e
    refine List.ext_getElem h fun j h1 h2 => ?_
    have := e j h1
    unfold dif at this
    rw [List.getD_eq_getElem?_getD, List.getD_eq_getElem?_getD, List.getElem?_eq_getElem h1, List.getElem?_eq_getElem h2] at this
    simpa using this
/-- How the row stands before the order i is thought of. -/
def Stand (L : Nat → Bool) (a b : List Bool) (i : Nat) (before now : Bool) : Prop :=
  ∀ j, j < a.length → dif a b j = if j + 1 < i then false else if j + 1 = i then now else if j = i then (L j != before) else L j
theorem stand_not {L : Nat → Bool} {a b : List Bool} {i : Nat} {before : Bool} (h1 : 1 ≤ i) (h : Stand L a b i before false) : Stand L a b (i + 1) false (L i != (before != false)) := by
  intro j hj
  rw [h j hj]
  by_cases c1 : j + 1 < i
  · rw [if_pos c1, if_pos (by omega)]
  · rw [if_neg c1]
    by_cases c2 : j + 1 = i
    · rw [if_pos c2, if_pos (by omega)]
    · rw [if_neg c2]
      by_cases c3 : j = i
      · subst c3
        rw [if_pos rfl, if_neg (by omega), if_pos rfl, Bool.bne_false]
      · rw [if_neg c3, if_neg (by omega), if_neg (by omega)]
        by_cases c4 : j = i + 1
        · rw [if_pos c4, Bool.bne_false]
        · rw [if_neg c4]
theorem stand_yes {L : Nat → Bool} {a b : List Bool} {i : Nat} {before : Bool} (h1 : 1 ≤ i) (h : Stand L a b i before true) : Stand L (around a i) b (i + 1) true (L i != (before != true)) := by
  intro j hj
  have hj' : j < a.length := by unfold around at hj; rwa [flip_len] at hj
  rw [around_dif a b i j hj', h j hj']
  by_cases c1 : j + 1 < i
  · rw [if_pos c1, if_pos (by omega), decide_eq_false (by omega)]
    rfl
  · rw [if_neg c1]
    by_cases c2 : j + 1 = i
    · rw [if_pos c2, if_pos (by omega), decide_eq_true (by omega)]
      rfl
    · rw [if_neg c2]
      by_cases c3 : j = i
      · subst c3
        rw [if_pos rfl, if_neg (by omega), if_pos rfl, decide_eq_true (by omega)]
        cases L j <;> cases before <;> rfl
      · rw [if_neg c3, if_neg (by omega), if_neg (by omega)]
        by_cases c4 : j = i + 1
        · rw [if_pos c4, decide_eq_true (by omega)]
        · rw [if_neg c4, decide_eq_false (by omega), Bool.bne_false]
/-! ### rows that all look one way -/
end Go.Proofs.YtkipdkkiojbbeaaDoor.Pure
