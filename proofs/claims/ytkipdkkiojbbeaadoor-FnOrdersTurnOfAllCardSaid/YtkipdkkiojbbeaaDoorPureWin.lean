/- Windows that lead from row to row: the reference and the program do the same, for all rows; no Go and no memory here. -/
import Derived.Test.YtkipdkkiojbbeaaDoorAx2
import Derived.Test.YtkipdkkiojbbeaaDoorAx3
import Derived.Test.YtkipdkkiojbbeaaDoorGivT
import Derived.Test.YtkipdkkiojbbeaaDoorPureChase
namespace Go.Proofs.YtkipdkkiojbbeaaDoor.Pure
open Go.RowKit Go.Proofs.YtkipdkkiojbbeaaDoor.A Go.Proofs.YtkipdkkiojbbeaaDoorW.PrintWords Go.Proofs.YtkipdkkiojbbeaaDoorW.PrintLast Go.Proofs.YtkipdkkiojbbeaaDoorW.PrintMore
set_option linter.unusedVariables false
set_option linter.unusedSimpArgs false

/-! ### which texts are rows -/
theorem good_loop (s : ByteArray) (hs : s.size ≤ 1000000) (d : Nat) : ∀ (k i : Nat), i + d = s.size → d < k → spec_rwGood.l0 k s (i : Int) = some ((s.data.toList.drop i).all isFace) := by
  have hl : s.data.toList.length = s.size := by simp
  induction d with
  | zero =>
    intro k i h hk
    obtain ⟨k, rfl⟩ := fuel0 (show 0 < k by omega)
    simp only [spec_rwGood.l0]
    rw [if_neg (by omega), List.drop_eq_nil_of_le (by omega)]
    rfl
  | succ d ih =>
    intro k i h hk
    obtain ⟨k, rfl⟩ := fuel0 (show 0 < k by omega)
    have hi : i < s.data.toList.length := by omega
    simp only [spec_rwGood.l0]
    have hb : bt s (i : Int) = ((s.data.toList[i]).toNat : Int) := by
      unfold bt
      rw [Int.toNat_natCast, dif_pos (by omega)]
      rfl
    rw [if_pos (by omega), if_pos (by omega), hb, w_up (by omega), ih k (i + 1) (by omega) (by omega), List.drop_eq_getElem_cons hi, List.all_cons]
    generalize s.data.toList[i] = b
    have hf : isFace b = (decide (b.toNat = 60) || decide (b.toNat = 62)) := by
      unfold isFace
      rw [Bool.eq_iff_iff]
      simp [← UInt8.toNat_inj]
    rw [hf]
    by_cases q1 : b.toNat = 60
    · rw [if_pos (by omega)]; simp [q1]
    · rw [if_neg (by omega)]
      by_cases q2 : b.toNat = 62
      · rw [if_pos (by omega)]; simp [q2]
      · rw [if_neg (by omega)]; simp [q1, q2]
def ordB (s : ByteArray) : Bool := rowB s && decide ((s.size : Int) ≤ 40)
theorem sgood_ok (s : ByteArray) (k : Nat) (hk : 100 < k) : spec_odGood.f k s = some (ordB s) := by
  unfold spec_odGood.f spec_rwGood.f ordB rowB
  rw [l1_eq, Option.bind_some]
  by_cases c : 1 ≤ s.size ∧ s.size ≤ 60
  · rw [if_pos (by simp only [decide_eq_true_eq]; omega), decide_eq_true c]
    have := good_loop s (by omega) s.size k 0 (by omega) (by omega)
    have c0 : ((0 : Nat) : Int) = 0 := rfl
    rw [c0, List.drop_zero] at this
    rw [this, Option.bind_some]
    cases s.data.toList.all isFace <;> rfl
  · rw [if_neg (by simp only [decide_eq_true_eq]; omega), decide_eq_false c]
    rfl
theorem iord_ok (s : ByteArray) (hs : s.size ≤ 9223372036854775807) : impl_isOrdered.f s = some (ordB s) := by
  unfold impl_isOrdered.f impl_isRow.f ordB
  rw [if_pos hs, Option.bind_some]
  cases rowB s <;> rfl
def twoB (a b : ByteArray) : Bool := ordB a && (ordB b && ((a.size : Int) == (b.size : Int)))
theorem two_ok (a b : ByteArray) (k : Nat) (hk : 100 < k) : spec_odTwo.f k a b = some (twoB a b) := by
  unfold spec_odTwo.f twoB
  rw [sgood_ok a k hk, sgood_ok b k hk, Option.bind_some]
  cases ordB a
  · rfl
  · rw [if_pos rfl, Option.bind_some]
    cases ordB b <;> rfl
theorem areo_ok (a b : ByteArray) (ha : a.size ≤ 9223372036854775807) (hb : b.size ≤ 9223372036854775807) : impl_areOrdered.f a b = some (twoB a b) := by
  unfold impl_areOrdered.f twoB
  rw [iord_ok a ha, iord_ok b hb, Option.bind_some]
  cases ordB a
  · rfl
  · rw [if_pos rfl, Option.bind_some]
    cases ordB b <;> rfl
theorem face_back (b : UInt8) (h : isFace b = true) : b = face (b == 62) := by
  unfold isFace at h
  have h2 : b = 60 ∨ b = 62 := by simpa using h
  rcases h2 with rfl | rfl <;> rfl
theorem enc_of (s : ByteArray) (h : s.data.toList.all isFace = true) : ∃ l : List Bool, s = enc l ∧ l.length = s.size := by
  refine ⟨s.data.toList.map (· == 62), ?_, by simp⟩
  apply ByteArray.ext
  apply Array.toList_inj.1
  unfold enc
  rw [List.data_toByteArray]
  simp only [List.map_map]
  have : ∀ l : List UInt8, l.all isFace = true → l = l.map (face ∘ fun x => x == 62) := by
    intro l
    induction l with
    | nil => intro _; rfl
    | cons a l ih =>
      intro hh
      rw [List.all_cons, Bool.and_eq_true] at hh
      rw [List.map_cons, ← ih hh.2]
      congr 1
      exact face_back a hh.1
  simpa using this _ h
theorem two_rows (a b : ByteArray) (h : twoB a b = true) : ∃ x y : List Bool, a = enc x ∧ b = enc y ∧ x.length = y.length ∧ 1 ≤ y.length ∧ y.length ≤ 40 := by
  unfold twoB ordB rowB at h
  simp only [Bool.and_eq_true, decide_eq_true_eq, beq_iff_eq] at h
  obtain ⟨⟨⟨h1, h2⟩, h3⟩, ⟨⟨h4, h5⟩, h6⟩, h7⟩ := h
  obtain ⟨x, hx, hxl⟩ := enc_of a h2
  obtain ⟨y, hy, hyl⟩ := enc_of b h5
  exact ⟨x, y, hx, hy, by omega, by omega, by omega⟩
/-! ### windows -/
theorem flip_dif (a b : List Bool) (f t j : Nat) (hj : j < a.length) : dif (flipL a f t) b j = (dif a b j != decide (f ≤ j ∧ j ≤ t)) := by
  unfold dif
  rw [flip_getD _ _ _ _ hj]
  cases a.getD j false <;> cases b.getD j false <;> cases decide (f ≤ j ∧ j ≤ t) <;> rfl
theorem differ_loop (A B : List Bool) (hA : A.length = B.length) (hB : B.length ≤ 40) (d : Nat) : ∀ (K i : Nat) (x : List Bool), i + d = B.length → x.length = B.length → (∀ j, j < i → x.getD j false = dif A B j) → d < K →
    ∃ D : List Bool, D.length = B.length ∧ (∀ j, j < B.length → D.getD j false = dif A B j) ∧ impl_differ.l0 K (enc A) (enc B) x (B.length : Int) (i : Int) = some D := by
  induction d with
  | zero =>
    intro K i x h hx hj hk
    obtain ⟨K, rfl⟩ := fuel0 (show 0 < K by omega)
    refine ⟨x, hx, fun j hjn => hj j (by omega), ?_⟩
    simp only [impl_differ.l0]
    rw [if_neg (by omega)]
  | succ d ih =>
    intro K i x h hx hj hk
    obtain ⟨K, rfl⟩ := fuel0 (show 0 < K by omega)
    have hb : (bt (enc A) (i : Int) != bt (enc B) (i : Int)) = dif A B i := by
      have := bt_same A B i (by omega) (by omega)
      cases q : dif A B i with
      | false => rw [this.2 q]; exact bne_self_eq_false _
      | true =>
        rw [bne_iff_ne]
        intro e
        rw [this.1 e] at q
        cases q
    obtain ⟨D, h1, h2, h3⟩ := ih K (i + 1) (x.set i (dif A B i)) (by omega) (by rw [List.length_set]; exact hx) (fun j hji => by
      rw [List.getD_eq_getElem?_getD, List.getElem?_set]
      by_cases q : i = j
      · rw [if_pos q, if_pos (by omega), ← q]; rfl
      · rw [if_neg q, ← List.getD_eq_getElem?_getD]; exact hj j (by omega)) (by omega)
    refine ⟨D, h1, h2, ?_⟩
    simp only [impl_differ.l0]
    rw [if_pos (by omega), if_pos (by omega), enc_size, enc_size, if_pos (by omega), if_pos (by omega), if_pos (by omega), hb, Int.toNat_natCast, w_up (by omega)]
    exact h3
theorem differ_ok (A B : List Bool) (hA : A.length = B.length) (hB : B.length ≤ 40) : ∃ D : List Bool, D.length = B.length ∧ (∀ j, j < B.length → D.getD j false = dif A B j) ∧ ∀ K, 100 < K → impl_differ.f K (enc A) (enc B) = some D := by
  obtain ⟨D, h1, h2, h3⟩ := differ_loop A B hA hB B.length 101 0 (List.replicate B.length false) (by omega) (by simp) (fun j hj => by omega) (by omega)
  refine ⟨D, h1, h2, fun K hK => ?_⟩
  unfold impl_differ.f
  rw [enc_size, if_pos (by omega), if_pos (by omega), Option.bind_some, Int.toNat_natCast, List.length_replicate, hA]
  have c0 : ((0 : Nat) : Int) = 0 := rfl
  rw [c0] at h3
  exact at_rounds (g := fun k => impl_differ.l0 k (enc A) (enc B) (List.replicate B.length false) (B.length : Int) 0) (fun k => impl_differ.mono_l k (enc A) (enc B) (List.replicate B.length false) (B.length : Int) 0) hK h3
end Go.Proofs.YtkipdkkiojbbeaaDoor.Pure
