/- Windows that lead from row to row: the reference and the program do the same, for all rows; no Go and no memory here. -/
import Derived.Test.YtfdajhjmgcognaaDoorAx1
import Derived.Test.YtfdajhjmgcognaaDoorAx3
import Derived.Test.YtfdajhjmgcognaaDoorAx5
import Derived.Test.YtfdajhjmgcognaaDoorGivT
import Derived.Test.YtfdajhjmgcognaaDoorPureChase
namespace Go.Proofs.YtfdajhjmgcognaaDoor.Pure
open Go.RowKit Go.Proofs.YtfdajhjmgcognaaDoor.A Go.Proofs.YtfdajhjmgcognaaDoorW.PrintWords Go.Proofs.YtfdajhjmgcognaaDoorW.PrintLast Go.Proofs.YtfdajhjmgcognaaDoorW.PrintMore
set_option linter.unusedVariables false
set_option linter.unusedSimpArgs false

/-! ### which texts are rows -/
theorem good_loop (s : ByteArray) (hs : s.size ≤ 1000000) (d : Nat) : ∀ (k i : Nat), i + d = s.size → d < k → spec_rwGood.l0 k s (i : Int) = some ((s.data.toList.drop i).all isFace) := by
  have hl : s.data.toList.length = s.size := by simp
  induction d with
  | zero =>
    intro k i h hk
    obtain ⟨k, rfl⟩ := fuel0 (show 0 < k by omega)
    simp only [spec_rwGood.l0]
    rw [if_neg (by omega), List.drop_eq_nil_of_le (by omega)]
    rfl
  | succ d ih =>
    intro k i h hk
    obtain ⟨k, rfl⟩ := fuel0 (show 0 < k by omega)
    have hi : i < s.data.toList.length := by omega
    simp only [spec_rwGood.l0]
    have hb : bt s (i : Int) = ((s.data.toList[i]).toNat : Int) := by
      unfold bt
      rw [Int.toNat_natCast, dif_pos (by omega)]
      rfl
    rw [if_pos (by omega), if_pos (by omega), hb, w_up (by omega), ih k (i + 1) (by omega) (by omega), List.drop_eq_getElem_cons hi, List.all_cons]
    generalize s.data.toList[i] = b
    have hf : isFace b = (decide (b.toNat = 60) || decide (b.toNat = 62)) := by
      unfold isFace
      rw [Bool.eq_iff_iff]
      simp [← UInt8.toNat_inj]
    rw [hf]
    by_cases q1 : b.toNat = 60
    · rw [if_pos (by omega)]; simp [q1]
    · rw [if_neg (by omega)]
      by_cases q2 : b.toNat = 62
      · rw [if_pos (by omega)]; simp [q2]
      · rw [if_neg (by omega)]; simp [q1, q2]
def ordB (s : ByteArray) : Bool := rowB s && decide ((s.size : Int) ≤ 40)
theorem sgood_ok (s : ByteArray) (k : Nat) (hk : 100 < k) : spec_odGood.f k s = some (ordB s) := by
  unfold spec_odGood.f spec_rwGood.f ordB rowB
  rw [l1_eq, Option.bind_some]
  by_cases c : 1 ≤ s.size ∧ s.size ≤ 60
  · rw [if_pos (by simp only [decide_eq_true_eq]; omega), decide_eq_true c]
    have := good_loop s (by omega) s.size k 0 (by omega) (by omega)
    have c0 : ((0 : Nat) : Int) = 0 := rfl
    rw [c0, List.drop_zero] at this
    rw [this, Option.bind_some]
    cases s.data.toList.all isFace <;> rfl
  · rw [if_neg (by simp only [decide_eq_true_eq]; omega), decide_eq_false c]
    rfl
theorem iord_ok (s : ByteArray) (hs : s.size ≤ 9223372036854775807) : impl_isOrdered.f s = some (ordB s) := by
  unfold impl_isOrdered.f impl_isRow.f ordB
  rw [if_pos hs, Option.bind_some]
  cases rowB s <;> rfl
def twoB (a b : ByteArray) : Bool := ordB a && (ordB b && ((a.size : Int) == (b.size : Int)))
theorem two_ok (a b : ByteArray) (k : Nat) (hk : 100 < k) : spec_odTwo.f k a b = some (twoB a b) := by
  unfold spec_odTwo.f twoB
  rw [sgood_ok a k hk, sgood_ok b k hk, Option.bind_some]
  cases ordB a
  · rfl
  · rw [if_pos rfl, Option.bind_some]
    cases ordB b <;> rfl
theorem areo_ok (a b : ByteArray) (ha : a.size ≤ 9223372036854775807) (hb : b.size ≤ 9223372036854775807) : impl_areOrdered.f a b = some (twoB a b) := by
  unfold impl_areOrdered.f twoB
  rw [iord_ok a ha, iord_ok b hb, Option.bind_some]
  cases ordB a
  · rfl
  · rw [if_pos rfl, Option.bind_some]
    cases ordB b <;> rfl
theorem face_back (b : UInt8) (h : isFace b = true) : b = face (b == 62) := by
  unfold isFace at h
  have h2 : b = 60 ∨ b = 62 := by simpa using h
  rcases h2 with rfl | rfl <;> rfl
theorem enc_of (s : ByteArray) (h : s.data.toList.all isFace = true) : ∃ l : List Bool, s = enc l ∧ l.length = s.size := by
  refine ⟨s.data.toList.map (· == 62), ?_, by simp⟩
  apply ByteArray.ext
  apply Array.toList_inj.1
  unfold enc
  rw [List.data_toByteArray]
  simp only [List.map_map]
  have : ∀ l : List UInt8, l.all isFace = true → l = l.map (face ∘ fun x => x == 62) := by
    intro l
    induction l with
    | nil => intro _; rfl
    | cons a l ih =>
      intro hh
      rw [List.all_cons, Bool.and_eq_true] at hh
      rw [List.map_cons, ← ih hh.2]
      congr 1
      exact face_back a hh.1
  simpa using this _ h
theorem two_rows (a b : ByteArray) (h : twoB a b = true) : ∃ x y : List Bool, a = enc x ∧ b = enc y ∧ x.length = y.length ∧ 1 ≤ y.length ∧ y.length ≤ 40 := by
  unfold twoB ordB rowB at h
  simp only [Bool.and_eq_true, decide_eq_true_eq, beq_iff_eq] at h
  obtain ⟨⟨⟨h1, h2⟩, h3⟩, ⟨⟨h4, h5⟩, h6⟩, h7⟩ := h
  obtain ⟨x, hx, hxl⟩ := enc_of a h2
  obtain ⟨y, hy, hyl⟩ := enc_of b h5
  exact ⟨x, y, hx, hy, by omega, by omega, by omega⟩
/-! ### windows -/
theorem flips_in (w : Nat) (hw : 1 ≤ w) (out : List Int) (n i : Nat) (hn : n ≤ 40) (d : Nat) : ∀ (K q : Nat) (D : List Bool), q + d = w → i + w ≤ D.length → D.length = n →
    impl_windowsTo.l1 (K + d + 1) (w : Int) out D (i : Int) (n : Int) (i : Int) (w : Int) (q : Int) = impl_windowsTo.l0 K (w : Int) out (flipL D (i + q) (i + w - 1)) (n : Int) (wrap64 ((i : Int) + 1)) := by
  induction d with
  | zero =>
    intro K q D h hl hD
    simp only [impl_windowsTo.l1]
    rw [if_neg (by omega), flip_none _ _ _ (by omega)]
  | succ d ih =>
    intro K q D h hl hD
    obtain ⟨k, hk⟩ : ∃ k, k = K + d + 1 := ⟨_, rfl⟩
    rw [show K + (d + 1) + 1 = k + 1 by omega]
    simp only [impl_windowsTo.l1]
    have e : wrap64 ((i : Int) + (q : Int)) = ((i + q : Nat) : Int) := by rw [w_in (by omega) (by omega)]; omega
    have r : rdOf false D ((i + q : Nat) : Int) = D.getD (i + q) false := by unfold rdOf; rw [Int.toNat_natCast]
    rw [if_pos (by omega), e, if_pos (by omega), if_pos (by omega), r, Int.toNat_natCast, w_up (by omega), hk, ih K (q + 1) _ (by omega) (by rw [List.length_set]; exact hl) (by rw [List.length_set]; exact hD), ← flip_step D (i + q) (i + w - 1) (by omega) (by omega), Nat.add_assoc]
theorem scan_end (w : Nat) (hw : w ≤ 40) (out : List Int) (n : Nat) (hn : n ≤ 40) (d : Nat) : ∀ (K i : Nat) (D : List Bool), i + d = n → D.length = n → n < i + w → d < K →
    impl_windowsTo.l0 K (w : Int) out D (n : Int) (i : Int) = some (if (D.drop i).any id = true then ([], false) else (out, true)) := by
  induction d with
  | zero =>
    intro K i D h hD hi hk
    obtain ⟨K, rfl⟩ := fuel0 (show 0 < K by omega)
    simp only [impl_windowsTo.l0]
    rw [if_neg (by omega), List.drop_eq_nil_of_le (by omega)]
    rfl
  | succ d ih =>
    intro K i D h hD hi hk
    obtain ⟨K, rfl⟩ := fuel0 (show 0 < K by omega)
    have hil : i < D.length := by omega
    have r : rdOf false D (i : Int) = D[i] := by unfold rdOf; rw [Int.toNat_natCast, List.getD_eq_getElem?_getD, List.getElem?_eq_getElem hil]; rfl
    have e : wrap64 ((i : Int) + (w : Int)) = ((i + w : Nat) : Int) := by rw [w_in (by omega) (by omega)]; omega
    simp only [impl_windowsTo.l0]
    rw [if_pos (by omega), if_pos (by omega), if_pos (by omega), r, List.drop_eq_getElem_cons hil, List.any_cons, e]
    cases hb : D[i] with
    | true => rw [if_pos rfl, if_pos (by omega)]; rfl
    | false =>
      rw [if_neg Bool.false_ne_true, w_up (by omega), ih K (i + 1) D (by omega) hD (by omega) (by omega)]
      rfl
theorem flip_dif (a b : List Bool) (f t j : Nat) (hj : j < a.length) : dif (flipL a f t) b j = (dif a b j != decide (f ≤ j ∧ j ≤ t)) := by
  unfold dif
  rw [flip_getD _ _ _ _ hj]
  cases a.getD j false <;> cases b.getD j false <;> cases decide (f ≤ j ∧ j ≤ t) <;> rfl
theorem win_loop (w : Nat) (hw1 : 1 ≤ w) (B : List Bool) (hB : B.length ≤ 40) (hw : w ≤ B.length) (d : Nat) : ∀ (i : Nat) (A D : List Bool) (out : List Int), i + d = B.length → A.length = B.length → D.length = B.length → (∀ j, j < B.length → D.getD j false = dif A B j) → (∀ j, j < i → dif A B j = false) → out.length ≤ i →
    ∃ (o : List Int) (b : Bool), o.length ≤ 40 ∧ ∀ K, 100 * d + 200 < K → spec_odWindows.l0 K (enc A) (enc B) (w : Int) out (i : Int) = some (o, b) ∧ impl_windowsTo.l0 K (w : Int) out D (B.length : Int) (i : Int) = some (if b = true then (o, true) else ([], false)) := by
  induction d with
  | zero =>
    intro i A D out h hA hD hd hp ho
    refine ⟨out, (A == B), by omega, fun K hK => ?_⟩
    obtain ⟨K, rfl⟩ := fuel0 (show 0 < K by omega)
    have e : wrap64 ((i : Int) + (w : Int)) = ((i + w : Nat) : Int) := by rw [w_in (by omega) (by omega)]; omega
    have ab : (A == B) = true := (eq_of_dif A B hA).2 (fun j hj => hp j (by omega))
    constructor
    · simp only [spec_odWindows.l0]
      rw [e, enc_size, if_neg (by omega), enc_beq]
    · rw [scan_end w (by omega) out B.length hB 0 (K + 1) i D (by omega) hD (by omega) (by omega), List.drop_eq_nil_of_le (by omega), ab]
      rfl
  | succ d ih =>
    intro i A D out h hA hD hd hp ho
    have e : wrap64 ((i : Int) + (w : Int)) = ((i + w : Nat) : Int) := by rw [w_in (by omega) (by omega)]; omega
    by_cases hiw : i + w ≤ B.length
    · have hil : i < D.length := by omega
      have r : rdOf false D (i : Int) = dif A B i := by unfold rdOf; rw [Int.toNat_natCast]; exact hd i (by omega)
      cases hb : dif A B i with
      | false =>
        obtain ⟨o, b, h1, h2⟩ := ih (i + 1) A D out (by omega) hA hD hd (fun j hj => by
          by_cases q : j = i
          · rw [q]; exact hb
          · exact hp j (by omega)) (by omega)
        refine ⟨o, b, h1, fun K hK => ?_⟩
        obtain ⟨K, rfl⟩ := fuel0 (show 0 < K by omega)
        obtain ⟨g1, g2⟩ := h2 K (by omega)
        constructor
        · simp only [spec_odWindows.l0]
          rw [e, enc_size, enc_size, if_pos (by omega), if_pos (by omega), if_pos (by omega), if_pos (by omega), if_pos ((bt_same A B i (by omega) (by omega)).2 hb), w_up (by omega)]
          exact g1
        · simp only [impl_windowsTo.l0]
          rw [if_pos (by omega), if_pos (by omega), if_pos (by omega), r, hb, if_neg Bool.false_ne_true, w_up (by omega)]
          exact g2
      | true =>
        obtain ⟨o, b, h1, h2⟩ := ih (i + 1) (flipL A i (i + w - 1)) (flipL D i (i + w - 1)) (out ++ [(i : Int)]) (by omega) (by rw [flip_len]; exact hA) (by rw [flip_len]; exact hD) (fun j hj => by
          rw [flip_getD _ _ _ _ (by omega), flip_dif _ _ _ _ _ (by omega), hd j hj]) (fun j hj => by
          rw [flip_dif _ _ _ _ _ (by omega)]
          by_cases q : j = i
          · rw [q, hb, decide_eq_true (by omega)]; rfl
          · rw [hp j (by omega), decide_eq_false (by omega)]; rfl) (by simp; omega)
        refine ⟨o, b, h1, fun K hK => ?_⟩
        constructor
        · obtain ⟨K, rfl⟩ := fuel0 (show 0 < K by omega)
          obtain ⟨g1, g2⟩ := h2 K (by omega)
          have e2 : wrap64 (((i + w : Nat) : Int) - 1) = ((i + w - 1 : Nat) : Int) := w_down (by omega) (by omega)
          simp only [spec_odWindows.l0]
          rw [e, enc_size, enc_size, if_pos (by omega), if_pos (by omega), if_pos (by omega), if_pos (by omega), if_neg (fun q => by have := (bt_same A B i (by omega) (by omega)).1 q; rw [hb] at this; cases this), e2,
            odTurn_ok K i (i + w - 1) A (by omega) (by omega) (by omega) (by omega), Option.bind_some, if_pos (by omega), w_up (by omega)]
          exact g1
        · obtain ⟨K, rfl⟩ : ∃ k, K = k + w + 1 + 1 := ⟨K - w - 2, by omega⟩
          obtain ⟨g1, g2⟩ := h2 K (by omega)
          obtain ⟨k, hk⟩ : ∃ k, k = K + w + 1 := ⟨_, rfl⟩
          have f1 := flips_in w hw1 (out ++ [(i : Int)]) B.length i hB w K 0 D (by omega) (by omega) hD
          have c0 : ((0 : Nat) : Int) = 0 := rfl
          rw [c0, Nat.add_zero, w_up (by omega), ← hk] at f1
          rw [← hk]
          simp only [impl_windowsTo.l0]
          rw [if_pos (by omega), if_pos (by omega), if_pos (by omega), r, hb, if_pos rfl, e, if_neg (by omega), if_pos (by omega), f1]
          exact g2
    · refine ⟨out, (A == B), by omega, fun K hK => ?_⟩
      constructor
      · obtain ⟨K, rfl⟩ := fuel0 (show 0 < K by omega)
        simp only [spec_odWindows.l0]
        rw [e, enc_size, if_neg (by omega), enc_beq]
      · rw [scan_end w (by omega) out B.length hB (d + 1) K i D (by omega) hD (by omega) (by omega)]
        have ab : (A == B) = !(D.drop i).any id := by
          rw [Bool.eq_iff_iff, eq_of_dif A B hA, Bool.not_eq_true', List.any_eq_false]
          constructor
          · intro q x hx
            obtain ⟨j, hj, rfl⟩ := List.mem_iff_getElem.1 hx
            rw [List.length_drop] at hj
            have := hd (i + j) (by omega)
            rw [q (i + j) (by omega), List.getD_eq_getElem?_getD, List.getElem?_eq_getElem (by omega)] at this
            rw [List.getElem_drop]
            simpa using this
          · intro q j hj
            by_cases c : j < i
            · exact hp j c
            · rw [← hd j (by omega), List.getD_eq_getElem?_getD, List.getElem?_eq_getElem (by omega)]
              have := q D[j] (by
                rw [List.mem_iff_getElem]
                exact ⟨j - i, by rw [List.length_drop]; omega, by rw [List.getElem_drop]; congr 1; omega⟩)
              simpa using this
        rw [ab]
        cases (D.drop i).any id <;> rfl
theorem differ_loop (A B : List Bool) (hA : A.length = B.length) (hB : B.length ≤ 40) (d : Nat) : ∀ (K i : Nat) (x : List Bool), i + d = B.length → x.length = B.length → (∀ j, j < i → x.getD j false = dif A B j) → d < K →
    ∃ D : List Bool, D.length = B.length ∧ (∀ j, j < B.length → D.getD j false = dif A B j) ∧ impl_differ.l0 K (enc A) (enc B) x (B.length : Int) (i : Int) = some D := by
  induction d with
  | zero =>
    intro K i x h hx hj hk
    obtain ⟨K, rfl⟩ := fuel0 (show 0 < K by omega)
    refine ⟨x, hx, fun j hjn => hj j (by omega), ?_⟩
    simp only [impl_differ.l0]
    rw [if_neg (by omega)]
  | succ d ih =>
    intro K i x h hx hj hk
    obtain ⟨K, rfl⟩ := fuel0 (show 0 < K by omega)
    have hb : (bt (enc A) (i : Int) != bt (enc B) (i : Int)) = dif A B i := by
      have := bt_same A B i (by omega) (by omega)
      cases q : dif A B i with
      | false => rw [this.2 q]; exact bne_self_eq_false _
      | true =>
        rw [bne_iff_ne]
        intro e
        rw [this.1 e] at q
        cases q
    obtain ⟨D, h1, h2, h3⟩ := ih K (i + 1) (x.set i (dif A B i)) (by omega) (by rw [List.length_set]; exact hx) (fun j hji => by
      rw [List.getD_eq_getElem?_getD, List.getElem?_set]
      by_cases q : i = j
      · rw [if_pos q, if_pos (by omega), ← q]; rfl
      · rw [if_neg q, ← List.getD_eq_getElem?_getD]; exact hj j (by omega)) (by omega)
    refine ⟨D, h1, h2, ?_⟩
    simp only [impl_differ.l0]
    rw [if_pos (by omega), if_pos (by omega), enc_size, enc_size, if_pos (by omega), if_pos (by omega), if_pos (by omega), hb, Int.toNat_natCast, w_up (by omega)]
    exact h3
theorem differ_ok (A B : List Bool) (hA : A.length = B.length) (hB : B.length ≤ 40) : ∃ D : List Bool, D.length = B.length ∧ (∀ j, j < B.length → D.getD j false = dif A B j) ∧ ∀ K, 100 < K → impl_differ.f K (enc A) (enc B) = some D := by
  obtain ⟨D, h1, h2, h3⟩ := differ_loop A B hA hB B.length 101 0 (List.replicate B.length false) (by omega) (by simp) (fun j hj => by omega) (by omega)
  refine ⟨D, h1, h2, fun K hK => ?_⟩
  unfold impl_differ.f
  rw [enc_size, if_pos (by omega), if_pos (by omega), Option.bind_some, Int.toNat_natCast, List.length_replicate, hA]
  have c0 : ((0 : Nat) : Int) = 0 := rfl
  rw [c0] at h3
  exact at_rounds (g := fun k => impl_differ.l0 k (enc A) (enc B) (List.replicate B.length false) (B.length : Int) 0) (fun k => impl_differ.mono_l k (enc A) (enc B) (List.replicate B.length false) (B.length : Int) 0) hK h3
/-- The two at two rows. -/
theorem windows (A B : List Bool) (hA : A.length = B.length) (hB : B.length ≤ 40) (w : Nat) (hw1 : 1 ≤ w) (hw : w ≤ B.length) :
    ∃ (o : List Int) (b : Bool), o.length ≤ 40 ∧ ∀ K, 5000 < K → spec_odWindows.f K (enc A) (enc B) (w : Int) = some (o, b) ∧ impl_windowsTo.f K (enc A) (enc B) (w : Int) = some (if b = true then (o, true) else ([], false)) := by
  obtain ⟨D, h1, h2, h3⟩ := differ_ok A B hA hB
  obtain ⟨o, b, h4, h5⟩ := win_loop w hw1 B hB hw B.length 0 A D [] (by omega) hA h1 h2 (fun j hj => by omega) (by simp)
  refine ⟨o, b, h4, fun K hK => ?_⟩
  obtain ⟨g1, g2⟩ := h5 K (by omega)
  unfold spec_odWindows.f impl_windowsTo.f
  rw [h3 K (by omega), Option.bind_some, h1]
  exact ⟨g1, g2⟩
end Go.Proofs.YtfdajhjmgcognaaDoor.Pure
