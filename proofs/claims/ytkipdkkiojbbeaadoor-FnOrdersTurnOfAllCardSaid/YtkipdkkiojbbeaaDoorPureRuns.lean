/- First orders and runs that lead from row to row: the reference and the program give the same, for all rows; no Go and no memory here. -/
import Derived.Test.YtkipdkkiojbbeaaDoorAx2
import Derived.Test.YtkipdkkiojbbeaaDoorAx4
import Derived.Test.YtkipdkkiojbbeaaDoorPureWin
namespace Go.Proofs.YtkipdkkiojbbeaaDoor.Pure
open Go.RowKit Go.Proofs.YtkipdkkiojbbeaaDoor.A Go.Proofs.YtkipdkkiojbbeaaDoorW.PrintWords Go.Proofs.YtkipdkkiojbbeaaDoorW.PrintLast Go.Proofs.YtkipdkkiojbbeaaDoorW.PrintMore
set_option linter.unusedVariables false
set_option linter.unusedSimpArgs false

theorem now_dif (A B : List Bool) (hA : A.length = B.length) (i : Nat) (hi : i < B.length) : nowB (enc A) (enc B) i = dif A B i := by
  unfold nowB
  have := bt_same A B i (by omega) (by omega)
  cases q : dif A B i with
  | false => rw [this.2 q]; exact bne_self_eq_false _
  | true =>
    rw [bne_iff_ne]
    intro e
    rw [this.1 e] at q
    cases q
theorem next_dif (A B : List Bool) (hA : A.length = B.length) (i : Nat) : nextB (enc A) (enc B) i = (decide (i + 1 < B.length) && dif A B (i + 1)) := by
  unfold nextB
  rw [enc_size, hA]
  by_cases h : i + 1 < B.length
  · rw [decide_eq_true h]
    exact congrArg (true && ·) (now_dif A B hA (i + 1) h)
  · rw [decide_eq_false h]
    rfl
theorem plain_ok (A B : List Bool) (hA : A.length = B.length) (hB : B.length ≤ 40) : plainB (enc A) (enc B) = true := by
  unfold plainB
  rw [Bool.and_eq_true, decide_eq_true_eq, enc_size, enc_size]
  refine ⟨⟨hA, by omega⟩, ?_⟩
  rw [List.all_eq_true]
  intro c hc
  unfold enc at hc
  rw [List.data_toByteArray] at hc
  simp only [List.mem_map] at hc
  obtain ⟨b, _, rfl⟩ := hc
  cases b <;> rfl
/-! ### first orders -/
theorem firsts_loop (A B : List Bool) (hA : A.length = B.length) (hB : B.length ≤ 40) (D : List Bool) (hD : D.length = B.length) (hd : ∀ j, j < B.length → D.getD j false = dif A B j) (d : Nat) : ∀ (K i : Nat), i + d = B.length → d < K →
    impl_FirstsTo.l0 K (firstsUp (enc A) (enc B) i) (D ++ [false]) (B.length : Int) (i : Int) = some (firstsUp (enc A) (enc B) B.length, true) := by
  have hg : ∀ j, j ≤ B.length → rdOf false (D ++ [false]) (j : Int) = (decide (j < B.length) && dif A B j) := by
    intro j hj
    unfold rdOf
    rw [Int.toNat_natCast, List.getD_eq_getElem?_getD]
    by_cases h : j < B.length
    · rw [List.getElem?_append_left (by omega), ← List.getD_eq_getElem?_getD, hd j h, decide_eq_true h]
      rfl
    · rw [List.getElem?_append_right (by omega), show j - D.length = 0 by omega, decide_eq_false h]
      rfl
  induction d with
  | zero =>
    intro K i h hk
    obtain ⟨K, rfl⟩ := fuel0 (show 0 < K by omega)
    simp only [impl_FirstsTo.l0]
    rw [if_neg (by omega), show i = B.length by omega]
  | succ d ih =>
    intro K i h hk
    obtain ⟨K, rfl⟩ := fuel0 (show 0 < K by omega)
    have hl : (D ++ [false]).length = B.length + 1 := by rw [List.length_append, hD]; rfl
    have hf := firsts_len (enc A) (enc B) i
    have e : firstsUp (enc A) (enc B) (i + 1) = if (dif A B i != (decide (i + 1 < B.length) && dif A B (i + 1))) = true then firstsUp (enc A) (enc B) i ++ [((i + 1 : Nat) : Int)] else firstsUp (enc A) (enc B) i := by
      rw [firstsUp, now_dif A B hA i (by omega), next_dif A B hA]
    have := ih K (i + 1) (by omega) (by omega)
    rw [e] at this
    simp only [impl_FirstsTo.l0]
    rw [if_pos (by omega), if_pos (by omega), hl, if_pos (by omega), w_up (by omega), if_pos (by omega), if_pos (by omega), hg i (by omega), hg (i + 1) (by omega), decide_eq_true (show i < B.length by omega), Bool.true_and]
    by_cases c : (dif A B i != (decide (i + 1 < B.length) && dif A B (i + 1))) = true
    · rw [if_pos c] at this
      rw [if_pos c, if_pos (by omega), this]
    · rw [if_neg c] at this
      rw [if_neg c, this]
theorem firsts (A B : List Bool) (hA : A.length = B.length) (hB : B.length ≤ 40) (K : Nat) (hK : 1000 < K) (D : List Bool) (hD : D.length = B.length) (hd : ∀ j, j < B.length → D.getD j false = dif A B j) :
    impl_FirstsTo.l0 K ([] : List Int) (D ++ [false]) (B.length : Int) 0 = some (firstsUp (enc A) (enc B) B.length, true) :=
  firsts_loop A B hA hB D hD hd B.length K 0 (by omega) (by omega)
/-! ### runs -/
def last1 (o : List (List Int)) : Int := rdOf 0 (rd_L3 o ((o.length - 1 : Nat) : Int)) 1
theorem last_app (o : List (List Int)) (n : Int) : last1 (o ++ [[n, n]]) = n := by
  unfold last1 rd_L3 rdOf
  rw [Int.toNat_natCast, List.length_append]
  simp [List.getD_eq_getElem?_getD]
theorem last_set (o : List (List Int)) (L : List Int) (x : Int) (h : 0 < o.length) (hL : 1 < L.length) : last1 (o.set (o.length - 1) (L.set (1 : Int).toNat x)) = x := by
  unfold last1 rd_L3 rdOf
  rw [Int.toNat_natCast, List.length_set, List.getD_eq_getElem?_getD, List.getD_eq_getElem?_getD, List.getElem?_set]
  rw [if_pos rfl, if_pos (by omega), Option.getD_some, List.getElem?_set, if_pos rfl, if_pos (show Int.toNat 1 < L.length from hL)]
  rfl
theorem last_len (a b : ByteArray) (n : Nat) (h : 0 < (runsUp a b n).length) : (rd_L3 (runsUp a b n) (((runsUp a b n).length - 1 : Nat) : Int)).length = 2 := runs_two' a b n _ rfl _ rfl h
theorem runs_inv (a b : ByteArray) : ∀ n : Nat, (0 < (runsUp a b n).length → last1 (runsUp a b n) < n) ∧ ((0 < n ∧ nowB a b (n - 1) = true) ↔ (0 < (runsUp a b n).length ∧ last1 (runsUp a b n) = (n : Int) - 1))
  | 0 => by
    refine ⟨fun h => ?_, ⟨fun h => ?_, fun h => ?_⟩⟩
    · exact absurd h (by rw [runsUp]; simp)
    · omega
    · exact absurd h.1 (by rw [runsUp]; simp)
  | n + 1 => by
    obtain ⟨h1, h2⟩ := runs_inv a b n
    have hl := last_len a b n
    rw [runsUp]
    unfold runsStep
    by_cases c : bt a (n : Int) = bt b (n : Int)
    · rw [if_pos c]
      have hb : nowB a b n = false := by unfold nowB; rw [c]; exact bne_self_eq_false _
      refine ⟨fun h => by have := h1 h; omega, ⟨fun h => ?_, fun h => ?_⟩⟩
      · have := h.2
        rw [Nat.add_sub_cancel, hb] at this
        cases this
      · have := h1 h.1
        omega
    · have hb : nowB a b n = true := by unfold nowB; exact bne_iff_ne.2 c
      rw [if_neg c]
      split
      · rename_i q
        have e := last_set (runsUp a b n) (rd_L3 (runsUp a b n) (((runsUp a b n).length - 1 : Nat) : Int)) (n : Int) q.1 (by have := hl q.1; omega)
        refine ⟨fun h => by rw [e]; omega, ⟨fun h => ⟨by rw [List.length_set]; exact q.1, by rw [e]; omega⟩, fun h => ⟨by omega, by rw [Nat.add_sub_cancel]; exact hb⟩⟩⟩
      · refine ⟨fun h => by rw [last_app]; omega, ⟨fun h => ⟨by simp, by rw [last_app]; omega⟩, fun h => ⟨by omega, by rw [Nat.add_sub_cancel]; exact hb⟩⟩⟩
theorem parts_loop (A B : List Bool) (hA : A.length = B.length) (hB : B.length ≤ 40) (D : List Bool) (hD : D.length = B.length) (hd : ∀ j, j < B.length → D.getD j false = dif A B j) (d : Nat) : ∀ (K i : Nat), i + d = B.length → 2 * d < K →
    impl_parts.l0 K D (runsUp (enc A) (enc B) i) D (B.length : Int) (i : Int) = some (runsUp (enc A) (enc B) B.length) := by
  induction d with
  | zero =>
    intro K i h hk
    obtain ⟨K, rfl⟩ := fuel0 (show 0 < K by omega)
    simp only [impl_parts.l0]
    rw [if_neg (by omega), show i = B.length by omega]
  | succ d ih =>
    intro K i h hk
    obtain ⟨K, rfl⟩ : ∃ k, K = k + 1 + 1 := ⟨K - 2, by omega⟩
    obtain ⟨o, ho⟩ : ∃ o, o = runsUp (enc A) (enc B) i := ⟨_, rfl⟩
    have hln : o.length ≤ i := by rw [ho]; exact runs_len _ _ i
    have hinv := (runs_inv (enc A) (enc B) i).2
    have hl2 := last_len (enc A) (enc B) i
    rw [← ho] at hinv hl2
    have hnow := now_dif A B hA i (by omega)
    have hrd : rdOf false D (i : Int) = dif A B i := by unfold rdOf; rw [Int.toNat_natCast]; exact hd i (by omega)
    have hw : wrap64 ((i : Int) - 1) = (i : Int) - 1 := w_in (by omega) (by omega)
    have step := ih K (i + 1) (by omega) (by omega)
    rw [runsUp, ← ho] at step
    unfold runsStep at step
    rw [hw] at step
    have hlast : rdOf 0 (rd_L3 o ((o.length - 1 : Nat) : Int)) 1 = last1 o := rfl
    rw [hlast] at step
    rw [← ho]
    simp only [impl_parts.l0]
    rw [if_pos (by omega), if_pos (by omega), hD, if_pos (by omega), hrd]
    cases q : dif A B i with
    | false =>
      rw [q] at hnow
      have hbt : bt (enc A) (i : Int) = bt (enc B) (i : Int) := (bt_same A B i (by omega) (by omega)).2 q
      rw [if_pos hbt] at step
      rw [if_neg Bool.false_ne_true]
      simp only [impl_parts.j1]
      rw [if_neg Bool.false_ne_true, if_neg Bool.false_ne_true, w_up (by omega)]
      exact step
    | true =>
      rw [q] at hnow
      have hbt : ¬ bt (enc A) (i : Int) = bt (enc B) (i : Int) := fun e => by have := (bt_same A B i (by omega) (by omega)).1 e; rw [q] at this; cases this
      rw [if_neg hbt] at step
      rw [if_pos rfl]
      by_cases c0 : i = 0
      · subst c0
        have : ¬ (0 < o.length ∧ last1 o = ((0 : Nat) : Int) - 1) := fun h => by omega
        rw [if_neg this] at step
        rw [if_pos (show ((0 : Nat) : Int) = 0 from rfl)]
        simp only [impl_parts.j1]
        rw [if_pos trivial, if_pos (by omega), w_up (by omega)]
        exact step
      · have hnow1 := now_dif A B hA (i - 1) (by omega)
        have hrd1 : rdOf false D (wrap64 ((i : Int) - 1)) = dif A B (i - 1) := by
          rw [w_down (by omega) (by omega)]
          unfold rdOf
          rw [Int.toNat_natCast]
          exact hd (i - 1) (by omega)
        rw [if_neg (by omega), if_pos (by omega), if_pos (by omega), hrd1]
        cases q1 : dif A B (i - 1) with
        | true =>
          rw [q1] at hnow1
          have hq := hinv.1 ⟨by omega, hnow1⟩
          have h2 := hl2 hq.1
          rw [if_pos hq] at step
          have hj : wrap64 ((o.length : Int) - 1) = ((o.length - 1 : Nat) : Int) := w_down (by omega) hq.1
          simp only [impl_parts.j1]
          rw [Bool.not_true, if_neg Bool.false_ne_true, if_pos trivial, hj, if_pos (by omega), if_pos (by omega), if_pos (by omega), Int.toNat_natCast, w_up (by omega)]
          exact step
        | false =>
          rw [q1] at hnow1
          have hq : ¬ (0 < o.length ∧ last1 o = (i : Int) - 1) := fun h => by
            have := (hinv.2 h).2
            rw [hnow1] at this
            cases this
          rw [if_neg hq] at step
          simp only [impl_parts.j1]
          rw [Bool.not_false, if_pos rfl, if_pos (by omega), w_up (by omega)]
          exact step
theorem parts_ok (A B : List Bool) (hA : A.length = B.length) (hB : B.length ≤ 40) (K : Nat) (hK : 1000 < K) (D : List Bool) (hD : D.length = B.length) (hd : ∀ j, j < B.length → D.getD j false = dif A B j) :
    impl_parts.f K D = some (runsUp (enc A) (enc B) B.length) := by
  unfold impl_parts.f
  rw [hD]
  exact parts_loop A B hA hB D hD hd B.length K 0 (by omega) (by omega)
end Go.Proofs.YtkipdkkiojbbeaaDoor.Pure
