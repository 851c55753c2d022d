-- WRITTEN BY printx.py, a program of this session over the kit's print: not typed by hand. Lean checks it.
import Derived.Test.YtkipdkkiojbbeaaDoorAx0
import Derived.Test.YtkipdkkiojbbeaaDoorAx2
import Derived.Test.YtkipdkkiojbbeaaDoorAx4
import Derived.Test.YtkipdkkiojbbeaaDoorAx5
import Derived.Test.YtkipdkkiojbbeaaDoorAx7
import Derived.Test.YtkipdkkiojbbeaaDoorAx8
import Derived.Test.YtkipdkkiojbbeaaDoorAx9
import Derived.BigQuiet
import Derived.Test.YtkipdkkiojbbeaaDoorAx10
namespace Go.Proofs.YtkipdkkiojbbeaaDoor.A
open Go.RowKit Go.Proofs.YtkipdkkiojbbeaaDoorW.PrintWords Go.Proofs.YtkipdkkiojbbeaaDoorW.PrintLast Go.Proofs.YtkipdkkiojbbeaaDoorW.PrintMore Go.Proofs.YtkipdkkiojbbeaaDoor.X
attribute [local go_sem] max2_int min2_int max_two min_two max_three min_three max_four min_four   -- for this text's walks alone
set_option linter.unusedVariables false
set_option linter.unusedSimpArgs false

/-! ### the walk of laws_FnOrdersTurnOfAll -/
def laws_FnOrdersTurnOfAll.T50 : Bool × List (List Nat × List Nat) := (true, [([], []), ([], []), ([0, 1], [0, 1]), ([], []), ([], []), ([3, 4], [3, 4]), ([2, 5], [2, 5]), ([], []), ([], []), ([7, 8], [7, 8]), ([9], [9]), ([10], [10]), ([10], [10]), ([11, 12, 10], [10, 11, 12]), ([10, 13], [10, 13]), ([6, 14], [6, 14])])
def laws_FnOrdersTurnOfAll.B50 : List Nat := [0, 0, 3, 0, 0, 24, 63, 0, 0, 384, 896, 1920, 1920, 8064, 16256, 32767]
theorem laws_FnOrdersTurnOfAll.tab50 : rtab .any (opsOf Tryd.f3 50) = laws_FnOrdersTurnOfAll.T50 := by kernel_rfl
theorem laws_FnOrdersTurnOfAll.bits50 : waitsOk laws_FnOrdersTurnOfAll.T50.2 laws_FnOrdersTurnOfAll.B50 = true := by kernel_rfl
def laws_FnOrdersTurnOfAll.T56 : Bool × List (List Nat × List Nat) := (true, [([], []), ([], []), ([0, 1], [0, 1]), ([], []), ([], []), ([3, 4], [3, 4]), ([2, 5], [2, 5]), ([], []), ([], []), ([7, 8], [7, 8]), ([6, 9], [6, 9])])
def laws_FnOrdersTurnOfAll.B56 : List Nat := [0, 0, 3, 0, 0, 24, 63, 0, 0, 384, 1023]
theorem laws_FnOrdersTurnOfAll.tab56 : rtab .any (opsOf Tryd.f3 56) = laws_FnOrdersTurnOfAll.T56 := by kernel_rfl
theorem laws_FnOrdersTurnOfAll.bits56 : waitsOk laws_FnOrdersTurnOfAll.T56.2 laws_FnOrdersTurnOfAll.B56 = true := by kernel_rfl
def laws_FnOrdersTurnOfAll.T62 : Bool × List (List Nat × List Nat) := (true, [([], []), ([], []), ([0, 1], [0, 1]), ([], []), ([], []), ([3, 4], [3, 4]), ([2, 5], [2, 5]), ([], []), ([], []), ([8], [8]), ([7, 9], [7, 9]), ([10], [10]), ([11], [11]), ([11], [11]), ([13, 11], [11, 13]), ([12, 14, 11], [11, 12, 14]), ([11, 15], [11, 15]), ([6, 16], [6, 16])])
def laws_FnOrdersTurnOfAll.B62 : List Nat := [0, 0, 3, 0, 0, 24, 63, 0, 0, 256, 896, 1920, 3968, 3968, 12160, 32640, 65408, 131071]
theorem laws_FnOrdersTurnOfAll.tab62 : rtab .any (opsOf Tryd.f3 62) = laws_FnOrdersTurnOfAll.T62 := by kernel_rfl
theorem laws_FnOrdersTurnOfAll.bits62 : waitsOk laws_FnOrdersTurnOfAll.T62.2 laws_FnOrdersTurnOfAll.B62 = true := by kernel_rfl
def laws_FnOrdersTurnOfAll.T69 : Bool × List (List Nat × List Nat) := (true, [([], []), ([], []), ([1], [1]), ([2], [2]), ([], []), ([4], [4]), ([5], [5]), ([0, 3, 6], [0, 3, 6]), ([7], [7]), ([8], [8]), ([8], [8]), ([9, 7, 0, 1, 2, 3, 4, 5, 6, 7, 8, 9], [9]), ([10, 11, 0, 1, 2, 3, 4, 5, 6, 7, 8, 9, 10, 11], [10])])
def laws_FnOrdersTurnOfAll.B69 : List Nat := [0, 0, 2, 6, 0, 16, 48, 127, 255, 511, 511, 1023, 4095]
theorem laws_FnOrdersTurnOfAll.tab69 : rtab .any (opsOf Tryd.f3 69) = laws_FnOrdersTurnOfAll.T69 := by kernel_rfl
theorem laws_FnOrdersTurnOfAll.bits69 : waitsOk laws_FnOrdersTurnOfAll.T69.2 laws_FnOrdersTurnOfAll.B69 = true := by kernel_rfl
theorem laws_FnOrdersTurnOfAll.j1_false {k : Nat} {x0 x1 x2 x3 x4 x5 x6 x7 x8 x9 x10 x11 x12 x13 x14} {r : Bool} (h : laws_FnOrdersTurnOfAll.j1 k x0 x1 x2 x3 x4 x5 x6 x7 x8 x9 x10 x11 x12 x13 x14 true = some r) : r = false := by
  cases k with
  | zero => simp [laws_FnOrdersTurnOfAll.j1] at h
  | succ k => simp only [laws_FnOrdersTurnOfAll.j1, if_true, Option.some.injEq] at h; exact h.symm
theorem laws_FnOrdersTurnOfAll.j5_false {k : Nat} {x0 x1 x2 x3 x4 x5 x6 x7 x8 x9 x10 x11 x12 x13 x14} {r : Bool} (h : laws_FnOrdersTurnOfAll.j5 k x0 x1 x2 x3 x4 x5 x6 x7 x8 x9 x10 x11 x12 x13 x14 true = some r) : r = false := by
  cases k with
  | zero => simp [laws_FnOrdersTurnOfAll.j5] at h
  | succ k => simp only [laws_FnOrdersTurnOfAll.j5, if_true, Option.some.injEq] at h; exact h.symm
theorem laws_FnOrdersTurnOfAll.j2_false {k : Nat} {x0 x1 x2 x3 x4 x5 x6 x7 x8 x9 x10 x11} {r : Bool} (h : laws_FnOrdersTurnOfAll.j2 k x0 x1 x2 x3 x4 x5 x6 x7 x8 x9 x10 x11 true = some r) : r = false := by
  cases k with
  | zero => simp [laws_FnOrdersTurnOfAll.j2] at h
  | succ k => simp only [laws_FnOrdersTurnOfAll.j2, if_true, Option.some.injEq] at h; exact h.symm
def asciiR (a : ByteArray) : Prop := a.size ≤ 60 ∧ a.data.toList.all (fun c => c.toNat < 128) = true
theorem ord_row {a : ByteArray} (h : impl_isOrdered.f a = some true) : asciiR a := by
  unfold impl_isOrdered.f impl_isRow.f at h
  split at h
  · rw [Option.bind_some] at h
    cases e : rowB a with
    | true =>
      unfold rowB at e
      rw [Bool.and_eq_true, decide_eq_true_eq] at e
      refine ⟨e.1.2, List.all_eq_true.2 fun c hc => ?_⟩
      have := List.all_eq_true.1 e.2 c hc
      unfold isFace at this
      simp at this
      rcases this with rfl | rfl <;> decide
    | false =>
      rw [e] at h
      simp at h
  · simp at h
theorem turnRun_row {a x : ByteArray} {f t : Int} {y : Bool} (h : impl_TurnRun.f a f t = some (x, y)) (hy : y = true) : asciiR a := by
  subst hy
  unfold impl_TurnRun.f at h
  obtain ⟨b, hb, h⟩ := Option.bind_eq_some_iff.1 h
  cases b with
  | true => exact ord_row hb
  | false => simp at h
theorem turnFirst_row {a x : ByteArray} {f : Int} {y : Bool} (h : impl_TurnFirst.f a f = some (x, y)) (hy : y = true) : asciiR a := by
  subst hy
  unfold impl_TurnFirst.f at h
  obtain ⟨b, hb, h⟩ := Option.bind_eq_some_iff.1 h
  cases b with
  | true => exact ord_row hb
  | false => simp at h
theorem turnAround_row {a x : ByteArray} {f : Int} {y : Bool} (h : impl_TurnAround.f a f = some (x, y)) (hy : y = true) : asciiR a := by
  subst hy
  unfold impl_TurnAround.f at h
  obtain ⟨b, hb, h⟩ := Option.bind_eq_some_iff.1 h
  cases b with
  | true => exact ord_row hb
  | false => simp at h
theorem iter_place {b : Nat} {w0 w1 : World} (h : Aside0 (Below b w0 w1)) : ∃ K, Aside0 (K = w1.heap.size) := ⟨_, ⟨rfl⟩⟩
theorem iter_base {w0 w1 : World} {K : Nat} (h : Aside0 (Below w0.heap.size w0 w1)) (hK : Aside0 (K = w1.heap.size)) : w0.heap.size ≤ K := by rw [hK.out]; exact below_size h.out
theorem ascii_at {a : ByteArray} (h : a.data.toList.all (fun c => c.toNat < 128) = true) (i : Nat) (hi : i < a.size) : (a[i]'hi).toNat < 128 := by
  have := List.all_eq_true.1 h (a[i]'hi) (by
    show a.data[i] ∈ a.data.toList
    simp)
  simpa using this
theorem iter_lt {x : Int} {n m : Nat} (h : Aside0 (x = (n : Int))) (hd : decide (x < (m : Int)) = true) : n < m := by have := h.out; have := of_decide_eq_true hd; omega
theorem iter_end {x : Int} {n m : Nat} (h : Aside0 (x = (n : Int))) (hd : decide (x < (m : Int)) = false) : ¬ n < m := by have := h.out; have := of_decide_eq_false hd; omega
theorem iter_up {x : Int} {n m : Nat} (h : Aside0 (x = (n : Int))) (hm : n < m) (h6 : m ≤ 140737488351232) : wrap64 (x + 1) = ((n + 1 : Nat) : Int) := by rw [h.out]; unfold wrap64; omega
set_option maxHeartbeats 8000000 in
set_option maxRecDepth 100000 in
theorem laws_FnOrdersTurnOfAll.calls (k : Nat) (a0 : ByteArray) (a1 : ByteArray) (a2 : ByteArray) (a3 : Int) (a4 : Int) (a5 : ByteArray) (a6 : Int) (a7 : ByteArray) (A8 : Option Addr) (c8 : Nat) (l8 : List (List Int)) (a9 : Int) (r : Bool) (w : World) (hr8 : Kd.C (Kd.slice 3 (Kd.int .i64)) w A8 l8.length l8) (hc8 : l8.length ≤ c8) (h : r = true ∧ laws_FnOrdersTurnOfAll.f k a0 a1 a2 a3 a4 a5 a6 a7 l8 a9 = some r) :
    Calls Tryd.prog 3 #[.string a0, .string a1, .string a2, .int .i64 a3, .int .i64 a4, .string a5, .int .i64 a6, .string a7, .slice A8 l8.length c8, .int .i64 a9] w fun e w' => e = .returned (.bool r) ∧ Below w.heap.size w w' := by
  obtain ⟨hrt, h⟩ := h
  have HR8 := Aside0.mk hr8
  have HC8 := Aside0.mk hc8
  clear hr8 hc8
  have HB := Aside0.mk (Below.refl w.heap.size w)
  have H : (if (a0.size : Int) > 1048576 then (laws_FnOrdersTurnOfAll.j0 k a0 a1 a2 a3 a4 a5 a6 a7 l8 a9 true) else (if (a1.size : Int) > 1048576 then (laws_FnOrdersTurnOfAll.j0 k a0 a1 a2 a3 a4 a5 a6 a7 l8 a9 true) else (if (a2.size : Int) > 1048576 then (laws_FnOrdersTurnOfAll.j0 k a0 a1 a2 a3 a4 a5 a6 a7 l8 a9 true) else (if (a5.size : Int) > 1048576 then (laws_FnOrdersTurnOfAll.j0 k a0 a1 a2 a3 a4 a5 a6 a7 l8 a9 true) else (if (a7.size : Int) > 1048576 then (laws_FnOrdersTurnOfAll.j0 k a0 a1 a2 a3 a4 a5 a6 a7 l8 a9 true) else (laws_FnOrdersTurnOfAll.j0 k a0 a1 a2 a3 a4 a5 a6 a7 l8 a9 (decide ((l8.length : Int) > 10000)))))))) = some r := h
  clear h
  have HC11 := Aside0.mk H
  clear H
  go_enter Tryd.func3, Tryd.ntmps3
  go_upto_region 1 with (fail)
  go_cut [105] from 105 to 105 (fun v105 wc => ∃ (kq : Nat) (x105_10 : Bool), v105 = .bool x105_10 ∧ Aside0 (laws_FnOrdersTurnOfAll.j0 kq a0 a1 a2 a3 a4 a5 a6 a7 l8 a9 x105_10 = some r) ∧ Aside0 (kq ≤ k) ∧ Aside0 (Below w.heap.size w wc))
  case first => as_aux_lemma =>
    have H := HC11.out
    clear HC11
    by_cases c12 : (a0.size : Int) > 1048576
    · rw [if_pos c12] at H
      have c12b0 : decide (1048576 < (a0.size : Int)) = true := decide_eq_true c12
      have c12b1 : decide (1048576 < a0.size) = true := decide_eq_true (by omega)
      clear c12
      (first | rw [c12b0] | (simp only [i64_w, i32_w]; rw [c12b0]) | skip)
      have H' := Aside0.mk H
      clear H
      go_wp2
      go_meet
      case rel => exact ⟨_, (true), (by first | rfl | (simp; done) | (simp [*]; done) | (simp [*]; first | exact bx1 _ _ | exact bx2 _ _ | exact (bx1 _ _).symm | exact (bx2 _ _).symm | exact bx3 _ _ | exact bx4 _ _)), H', ⟨by first | exact Nat.le_refl _ | omega⟩, ⟨by repeat (first | (with_reducible first | exact HB.out | apply below_alloc | apply pw_below_drewN | apply below_drew1) | exact HB.out)⟩⟩
    · rw [if_neg c12] at H
      have c12b0 : decide (1048576 < (a0.size : Int)) = false := decide_eq_false c12
      have c12b1 : decide (1048576 < a0.size) = false := decide_eq_false (by omega)
      clear c12
      (first | rw [c12b0] | (simp only [i64_w, i32_w]; rw [c12b0]) | skip)
      by_cases c13 : (a1.size : Int) > 1048576
      · rw [if_pos c13] at H
        have c13b0 : decide (1048576 < (a1.size : Int)) = true := decide_eq_true c13
        have c13b1 : decide (1048576 < a1.size) = true := decide_eq_true (by omega)
        clear c13
        have H' := Aside0.mk H
        clear H
        go_wp2
        go_meet
        case rel => exact ⟨_, (true), (by first | rfl | (simp; done) | (simp [*]; done) | (simp [*]; first | exact bx1 _ _ | exact bx2 _ _ | exact (bx1 _ _).symm | exact (bx2 _ _).symm | exact bx3 _ _ | exact bx4 _ _)), H', ⟨by first | exact Nat.le_refl _ | omega⟩, ⟨by repeat (first | (with_reducible first | exact HB.out | apply below_alloc | apply pw_below_drewN | apply below_drew1) | exact HB.out)⟩⟩
      · rw [if_neg c13] at H
        have c13b0 : decide (1048576 < (a1.size : Int)) = false := decide_eq_false c13
        have c13b1 : decide (1048576 < a1.size) = false := decide_eq_false (by omega)
        clear c13
        by_cases c14 : (a2.size : Int) > 1048576
        · rw [if_pos c14] at H
          have c14b0 : decide (1048576 < (a2.size : Int)) = true := decide_eq_true c14
          have c14b1 : decide (1048576 < a2.size) = true := decide_eq_true (by omega)
          clear c14
          have H' := Aside0.mk H
          clear H
          go_wp2
          go_meet
          case rel => exact ⟨_, (true), (by first | rfl | (simp; done) | (simp [*]; done) | (simp [*]; first | exact bx1 _ _ | exact bx2 _ _ | exact (bx1 _ _).symm | exact (bx2 _ _).symm | exact bx3 _ _ | exact bx4 _ _)), H', ⟨by first | exact Nat.le_refl _ | omega⟩, ⟨by repeat (first | (with_reducible first | exact HB.out | apply below_alloc | apply pw_below_drewN | apply below_drew1) | exact HB.out)⟩⟩
        · rw [if_neg c14] at H
          have c14b0 : decide (1048576 < (a2.size : Int)) = false := decide_eq_false c14
          have c14b1 : decide (1048576 < a2.size) = false := decide_eq_false (by omega)
          clear c14
          by_cases c15 : (a5.size : Int) > 1048576
          · rw [if_pos c15] at H
            have c15b0 : decide (1048576 < (a5.size : Int)) = true := decide_eq_true c15
            have c15b1 : decide (1048576 < a5.size) = true := decide_eq_true (by omega)
            clear c15
            have H' := Aside0.mk H
            clear H
            go_wp2
            go_meet
            case rel => exact ⟨_, (true), (by first | rfl | (simp; done) | (simp [*]; done) | (simp [*]; first | exact bx1 _ _ | exact bx2 _ _ | exact (bx1 _ _).symm | exact (bx2 _ _).symm | exact bx3 _ _ | exact bx4 _ _)), H', ⟨by first | exact Nat.le_refl _ | omega⟩, ⟨by repeat (first | (with_reducible first | exact HB.out | apply below_alloc | apply pw_below_drewN | apply below_drew1) | exact HB.out)⟩⟩
          · rw [if_neg c15] at H
            have c15b0 : decide (1048576 < (a5.size : Int)) = false := decide_eq_false c15
            have c15b1 : decide (1048576 < a5.size) = false := decide_eq_false (by omega)
            clear c15
            by_cases c16 : (a7.size : Int) > 1048576
            · rw [if_pos c16] at H
              have c16b0 : decide (1048576 < (a7.size : Int)) = true := decide_eq_true c16
              have c16b1 : decide (1048576 < a7.size) = true := decide_eq_true (by omega)
              clear c16
              have H' := Aside0.mk H
              clear H
              go_wp2
              go_meet
              case rel => exact ⟨_, (true), (by first | rfl | (simp; done) | (simp [*]; done) | (simp [*]; first | exact bx1 _ _ | exact bx2 _ _ | exact (bx1 _ _).symm | exact (bx2 _ _).symm | exact bx3 _ _ | exact bx4 _ _)), H', ⟨by first | exact Nat.le_refl _ | omega⟩, ⟨by repeat (first | (with_reducible first | exact HB.out | apply below_alloc | apply pw_below_drewN | apply below_drew1) | exact HB.out)⟩⟩
            · rw [if_neg c16] at H
              have c16b0 : decide (1048576 < (a7.size : Int)) = false := decide_eq_false c16
              have c16b1 : decide (1048576 < a7.size) = false := decide_eq_false (by omega)
              clear c16
              have H' := Aside0.mk H
              clear H
              go_wp2
              go_meet
              case rel => exact ⟨_, (decide ((l8.length : Int) > 10000)), (by first | rfl | (simp; done) | (simp [*]; done) | (simp [*]; first | exact bx1 _ _ | exact bx2 _ _ | exact (bx1 _ _).symm | exact (bx2 _ _).symm | exact bx3 _ _ | exact bx4 _ _)), H', ⟨by first | exact Nat.le_refl _ | omega⟩, ⟨by repeat (first | (with_reducible first | exact HB.out | apply below_alloc | apply pw_below_drewN | apply below_drew1) | exact HB.out)⟩⟩
  case rest => as_aux_lemma =>
    clear HC11
    (try clear c1); (try clear p2); (try clear c3); (try clear c8); (try clear c12); (try clear c12b0); (try clear c12b1); (try clear c13); (try clear c13b0); (try clear c13b1); (try clear c14); (try clear c14b0); (try clear c14b1); (try clear c15); (try clear c15b0); (try clear c15b1); (try clear c16); (try clear c16b0); (try clear c16b1)
    obtain ⟨kq, x105_10, rfl, HA, HJ10, HB⟩ := hcut
    cases kq with
    | zero => exact absurd HA.out (by simp [laws_FnOrdersTurnOfAll.j0])
    | succ kj10 =>
      have H := HA.out
      clear HA
      simp only [laws_FnOrdersTurnOfAll.j0] at H
      by_cases c17 : x105_10 = true
      · subst c17
        rw [if_pos rfl] at H
        obtain rfl := Option.some.inj H
        clear hrt
        go_wp2
        go_ret
        exact ⟨by first | rfl | (simp [errW_none, errW_some] <;> rfl) | (simp [*, errW_none, errW_some] <;> rfl), by repeat (first | (with_reducible first | exact HB.out | apply below_alloc | apply pw_below_drewN | apply below_drew1) | exact HB.out)⟩
      · replace c17 := Bool.eq_false_iff.mpr c17
        subst c17
        rw [if_neg (show ¬ (false = true) by decide)] at H
        replace H := Option.bind_eq_some_iff.mp H
        obtain ⟨⟨t230, t231⟩, A180, H⟩ := H
        (try dsimp only at H)
        have A18 := Aside0.mk A180
        clear A180
        replace H := Option.bind_eq_some_iff.mp H
        obtain ⟨⟨t234, t235⟩, A190, H⟩ := H
        (try dsimp only at H)
        have A19 := Aside0.mk A190
        clear A190
        replace H := Option.bind_eq_some_iff.mp H
        obtain ⟨⟨t238, t239⟩, A200, H⟩ := H
        (try dsimp only at H)
        have A20 := Aside0.mk A200
        clear A200
        replace H := Option.bind_eq_some_iff.mp H
        obtain ⟨⟨t240, t241⟩, A210, H⟩ := H
        (try dsimp only at H)
        have A21 := Aside0.mk A210
        clear A210
        replace H := Option.bind_eq_some_iff.mp H
        obtain ⟨⟨t242, t243⟩, A220, H⟩ := H
        (try dsimp only at H)
        have A22 := Aside0.mk A220
        clear A220
        replace H := Option.bind_eq_some_iff.mp H
        obtain ⟨⟨t246, t247⟩, A230, H⟩ := H
        (try dsimp only at H)
        have A23 := Aside0.mk A230
        clear A230
        replace H := Option.bind_eq_some_iff.mp H
        obtain ⟨⟨t250, t251⟩, A240, H⟩ := H
        (try dsimp only at H)
        have A24 := Aside0.mk A240
        clear A240
        replace H := Option.bind_eq_some_iff.mp H
        obtain ⟨⟨t252, t253⟩, A250, H⟩ := H
        (try dsimp only at H)
        have A25 := Aside0.mk A250
        clear A250
        have HC26 := Aside0.mk H
        clear H
        go_upto_region 11 with (first | ((with_reducible refine gate_callee (f := 4) rfl ?_); refine goesL_ (some 109) rfl rfl Tryd.func4 (by kernel_rfl) rfl #[.string a0, .string a1] rfl (by (try simp only [List.map_toArray, List.map_cons, List.map_nil]); first | done | rfl | (simp only [List.length_drop, List.length_take]; rfl)) ?_; (with_reducible refine (impl_RunsTo.calls kj10 a0 a1 t230 t231 _ A18.out).mono ?_); rintro e w27 ⟨v232, rfl, ho0, hb⟩; refine ⟨_, rfl, ?_⟩; have n0_ := Aside0.mk (Kd.S_lower ho0 (below_size (by repeat (first | (with_reducible first | exact HB.out | apply below_alloc | apply pw_below_drewN | apply below_drew1) | exact HB.out)))); have n1_ := Aside0.mk (below_step (by repeat (first | (with_reducible first | exact HB.out | apply below_alloc | apply pw_below_drewN | apply below_drew1) | exact HB.out)) hb); clear HB; have HO233 := n0_; have HB := n1_; clear n0_ n1_; (try clear hb); (try clear hb2); (try clear hk); (try clear hi); (try clear ho0)) | ((with_reducible refine gate_callee (f := 5) rfl ?_); refine goesL_ (some 115) rfl rfl Tryd.func5 (by kernel_rfl) rfl #[.string a0, .string a1] rfl (by (try simp only [List.map_toArray, List.map_cons, List.map_nil]); first | done | rfl | (simp only [List.length_drop, List.length_take]; rfl)) ?_; (with_reducible refine (spec_RunsTo.calls kj10 a0 a1 t234 t235 _ A19.out).mono ?_); rintro e w28 ⟨v236, rfl, ho0, hb⟩; refine ⟨_, rfl, ?_⟩; have n0_ := Aside0.mk (Kd.S_elder' (by (with_reducible repeat (first | apply Kd.S_alloc | apply Kd.S_drewN | apply Kd.S_drew)); exact HO233.out) (Kd.S_base ho0) hb); have n1_ := Aside0.mk (Kd.S_lower (Kd.S_new' ho0 (Kd.S_lt (by (with_reducible repeat (first | apply Kd.S_alloc | apply Kd.S_drewN | apply Kd.S_drew)); exact HO233.out))) (below_size (by repeat (first | (with_reducible first | exact HB.out | apply below_alloc | apply pw_below_drewN | apply below_drew1) | exact HB.out)))); have n2_ := Aside0.mk (below_step (by repeat (first | (with_reducible first | exact HB.out | apply below_alloc | apply pw_below_drewN | apply below_drew1) | exact HB.out)) hb); clear HO233; clear HB; have HO233 := n0_; have HO237 := n1_; have HB := n2_; clear n0_ n1_ n2_; (try clear hb); (try clear hb2); (try clear hk); (try clear hi); (try clear ho0)) | ((with_reducible refine gate_callee (f := 6) rfl ?_); refine goesL_ (some 121) rfl rfl Tryd.func6 (by kernel_rfl) rfl #[.string a0, .string a1] rfl (by (try simp only [List.map_toArray, List.map_cons, List.map_nil]); first | done | rfl | (simp only [List.length_drop, List.length_take]; rfl)) ?_; (with_reducible refine (impl_FewestRuns.calls kj10 a0 a1 t238 t239 _ A20.out).mono ?_); rintro e w29 ⟨rfl, hb⟩; refine ⟨_, rfl, ?_⟩; have n0_ := Aside0.mk (Kd.S_below (by (with_reducible repeat (first | apply Kd.S_alloc | apply Kd.S_drewN | apply Kd.S_drew)); exact HO233.out) hb); have n1_ := Aside0.mk (Kd.S_below (by (with_reducible repeat (first | apply Kd.S_alloc | apply Kd.S_drewN | apply Kd.S_drew)); exact HO237.out) hb); have n2_ := Aside0.mk (below_step (by repeat (first | (with_reducible first | exact HB.out | apply below_alloc | apply pw_below_drewN | apply below_drew1) | exact HB.out)) hb); clear HO233; clear HO237; clear HB; have HO233 := n0_; have HO237 := n1_; have HB := n2_; clear n0_ n1_ n2_; (try clear hb); (try clear hb2); (try clear hk); (try clear hi)) | ((with_reducible refine gate_callee (f := 7) rfl ?_); refine goesL_ (some 127) rfl rfl Tryd.func7 (by kernel_rfl) rfl #[.string a0, .string a1] rfl (by (try simp only [List.map_toArray, List.map_cons, List.map_nil]); first | done | rfl | (simp only [List.length_drop, List.length_take]; rfl)) ?_; (with_reducible refine (spec_FewestRuns.calls kj10 a0 a1 t240 t241 _ A21.out).mono ?_); rintro e w30 ⟨rfl, hb⟩; refine ⟨_, rfl, ?_⟩; have n0_ := Aside0.mk (Kd.S_below (by (with_reducible repeat (first | apply Kd.S_alloc | apply Kd.S_drewN | apply Kd.S_drew)); exact HO233.out) hb); have n1_ := Aside0.mk (Kd.S_below (by (with_reducible repeat (first | apply Kd.S_alloc | apply Kd.S_drewN | apply Kd.S_drew)); exact HO237.out) hb); have n2_ := Aside0.mk (below_step (by repeat (first | (with_reducible first | exact HB.out | apply below_alloc | apply pw_below_drewN | apply below_drew1) | exact HB.out)) hb); clear HO233; clear HO237; clear HB; have HO233 := n0_; have HO237 := n1_; have HB := n2_; clear n0_ n1_ n2_; (try clear hb); (try clear hb2); (try clear hk); (try clear hi)) | ((with_reducible refine gate_callee (f := 8) rfl ?_); refine goesL_ (some 133) rfl rfl Tryd.func8 (by kernel_rfl) rfl #[.string a0, .string a1] rfl (by (try simp only [List.map_toArray, List.map_cons, List.map_nil]); first | done | rfl | (simp only [List.length_drop, List.length_take]; rfl)) ?_; (with_reducible refine (impl_FirstsTo.calls kj10 a0 a1 t242 t243 _ A22.out).mono ?_); rintro e w31 ⟨v244, rfl, ho0, hb⟩; refine ⟨_, rfl, ?_⟩; have n0_ := Aside0.mk (Kd.S_elder' (by (with_reducible repeat (first | apply Kd.S_alloc | apply Kd.S_drewN | apply Kd.S_drew)); exact HO233.out) (Kd.R_base ho0) hb); have n1_ := Aside0.mk (Kd.S_elder' (by (with_reducible repeat (first | apply Kd.S_alloc | apply Kd.S_drewN | apply Kd.S_drew)); exact HO237.out) (Kd.R_base ho0) hb); have n2_ := Aside0.mk (Kd.R_lower ho0 (below_size (by repeat (first | (with_reducible first | exact HB.out | apply below_alloc | apply pw_below_drewN | apply below_drew1) | exact HB.out)))); have n3_ := Aside0.mk (below_step (by repeat (first | (with_reducible first | exact HB.out | apply below_alloc | apply pw_below_drewN | apply below_drew1) | exact HB.out)) hb); clear HO233; clear HO237; clear HB; have HO233 := n0_; have HO237 := n1_; have HO245 := n2_; have HB := n3_; clear n0_ n1_ n2_ n3_; (try clear hb); (try clear hb2); (try clear hk); (try clear hi); (try clear ho0)) | ((with_reducible refine gate_callee (f := 9) rfl ?_); refine goesL_ (some 139) rfl rfl Tryd.func9 (by kernel_rfl) rfl #[.string a0, .string a1] rfl (by (try simp only [List.map_toArray, List.map_cons, List.map_nil]); first | done | rfl | (simp only [List.length_drop, List.length_take]; rfl)) ?_; (with_reducible refine (spec_FirstsTo.calls kj10 a0 a1 t246 t247 _ A23.out).mono ?_); rintro e w32 ⟨v248, rfl, ho0, hb⟩; refine ⟨_, rfl, ?_⟩; have n0_ := Aside0.mk (Kd.S_elder' (by (with_reducible repeat (first | apply Kd.S_alloc | apply Kd.S_drewN | apply Kd.S_drew)); exact HO233.out) (Kd.R_base ho0) hb); have n1_ := Aside0.mk (Kd.S_elder' (by (with_reducible repeat (first | apply Kd.S_alloc | apply Kd.S_drewN | apply Kd.S_drew)); exact HO237.out) (Kd.R_base ho0) hb); have n2_ := Aside0.mk (Kd.R_elder' (by (with_reducible repeat (first | apply Kd.R_alloc | apply Kd.R_drewN | apply Kd.R_drew)); exact HO245.out) (Kd.R_base ho0) hb); have n3_ := Aside0.mk (Kd.R_lower (Kd.R_new' ho0 (Kd.R_lt (by (with_reducible repeat (first | apply Kd.R_alloc | apply Kd.R_drewN | apply Kd.R_drew)); exact HO245.out))) (below_size (by repeat (first | (with_reducible first | exact HB.out | apply below_alloc | apply pw_below_drewN | apply below_drew1) | exact HB.out)))); have n4_ := Aside0.mk (below_step (by repeat (first | (with_reducible first | exact HB.out | apply below_alloc | apply pw_below_drewN | apply below_drew1) | exact HB.out)) hb); clear HO233; clear HO237; clear HO245; clear HB; have HO233 := n0_; have HO237 := n1_; have HO245 := n2_; have HO249 := n3_; have HB := n4_; clear n0_ n1_ n2_ n3_ n4_; (try clear hb); (try clear hb2); (try clear hk); (try clear hi); (try clear ho0)) | ((with_reducible refine gate_callee (f := 10) rfl ?_); refine goesL_ (some 145) rfl rfl Tryd.func10 (by kernel_rfl) rfl #[.string a0, .string a1] rfl (by (try simp only [List.map_toArray, List.map_cons, List.map_nil]); first | done | rfl | (simp only [List.length_drop, List.length_take]; rfl)) ?_; (with_reducible refine (impl_FewestFirst.calls kj10 a0 a1 t250 t251 _ A24.out).mono ?_); rintro e w33 ⟨rfl, hb⟩; refine ⟨_, rfl, ?_⟩; have n0_ := Aside0.mk (Kd.S_below (by (with_reducible repeat (first | apply Kd.S_alloc | apply Kd.S_drewN | apply Kd.S_drew)); exact HO233.out) hb); have n1_ := Aside0.mk (Kd.S_below (by (with_reducible repeat (first | apply Kd.S_alloc | apply Kd.S_drewN | apply Kd.S_drew)); exact HO237.out) hb); have n2_ := Aside0.mk (Kd.R_below (by (with_reducible repeat (first | apply Kd.R_alloc | apply Kd.R_drewN | apply Kd.R_drew)); exact HO245.out) hb); have n3_ := Aside0.mk (Kd.R_below (by (with_reducible repeat (first | apply Kd.R_alloc | apply Kd.R_drewN | apply Kd.R_drew)); exact HO249.out) hb); have n4_ := Aside0.mk (below_step (by repeat (first | (with_reducible first | exact HB.out | apply below_alloc | apply pw_below_drewN | apply below_drew1) | exact HB.out)) hb); clear HO233; clear HO237; clear HO245; clear HO249; clear HB; have HO233 := n0_; have HO237 := n1_; have HO245 := n2_; have HO249 := n3_; have HB := n4_; clear n0_ n1_ n2_ n3_ n4_; (try clear hb); (try clear hb2); (try clear hk); (try clear hi)) | ((with_reducible refine gate_callee (f := 11) rfl ?_); refine goesL_ (some 151) rfl rfl Tryd.func11 (by kernel_rfl) rfl #[.string a0, .string a1] rfl (by (try simp only [List.map_toArray, List.map_cons, List.map_nil]); first | done | rfl | (simp only [List.length_drop, List.length_take]; rfl)) ?_; (with_reducible refine (spec_FewestFirst.calls kj10 a0 a1 t252 t253 _ A25.out).mono ?_); rintro e w34 ⟨rfl, hb⟩; refine ⟨_, rfl, ?_⟩; have n0_ := Aside0.mk (Kd.S_below (by (with_reducible repeat (first | apply Kd.S_alloc | apply Kd.S_drewN | apply Kd.S_drew)); exact HO233.out) hb); have n1_ := Aside0.mk (Kd.S_below (by (with_reducible repeat (first | apply Kd.S_alloc | apply Kd.S_drewN | apply Kd.S_drew)); exact HO237.out) hb); have n2_ := Aside0.mk (Kd.R_below (by (with_reducible repeat (first | apply Kd.R_alloc | apply Kd.R_drewN | apply Kd.R_drew)); exact HO245.out) hb); have n3_ := Aside0.mk (Kd.R_below (by (with_reducible repeat (first | apply Kd.R_alloc | apply Kd.R_drewN | apply Kd.R_drew)); exact HO249.out) hb); have n4_ := Aside0.mk (below_step (by repeat (first | (with_reducible first | exact HB.out | apply below_alloc | apply pw_below_drewN | apply below_drew1) | exact HB.out)) hb); clear HO233; clear HO237; clear HO245; clear HO249; clear HB; have HO233 := n0_; have HO237 := n1_; have HO245 := n2_; have HO249 := n3_; have HB := n4_; clear n0_ n1_ n2_ n3_ n4_; (try clear hb); (try clear hb2); (try clear hk); (try clear hi)))
        (try simp only [Act.put, List.setIfInBounds_toArray, List.set_cons_zero, List.set_cons_succ])
        go_cut [208] from 208 to 208 (fun v208 wc => ∃ (kq : Nat) (x208_25 : Bool), v208 = .bool x208_25 ∧ Aside0 (laws_FnOrdersTurnOfAll.j1 kq a0 a1 a2 a3 a4 a5 a6 a7 l8 a9 t230 t231 t238 t242 t250 x208_25 = some r) ∧ Aside0 (kq ≤ kj10) ∧ Aside0 (Kd.S (Kd.slice 3 (Kd.int .i64)) 27 wc w.heap.size (fun k_ => some k_ ≠ (v244 : Value).ownBlock) v232 t230) ∧ Aside0 (Kd.R (Kd.int .i64) 3 wc w.heap.size (fun _ => True) v244 t242) ∧ Aside0 (Below w.heap.size w wc))
        case first => as_aux_lemma =>
          have H := HC26.out
          clear HC26
          by_cases c35 : (t231 != t235) = true
          · rw [if_pos c35] at H
            have c35b0 : (t231 != t235) = true := c35
            (try (have c35b1 : decide (t231 = t235) = false := by simpa using c35))
            (try (have c35b2 : (t231 == t235) = false := by simpa using c35))
            (try (have c35b3 : ¬ (t231 = t235) := by simpa using c35))
            clear c35
            (first | rw [c35b0] | (simp only [i64_w, i32_w]; rw [c35b0]) | skip)
            exact absurd (hrt.symm.trans (laws_FnOrdersTurnOfAll.j1_false H)) (by decide)
          · rw [if_neg c35] at H
            have c35b0 : (t231 != t235) = false := by simpa using c35
            (try (have c35b1 : decide (t231 = t235) = true := by simpa using c35))
            (try (have c35b2 : (t231 == t235) = true := by simpa using c35))
            clear c35
            (first | rw [c35b0] | (simp only [i64_w, i32_w]; rw [c35b0]) | skip)
            replace H := Option.bind_eq_some_iff.mp H
            obtain ⟨t254, A360, H⟩ := H
            (try dsimp only at H)
            have A36 := Aside0.mk A360
            clear A360
            by_cases c37 : t254 = true
            · subst c37
              rw [if_pos rfl] at H
              by_cases c38 : (t239 != t241) = true
              · rw [if_pos c38] at H
                have c38b0 : (t239 != t241) = true := c38
                (try (have c38b1 : decide (t239 = t241) = false := by simpa using c38))
                (try (have c38b2 : (t239 == t241) = false := by simpa using c38))
                (try (have c38b3 : ¬ (t239 = t241) := by simpa using c38))
                clear c38
                exact absurd (hrt.symm.trans (laws_FnOrdersTurnOfAll.j1_false H)) (by decide)
              · rw [if_neg c38] at H
                have c38b0 : (t239 != t241) = false := by simpa using c38
                (try (have c38b1 : decide (t239 = t241) = true := by simpa using c38))
                (try (have c38b2 : (t239 == t241) = true := by simpa using c38))
                clear c38
                by_cases c41 : t238 = t240
                · rw [if_pos c41] at H
                  have c41b0 : (t238 == t240) = true := beq_iff_eq.mpr c41
                  have c41b1 : (t238 != t240) = false := bne_eq_false_iff_eq.mpr c41
                  clear c41
                  by_cases c42 : (t243 != t247) = true
                  · rw [if_pos c42] at H
                    have c42b0 : (t243 != t247) = true := c42
                    (try (have c42b1 : decide (t243 = t247) = false := by simpa using c42))
                    (try (have c42b2 : (t243 == t247) = false := by simpa using c42))
                    (try (have c42b3 : ¬ (t243 = t247) := by simpa using c42))
                    clear c42
                    exact absurd (hrt.symm.trans (laws_FnOrdersTurnOfAll.j1_false H)) (by decide)
                  · rw [if_neg c42] at H
                    have c42b0 : (t243 != t247) = false := by simpa using c42
                    (try (have c42b1 : decide (t243 = t247) = true := by simpa using c42))
                    (try (have c42b2 : (t243 == t247) = true := by simpa using c42))
                    clear c42
                    replace H := Option.bind_eq_some_iff.mp H
                    obtain ⟨t255, A450, H⟩ := H
                    (try dsimp only at H)
                    have A45 := Aside0.mk A450
                    clear A450
                    by_cases c46 : t255 = true
                    · subst c46
                      rw [if_pos rfl] at H
                      by_cases c47 : (t251 != t253) = true
                      · rw [if_pos c47] at H
                        have c47b0 : (t251 != t253) = true := c47
                        (try (have c47b1 : decide (t251 = t253) = false := by simpa using c47))
                        (try (have c47b2 : (t251 == t253) = false := by simpa using c47))
                        (try (have c47b3 : ¬ (t251 = t253) := by simpa using c47))
                        clear c47
                        exact absurd (hrt.symm.trans (laws_FnOrdersTurnOfAll.j1_false H)) (by decide)
                      · rw [if_neg c47] at H
                        have c47b0 : (t251 != t253) = false := by simpa using c47
                        (try (have c47b1 : decide (t251 = t253) = true := by simpa using c47))
                        (try (have c47b2 : (t251 == t253) = true := by simpa using c47))
                        clear c47
                        by_cases c52 : t250 = t252
                        · rw [if_pos c52] at H
                          have c52b0 : (t250 == t252) = true := beq_iff_eq.mpr c52
                          have c52b1 : (t250 != t252) = false := bne_eq_false_iff_eq.mpr c52
                          clear c52
                          by_cases c53 : (t239 != t231) = true
                          · rw [if_pos c53] at H
                            have c53b0 : (t239 != t231) = true := c53
                            (try (have c53b1 : decide (t239 = t231) = false := by simpa using c53))
                            (try (have c53b2 : (t239 == t231) = false := by simpa using c53))
                            (try (have c53b3 : ¬ (t239 = t231) := by simpa using c53))
                            clear c53
                            exact absurd (hrt.symm.trans (laws_FnOrdersTurnOfAll.j1_false H)) (by decide)
                          · rw [if_neg c53] at H
                            have c53b0 : (t239 != t231) = false := by simpa using c53
                            (try (have c53b1 : decide (t239 = t231) = true := by simpa using c53))
                            (try (have c53b2 : (t239 == t231) = true := by simpa using c53))
                            clear c53
                            by_cases c58 : (t243 != t231) = true
                            · rw [if_pos c58] at H
                              have c58b0 : (t243 != t231) = true := c58
                              (try (have c58b1 : decide (t243 = t231) = false := by simpa using c58))
                              (try (have c58b2 : (t243 == t231) = false := by simpa using c58))
                              (try (have c58b3 : ¬ (t243 = t231) := by simpa using c58))
                              clear c58
                              exact absurd (hrt.symm.trans (laws_FnOrdersTurnOfAll.j1_false H)) (by decide)
                            · rw [if_neg c58] at H
                              have c58b0 : (t243 != t231) = false := by simpa using c58
                              (try (have c58b1 : decide (t243 = t231) = true := by simpa using c58))
                              (try (have c58b2 : (t243 == t231) = true := by simpa using c58))
                              clear c58
                              cases cq_ : (t251 != t231) with
                              | true =>
                                rw [cq_] at H
                                exact absurd (hrt.symm.trans (laws_FnOrdersTurnOfAll.j1_false H)) (by decide)
                              | false =>
                                rw [cq_] at H
                                (try (have cq1_ : decide (t251 = t231) = true := by simpa using cq_))
                                (try (have cq2_ : (t251 == t231) = true := by simpa using cq_))
                                have H' := Aside0.mk H
                                clear H
                                obtain ⟨Ao63, co63, eo63⟩ := Kd.S_slice HO233.out
                                subst eo63
                                obtain ⟨Ao64, co64, eo64⟩ := Kd.S_slice HO237.out
                                subst eo64
                                go_wp2_with (first | (go_at_call 12; (with_reducible refine (laws_mRows.calls kj10 _ _ t230 _ _ t234 true _ ?side1 ?side2 ?side3 ?side4 A36.out).mono ?_); (case side1 => repeat (first | exact (Kd.S_reads' HO233.out).2.2 | (with_reducible refine Kd.C_alloc ?_ _) | (with_reducible refine Kd.C_drewN ?_ _) | (with_reducible refine Kd.C_drew ?_))); (case side2 => exact (Kd.S_reads' HO233.out).2.1); (case side3 => repeat (first | exact (Kd.S_reads' HO237.out).2.2 | (with_reducible refine Kd.C_alloc ?_ _) | (with_reducible refine Kd.C_drewN ?_ _) | (with_reducible refine Kd.C_drew ?_))); (case side4 => exact (Kd.S_reads' HO237.out).2.1); rintro e w' ⟨rfl, ⟨nd, rfl⟩⟩; obtain ⟨Ao65, co65, eo65⟩ := Kd.R_slice HO245.out; subst eo65; obtain ⟨Ao66, co66, eo66⟩ := Kd.R_slice HO249.out; subst eo66) | (go_at_call 13; (with_reducible refine (laws_mSame.calls kj10 _ _ t242 _ _ t246 true _ ?side1 ?side2 ?side3 ?side4 A45.out).mono ?_); (case side1 => repeat (first | exact (Kd.R_reads' HO245.out).2.2 | (with_reducible refine Kd.C_alloc ?_ _) | (with_reducible refine Kd.C_drewN ?_ _) | (with_reducible refine Kd.C_drew ?_))); (case side2 => exact (Kd.R_reads' HO245.out).2.1); (case side3 => repeat (first | exact (Kd.R_reads' HO249.out).2.2 | (with_reducible refine Kd.C_alloc ?_ _) | (with_reducible refine Kd.C_drewN ?_ _) | (with_reducible refine Kd.C_drew ?_))); (case side4 => exact (Kd.R_reads' HO249.out).2.1); rintro e w' ⟨rfl, ⟨nd, rfl⟩⟩))
                                go_meet
                                case rel => exact ⟨_, (false), (by first | rfl | (simp; done) | (simp [*]; done) | (simp [*]; first | exact bx1 _ _ | exact bx2 _ _ | exact (bx1 _ _).symm | exact (bx2 _ _).symm | exact bx3 _ _ | exact bx4 _ _)), H', ⟨by first | exact Nat.le_refl _ | (have := HJ10.out; omega)⟩, ⟨by (with_reducible repeat (first | apply Kd.S_alloc | apply Kd.S_drewN | apply Kd.S_drew)); exact Kd.S_mono HO233.out (fun _ hk => hk.1.2)⟩, ⟨by (with_reducible repeat (first | apply Kd.R_alloc | apply Kd.R_drewN | apply Kd.R_drew)); exact Kd.R_mono HO245.out (fun _ hk => trivial)⟩, ⟨by repeat (first | (with_reducible first | exact HB.out | apply below_alloc | apply pw_below_drewN | apply below_drew1) | exact HB.out)⟩⟩
                        · rw [if_neg c52] at H
                          have c52b0 : (t250 == t252) = false := beq_eq_false_iff_ne.mpr c52
                          have c52b1 : (t250 != t252) = true := bne_iff_ne.mpr c52
                          exact absurd (hrt.symm.trans (laws_FnOrdersTurnOfAll.j1_false H)) (by decide)
                    · replace c46 := Bool.eq_false_iff.mpr c46
                      subst c46
                      rw [if_neg (show ¬ (false = true) by decide)] at H
                      exact absurd (hrt.symm.trans (laws_FnOrdersTurnOfAll.j1_false H)) (by decide)
                · rw [if_neg c41] at H
                  have c41b0 : (t238 == t240) = false := beq_eq_false_iff_ne.mpr c41
                  have c41b1 : (t238 != t240) = true := bne_iff_ne.mpr c41
                  exact absurd (hrt.symm.trans (laws_FnOrdersTurnOfAll.j1_false H)) (by decide)
            · replace c37 := Bool.eq_false_iff.mpr c37
              subst c37
              rw [if_neg (show ¬ (false = true) by decide)] at H
              exact absurd (hrt.symm.trans (laws_FnOrdersTurnOfAll.j1_false H)) (by decide)
        case rest => as_aux_lemma =>
          clear HC26
          (try clear c1); (try clear p2); (try clear c3); (try clear c4); (try clear c5); (try clear c6); (try clear c7); (try clear c8); (try clear c9); (try clear c10); (try clear c11); (try clear c12); (try clear c12b0); (try clear c12b1); (try clear c13); (try clear c13b0); (try clear c13b1); (try clear c14); (try clear c14b0); (try clear c14b1); (try clear c15); (try clear c15b0); (try clear c15b1); (try clear c16); (try clear c16b0); (try clear c16b1); (try clear c17); (try clear c35); (try clear c35b0); (try clear c35b1); (try clear c35b2); (try clear c37); (try clear c38); (try clear c38b0); (try clear c38b1); (try clear c38b2); (try clear c41); (try clear c41b0); (try clear c41b1); (try clear c42); (try clear c42b0); (try clear c42b1); (try clear c42b2); (try clear c46); (try clear c47); (try clear c47b0); (try clear c47b1); (try clear c47b2); (try clear c52); (try clear c52b0); (try clear c52b1); (try clear c53); (try clear c53b0); (try clear c53b1); (try clear c53b2); (try clear c58); (try clear c58b0); (try clear c58b1); (try clear c58b2); (try clear p2)
          obtain ⟨kq, x208_25, rfl, HA, HJ25, HO_21, HO_29, HB⟩ := hcut
          cases kq with
          | zero => exact absurd HA.out (by simp [laws_FnOrdersTurnOfAll.j1])
          | succ kj25 =>
            have H := HA.out
            clear HA
            simp only [laws_FnOrdersTurnOfAll.j1] at H
            by_cases c79 : x208_25 = true
            · subst c79
              rw [if_pos rfl] at H
              exact absurd (hrt.symm.trans (Option.some.inj H).symm) (by decide)
            · replace c79 := Bool.eq_false_iff.mpr c79
              subst c79
              rw [if_neg (show ¬ (false = true) by decide)] at H
              have HC80 := Aside0.mk H
              clear H
              go_upto_if 209 with (fail)
              go_cut [] from 209 to 209 (fun wc => ∃ (kq : Nat), Aside0 (laws_FnOrdersTurnOfAll.j4 kq a2 a3 a4 a5 a6 a7 l8 a9 = some r) ∧ Aside0 (kq ≤ kj25) ∧ Aside0 (Below w.heap.size w wc))
              case first => as_aux_lemma =>
                have H := HC80.out
                clear HC80
                by_cases c81 : t231 = true
                · subst c81
                  rw [if_pos rfl] at H
                  replace H := Option.bind_eq_some_iff.mp H
                  obtain ⟨⟨t256, t257⟩, A820, H⟩ := H
                  (try dsimp only at H)
                  have A82 := Aside0.mk A820
                  clear A820
                  replace H := Option.bind_eq_some_iff.mp H
                  obtain ⟨⟨t258, t259⟩, A830, H⟩ := H
                  (try dsimp only at H)
                  have A83 := Aside0.mk A830
                  clear A830
                  have HC84 := Aside0.mk H
                  clear H
                  obtain ⟨Ao85, co85, eo85⟩ := Kd.S_slice HO_21.out
                  subst eo85
                  go_upto_region 16 with (first | ((with_reducible refine gate_callee (f := 14) rfl ?_); refine goesL_ (some 213) rfl rfl Tryd.func14 (by kernel_rfl) rfl #[.string a0, .slice Ao85 t230.length co85] rfl (by (try simp only [List.map_toArray, List.map_cons, List.map_nil]); first | done | rfl | (simp only [List.length_drop, List.length_take]; rfl)) ?_; (with_reducible refine (impl_PlayRuns.calls kj25 a0 _ _ t230 t256 t257 _ ?side1 ?side2 A82.out).mono ?_); (case side1 => repeat (first | exact (Kd.S_reads' HO_21.out).2.2 | (with_reducible refine Kd.C_alloc ?_ _) | (with_reducible refine Kd.C_drewN ?_ _) | (with_reducible refine Kd.C_drew ?_))); (case side2 => exact (Kd.S_reads' HO_21.out).2.1); rintro e w86 ⟨rfl, hb⟩; refine ⟨_, rfl, ?_⟩; have n0_ := Aside0.mk (Kd.S_below (by (with_reducible repeat (first | apply Kd.S_alloc | apply Kd.S_drewN | apply Kd.S_drew)); exact HO_21.out) hb); have n1_ := Aside0.mk (Kd.R_below (by (with_reducible repeat (first | apply Kd.R_alloc | apply Kd.R_drewN | apply Kd.R_drew)); exact HO_29.out) hb); have n2_ := Aside0.mk (below_step (by repeat (first | (with_reducible first | exact HB.out | apply below_alloc | apply pw_below_drewN | apply below_drew1) | exact HB.out)) hb); clear HO_21; clear HO_29; clear HB; have HO_21 := n0_; have HO_29 := n1_; have HB := n2_; clear n0_ n1_ n2_; (try clear hb); (try clear hb2); (try clear hk); (try clear hi)) | ((with_reducible refine gate_callee (f := 15) rfl ?_); refine goesL_ (some 219) rfl rfl Tryd.func15 (by kernel_rfl) rfl #[.int .i64 (a0.size : Int)] rfl (by (try simp only [List.map_toArray, List.map_cons, List.map_nil]); first | done | rfl | (simp only [List.length_drop, List.length_take]; rfl)) ?_; (with_reducible refine (impl_MostRuns.calls (a0.size : Int) t258 t259 _ A83.out).mono ?_); rintro e w' ⟨rfl, ⟨nd, rfl⟩⟩; refine ⟨_, rfl, ?_⟩))
                  (try simp only [Act.put, List.setIfInBounds_toArray, List.set_cons_zero, List.set_cons_succ])
                  go_cut [265] from 265 to 265 (fun v265 wc => ∃ (kq : Nat) (x265_83 : Bool), v265 = .bool x265_83 ∧ Aside0 (laws_FnOrdersTurnOfAll.j2 kq a0 a1 a2 a3 a4 a5 a6 a7 l8 a9 t238 t242 x265_83 = some r) ∧ Aside0 (kq ≤ kj25) ∧ Aside0 (Kd.R (Kd.int .i64) 3 wc w.heap.size (fun _ => True) v244 t242) ∧ Aside0 (Below w.heap.size w wc))
                  case first => as_aux_lemma =>
                    have H := HC84.out
                    clear HC84
                    by_cases c87 : t257 = true
                    · subst c87
                      rw [if_pos rfl] at H
                      by_cases c88 : t256.toList = a1.toList
                      · rw [if_pos c88] at H
                        have c88b0 : (t256.toList == a1.toList) = true := beq_iff_eq.mpr c88
                        have c88b1 : (t256.toList != a1.toList) = false := bne_eq_false_iff_eq.mpr c88
                        clear c88
                        (first | rw [c88b0] | (simp only [i64_w, i32_w]; rw [c88b0]) | skip)
                        by_cases c89 : (t230.length : Int) = t238
                        · rw [if_pos c89] at H
                          have c89b0 : ((t230.length : Int) == t238) = true := beq_iff_eq.mpr c89
                          have c89b1 : ((t230.length : Int) != t238) = false := bne_eq_false_iff_eq.mpr c89
                          clear c89
                          by_cases c90 : t259 = true
                          · subst c90
                            rw [if_pos rfl] at H
                            by_cases c91 : t238 > t258
                            · rw [if_pos c91] at H
                              have c91b0 : decide (t258 < t238) = true := decide_eq_true c91
                              clear c91
                              exact absurd (hrt.symm.trans (laws_FnOrdersTurnOfAll.j2_false H)) (by decide)
                            · rw [if_neg c91] at H
                              have c91b0 : decide (t258 < t238) = false := decide_eq_false c91
                              clear c91
                              by_cases c92 : (t242.length : Int) = t250
                              · rw [if_pos c92] at H
                                have c92b0 : ((t242.length : Int) == t250) = true := beq_iff_eq.mpr c92
                                have c92b1 : ((t242.length : Int) != t250) = false := bne_eq_false_iff_eq.mpr c92
                                clear c92
                                replace H := Option.bind_eq_some_iff.mp H
                                obtain ⟨t260, A930, H⟩ := H
                                (try dsimp only at H)
                                have A93 := Aside0.mk A930
                                clear A930
                                by_cases c94 : t260 = true
                                · subst c94
                                  rw [if_pos rfl] at H
                                  by_cases c95 : t250 < t238
                                  · rw [if_pos c95] at H
                                    have c95b0 : decide (t250 < t238) = true := decide_eq_true c95
                                    clear c95
                                    exact absurd (hrt.symm.trans (laws_FnOrdersTurnOfAll.j2_false H)) (by decide)
                                  · rw [if_neg c95] at H
                                    have c95b0 : decide (t250 < t238) = false := decide_eq_false c95
                                    clear c95
                                    have H' := Aside0.mk H
                                    clear H
                                    obtain ⟨Ao97, co97, eo97⟩ := Kd.R_slice HO_29.out
                                    subst eo97
                                    go_wp2_with (first | (go_at_call 16; (with_reducible refine (laws_mRises.calls kj25 _ _ t242 true _ ?side1 ?side2 A93.out).mono ?_); (case side1 => repeat (first | exact (Kd.R_reads' HO_29.out).2.2 | (with_reducible refine Kd.C_alloc ?_ _) | (with_reducible refine Kd.C_drewN ?_ _) | (with_reducible refine Kd.C_drew ?_))); (case side2 => exact (Kd.R_reads' HO_29.out).2.1); rintro e w' ⟨rfl, ⟨nd, rfl⟩⟩))
                                    go_meet
                                    case rel => exact ⟨_, (decide (t250 > (wrap64 (2 * t238)))), (by first | rfl | (simp; done) | (simp [*]; done) | (simp [*]; first | exact bx1 _ _ | exact bx2 _ _ | exact (bx1 _ _).symm | exact (bx2 _ _).symm | exact bx3 _ _ | exact bx4 _ _)), H', ⟨by first | exact Nat.le_refl _ | (have := HJ10.out; have := HJ25.out; omega)⟩, ⟨by (with_reducible repeat (first | apply Kd.R_alloc | apply Kd.R_drewN | apply Kd.R_drew)); exact HO_29.out⟩, ⟨by repeat (first | (with_reducible first | exact HB.out | apply below_alloc | apply pw_below_drewN | apply below_drew1) | exact HB.out)⟩⟩
                                · replace c94 := Bool.eq_false_iff.mpr c94
                                  subst c94
                                  rw [if_neg (show ¬ (false = true) by decide)] at H
                                  exact absurd (hrt.symm.trans (laws_FnOrdersTurnOfAll.j2_false H)) (by decide)
                              · rw [if_neg c92] at H
                                have c92b0 : ((t242.length : Int) == t250) = false := beq_eq_false_iff_ne.mpr c92
                                have c92b1 : ((t242.length : Int) != t250) = true := bne_iff_ne.mpr c92
                                exact absurd (hrt.symm.trans (laws_FnOrdersTurnOfAll.j2_false H)) (by decide)
                          · replace c90 := Bool.eq_false_iff.mpr c90
                            subst c90
                            rw [if_neg (show ¬ (false = true) by decide)] at H
                            exact absurd (hrt.symm.trans (laws_FnOrdersTurnOfAll.j2_false H)) (by decide)
                        · rw [if_neg c89] at H
                          have c89b0 : ((t230.length : Int) == t238) = false := beq_eq_false_iff_ne.mpr c89
                          have c89b1 : ((t230.length : Int) != t238) = true := bne_iff_ne.mpr c89
                          exact absurd (hrt.symm.trans (laws_FnOrdersTurnOfAll.j2_false H)) (by decide)
                      · rw [if_neg c88] at H
                        have c88b0 : (t256.toList == a1.toList) = false := beq_eq_false_iff_ne.mpr c88
                        have c88b1 : (t256.toList != a1.toList) = true := bne_iff_ne.mpr c88
                        (first | rw [c88b0] | (simp only [i64_w, i32_w]; rw [c88b0]) | skip)
                        exact absurd (hrt.symm.trans (laws_FnOrdersTurnOfAll.j2_false H)) (by decide)
                    · replace c87 := Bool.eq_false_iff.mpr c87
                      subst c87
                      rw [if_neg (show ¬ (false = true) by decide)] at H
                      exact absurd (hrt.symm.trans (laws_FnOrdersTurnOfAll.j2_false H)) (by decide)
                  case rest => as_aux_lemma =>
                    clear HC84
                    (try clear c1); (try clear p2); (try clear c3); (try clear c4); (try clear c5); (try clear c6); (try clear p6); (try clear c7); (try clear c8); (try clear c9); (try clear c10); (try clear c11); (try clear c12); (try clear c12b0); (try clear c12b1); (try clear c13); (try clear c13b0); (try clear c13b1); (try clear c14); (try clear c14b0); (try clear c14b1); (try clear c15); (try clear c15b0); (try clear c15b1); (try clear c16); (try clear c16b0); (try clear c16b1); (try clear c17); (try clear c35); (try clear c35b0); (try clear c35b1); (try clear c35b2); (try clear c37); (try clear c38); (try clear c38b0); (try clear c38b1); (try clear c38b2); (try clear c41); (try clear c41b0); (try clear c41b1); (try clear c42); (try clear c42b0); (try clear c42b1); (try clear c42b2); (try clear c46); (try clear c47); (try clear c47b0); (try clear c47b1); (try clear c47b2); (try clear c52); (try clear c52b0); (try clear c52b1); (try clear c53); (try clear c53b0); (try clear c53b1); (try clear c53b2); (try clear c58); (try clear c58b0); (try clear c58b1); (try clear c58b2); (try clear p64); (try clear c79); (try clear c81); (try clear c87); (try clear c88); (try clear c88b0); (try clear c88b1); (try clear c89); (try clear c89b0); (try clear c89b1); (try clear c90); (try clear c91); (try clear c91b0); (try clear c92); (try clear c92b0); (try clear c92b1); (try clear c94); (try clear c95); (try clear c95b0); (try clear p2)
                    obtain ⟨kq, x265_83, rfl, HA, HJ83, HO_29, HB⟩ := hcut
                    cases kq with
                    | zero => exact absurd HA.out (by simp [laws_FnOrdersTurnOfAll.j2])
                    | succ kj83 =>
                      have H := HA.out
                      clear HA
                      simp only [laws_FnOrdersTurnOfAll.j2] at H
                      by_cases c100 : x265_83 = true
                      · subst c100
                        rw [if_pos rfl] at H
                        exact absurd (hrt.symm.trans (Option.some.inj H).symm) (by decide)
                      · replace c100 := Bool.eq_false_iff.mpr c100
                        subst c100
                        rw [if_neg (show ¬ (false = true) by decide)] at H
                        have H' := Aside0.mk H
                        clear H
                        obtain ⟨Ao101, co101, eo101⟩ := Kd.R_slice HO_29.out
                        subst eo101
                        go_wp2
                        go_loopg [41, 269] kj83 (fun kq v41 v269 w' => ∃ (x41_4 : ByteArray) (x269_4 : Int), v41 = .string x41_4 ∧ v269 = .int .i64 x269_4 ∧ Aside0 (laws_FnOrdersTurnOfAll.l0 kq a0 a1 a2 a3 a4 a5 a6 a7 l8 a9 t238 x41_4 t242 (t242.length : Int) x269_4 = some r) ∧ Aside0 (kq ≤ kj83) ∧ Aside0 (Kd.R (Kd.int .i64) 3 w' w.heap.size (fun _ => True) (.slice Ao101 t242.length co101) t242) ∧ Aside0 (Below w.heap.size w w'))
                        case atStart => exact ⟨(a0), (0), (by first | rfl | (simp; done) | (simp [*]; done) | (simp [*]; first | exact bx1 _ _ | exact bx2 _ _ | exact (bx1 _ _).symm | exact (bx2 _ _).symm | exact bx3 _ _ | exact bx4 _ _)), (by first | rfl | (simp; done) | (simp [*]; done) | (simp [*]; first | exact bx1 _ _ | exact bx2 _ _ | exact (bx1 _ _).symm | exact (bx2 _ _).symm | exact bx3 _ _ | exact bx4 _ _)), H', ⟨Nat.le_refl _⟩, ⟨by (with_reducible repeat (first | apply Kd.R_alloc | apply Kd.R_drewN | apply Kd.R_drew)); exact HO_29.out⟩, ⟨by repeat (first | (with_reducible first | exact HB.out | apply below_alloc | apply pw_below_drewN | apply below_drew1) | exact HB.out)⟩⟩
                        case round =>
                          clear H'
                          (try clear c1); (try clear p2); (try clear c3); (try clear c4); (try clear c5); (try clear c6); (try clear p6); (try clear c7); (try clear c8); (try clear c9); (try clear c10); (try clear c11); (try clear c12); (try clear c12b0); (try clear c12b1); (try clear c13); (try clear c13b0); (try clear c13b1); (try clear c14); (try clear c14b0); (try clear c14b1); (try clear c15); (try clear c15b0); (try clear c15b1); (try clear c16); (try clear c16b0); (try clear c16b1); (try clear c17); (try clear c35); (try clear c35b0); (try clear c35b1); (try clear c35b2); (try clear c37); (try clear c38); (try clear c38b0); (try clear c38b1); (try clear c38b2); (try clear c41); (try clear c41b0); (try clear c41b1); (try clear c42); (try clear c42b0); (try clear c42b1); (try clear c42b2); (try clear c46); (try clear c47); (try clear c47b0); (try clear c47b1); (try clear c47b2); (try clear c52); (try clear c52b0); (try clear c52b1); (try clear c53); (try clear c53b0); (try clear c53b1); (try clear c53b2); (try clear c58); (try clear c58b0); (try clear c58b1); (try clear c58b2); (try clear p64); (try clear c79); (try clear c81); (try clear c87); (try clear c88); (try clear c88b0); (try clear c88b1); (try clear c89); (try clear c89b0); (try clear c89b1); (try clear c90); (try clear c91); (try clear c91b0); (try clear c92); (try clear c92b0); (try clear c92b1); (try clear c94); (try clear c95); (try clear c95b0); (try clear c100); (try clear p2); (try clear p6); (try clear p64)
                          obtain ⟨x41_4, x269_4, rfl, rfl, HA, HK4, HO_267, HB⟩ := hrel
                          cases gk with
                          | zero => exact absurd HA.out (by simp [laws_FnOrdersTurnOfAll.l0])
                          | succ k4 =>
                            have H := HA.out
                            clear HA
                            simp only [laws_FnOrdersTurnOfAll.l0] at H
                            by_cases c102 : x269_4 < (t242.length : Int)
                            · rw [if_pos c102] at H
                              have c102b0 : decide (x269_4 < (t242.length : Int)) = true := decide_eq_true c102
                              clear c102
                              by_cases c103 : 0 ≤ x269_4
                              · rw [if_pos c103] at H
                                have c103b0 : decide (0 ≤ x269_4) = true := decide_eq_true c103
                                clear c103
                                by_cases c104 : x269_4 < (t242.length : Int)
                                · rw [if_pos c104] at H
                                  have c104b0 : decide (x269_4 < (t242.length : Int)) = true := decide_eq_true c104
                                  clear c104
                                  replace H := Option.bind_eq_some_iff.mp H
                                  obtain ⟨⟨t262, t263⟩, A1050, H⟩ := H
                                  (try dsimp only at H)
                                  have A105 := Aside0.mk A1050
                                  clear A1050
                                  by_cases c106 : t263 = true
                                  · subst c106
                                    rw [if_pos rfl] at H
                                    have H' := Aside0.mk H
                                    clear H
                                    have p261 : 0 ≤ (x269_4 : Int) := of_decide_eq_true (by first | (with_reducible assumption) | assumption)
                                    have q261 : x269_4 < (t242.length : Int) := of_decide_eq_true (by first | (with_reducible assumption) | assumption)
                                    obtain ⟨ad261, e261, hx261_0⟩ := Kd.at_int (Kd.R_reads' HO_267.out).2.2 x269_4 p261 q261
                                    cases e261
                                    replace p261 := eq_true p261
                                    replace q261 := eq_true q261
                                    go_wp2_with (first | ((with_reducible refine gate_callee (f := 17) rfl ?_); refine goesL_ (some 276) rfl rfl Tryd.func17 (by kernel_rfl) rfl #[.string x41_4, .int .i64 (rd t242 x269_4)] rfl (by (try simp only [List.map_toArray, List.map_cons, List.map_nil]); first | done | rfl | (simp only [List.length_drop, List.length_take]; rfl)) ?_; (with_reducible refine (impl_TurnFirst.calls x41_4 (rd t242 x269_4) t262 true _ A105.out).mono ?_); rintro e w107 ⟨rfl, hb⟩; refine ⟨_, rfl, ?_⟩; have n0_ := Aside0.mk (Kd.R_below (by (with_reducible repeat (first | apply Kd.R_alloc | apply Kd.R_drewN | apply Kd.R_drew)); exact HO_267.out) hb); have n1_ := Aside0.mk (below_step (by repeat (first | (with_reducible first | exact HB.out | apply below_alloc | apply pw_below_drewN | apply below_drew1) | exact HB.out)) hb); clear HO_267; clear HB; have HO_267 := n0_; have HB := n1_; clear n0_ n1_; (try clear hb); (try clear hb2); (try clear hk); (try clear hi)))
                                    go_roundg k4
                                    case measure => first | exact Nat.lt_succ_self _ | (have := HJ10.out; have := HJ25.out; have := HJ83.out; have := HK4.out; omega)
                                    case rel => exact ⟨(t262), (wrap64 (x269_4 + 1)), (by first | rfl | (simp; done) | (simp [*]; done) | (simp [*]; first | exact bx1 _ _ | exact bx2 _ _ | exact (bx1 _ _).symm | exact (bx2 _ _).symm | exact bx3 _ _ | exact bx4 _ _)), (by first | rfl | (simp; done) | (simp [*]; done) | (simp [*]; first | exact bx1 _ _ | exact bx2 _ _ | exact (bx1 _ _).symm | exact (bx2 _ _).symm | exact bx3 _ _ | exact bx4 _ _)), H', ⟨by first | exact Nat.le_refl _ | exact Nat.le_of_lt HK4.out | (have := HJ10.out; have := HJ25.out; have := HJ83.out; have := HK4.out; omega)⟩, ⟨by (with_reducible repeat (first | apply Kd.R_alloc | apply Kd.R_drewN | apply Kd.R_drew)); exact HO_267.out⟩, ⟨by repeat (first | (with_reducible first | exact HB.out | apply below_alloc | apply pw_below_drewN | apply below_drew1) | exact HB.out)⟩⟩
                                  · replace c106 := Bool.eq_false_iff.mpr c106
                                    subst c106
                                    rw [if_neg (show ¬ (false = true) by decide)] at H
                                    exact absurd (hrt.symm.trans (Option.some.inj H).symm) (by decide)
                                · rw [if_neg c104] at H
                                  exact absurd H (by simp)
                              · rw [if_neg c103] at H
                                exact absurd H (by simp)
                            · rw [if_neg c102] at H
                              have c102b0 : decide (x269_4 < (t242.length : Int)) = false := decide_eq_false c102
                              clear c102
                              by_cases c109 : x41_4.toList = a1.toList
                              · rw [if_pos c109] at H
                                have c109b0 : (x41_4.toList == a1.toList) = true := beq_iff_eq.mpr c109
                                have c109b1 : (x41_4.toList != a1.toList) = false := bne_eq_false_iff_eq.mpr c109
                                clear c109
                                by_cases c110 : (a0.size : Int) > 1
                                · rw [if_pos c110] at H
                                  have c110b0 : decide (1 < (a0.size : Int)) = true := decide_eq_true c110
                                  have c110b1 : decide (1 < a0.size) = true := decide_eq_true (by omega)
                                  clear c110
                                  replace H := Option.bind_eq_some_iff.mp H
                                  obtain ⟨⟨t264, t265⟩, A1110, H⟩ := H
                                  (try dsimp only at H)
                                  have A111 := Aside0.mk A1110
                                  clear A1110
                                  replace H := Option.bind_eq_some_iff.mp H
                                  obtain ⟨⟨t266, t267⟩, A1120, H⟩ := H
                                  (try dsimp only at H)
                                  have A112 := Aside0.mk A1120
                                  clear A1120
                                  by_cases c113 : t265 = true
                                  · subst c113
                                    rw [if_pos rfl] at H
                                    by_cases c114 : t267 = true
                                    · subst c114
                                      rw [if_pos rfl] at H
                                      by_cases c115 : t266 < (wrap64 (t238 - 1))
                                      · rw [if_pos c115] at H
                                        have c115b0 : decide (t266 < (wrap64 (t238 - 1))) = true := decide_eq_true c115
                                        clear c115
                                        exact absurd (hrt.symm.trans (Option.some.inj H).symm) (by decide)
                                      · rw [if_neg c115] at H
                                        have c115b0 : decide (t266 < (wrap64 (t238 - 1))) = false := decide_eq_false c115
                                        clear c115
                                        by_cases c118 : t266 > (wrap64 (t238 + 1))
                                        · rw [if_pos c118] at H
                                          have c118b0 : decide ((wrap64 (t238 + 1)) < t266) = true := decide_eq_true c118
                                          clear c118
                                          exact absurd (hrt.symm.trans (Option.some.inj H).symm) (by decide)
                                        · rw [if_neg c118] at H
                                          have c118b0 : decide ((wrap64 (t238 + 1)) < t266) = false := decide_eq_false c118
                                          clear c118
                                          have H' := Aside0.mk H
                                          clear H
                                          go_wp2_with (first | ((with_reducible refine gate_callee (f := 18) rfl ?_); refine goesL_ (some 294) rfl rfl Tryd.func18 (by kernel_rfl) rfl #[.string a0, .int .i64 0, .int .i64 (wrap64 ((a0.size : Int) / 2))] rfl (by (try simp only [List.map_toArray, List.map_cons, List.map_nil]); first | done | rfl | (simp only [List.length_drop, List.length_take]; rfl)) ?_; (with_reducible refine (impl_TurnRun.calls a0 0 (wrap64 ((a0.size : Int) / 2)) t264 true _ A111.out).mono ?_); rintro e w121 ⟨rfl, hb⟩; refine ⟨_, rfl, ?_⟩; have n0_ := Aside0.mk (Kd.R_below (by (with_reducible repeat (first | apply Kd.R_alloc | apply Kd.R_drewN | apply Kd.R_drew)); exact HO_267.out) hb); have n1_ := Aside0.mk (below_step (by repeat (first | (with_reducible first | exact HB.out | apply below_alloc | apply pw_below_drewN | apply below_drew1) | exact HB.out)) hb); clear HO_267; clear HB; have HO_267 := n0_; have HB := n1_; clear n0_ n1_; (try clear hb); (try clear hb2); (try clear hk); (try clear hi)) | ((with_reducible refine gate_callee (f := 6) rfl ?_); refine goesL_ (some 300) rfl rfl Tryd.func6 (by kernel_rfl) rfl #[.string t264, .string a1] rfl (by (try simp only [List.map_toArray, List.map_cons, List.map_nil]); first | done | rfl | (simp only [List.length_drop, List.length_take]; rfl)) ?_; (with_reducible refine (impl_FewestRuns.calls k4 t264 a1 t266 true _ A112.out).mono ?_); rintro e w122 ⟨rfl, hb⟩; refine ⟨_, rfl, ?_⟩; have n0_ := Aside0.mk (Kd.R_below (by (with_reducible repeat (first | apply Kd.R_alloc | apply Kd.R_drewN | apply Kd.R_drew)); exact HO_267.out) hb); have n1_ := Aside0.mk (below_step (by repeat (first | (with_reducible first | exact HB.out | apply below_alloc | apply pw_below_drewN | apply below_drew1) | exact HB.out)) hb); clear HO_267; clear HB; have HO_267 := n0_; have HB := n1_; clear n0_ n1_; (try clear hb); (try clear hb2); (try clear hk); (try clear hi)))
                                          go_meet
                                          case rel => exact ⟨_, H', ⟨by first | exact Nat.le_refl _ | exact Nat.le_of_lt HK4.out | (have := HJ10.out; have := HJ25.out; have := HJ83.out; have := HK4.out; omega)⟩, ⟨by repeat (first | (with_reducible first | exact HB.out | apply below_alloc | apply pw_below_drewN | apply below_drew1) | exact HB.out)⟩⟩
                                    · replace c114 := Bool.eq_false_iff.mpr c114
                                      subst c114
                                      rw [if_neg (show ¬ (false = true) by decide)] at H
                                      exact absurd (hrt.symm.trans (Option.some.inj H).symm) (by decide)
                                  · replace c113 := Bool.eq_false_iff.mpr c113
                                    subst c113
                                    rw [if_neg (show ¬ (false = true) by decide)] at H
                                    exact absurd (hrt.symm.trans (Option.some.inj H).symm) (by decide)
                                · rw [if_neg c110] at H
                                  have c110b0 : decide (1 < (a0.size : Int)) = false := decide_eq_false c110
                                  have c110b1 : decide (1 < a0.size) = false := decide_eq_false (by omega)
                                  clear c110
                                  have H' := Aside0.mk H
                                  clear H
                                  go_wp2
                                  go_meet
                                  case rel => exact ⟨_, H', ⟨by first | exact Nat.le_refl _ | exact Nat.le_of_lt HK4.out | (have := HJ10.out; have := HJ25.out; have := HJ83.out; have := HK4.out; omega)⟩, ⟨by repeat (first | (with_reducible first | exact HB.out | apply below_alloc | apply pw_below_drewN | apply below_drew1) | exact HB.out)⟩⟩
                              · rw [if_neg c109] at H
                                have c109b0 : (x41_4.toList == a1.toList) = false := beq_eq_false_iff_ne.mpr c109
                                have c109b1 : (x41_4.toList != a1.toList) = true := bne_iff_ne.mpr c109
                                exact absurd (hrt.symm.trans (Option.some.inj H).symm) (by decide)
                · replace c81 := Bool.eq_false_iff.mpr c81
                  subst c81
                  rw [if_neg (show ¬ (false = true) by decide)] at H
                  have H' := Aside0.mk H
                  clear H
                  go_wp2
                  go_meet
                  case rel => exact ⟨_, H', ⟨by first | exact Nat.le_refl _ | (have := HJ10.out; have := HJ25.out; omega)⟩, ⟨by repeat (first | (with_reducible first | exact HB.out | apply below_alloc | apply pw_below_drewN | apply below_drew1) | exact HB.out)⟩⟩
              case rest => as_aux_lemma =>
                clear HC80
                (try clear c1); (try clear p2); (try clear q2); (try clear hx2); (try clear c3); (try clear c4); (try clear c5); (try clear c6); (try clear p6); (try clear c7); (try clear c8); (try clear c9); (try clear c10); (try clear c11); (try clear c12); (try clear c12b0); (try clear c12b1); (try clear c13); (try clear c13b0); (try clear c13b1); (try clear c14); (try clear c14b0); (try clear c14b1); (try clear c15); (try clear c15b0); (try clear c15b1); (try clear c16); (try clear c16b0); (try clear c16b1); (try clear c17); (try clear c18); (try clear p26); (try clear q26); (try clear hx26); (try clear c35); (try clear c35b0); (try clear c35b1); (try clear c35b2); (try clear c37); (try clear c38); (try clear c38b0); (try clear c38b1); (try clear c38b2); (try clear c41); (try clear c41b0); (try clear c41b1); (try clear c42); (try clear c42b0); (try clear c42b1); (try clear c42b2); (try clear c46); (try clear c47); (try clear c47b0); (try clear c47b1); (try clear c47b2); (try clear c52); (try clear c52b0); (try clear c52b1); (try clear c53); (try clear c53b0); (try clear c53b1); (try clear c53b2); (try clear c58); (try clear c58b0); (try clear c58b1); (try clear c58b2); (try clear p64); (try clear c79); (try clear c81); (try clear c87); (try clear c88); (try clear c88b0); (try clear c88b1); (try clear c89); (try clear c89b0); (try clear c89b1); (try clear c90); (try clear c91); (try clear c91b0); (try clear c92); (try clear c92b0); (try clear c92b1); (try clear c94); (try clear c95); (try clear c95b0); (try clear c100); (try clear c102); (try clear c102b0); (try clear c103); (try clear c103b0); (try clear c104); (try clear c104b0); (try clear c106); (try clear c109); (try clear c109b0); (try clear c109b1); (try clear c110); (try clear c110b0); (try clear c110b1); (try clear c113); (try clear c114); (try clear c115); (try clear c115b0); (try clear c118); (try clear c118b0); (try clear hx261_0); (try clear p2); (try clear p261); (try clear p6); (try clear p64); (try clear q261)
                obtain ⟨kq, HA, HJ79, HB⟩ := hcut
                cases kq with
                | zero => exact absurd HA.out (by simp [laws_FnOrdersTurnOfAll.j4])
                | succ kj79 =>
                  have H := HA.out
                  clear HA
                  simp only [laws_FnOrdersTurnOfAll.j4] at H
                  replace H := Option.bind_eq_some_iff.mp H
                  obtain ⟨⟨t268, t269⟩, A1270, H⟩ := H
                  (try dsimp only at H)
                  have A127 := Aside0.mk A1270
                  clear A1270
                  replace H := Option.bind_eq_some_iff.mp H
                  obtain ⟨⟨t270, t271⟩, A1280, H⟩ := H
                  (try dsimp only at H)
                  have A128 := Aside0.mk A1280
                  clear A1280
                  replace H := Option.bind_eq_some_iff.mp H
                  obtain ⟨⟨t272, t273⟩, A1290, H⟩ := H
                  (try dsimp only at H)
                  have A129 := Aside0.mk A1290
                  clear A1290
                  replace H := Option.bind_eq_some_iff.mp H
                  obtain ⟨⟨t274, t275⟩, A1300, H⟩ := H
                  (try dsimp only at H)
                  have A130 := Aside0.mk A1300
                  clear A1300
                  replace H := Option.bind_eq_some_iff.mp H
                  obtain ⟨⟨t276, t277⟩, A1310, H⟩ := H
                  (try dsimp only at H)
                  have A131 := Aside0.mk A1310
                  clear A1310
                  replace H := Option.bind_eq_some_iff.mp H
                  obtain ⟨⟨t278, t279⟩, A1320, H⟩ := H
                  (try dsimp only at H)
                  have A132 := Aside0.mk A1320
                  clear A1320
                  replace H := Option.bind_eq_some_iff.mp H
                  obtain ⟨⟨t280, t281⟩, A1330, H⟩ := H
                  (try dsimp only at H)
                  have A133 := Aside0.mk A1330
                  clear A1330
                  replace H := Option.bind_eq_some_iff.mp H
                  obtain ⟨⟨t282, t283⟩, A1340, H⟩ := H
                  (try dsimp only at H)
                  have A134 := Aside0.mk A1340
                  clear A1340
                  replace H := Option.bind_eq_some_iff.mp H
                  obtain ⟨⟨t284, t285⟩, A1350, H⟩ := H
                  (try dsimp only at H)
                  have A135 := Aside0.mk A1350
                  clear A1350
                  replace H := Option.bind_eq_some_iff.mp H
                  obtain ⟨⟨t286, t287⟩, A1360, H⟩ := H
                  (try dsimp only at H)
                  have A136 := Aside0.mk A1360
                  clear A1360
                  have HAS_431 := Aside0.mk (fun hz : t269 = true => turnRun_row A127.out hz)
                  have HAS_453 := Aside0.mk (fun hz : t273 = true => turnFirst_row A129.out hz)
                  have HAS_470 := Aside0.mk (fun hz : t277 = true => turnAround_row A131.out hz)
                  have HC137 := Aside0.mk H
                  clear H
                  go_upto_region 44 with (first | ((with_reducible refine gate_callee (f := 18) rfl ?_); refine goesL_ (some 325) rfl rfl Tryd.func18 (by kernel_rfl) rfl #[.string a2, .int .i64 a3, .int .i64 a4] rfl (by (try simp only [List.map_toArray, List.map_cons, List.map_nil]); first | done | rfl | (simp only [List.length_drop, List.length_take]; rfl)) ?_; (with_reducible refine (impl_TurnRun.calls a2 a3 a4 t268 t269 _ A127.out).mono ?_); rintro e w138 ⟨rfl, hb⟩; refine ⟨_, rfl, ?_⟩; have n0_ := Aside0.mk (below_step (by repeat (first | (with_reducible first | exact HB.out | apply below_alloc | apply pw_below_drewN | apply below_drew1) | exact HB.out)) hb); clear HB; have HB := n0_; clear n0_; (try clear hb); (try clear hb2); (try clear hk); (try clear hi)) | ((with_reducible refine gate_callee (f := 19) rfl ?_); refine goesL_ (some 332) rfl rfl Tryd.func19 (by kernel_rfl) rfl #[.string a2, .int .i64 a3, .int .i64 a4] rfl (by (try simp only [List.map_toArray, List.map_cons, List.map_nil]); first | done | rfl | (simp only [List.length_drop, List.length_take]; rfl)) ?_; (with_reducible refine (spec_TurnRun.calls kj79 a2 a3 a4 t270 t271 _ A128.out).mono ?_); rintro e w' ⟨rfl, ⟨nd, rfl⟩⟩; refine ⟨_, rfl, ?_⟩) | ((with_reducible refine gate_callee (f := 17) rfl ?_); refine goesL_ (some 338) rfl rfl Tryd.func17 (by kernel_rfl) rfl #[.string a5, .int .i64 a6] rfl (by (try simp only [List.map_toArray, List.map_cons, List.map_nil]); first | done | rfl | (simp only [List.length_drop, List.length_take]; rfl)) ?_; (with_reducible refine (impl_TurnFirst.calls a5 a6 t272 t273 _ A129.out).mono ?_); rintro e w139 ⟨rfl, hb⟩; refine ⟨_, rfl, ?_⟩; have n0_ := Aside0.mk (below_step (by repeat (first | (with_reducible first | exact HB.out | apply below_alloc | apply pw_below_drewN | apply below_drew1) | exact HB.out)) hb); clear HB; have HB := n0_; clear n0_; (try clear hb); (try clear hb2); (try clear hk); (try clear hi)) | ((with_reducible refine gate_callee (f := 20) rfl ?_); refine goesL_ (some 344) rfl rfl Tryd.func20 (by kernel_rfl) rfl #[.string a5, .int .i64 a6] rfl (by (try simp only [List.map_toArray, List.map_cons, List.map_nil]); first | done | rfl | (simp only [List.length_drop, List.length_take]; rfl)) ?_; (with_reducible refine (spec_TurnFirst.calls kj79 a5 a6 t274 t275 _ A130.out).mono ?_); rintro e w' ⟨rfl, ⟨nd, rfl⟩⟩; refine ⟨_, rfl, ?_⟩) | ((with_reducible refine gate_callee (f := 21) rfl ?_); refine goesL_ (some 350) rfl rfl Tryd.func21 (by kernel_rfl) rfl #[.string a5, .int .i64 a6] rfl (by (try simp only [List.map_toArray, List.map_cons, List.map_nil]); first | done | rfl | (simp only [List.length_drop, List.length_take]; rfl)) ?_; (with_reducible refine (impl_TurnAround.calls a5 a6 t276 t277 _ A131.out).mono ?_); rintro e w140 ⟨rfl, hb⟩; refine ⟨_, rfl, ?_⟩; have n0_ := Aside0.mk (below_step (by repeat (first | (with_reducible first | exact HB.out | apply below_alloc | apply pw_below_drewN | apply below_drew1) | exact HB.out)) hb); clear HB; have HB := n0_; clear n0_; (try clear hb); (try clear hb2); (try clear hk); (try clear hi)) | ((with_reducible refine gate_callee (f := 22) rfl ?_); refine goesL_ (some 356) rfl rfl Tryd.func22 (by kernel_rfl) rfl #[.string a5, .int .i64 a6] rfl (by (try simp only [List.map_toArray, List.map_cons, List.map_nil]); first | done | rfl | (simp only [List.length_drop, List.length_take]; rfl)) ?_; (with_reducible refine (spec_TurnAround.calls kj79 a5 a6 t278 t279 _ A132.out).mono ?_); rintro e w' ⟨rfl, ⟨nd, rfl⟩⟩; refine ⟨_, rfl, ?_⟩) | ((with_reducible refine gate_callee (f := 14) rfl ?_); refine goesL_ (some 362) rfl rfl Tryd.func14 (by kernel_rfl) rfl #[.string a7, .slice A8 l8.length c8] rfl (by (try simp only [List.map_toArray, List.map_cons, List.map_nil]); first | done | rfl | (simp only [List.length_drop, List.length_take]; rfl)) ?_; (with_reducible refine (impl_PlayRuns.calls kj79 a7 _ _ l8 t280 t281 _ ?side1 ?side2 A133.out).mono ?_); (case side1 => repeat (first | exact (Kd.C_below HR8.out (by repeat (first | (with_reducible first | exact HB.out | apply below_alloc | apply pw_below_drewN | apply below_drew1) | exact HB.out))) | (with_reducible refine Kd.C_alloc ?_ _) | (with_reducible refine Kd.C_drewN ?_ _) | (with_reducible refine Kd.C_drew ?_))); (case side2 => exact HC8.out); rintro e w141 ⟨rfl, hb⟩; refine ⟨_, rfl, ?_⟩; have n0_ := Aside0.mk (below_step (by repeat (first | (with_reducible first | exact HB.out | apply below_alloc | apply pw_below_drewN | apply below_drew1) | exact HB.out)) hb); clear HB; have HB := n0_; clear n0_; (try clear hb); (try clear hb2); (try clear hk); (try clear hi)) | ((with_reducible refine gate_callee (f := 23) rfl ?_); refine goesL_ (some 368) rfl rfl Tryd.func23 (by kernel_rfl) rfl #[.string a7, .slice A8 l8.length c8] rfl (by (try simp only [List.map_toArray, List.map_cons, List.map_nil]); first | done | rfl | (simp only [List.length_drop, List.length_take]; rfl)) ?_; (with_reducible refine (spec_PlayRuns.calls kj79 a7 _ _ l8 t282 t283 _ ?side1 ?side2 A134.out).mono ?_); (case side1 => repeat (first | exact (Kd.C_below HR8.out HB.out) | (with_reducible refine Kd.C_alloc ?_ _) | (with_reducible refine Kd.C_drewN ?_ _) | (with_reducible refine Kd.C_drew ?_))); (case side2 => exact HC8.out); rintro e w' ⟨rfl, ⟨nd, rfl⟩⟩; refine ⟨_, rfl, ?_⟩) | ((with_reducible refine gate_callee (f := 15) rfl ?_); refine goesL_ (some 373) rfl rfl Tryd.func15 (by kernel_rfl) rfl #[.int .i64 a9] rfl (by (try simp only [List.map_toArray, List.map_cons, List.map_nil]); first | done | rfl | (simp only [List.length_drop, List.length_take]; rfl)) ?_; (with_reducible refine (impl_MostRuns.calls a9 t284 t285 _ A135.out).mono ?_); rintro e w' ⟨rfl, ⟨nd, rfl⟩⟩; refine ⟨_, rfl, ?_⟩) | ((with_reducible refine gate_callee (f := 24) rfl ?_); refine goesL_ (some 378) rfl rfl Tryd.func24 (by kernel_rfl) rfl #[.int .i64 a9] rfl (by (try simp only [List.map_toArray, List.map_cons, List.map_nil]); first | done | rfl | (simp only [List.length_drop, List.length_take]; rfl)) ?_; (with_reducible refine (spec_MostRuns.calls a9 t286 t287 _ A136.out).mono ?_); rintro e w' ⟨rfl, ⟨nd, rfl⟩⟩; refine ⟨_, rfl, ?_⟩))
                  (try simp only [Act.put, List.setIfInBounds_toArray, List.set_cons_zero, List.set_cons_succ])
                  go_cut [428] from 428 to 428 (fun v428 wc => ∃ (kq : Nat) (x428_136 : Bool), v428 = .bool x428_136 ∧ Aside0 (laws_FnOrdersTurnOfAll.j5 kq a2 a3 a4 a5 a6 a7 l8 t268 t269 t272 t273 t276 t277 t280 t281 x428_136 = some r) ∧ Aside0 (kq ≤ kj79) ∧ Aside0 (Below w.heap.size w wc))
                  case first => as_aux_lemma =>
                    have H := HC137.out
                    clear HC137
                    by_cases c142 : (t269 != t271) = true
                    · rw [if_pos c142] at H
                      have c142b0 : (t269 != t271) = true := c142
                      (try (have c142b1 : decide (t269 = t271) = false := by simpa using c142))
                      (try (have c142b2 : (t269 == t271) = false := by simpa using c142))
                      (try (have c142b3 : ¬ (t269 = t271) := by simpa using c142))
                      clear c142
                      (first | rw [c142b0] | (simp only [i64_w, i32_w]; rw [c142b0]) | skip)
                      exact absurd (hrt.symm.trans (laws_FnOrdersTurnOfAll.j5_false H)) (by decide)
                    · rw [if_neg c142] at H
                      have c142b0 : (t269 != t271) = false := by simpa using c142
                      (try (have c142b1 : decide (t269 = t271) = true := by simpa using c142))
                      (try (have c142b2 : (t269 == t271) = true := by simpa using c142))
                      clear c142
                      (first | rw [c142b0] | (simp only [i64_w, i32_w]; rw [c142b0]) | skip)
                      by_cases c143 : t268.toList = t270.toList
                      · rw [if_pos c143] at H
                        have c143b0 : (t268.toList == t270.toList) = true := beq_iff_eq.mpr c143
                        have c143b1 : (t268.toList != t270.toList) = false := bne_eq_false_iff_eq.mpr c143
                        clear c143
                        by_cases c144 : (t273 != t275) = true
                        · rw [if_pos c144] at H
                          have c144b0 : (t273 != t275) = true := c144
                          (try (have c144b1 : decide (t273 = t275) = false := by simpa using c144))
                          (try (have c144b2 : (t273 == t275) = false := by simpa using c144))
                          (try (have c144b3 : ¬ (t273 = t275) := by simpa using c144))
                          clear c144
                          exact absurd (hrt.symm.trans (laws_FnOrdersTurnOfAll.j5_false H)) (by decide)
                        · rw [if_neg c144] at H
                          have c144b0 : (t273 != t275) = false := by simpa using c144
                          (try (have c144b1 : decide (t273 = t275) = true := by simpa using c144))
                          (try (have c144b2 : (t273 == t275) = true := by simpa using c144))
                          clear c144
                          by_cases c145 : t272.toList = t274.toList
                          · rw [if_pos c145] at H
                            have c145b0 : (t272.toList == t274.toList) = true := beq_iff_eq.mpr c145
                            have c145b1 : (t272.toList != t274.toList) = false := bne_eq_false_iff_eq.mpr c145
                            clear c145
                            by_cases c146 : (t277 != t279) = true
                            · rw [if_pos c146] at H
                              have c146b0 : (t277 != t279) = true := c146
                              (try (have c146b1 : decide (t277 = t279) = false := by simpa using c146))
                              (try (have c146b2 : (t277 == t279) = false := by simpa using c146))
                              (try (have c146b3 : ¬ (t277 = t279) := by simpa using c146))
                              clear c146
                              exact absurd (hrt.symm.trans (laws_FnOrdersTurnOfAll.j5_false H)) (by decide)
                            · rw [if_neg c146] at H
                              have c146b0 : (t277 != t279) = false := by simpa using c146
                              (try (have c146b1 : decide (t277 = t279) = true := by simpa using c146))
                              (try (have c146b2 : (t277 == t279) = true := by simpa using c146))
                              clear c146
                              by_cases c147 : t276.toList = t278.toList
                              · rw [if_pos c147] at H
                                have c147b0 : (t276.toList == t278.toList) = true := beq_iff_eq.mpr c147
                                have c147b1 : (t276.toList != t278.toList) = false := bne_eq_false_iff_eq.mpr c147
                                clear c147
                                by_cases c148 : (t281 != t283) = true
                                · rw [if_pos c148] at H
                                  have c148b0 : (t281 != t283) = true := c148
                                  (try (have c148b1 : decide (t281 = t283) = false := by simpa using c148))
                                  (try (have c148b2 : (t281 == t283) = false := by simpa using c148))
                                  (try (have c148b3 : ¬ (t281 = t283) := by simpa using c148))
                                  clear c148
                                  exact absurd (hrt.symm.trans (laws_FnOrdersTurnOfAll.j5_false H)) (by decide)
                                · rw [if_neg c148] at H
                                  have c148b0 : (t281 != t283) = false := by simpa using c148
                                  (try (have c148b1 : decide (t281 = t283) = true := by simpa using c148))
                                  (try (have c148b2 : (t281 == t283) = true := by simpa using c148))
                                  clear c148
                                  by_cases c149 : t280.toList = t282.toList
                                  · rw [if_pos c149] at H
                                    have c149b0 : (t280.toList == t282.toList) = true := beq_iff_eq.mpr c149
                                    have c149b1 : (t280.toList != t282.toList) = false := bne_eq_false_iff_eq.mpr c149
                                    clear c149
                                    by_cases c150 : (t285 != t287) = true
                                    · rw [if_pos c150] at H
                                      have c150b0 : (t285 != t287) = true := c150
                                      (try (have c150b1 : decide (t285 = t287) = false := by simpa using c150))
                                      (try (have c150b2 : (t285 == t287) = false := by simpa using c150))
                                      (try (have c150b3 : ¬ (t285 = t287) := by simpa using c150))
                                      clear c150
                                      exact absurd (hrt.symm.trans (laws_FnOrdersTurnOfAll.j5_false H)) (by decide)
                                    · rw [if_neg c150] at H
                                      have c150b0 : (t285 != t287) = false := by simpa using c150
                                      (try (have c150b1 : decide (t285 = t287) = true := by simpa using c150))
                                      (try (have c150b2 : (t285 == t287) = true := by simpa using c150))
                                      clear c150
                                      cases cq_ : (t284 != t286) with
                                      | true =>
                                        rw [cq_] at H
                                        exact absurd (hrt.symm.trans (laws_FnOrdersTurnOfAll.j5_false H)) (by decide)
                                      | false =>
                                        rw [cq_] at H
                                        (try (have cq1_ : decide (t284 = t286) = true := by simpa using cq_))
                                        (try (have cq2_ : (t284 == t286) = true := by simpa using cq_))
                                        have H' := Aside0.mk H
                                        clear H
                                        go_wp2
                                        go_meet
                                        case rel => exact ⟨_, (false), (by first | rfl | (simp; done) | (simp [*]; done) | (simp [*]; first | exact bx1 _ _ | exact bx2 _ _ | exact (bx1 _ _).symm | exact (bx2 _ _).symm | exact bx3 _ _ | exact bx4 _ _)), H', ⟨by first | exact Nat.le_refl _ | (have := HJ10.out; have := HJ25.out; have := HJ79.out; omega)⟩, ⟨by repeat (first | (with_reducible first | exact HB.out | apply below_alloc | apply pw_below_drewN | apply below_drew1) | exact HB.out)⟩⟩
                                  · rw [if_neg c149] at H
                                    have c149b0 : (t280.toList == t282.toList) = false := beq_eq_false_iff_ne.mpr c149
                                    have c149b1 : (t280.toList != t282.toList) = true := bne_iff_ne.mpr c149
                                    exact absurd (hrt.symm.trans (laws_FnOrdersTurnOfAll.j5_false H)) (by decide)
                              · rw [if_neg c147] at H
                                have c147b0 : (t276.toList == t278.toList) = false := beq_eq_false_iff_ne.mpr c147
                                have c147b1 : (t276.toList != t278.toList) = true := bne_iff_ne.mpr c147
                                exact absurd (hrt.symm.trans (laws_FnOrdersTurnOfAll.j5_false H)) (by decide)
                          · rw [if_neg c145] at H
                            have c145b0 : (t272.toList == t274.toList) = false := beq_eq_false_iff_ne.mpr c145
                            have c145b1 : (t272.toList != t274.toList) = true := bne_iff_ne.mpr c145
                            exact absurd (hrt.symm.trans (laws_FnOrdersTurnOfAll.j5_false H)) (by decide)
                      · rw [if_neg c143] at H
                        have c143b0 : (t268.toList == t270.toList) = false := beq_eq_false_iff_ne.mpr c143
                        have c143b1 : (t268.toList != t270.toList) = true := bne_iff_ne.mpr c143
                        exact absurd (hrt.symm.trans (laws_FnOrdersTurnOfAll.j5_false H)) (by decide)
                  case rest => as_aux_lemma =>
                    clear HC137
                    (try clear c1); (try clear c2); (try clear p2); (try clear q2); (try clear hx2); (try clear c3); (try clear c4); (try clear c5); (try clear c6); (try clear p6); (try clear c7); (try clear c8); (try clear c9); (try clear c10); (try clear c11); (try clear c12); (try clear c12b0); (try clear c12b1); (try clear c13); (try clear c13b0); (try clear c13b1); (try clear c14); (try clear c14b0); (try clear c14b1); (try clear c15); (try clear c15b0); (try clear c15b1); (try clear c16); (try clear c16b0); (try clear c16b1); (try clear c17); (try clear c18); (try clear c19); (try clear c20); (try clear c21); (try clear c22); (try clear c23); (try clear c24); (try clear p26); (try clear q26); (try clear hx26); (try clear c35); (try clear c35b0); (try clear c35b1); (try clear c35b2); (try clear c37); (try clear c38); (try clear c38b0); (try clear c38b1); (try clear c38b2); (try clear c41); (try clear c41b0); (try clear c41b1); (try clear c42); (try clear c42b0); (try clear c42b1); (try clear c42b2); (try clear c46); (try clear c47); (try clear c47b0); (try clear c47b1); (try clear c47b2); (try clear c52); (try clear c52b0); (try clear c52b1); (try clear c53); (try clear c53b0); (try clear c53b1); (try clear c53b2); (try clear c58); (try clear c58b0); (try clear c58b1); (try clear c58b2); (try clear p64); (try clear c79); (try clear c81); (try clear c87); (try clear c88); (try clear c88b0); (try clear c88b1); (try clear c89); (try clear c89b0); (try clear c89b1); (try clear c90); (try clear c91); (try clear c91b0); (try clear c92); (try clear c92b0); (try clear c92b1); (try clear c94); (try clear c95); (try clear c95b0); (try clear c100); (try clear c102); (try clear c102b0); (try clear c103); (try clear c103b0); (try clear c104); (try clear c104b0); (try clear c106); (try clear c109); (try clear c109b0); (try clear c109b1); (try clear c110); (try clear c110b0); (try clear c110b1); (try clear c113); (try clear c114); (try clear c115); (try clear c115b0); (try clear c118); (try clear c118b0); (try clear c142); (try clear c142b0); (try clear c142b1); (try clear c142b2); (try clear c143); (try clear c143b0); (try clear c143b1); (try clear c144); (try clear c144b0); (try clear c144b1); (try clear c144b2); (try clear c145); (try clear c145b0); (try clear c145b1); (try clear c146); (try clear c146b0); (try clear c146b1); (try clear c146b2); (try clear c147); (try clear c147b0); (try clear c147b1); (try clear c148); (try clear c148b0); (try clear c148b1); (try clear c148b2); (try clear c149); (try clear c149b0); (try clear c149b1); (try clear c150); (try clear c150b0); (try clear c150b1); (try clear c150b2); (try clear hx261_0); (try clear p2); (try clear p26); (try clear p261); (try clear p6); (try clear p64); (try clear q2); (try clear q26); (try clear q261)
                    obtain ⟨kq, x428_136, rfl, HA, HJ136, HB⟩ := hcut
                    cases kq with
                    | zero => exact absurd HA.out (by simp [laws_FnOrdersTurnOfAll.j5])
                    | succ kj136 =>
                      have H := HA.out
                      clear HA
                      simp only [laws_FnOrdersTurnOfAll.j5] at H
                      by_cases c151 : x428_136 = true
                      · subst c151
                        rw [if_pos rfl] at H
                        exact absurd (hrt.symm.trans (Option.some.inj H).symm) (by decide)
                      · replace c151 := Bool.eq_false_iff.mpr c151
                        subst c151
                        rw [if_neg (show ¬ (false = true) by decide)] at H
                        have HC152 := Aside0.mk H
                        clear H
                        go_upto_if 429 with (fail)
                        go_cut [] from 429 to 429 (fun wc => ∃ (kq : Nat), Aside0 (laws_FnOrdersTurnOfAll.j7 kq a5 a6 a7 l8 t272 t273 t276 t277 t280 t281 = some r) ∧ Aside0 (kq ≤ kj136) ∧ Aside0 (Below w.heap.size w wc))
                        case first => as_aux_lemma =>
                          have H := HC152.out
                          clear HC152
                          by_cases c153 : t269 = true
                          · subst c153
                            rw [if_pos rfl] at H
                            have H' := Aside0.mk H
                            clear H
                            have HAZ_ := Aside0.mk (HAS_431.out rfl)
                            obtain ⟨KI_431, hKI_431⟩ := iter_place HB
                            go_wp2
                            have hKB_ := Aside0.mk (iter_base HB hKI_431)
                            (try rw [← hKI_431.out])
                            go_loopg [] kj136 (fun kq w' => ∃ (n_ : Nat) (x431_5 : Int), Aside0 (x431_5 = (n_ : Int)) ∧ Aside0 (n_ ≤ a2.size) ∧ Aside0 (laws_FnOrdersTurnOfAll.l1 kq a2 a3 a4 a5 a6 a7 l8 t268 t272 t273 t276 t277 t280 t281 a2 x431_5 = some r) ∧ Aside0 (kq ≤ kj136) ∧ Aside0 (w'.heap[KI_431]? = some (.stringIter a2 n_)) ∧ Aside0 (Below w.heap.size w w'))
                            case atStart => exact ⟨0, 0, ⟨rfl⟩, ⟨Nat.zero_le _⟩, H', ⟨Nat.le_refl _⟩, ⟨by rw [hKI_431.out]; first | exact World.iter_heap _ _ _ | (have := World.iter_heap w a2 0; simpa using this)⟩, ⟨by first | exact below_alloc HB.out _ | exact HB.out.alloc (below_size HB.out) _ | repeat (first | (with_reducible first | exact HB.out | apply below_alloc | apply pw_below_drewN | apply below_drew1) | exact HB.out)⟩⟩
                            case round =>
                              clear H'
                              (try clear c1); (try clear c2); (try clear p2); (try clear q2); (try clear hx2); (try clear c3); (try clear c4); (try clear c5); (try clear c6); (try clear p6); (try clear c7); (try clear c8); (try clear c9); (try clear c10); (try clear c11); (try clear c12); (try clear c12b0); (try clear c12b1); (try clear c13); (try clear c13b0); (try clear c13b1); (try clear c14); (try clear c14b0); (try clear c14b1); (try clear c15); (try clear c15b0); (try clear c15b1); (try clear c16); (try clear c16b0); (try clear c16b1); (try clear c17); (try clear c18); (try clear c19); (try clear c20); (try clear c21); (try clear c22); (try clear c23); (try clear c24); (try clear p26); (try clear q26); (try clear hx26); (try clear c35); (try clear c35b0); (try clear c35b1); (try clear c35b2); (try clear c37); (try clear c38); (try clear c38b0); (try clear c38b1); (try clear c38b2); (try clear c41); (try clear c41b0); (try clear c41b1); (try clear c42); (try clear c42b0); (try clear c42b1); (try clear c42b2); (try clear c46); (try clear c47); (try clear c47b0); (try clear c47b1); (try clear c47b2); (try clear c52); (try clear c52b0); (try clear c52b1); (try clear c53); (try clear c53b0); (try clear c53b1); (try clear c53b2); (try clear c58); (try clear c58b0); (try clear c58b1); (try clear c58b2); (try clear p64); (try clear c79); (try clear c81); (try clear c87); (try clear c88); (try clear c88b0); (try clear c88b1); (try clear c89); (try clear c89b0); (try clear c89b1); (try clear c90); (try clear c91); (try clear c91b0); (try clear c92); (try clear c92b0); (try clear c92b1); (try clear c94); (try clear c95); (try clear c95b0); (try clear c100); (try clear c102); (try clear c102b0); (try clear c103); (try clear c103b0); (try clear c104); (try clear c104b0); (try clear c106); (try clear c109); (try clear c109b0); (try clear c109b1); (try clear c110); (try clear c110b0); (try clear c110b1); (try clear c113); (try clear c114); (try clear c115); (try clear c115b0); (try clear c118); (try clear c118b0); (try clear c142); (try clear c142b0); (try clear c142b1); (try clear c142b2); (try clear c143); (try clear c143b0); (try clear c143b1); (try clear c144); (try clear c144b0); (try clear c144b1); (try clear c144b2); (try clear c145); (try clear c145b0); (try clear c145b1); (try clear c146); (try clear c146b0); (try clear c146b1); (try clear c146b2); (try clear c147); (try clear c147b0); (try clear c147b1); (try clear c148); (try clear c148b0); (try clear c148b1); (try clear c148b2); (try clear c149); (try clear c149b0); (try clear c149b1); (try clear c150); (try clear c150b0); (try clear c150b1); (try clear c150b2); (try clear c151); (try clear c153); (try clear hx261_0); (try clear p2); (try clear p26); (try clear p261); (try clear p6); (try clear p64); (try clear q2); (try clear q26); (try clear q261)
                              obtain ⟨n_, x431_5, hx_, hn_, HA, HK5, HI, HB⟩ := hrel
                              cases gk with
                              | zero => exact absurd HA.out (by simp [laws_FnOrdersTurnOfAll.l1])
                              | succ k5 =>
                                have H := HA.out
                                clear HA
                                simp only [laws_FnOrdersTurnOfAll.l1] at H
                                by_cases c154 : x431_5 < (a2.size : Int)
                                · rw [if_pos c154] at H
                                  have c154b0 : decide (x431_5 < (a2.size : Int)) = true := decide_eq_true c154
                                  clear c154
                                  have hlt_ : n_ < a2.size := iter_lt hx_ c154b0
                                  have hnx : ∀ ty, (Instr.next (.pointer (some ⟨KI_431, 0, none⟩)) true ty).run Tryd.prog wr = .ok (.tuple #[.bool true, .int .i64 x431_5, .int .i32 ((a2[n_]'hlt_).toNat)]) (wr.iterAt KI_431 a2 (n_ + 1)) := fun ty => by rw [hx_.out]; exact Lib.run_next_ascii_at wr KI_431 a2 n_ ty HI.out hlt_ (ascii_at HAZ_.out.2 n_ hlt_)
                                  have hup_ := Aside0.mk (iter_up hx_ hlt_ (Nat.le_trans HAZ_.out.1 (by decide)))
                                  have n0_ := Aside0.mk (Lib.below_iterAt HB.out (k := KI_431) hKB_.out a2 (n_ + 1))
                                  have n1_ := Aside0.mk (Lib.iterAt_heap wr KI_431 a2 n_ (n_ + 1) HI.out)
                                  clear HB HI
                                  have HB := n0_
                                  have HI := n1_
                                  clear n0_ n1_
                                  have hle_ := Aside0.mk (show n_ + 1 ≤ a2.size from hlt_)
                                  (try clear hlt_)
                                  by_cases c155 : 0 ≤ x431_5
                                  · rw [if_pos c155] at H
                                    have c155b0 : decide (0 ≤ x431_5) = true := decide_eq_true c155
                                    clear c155
                                    by_cases c156 : x431_5 < (t268.size : Int)
                                    · rw [if_pos c156] at H
                                      have c156b0 : decide (x431_5 < (t268.size : Int)) = true := decide_eq_true c156
                                      clear c156
                                      by_cases c158 : x431_5 < (a2.size : Int)
                                      · rw [if_pos c158] at H
                                        have c158b0 : decide (x431_5 < (a2.size : Int)) = true := decide_eq_true c158
                                        clear c158
                                        by_cases c160 : x431_5 ≥ a3
                                        · rw [if_pos c160] at H
                                          have c160b0 : decide (a3 ≤ x431_5) = true := decide_eq_true c160
                                          clear c160
                                          by_cases c161 : (((bt t268 x431_5) != (bt a2 x431_5)) != (decide (x431_5 ≤ a4))) = true
                                          · rw [if_pos c161] at H
                                            have c161b0 : (((bt t268 x431_5) != (bt a2 x431_5)) != (decide (x431_5 ≤ a4))) = true := c161
                                            (try (have c161b1 : decide (((bt t268 x431_5) != (bt a2 x431_5)) = (decide (x431_5 ≤ a4))) = false := by simpa using c161))
                                            (try (have c161b2 : (((bt t268 x431_5) != (bt a2 x431_5)) == (decide (x431_5 ≤ a4))) = false := by simpa using c161))
                                            (try (have c161b3 : ¬ (((bt t268 x431_5) != (bt a2 x431_5)) = (decide (x431_5 ≤ a4))) := by simpa using c161))
                                            clear c161
                                            exact absurd (hrt.symm.trans (Option.some.inj H).symm) (by decide)
                                          · rw [if_neg c161] at H
                                            have c161b0 : (((bt t268 x431_5) != (bt a2 x431_5)) != (decide (x431_5 ≤ a4))) = false := by simpa using c161
                                            (try (have c161b1 : decide (((bt t268 x431_5) != (bt a2 x431_5)) = (decide (x431_5 ≤ a4))) = true := by simpa using c161))
                                            (try (have c161b2 : (((bt t268 x431_5) != (bt a2 x431_5)) == (decide (x431_5 ≤ a4))) = true := by simpa using c161))
                                            clear c161
                                            have H' := Aside0.mk H
                                            clear H
                                            try go_wp2
                                            have p157 : 0 ≤ (x431_5 : Int) := of_decide_eq_true (by first | (with_reducible assumption) | assumption)
                                            have q157 : x431_5 < (t268.size : Int) := of_decide_eq_true (by first | (with_reducible assumption) | assumption)
                                            have hx157 := bt_at t268 x431_5
                                            replace p157 := eq_true p157
                                            replace q157 := eq_true q157
                                            have p159 : 0 ≤ (x431_5 : Int) := of_decide_eq_true (by first | (with_reducible assumption) | assumption)
                                            have q159 : x431_5 < (a2.size : Int) := of_decide_eq_true (by first | (with_reducible assumption) | assumption)
                                            have hx159 := bt_at a2 x431_5
                                            replace p159 := eq_true p159
                                            replace q159 := eq_true q159
                                            go_big_quiet (fail)
                                            try go_wp2
                                            go_roundg k5
                                            case measure => first | exact Nat.lt_succ_self _ | (have := HJ10.out; have := HJ25.out; have := HJ79.out; have := HJ136.out; have := HK5.out; omega)
                                            case rel => exact ⟨n_ + 1, wrap64 (x431_5 + 1), hup_, hle_, H', ⟨by first | exact Nat.le_refl _ | exact Nat.le_of_lt HK5.out | (have := HJ10.out; have := HJ25.out; have := HJ79.out; have := HJ136.out; have := HK5.out; omega)⟩, ⟨by repeat (first | exact HI.out | apply iter_drewN | apply iter_drew)⟩, ⟨by repeat (first | (with_reducible first | exact HB.out | apply below_alloc | apply pw_below_drewN | apply below_drew1) | exact HB.out)⟩⟩
                                        · rw [if_neg c160] at H
                                          have c160b0 : decide (a3 ≤ x431_5) = false := decide_eq_false c160
                                          clear c160
                                          by_cases c164 : (((bt t268 x431_5) != (bt a2 x431_5)) != false) = true
                                          · rw [if_pos c164] at H
                                            have c164b0 : (((bt t268 x431_5) != (bt a2 x431_5)) != false) = true := c164
                                            (try (have c164b1 : decide (((bt t268 x431_5) != (bt a2 x431_5)) = false) = false := by simpa using c164))
                                            (try (have c164b2 : (((bt t268 x431_5) != (bt a2 x431_5)) == false) = false := by simpa using c164))
                                            (try (have c164b3 : ¬ (((bt t268 x431_5) != (bt a2 x431_5)) = false) := by simpa using c164))
                                            clear c164
                                            exact absurd (hrt.symm.trans (Option.some.inj H).symm) (by decide)
                                          · rw [if_neg c164] at H
                                            have c164b0 : (((bt t268 x431_5) != (bt a2 x431_5)) != false) = false := by simpa using c164
                                            (try (have c164b1 : decide (((bt t268 x431_5) != (bt a2 x431_5)) = false) = true := by simpa using c164))
                                            (try (have c164b2 : (((bt t268 x431_5) != (bt a2 x431_5)) == false) = true := by simpa using c164))
                                            clear c164
                                            have H' := Aside0.mk H
                                            clear H
                                            try go_wp2
                                            have p157 : 0 ≤ (x431_5 : Int) := of_decide_eq_true (by first | (with_reducible assumption) | assumption)
                                            have q157 : x431_5 < (t268.size : Int) := of_decide_eq_true (by first | (with_reducible assumption) | assumption)
                                            have hx157 := bt_at t268 x431_5
                                            replace p157 := eq_true p157
                                            replace q157 := eq_true q157
                                            have p159 : 0 ≤ (x431_5 : Int) := of_decide_eq_true (by first | (with_reducible assumption) | assumption)
                                            have q159 : x431_5 < (a2.size : Int) := of_decide_eq_true (by first | (with_reducible assumption) | assumption)
                                            have hx159 := bt_at a2 x431_5
                                            replace p159 := eq_true p159
                                            replace q159 := eq_true q159
                                            go_big_quiet (fail)
                                            try go_wp2
                                            go_roundg k5
                                            case measure => first | exact Nat.lt_succ_self _ | (have := HJ10.out; have := HJ25.out; have := HJ79.out; have := HJ136.out; have := HK5.out; omega)
                                            case rel => exact ⟨n_ + 1, wrap64 (x431_5 + 1), hup_, hle_, H', ⟨by first | exact Nat.le_refl _ | exact Nat.le_of_lt HK5.out | (have := HJ10.out; have := HJ25.out; have := HJ79.out; have := HJ136.out; have := HK5.out; omega)⟩, ⟨by repeat (first | exact HI.out | apply iter_drewN | apply iter_drew)⟩, ⟨by repeat (first | (with_reducible first | exact HB.out | apply below_alloc | apply pw_below_drewN | apply below_drew1) | exact HB.out)⟩⟩
                                      · rw [if_neg c158] at H
                                        exact absurd H (by simp)
                                    · rw [if_neg c156] at H
                                      exact absurd H (by simp)
                                  · rw [if_neg c155] at H
                                    exact absurd H (by simp)
                                · rw [if_neg c154] at H
                                  have c154b0 : decide (x431_5 < (a2.size : Int)) = false := decide_eq_false c154
                                  clear c154
                                  have hend_ : ¬ n_ < a2.size := iter_end hx_ c154b0
                                  have hnx : ∀ ty, (Instr.next (.pointer (some ⟨KI_431, 0, none⟩)) true ty).run Tryd.prog wr = _ := fun ty => Lib.run_next_end_at wr KI_431 a2 n_ ty HI.out hend_
                                  have H' := Aside0.mk H
                                  clear H
                                  go_wp2
                                  go_meet
                                  case rel => exact ⟨_, H', ⟨by first | exact Nat.le_refl _ | exact Nat.le_of_lt HK5.out | (have := HJ10.out; have := HJ25.out; have := HJ79.out; have := HJ136.out; have := HK5.out; omega)⟩, ⟨by repeat (first | (with_reducible first | exact HB.out | apply below_alloc | apply pw_below_drewN | apply below_drew1) | exact HB.out)⟩⟩
                          · replace c153 := Bool.eq_false_iff.mpr c153
                            subst c153
                            rw [if_neg (show ¬ (false = true) by decide)] at H
                            have H' := Aside0.mk H
                            clear H
                            go_wp2
                            go_meet
                            case rel => exact ⟨_, H', ⟨by first | exact Nat.le_refl _ | (have := HJ10.out; have := HJ25.out; have := HJ79.out; have := HJ136.out; omega)⟩, ⟨by repeat (first | (with_reducible first | exact HB.out | apply below_alloc | apply pw_below_drewN | apply below_drew1) | exact HB.out)⟩⟩
                        case rest => as_aux_lemma =>
                          clear HC152
                          (try clear c1); (try clear p1); (try clear q1); (try clear hx1); (try clear p2); (try clear p6); (try clear c15); (try clear p15); (try clear q15); (try clear hx15); (try clear c16); (try clear p64); (try clear c153); (try clear c154); (try clear c154b0); (try clear c155); (try clear c156); (try clear p157); (try clear q157); (try clear hx157); (try clear c158); (try clear p159); (try clear q159); (try clear hx159); (try clear c160); (try clear c160b0); (try clear c161); (try clear c161b0); (try clear c161b1); (try clear c161b2); (try clear c164); (try clear c164b0); (try clear c164b1); (try clear c164b2); (try clear p157); (try clear p159); (try clear q157); (try clear q159)
                          obtain ⟨kq, HA, HJ151, HB⟩ := hcut
                          cases kq with
                          | zero => exact absurd HA.out (by simp [laws_FnOrdersTurnOfAll.j7])
                          | succ kj151 =>
                            have H := HA.out
                            clear HA
                            simp only [laws_FnOrdersTurnOfAll.j7] at H
                            have HC167 := Aside0.mk H
                            clear H
                            go_upto_if 451 with (fail)
                            go_cut [] from 451 to 451 (fun wc => ∃ (kq : Nat), Aside0 (laws_FnOrdersTurnOfAll.j9 kq a5 a6 a7 l8 t276 t277 t280 t281 = some r) ∧ Aside0 (kq ≤ kj151) ∧ Aside0 (Below w.heap.size w wc))
                            case first => as_aux_lemma =>
                              have H := HC167.out
                              clear HC167
                              by_cases c168 : t273 = true
                              · subst c168
                                rw [if_pos rfl] at H
                                have H' := Aside0.mk H
                                clear H
                                have HAZ_ := Aside0.mk (HAS_453.out rfl)
                                obtain ⟨KI_453, hKI_453⟩ := iter_place HB
                                go_wp2
                                have hKB_ := Aside0.mk (iter_base HB hKI_453)
                                (try rw [← hKI_453.out])
                                go_loopg [] kj151 (fun kq w' => ∃ (n_ : Nat) (x453_6 : Int), Aside0 (x453_6 = (n_ : Int)) ∧ Aside0 (n_ ≤ a5.size) ∧ Aside0 (laws_FnOrdersTurnOfAll.l2 kq a5 a6 a7 l8 t272 t276 t277 t280 t281 a5 x453_6 = some r) ∧ Aside0 (kq ≤ kj151) ∧ Aside0 (w'.heap[KI_453]? = some (.stringIter a5 n_)) ∧ Aside0 (Below w.heap.size w w'))
                                case atStart => exact ⟨0, 0, ⟨rfl⟩, ⟨Nat.zero_le _⟩, H', ⟨Nat.le_refl _⟩, ⟨by rw [hKI_453.out]; first | exact World.iter_heap _ _ _ | (have := World.iter_heap w a5 0; simpa using this)⟩, ⟨by first | exact below_alloc HB.out _ | exact HB.out.alloc (below_size HB.out) _ | repeat (first | (with_reducible first | exact HB.out | apply below_alloc | apply pw_below_drewN | apply below_drew1) | exact HB.out)⟩⟩
                                case round =>
                                  clear H'
                                  (try clear c1); (try clear p1); (try clear q1); (try clear hx1); (try clear p2); (try clear p6); (try clear c15); (try clear p15); (try clear q15); (try clear hx15); (try clear c16); (try clear p64); (try clear c153); (try clear c154); (try clear c154b0); (try clear c155); (try clear c156); (try clear p157); (try clear q157); (try clear hx157); (try clear c158); (try clear p159); (try clear q159); (try clear hx159); (try clear c160); (try clear c160b0); (try clear c161); (try clear c161b0); (try clear c161b1); (try clear c161b2); (try clear c164); (try clear c164b0); (try clear c164b1); (try clear c164b2); (try clear c168); (try clear p1); (try clear p15); (try clear p157); (try clear p159); (try clear p2); (try clear p6); (try clear p64); (try clear q1); (try clear q15); (try clear q157); (try clear q159)
                                  obtain ⟨n_, x453_6, hx_, hn_, HA, HK6, HI, HB⟩ := hrel
                                  cases gk with
                                  | zero => exact absurd HA.out (by simp [laws_FnOrdersTurnOfAll.l2])
                                  | succ k6 =>
                                    have H := HA.out
                                    clear HA
                                    simp only [laws_FnOrdersTurnOfAll.l2] at H
                                    by_cases c169 : x453_6 < (a5.size : Int)
                                    · rw [if_pos c169] at H
                                      have c169b0 : decide (x453_6 < (a5.size : Int)) = true := decide_eq_true c169
                                      clear c169
                                      have hlt_ : n_ < a5.size := iter_lt hx_ c169b0
                                      have hnx : ∀ ty, (Instr.next (.pointer (some ⟨KI_453, 0, none⟩)) true ty).run Tryd.prog wr = .ok (.tuple #[.bool true, .int .i64 x453_6, .int .i32 ((a5[n_]'hlt_).toNat)]) (wr.iterAt KI_453 a5 (n_ + 1)) := fun ty => by rw [hx_.out]; exact Lib.run_next_ascii_at wr KI_453 a5 n_ ty HI.out hlt_ (ascii_at HAZ_.out.2 n_ hlt_)
                                      have hup_ := Aside0.mk (iter_up hx_ hlt_ (Nat.le_trans HAZ_.out.1 (by decide)))
                                      have n0_ := Aside0.mk (Lib.below_iterAt HB.out (k := KI_453) hKB_.out a5 (n_ + 1))
                                      have n1_ := Aside0.mk (Lib.iterAt_heap wr KI_453 a5 n_ (n_ + 1) HI.out)
                                      clear HB HI
                                      have HB := n0_
                                      have HI := n1_
                                      clear n0_ n1_
                                      have hle_ := Aside0.mk (show n_ + 1 ≤ a5.size from hlt_)
                                      (try clear hlt_)
                                      by_cases c170 : 0 ≤ x453_6
                                      · rw [if_pos c170] at H
                                        have c170b0 : decide (0 ≤ x453_6) = true := decide_eq_true c170
                                        clear c170
                                        by_cases c171 : x453_6 < (t272.size : Int)
                                        · rw [if_pos c171] at H
                                          have c171b0 : decide (x453_6 < (t272.size : Int)) = true := decide_eq_true c171
                                          clear c171
                                          by_cases c173 : x453_6 < (a5.size : Int)
                                          · rw [if_pos c173] at H
                                            have c173b0 : decide (x453_6 < (a5.size : Int)) = true := decide_eq_true c173
                                            clear c173
                                            by_cases c175 : (((bt t272 x453_6) != (bt a5 x453_6)) != (decide (x453_6 < a6))) = true
                                            · rw [if_pos c175] at H
                                              have c175b0 : (((bt t272 x453_6) != (bt a5 x453_6)) != (decide (x453_6 < a6))) = true := c175
                                              (try (have c175b1 : decide (((bt t272 x453_6) != (bt a5 x453_6)) = (decide (x453_6 < a6))) = false := by simpa using c175))
                                              (try (have c175b2 : (((bt t272 x453_6) != (bt a5 x453_6)) == (decide (x453_6 < a6))) = false := by simpa using c175))
                                              (try (have c175b3 : ¬ (((bt t272 x453_6) != (bt a5 x453_6)) = (decide (x453_6 < a6))) := by simpa using c175))
                                              clear c175
                                              exact absurd (hrt.symm.trans (Option.some.inj H).symm) (by decide)
                                            · rw [if_neg c175] at H
                                              have c175b0 : (((bt t272 x453_6) != (bt a5 x453_6)) != (decide (x453_6 < a6))) = false := by simpa using c175
                                              (try (have c175b1 : decide (((bt t272 x453_6) != (bt a5 x453_6)) = (decide (x453_6 < a6))) = true := by simpa using c175))
                                              (try (have c175b2 : (((bt t272 x453_6) != (bt a5 x453_6)) == (decide (x453_6 < a6))) = true := by simpa using c175))
                                              clear c175
                                              have H' := Aside0.mk H
                                              clear H
                                              try go_wp2
                                              have p172 : 0 ≤ (x453_6 : Int) := of_decide_eq_true (by first | (with_reducible assumption) | assumption)
                                              have q172 : x453_6 < (t272.size : Int) := of_decide_eq_true (by first | (with_reducible assumption) | assumption)
                                              have hx172 := bt_at t272 x453_6
                                              replace p172 := eq_true p172
                                              replace q172 := eq_true q172
                                              have p174 : 0 ≤ (x453_6 : Int) := of_decide_eq_true (by first | (with_reducible assumption) | assumption)
                                              have q174 : x453_6 < (a5.size : Int) := of_decide_eq_true (by first | (with_reducible assumption) | assumption)
                                              have hx174 := bt_at a5 x453_6
                                              replace p174 := eq_true p174
                                              replace q174 := eq_true q174
                                              go_big_quiet (fail)
                                              try go_wp2
                                              go_roundg k6
                                              case measure => first | exact Nat.lt_succ_self _ | (have := HJ10.out; have := HJ25.out; have := HJ79.out; have := HJ136.out; have := HJ151.out; have := HK6.out; omega)
                                              case rel => exact ⟨n_ + 1, wrap64 (x453_6 + 1), hup_, hle_, H', ⟨by first | exact Nat.le_refl _ | exact Nat.le_of_lt HK6.out | (have := HJ10.out; have := HJ25.out; have := HJ79.out; have := HJ136.out; have := HJ151.out; have := HK6.out; omega)⟩, ⟨by repeat (first | exact HI.out | apply iter_drewN | apply iter_drew)⟩, ⟨by repeat (first | (with_reducible first | exact HB.out | apply below_alloc | apply pw_below_drewN | apply below_drew1) | exact HB.out)⟩⟩
                                          · rw [if_neg c173] at H
                                            exact absurd H (by simp)
                                        · rw [if_neg c171] at H
                                          exact absurd H (by simp)
                                      · rw [if_neg c170] at H
                                        exact absurd H (by simp)
                                    · rw [if_neg c169] at H
                                      have c169b0 : decide (x453_6 < (a5.size : Int)) = false := decide_eq_false c169
                                      clear c169
                                      have hend_ : ¬ n_ < a5.size := iter_end hx_ c169b0
                                      have hnx : ∀ ty, (Instr.next (.pointer (some ⟨KI_453, 0, none⟩)) true ty).run Tryd.prog wr = _ := fun ty => Lib.run_next_end_at wr KI_453 a5 n_ ty HI.out hend_
                                      have H' := Aside0.mk H
                                      clear H
                                      go_wp2
                                      go_meet
                                      case rel => exact ⟨_, H', ⟨by first | exact Nat.le_refl _ | exact Nat.le_of_lt HK6.out | (have := HJ10.out; have := HJ25.out; have := HJ79.out; have := HJ136.out; have := HJ151.out; have := HK6.out; omega)⟩, ⟨by repeat (first | (with_reducible first | exact HB.out | apply below_alloc | apply pw_below_drewN | apply below_drew1) | exact HB.out)⟩⟩
                              · replace c168 := Bool.eq_false_iff.mpr c168
                                subst c168
                                rw [if_neg (show ¬ (false = true) by decide)] at H
                                have H' := Aside0.mk H
                                clear H
                                go_wp2
                                go_meet
                                case rel => exact ⟨_, H', ⟨by first | exact Nat.le_refl _ | (have := HJ10.out; have := HJ25.out; have := HJ79.out; have := HJ136.out; have := HJ151.out; omega)⟩, ⟨by repeat (first | (with_reducible first | exact HB.out | apply below_alloc | apply pw_below_drewN | apply below_drew1) | exact HB.out)⟩⟩
                            case rest => as_aux_lemma =>
                              clear HC167
                              (try clear c1); (try clear p1); (try clear q1); (try clear hx1); (try clear p2); (try clear p6); (try clear c15); (try clear p15); (try clear q15); (try clear hx15); (try clear c16); (try clear c17); (try clear p17); (try clear q17); (try clear hx17); (try clear p64); (try clear c153); (try clear c154); (try clear c154b0); (try clear c155); (try clear c156); (try clear p157); (try clear q157); (try clear hx157); (try clear c158); (try clear p159); (try clear q159); (try clear hx159); (try clear c160); (try clear c160b0); (try clear c161); (try clear c161b0); (try clear c161b1); (try clear c161b2); (try clear c164); (try clear c164b0); (try clear c164b1); (try clear c164b2); (try clear c168); (try clear c169); (try clear c169b0); (try clear c170); (try clear c170b0); (try clear c171); (try clear c171b0); (try clear p172); (try clear q172); (try clear hx172); (try clear c173); (try clear c173b0); (try clear p174); (try clear q174); (try clear hx174); (try clear c175); (try clear c175b0); (try clear c175b1); (try clear c175b2); (try clear p1); (try clear p15); (try clear p157); (try clear p159); (try clear p172); (try clear p174); (try clear p2); (try clear p6); (try clear p64); (try clear q1); (try clear q15); (try clear q157); (try clear q159); (try clear q172); (try clear q174)
                              obtain ⟨kq, HA, HJ166, HB⟩ := hcut
                              cases kq with
                              | zero => exact absurd HA.out (by simp [laws_FnOrdersTurnOfAll.j9])
                              | succ kj166 =>
                                have H := HA.out
                                clear HA
                                simp only [laws_FnOrdersTurnOfAll.j9] at H
                                have HC178 := Aside0.mk H
                                clear H
                                go_upto_if 468 with (fail)
                                go_cut [] from 468 to 468 (fun wc => ∃ (kq : Nat), Aside0 (laws_FnOrdersTurnOfAll.j11 kq a7 l8 t280 t281 = some r) ∧ Aside0 (kq ≤ kj166) ∧ Aside0 (Below w.heap.size w wc))
                                case first => as_aux_lemma =>
                                  have H := HC178.out
                                  clear HC178
                                  by_cases c179 : t277 = true
                                  · subst c179
                                    rw [if_pos rfl] at H
                                    have H' := Aside0.mk H
                                    clear H
                                    have HAZ_ := Aside0.mk (HAS_470.out rfl)
                                    obtain ⟨KI_470, hKI_470⟩ := iter_place HB
                                    go_wp2
                                    have hKB_ := Aside0.mk (iter_base HB hKI_470)
                                    (try rw [← hKI_470.out])
                                    go_loopg [] kj166 (fun kq w' => ∃ (n_ : Nat) (x470_7 : Int), Aside0 (x470_7 = (n_ : Int)) ∧ Aside0 (n_ ≤ a5.size) ∧ Aside0 (laws_FnOrdersTurnOfAll.l3 kq a5 a6 a7 l8 t276 t280 t281 a5 x470_7 = some r) ∧ Aside0 (kq ≤ kj166) ∧ Aside0 (w'.heap[KI_470]? = some (.stringIter a5 n_)) ∧ Aside0 (Below w.heap.size w w'))
                                    case atStart => exact ⟨0, 0, ⟨rfl⟩, ⟨Nat.zero_le _⟩, H', ⟨Nat.le_refl _⟩, ⟨by rw [hKI_470.out]; first | exact World.iter_heap _ _ _ | (have := World.iter_heap w a5 0; simpa using this)⟩, ⟨by first | exact below_alloc HB.out _ | exact HB.out.alloc (below_size HB.out) _ | repeat (first | (with_reducible first | exact HB.out | apply below_alloc | apply pw_below_drewN | apply below_drew1) | exact HB.out)⟩⟩
                                    case round =>
                                      clear H'
                                      (try clear c1); (try clear p1); (try clear q1); (try clear hx1); (try clear p2); (try clear p6); (try clear c15); (try clear p15); (try clear q15); (try clear hx15); (try clear c16); (try clear c17); (try clear p17); (try clear q17); (try clear hx17); (try clear p64); (try clear c153); (try clear c154); (try clear c154b0); (try clear c155); (try clear c156); (try clear p157); (try clear q157); (try clear hx157); (try clear c158); (try clear p159); (try clear q159); (try clear hx159); (try clear c160); (try clear c160b0); (try clear c161); (try clear c161b0); (try clear c161b1); (try clear c161b2); (try clear c164); (try clear c164b0); (try clear c164b1); (try clear c164b2); (try clear c168); (try clear c169); (try clear c169b0); (try clear c170); (try clear c170b0); (try clear c171); (try clear c171b0); (try clear p172); (try clear q172); (try clear hx172); (try clear c173); (try clear c173b0); (try clear p174); (try clear q174); (try clear hx174); (try clear c175); (try clear c175b0); (try clear c175b1); (try clear c175b2); (try clear c179); (try clear p1); (try clear p15); (try clear p157); (try clear p159); (try clear p17); (try clear p172); (try clear p174); (try clear p2); (try clear p6); (try clear p64); (try clear q1); (try clear q15); (try clear q157); (try clear q159); (try clear q17); (try clear q172); (try clear q174)
                                      obtain ⟨n_, x470_7, hx_, hn_, HA, HK7, HI, HB⟩ := hrel
                                      cases gk with
                                      | zero => exact absurd HA.out (by simp [laws_FnOrdersTurnOfAll.l3])
                                      | succ k7 =>
                                        have H := HA.out
                                        clear HA
                                        simp only [laws_FnOrdersTurnOfAll.l3] at H
                                        by_cases c180 : x470_7 < (a5.size : Int)
                                        · rw [if_pos c180] at H
                                          have c180b0 : decide (x470_7 < (a5.size : Int)) = true := decide_eq_true c180
                                          clear c180
                                          have hlt_ : n_ < a5.size := iter_lt hx_ c180b0
                                          have hnx : ∀ ty, (Instr.next (.pointer (some ⟨KI_470, 0, none⟩)) true ty).run Tryd.prog wr = .ok (.tuple #[.bool true, .int .i64 x470_7, .int .i32 ((a5[n_]'hlt_).toNat)]) (wr.iterAt KI_470 a5 (n_ + 1)) := fun ty => by rw [hx_.out]; exact Lib.run_next_ascii_at wr KI_470 a5 n_ ty HI.out hlt_ (ascii_at HAZ_.out.2 n_ hlt_)
                                          have hup_ := Aside0.mk (iter_up hx_ hlt_ (Nat.le_trans HAZ_.out.1 (by decide)))
                                          have n0_ := Aside0.mk (Lib.below_iterAt HB.out (k := KI_470) hKB_.out a5 (n_ + 1))
                                          have n1_ := Aside0.mk (Lib.iterAt_heap wr KI_470 a5 n_ (n_ + 1) HI.out)
                                          clear HB HI
                                          have HB := n0_
                                          have HI := n1_
                                          clear n0_ n1_
                                          have hle_ := Aside0.mk (show n_ + 1 ≤ a5.size from hlt_)
                                          (try clear hlt_)
                                          by_cases c181 : 0 ≤ x470_7
                                          · rw [if_pos c181] at H
                                            have c181b0 : decide (0 ≤ x470_7) = true := decide_eq_true c181
                                            clear c181
                                            by_cases c182 : x470_7 < (t276.size : Int)
                                            · rw [if_pos c182] at H
                                              have c182b0 : decide (x470_7 < (t276.size : Int)) = true := decide_eq_true c182
                                              clear c182
                                              by_cases c184 : x470_7 < (a5.size : Int)
                                              · rw [if_pos c184] at H
                                                have c184b0 : decide (x470_7 < (a5.size : Int)) = true := decide_eq_true c184
                                                clear c184
                                                by_cases c186 : x470_7 ≥ (wrap64 (a6 - 1))
                                                · rw [if_pos c186] at H
                                                  have c186b0 : decide ((wrap64 (a6 - 1)) ≤ x470_7) = true := decide_eq_true c186
                                                  clear c186
                                                  by_cases c187 : (((bt t276 x470_7) != (bt a5 x470_7)) != (decide (x470_7 ≤ (wrap64 (a6 + 1))))) = true
                                                  · rw [if_pos c187] at H
                                                    have c187b0 : (((bt t276 x470_7) != (bt a5 x470_7)) != (decide (x470_7 ≤ (wrap64 (a6 + 1))))) = true := c187
                                                    (try (have c187b1 : decide (((bt t276 x470_7) != (bt a5 x470_7)) = (decide (x470_7 ≤ (wrap64 (a6 + 1))))) = false := by simpa using c187))
                                                    (try (have c187b2 : (((bt t276 x470_7) != (bt a5 x470_7)) == (decide (x470_7 ≤ (wrap64 (a6 + 1))))) = false := by simpa using c187))
                                                    (try (have c187b3 : ¬ (((bt t276 x470_7) != (bt a5 x470_7)) = (decide (x470_7 ≤ (wrap64 (a6 + 1))))) := by simpa using c187))
                                                    clear c187
                                                    exact absurd (hrt.symm.trans (Option.some.inj H).symm) (by decide)
                                                  · rw [if_neg c187] at H
                                                    have c187b0 : (((bt t276 x470_7) != (bt a5 x470_7)) != (decide (x470_7 ≤ (wrap64 (a6 + 1))))) = false := by simpa using c187
                                                    (try (have c187b1 : decide (((bt t276 x470_7) != (bt a5 x470_7)) = (decide (x470_7 ≤ (wrap64 (a6 + 1))))) = true := by simpa using c187))
                                                    (try (have c187b2 : (((bt t276 x470_7) != (bt a5 x470_7)) == (decide (x470_7 ≤ (wrap64 (a6 + 1))))) = true := by simpa using c187))
                                                    clear c187
                                                    have H' := Aside0.mk H
                                                    clear H
                                                    try go_wp2
                                                    have p183 : 0 ≤ (x470_7 : Int) := of_decide_eq_true (by first | (with_reducible assumption) | assumption)
                                                    have q183 : x470_7 < (t276.size : Int) := of_decide_eq_true (by first | (with_reducible assumption) | assumption)
                                                    have hx183 := bt_at t276 x470_7
                                                    replace p183 := eq_true p183
                                                    replace q183 := eq_true q183
                                                    have p185 : 0 ≤ (x470_7 : Int) := of_decide_eq_true (by first | (with_reducible assumption) | assumption)
                                                    have q185 : x470_7 < (a5.size : Int) := of_decide_eq_true (by first | (with_reducible assumption) | assumption)
                                                    have hx185 := bt_at a5 x470_7
                                                    replace p185 := eq_true p185
                                                    replace q185 := eq_true q185
                                                    go_big_quiet (fail)
                                                    try go_wp2
                                                    go_roundg k7
                                                    case measure => first | exact Nat.lt_succ_self _ | (have := HJ10.out; have := HJ25.out; have := HJ79.out; have := HJ136.out; have := HJ151.out; have := HJ166.out; have := HK7.out; omega)
                                                    case rel => exact ⟨n_ + 1, wrap64 (x470_7 + 1), hup_, hle_, H', ⟨by first | exact Nat.le_refl _ | exact Nat.le_of_lt HK7.out | (have := HJ10.out; have := HJ25.out; have := HJ79.out; have := HJ136.out; have := HJ151.out; have := HJ166.out; have := HK7.out; omega)⟩, ⟨by repeat (first | exact HI.out | apply iter_drewN | apply iter_drew)⟩, ⟨by repeat (first | (with_reducible first | exact HB.out | apply below_alloc | apply pw_below_drewN | apply below_drew1) | exact HB.out)⟩⟩
                                                · rw [if_neg c186] at H
                                                  have c186b0 : decide ((wrap64 (a6 - 1)) ≤ x470_7) = false := decide_eq_false c186
                                                  clear c186
                                                  by_cases c190 : (((bt t276 x470_7) != (bt a5 x470_7)) != false) = true
                                                  · rw [if_pos c190] at H
                                                    have c190b0 : (((bt t276 x470_7) != (bt a5 x470_7)) != false) = true := c190
                                                    (try (have c190b1 : decide (((bt t276 x470_7) != (bt a5 x470_7)) = false) = false := by simpa using c190))
                                                    (try (have c190b2 : (((bt t276 x470_7) != (bt a5 x470_7)) == false) = false := by simpa using c190))
                                                    (try (have c190b3 : ¬ (((bt t276 x470_7) != (bt a5 x470_7)) = false) := by simpa using c190))
                                                    clear c190
                                                    exact absurd (hrt.symm.trans (Option.some.inj H).symm) (by decide)
                                                  · rw [if_neg c190] at H
                                                    have c190b0 : (((bt t276 x470_7) != (bt a5 x470_7)) != false) = false := by simpa using c190
                                                    (try (have c190b1 : decide (((bt t276 x470_7) != (bt a5 x470_7)) = false) = true := by simpa using c190))
                                                    (try (have c190b2 : (((bt t276 x470_7) != (bt a5 x470_7)) == false) = true := by simpa using c190))
                                                    clear c190
                                                    have H' := Aside0.mk H
                                                    clear H
                                                    try go_wp2
                                                    have p183 : 0 ≤ (x470_7 : Int) := of_decide_eq_true (by first | (with_reducible assumption) | assumption)
                                                    have q183 : x470_7 < (t276.size : Int) := of_decide_eq_true (by first | (with_reducible assumption) | assumption)
                                                    have hx183 := bt_at t276 x470_7
                                                    replace p183 := eq_true p183
                                                    replace q183 := eq_true q183
                                                    have p185 : 0 ≤ (x470_7 : Int) := of_decide_eq_true (by first | (with_reducible assumption) | assumption)
                                                    have q185 : x470_7 < (a5.size : Int) := of_decide_eq_true (by first | (with_reducible assumption) | assumption)
                                                    have hx185 := bt_at a5 x470_7
                                                    replace p185 := eq_true p185
                                                    replace q185 := eq_true q185
                                                    go_big_quiet (fail)
                                                    try go_wp2
                                                    go_roundg k7
                                                    case measure => first | exact Nat.lt_succ_self _ | (have := HJ10.out; have := HJ25.out; have := HJ79.out; have := HJ136.out; have := HJ151.out; have := HJ166.out; have := HK7.out; omega)
                                                    case rel => exact ⟨n_ + 1, wrap64 (x470_7 + 1), hup_, hle_, H', ⟨by first | exact Nat.le_refl _ | exact Nat.le_of_lt HK7.out | (have := HJ10.out; have := HJ25.out; have := HJ79.out; have := HJ136.out; have := HJ151.out; have := HJ166.out; have := HK7.out; omega)⟩, ⟨by repeat (first | exact HI.out | apply iter_drewN | apply iter_drew)⟩, ⟨by repeat (first | (with_reducible first | exact HB.out | apply below_alloc | apply pw_below_drewN | apply below_drew1) | exact HB.out)⟩⟩
                                              · rw [if_neg c184] at H
                                                exact absurd H (by simp)
                                            · rw [if_neg c182] at H
                                              exact absurd H (by simp)
                                          · rw [if_neg c181] at H
                                            exact absurd H (by simp)
                                        · rw [if_neg c180] at H
                                          have c180b0 : decide (x470_7 < (a5.size : Int)) = false := decide_eq_false c180
                                          clear c180
                                          have hend_ : ¬ n_ < a5.size := iter_end hx_ c180b0
                                          have hnx : ∀ ty, (Instr.next (.pointer (some ⟨KI_470, 0, none⟩)) true ty).run Tryd.prog wr = _ := fun ty => Lib.run_next_end_at wr KI_470 a5 n_ ty HI.out hend_
                                          have H' := Aside0.mk H
                                          clear H
                                          go_wp2
                                          go_meet
                                          case rel => exact ⟨_, H', ⟨by first | exact Nat.le_refl _ | exact Nat.le_of_lt HK7.out | (have := HJ10.out; have := HJ25.out; have := HJ79.out; have := HJ136.out; have := HJ151.out; have := HJ166.out; have := HK7.out; omega)⟩, ⟨by repeat (first | (with_reducible first | exact HB.out | apply below_alloc | apply pw_below_drewN | apply below_drew1) | exact HB.out)⟩⟩
                                  · replace c179 := Bool.eq_false_iff.mpr c179
                                    subst c179
                                    rw [if_neg (show ¬ (false = true) by decide)] at H
                                    have H' := Aside0.mk H
                                    clear H
                                    go_wp2
                                    go_meet
                                    case rel => exact ⟨_, H', ⟨by first | exact Nat.le_refl _ | (have := HJ10.out; have := HJ25.out; have := HJ79.out; have := HJ136.out; have := HJ151.out; have := HJ166.out; omega)⟩, ⟨by repeat (first | (with_reducible first | exact HB.out | apply below_alloc | apply pw_below_drewN | apply below_drew1) | exact HB.out)⟩⟩
                                case rest => as_aux_lemma =>
                                  clear HC178
                                  (try clear c1); (try clear p1); (try clear q1); (try clear hx1); (try clear p2); (try clear p6); (try clear c17); (try clear c18); (try clear p18); (try clear q18); (try clear hx18); (try clear c19); (try clear p64); (try clear c179); (try clear c180); (try clear c180b0); (try clear c181); (try clear c182); (try clear p183); (try clear q183); (try clear hx183); (try clear c184); (try clear p185); (try clear q185); (try clear hx185); (try clear c186); (try clear c186b0); (try clear c187); (try clear c187b0); (try clear c187b1); (try clear c187b2); (try clear c190); (try clear c190b0); (try clear c190b1); (try clear c190b2); (try clear p183); (try clear p185); (try clear q183); (try clear q185)
                                  obtain ⟨kq, HA, HJ177, HB⟩ := hcut
                                  cases kq with
                                  | zero => exact absurd HA.out (by simp [laws_FnOrdersTurnOfAll.j11])
                                  | succ kj177 =>
                                    have H := HA.out
                                    clear HA
                                    simp only [laws_FnOrdersTurnOfAll.j11] at H
                                    by_cases c193 : t281 = true
                                    · subst c193
                                      rw [if_pos rfl] at H
                                      have H' := Aside0.mk H
                                      clear H
                                      go_wp2
                                      go_loopg [73, 496] kj177 (fun kq v73 v496 w' => ∃ (x73_8 : ByteArray) (x496_8 : Int), v73 = .string x73_8 ∧ v496 = .int .i64 x496_8 ∧ Aside0 (laws_FnOrdersTurnOfAll.l4 kq t280 x73_8 l8 (l8.length : Int) x496_8 = some r) ∧ Aside0 (kq ≤ kj177) ∧ Aside0 (Below w.heap.size w w'))
                                      case atStart => exact ⟨(a7), (0), (by first | rfl | (simp; done) | (simp [*]; done) | (simp [*]; first | exact bx1 _ _ | exact bx2 _ _ | exact (bx1 _ _).symm | exact (bx2 _ _).symm | exact bx3 _ _ | exact bx4 _ _)), (by first | rfl | (simp; done) | (simp [*]; done) | (simp [*]; first | exact bx1 _ _ | exact bx2 _ _ | exact (bx1 _ _).symm | exact (bx2 _ _).symm | exact bx3 _ _ | exact bx4 _ _)), H', ⟨Nat.le_refl _⟩, ⟨by repeat (first | (with_reducible first | exact HB.out | apply below_alloc | apply pw_below_drewN | apply below_drew1) | exact HB.out)⟩⟩
                                      case round =>
                                        clear H'
                                        (try clear c1); (try clear p1); (try clear q1); (try clear hx1); (try clear p2); (try clear p6); (try clear c17); (try clear c18); (try clear p18); (try clear q18); (try clear hx18); (try clear c19); (try clear p64); (try clear c179); (try clear c180); (try clear c180b0); (try clear c181); (try clear c182); (try clear p183); (try clear q183); (try clear hx183); (try clear c184); (try clear p185); (try clear q185); (try clear hx185); (try clear c186); (try clear c186b0); (try clear c187); (try clear c187b0); (try clear c187b1); (try clear c187b2); (try clear c190); (try clear c190b0); (try clear c190b1); (try clear c190b2); (try clear c193); (try clear p1); (try clear p18); (try clear p183); (try clear p185); (try clear p2); (try clear p6); (try clear p64); (try clear q1); (try clear q18); (try clear q183); (try clear q185)
                                        obtain ⟨x73_8, x496_8, rfl, rfl, HA, HK8, HB⟩ := hrel
                                        cases gk with
                                        | zero => exact absurd HA.out (by simp [laws_FnOrdersTurnOfAll.l4])
                                        | succ k8 =>
                                          have H := HA.out
                                          clear HA
                                          simp only [laws_FnOrdersTurnOfAll.l4] at H
                                          by_cases c194 : x496_8 < (l8.length : Int)
                                          · rw [if_pos c194] at H
                                            have c194b0 : decide (x496_8 < (l8.length : Int)) = true := decide_eq_true c194
                                            clear c194
                                            by_cases c195 : 0 ≤ x496_8
                                            · rw [if_pos c195] at H
                                              have c195b0 : decide (0 ≤ x496_8) = true := decide_eq_true c195
                                              clear c195
                                              by_cases c196 : x496_8 < (l8.length : Int)
                                              · rw [if_pos c196] at H
                                                have c196b0 : decide (x496_8 < (l8.length : Int)) = true := decide_eq_true c196
                                                clear c196
                                                by_cases c197 : 0 < ((rd_L3 l8 x496_8).length : Int)
                                                · rw [if_pos c197] at H
                                                  have c197b0 : decide (0 < ((rd_L3 l8 x496_8).length : Int)) = true := decide_eq_true c197
                                                  have c197b1 : decide (0 < (rd_L3 l8 x496_8).length) = true := decide_eq_true (by omega)
                                                  clear c197
                                                  by_cases c198 : 1 < ((rd_L3 l8 x496_8).length : Int)
                                                  · rw [if_pos c198] at H
                                                    have c198b0 : decide (1 < ((rd_L3 l8 x496_8).length : Int)) = true := decide_eq_true c198
                                                    have c198b1 : decide (1 < (rd_L3 l8 x496_8).length) = true := decide_eq_true (by omega)
                                                    clear c198
                                                    replace H := Option.bind_eq_some_iff.mp H
                                                    obtain ⟨⟨t291, t292⟩, A1990, H⟩ := H
                                                    (try dsimp only at H)
                                                    have A199 := Aside0.mk A1990
                                                    clear A1990
                                                    by_cases c200 : t292 = true
                                                    · subst c200
                                                      rw [if_pos rfl] at H
                                                      have H' := Aside0.mk H
                                                      clear H
                                                      have p288 : 0 ≤ (x496_8 : Int) := of_decide_eq_true (by first | (with_reducible assumption) | assumption)
                                                      have q288 : x496_8 < (l8.length : Int) := of_decide_eq_true (by first | (with_reducible assumption) | assumption)
                                                      obtain ⟨ad288, A288_0, c288_0, e288, hx288_0, hl288_0, hi288_0⟩ := at_L3 HR8.out x496_8 p288 q288
                                                      cases e288
                                                      replace hx288_0 := (HB.out.cell (World.block_lt_of_cell? w _ hx288_0)).trans hx288_0
                                                      have HR288_0 := Aside0.mk hi288_0
                                                      have HC288_0 := Aside0.mk hl288_0
                                                      clear hi288_0 hl288_0
                                                      replace p288 := eq_true p288
                                                      replace q288 := eq_true q288
                                                      try go_wp2
                                                      have n0_ := Aside0.mk (below_drew1 HB.out)
                                                      clear HB
                                                      have HB := n0_
                                                      clear n0_
                                                      have p289 : 0 ≤ (0 : Int) := (by omega)
                                                      have q289 : 0 < ((rd_L3 l8 x496_8).length : Int) := of_decide_eq_true (by first | (with_reducible assumption) | assumption)
                                                      obtain ⟨ad289, e289, hx289_0⟩ := Kd.at_int HR288_0.out 0 p289 q289
                                                      have hw289_0 := hx289_0
                                                      (try rw [show ((0 : Int)).toNat = 0 from rfl] at hw289_0)
                                                      (try rw [show 0 * 1 = 0 from rfl] at hw289_0)
                                                      (try rw [Addr.add_zero'] at hw289_0)
                                                      cases e289
                                                      have qi289 : (0 < (rd_L3 l8 x496_8).length) = True := eq_true (by omega)
                                                      (try rw [show ((0 : Int)).toNat = 0 from rfl] at hx289_0)
                                                      (try rw [Addr.add_zero'] at hx289_0)
                                                      replace hx289_0 := (HB.out.cell (World.block_lt_of_cell? w _ hx289_0)).trans hx289_0
                                                      replace p289 := eq_true p289
                                                      replace q289 := eq_true q289
                                                      have p290 : 0 ≤ (1 : Int) := (by omega)
                                                      have q290 : 1 < ((rd_L3 l8 x496_8).length : Int) := of_decide_eq_true (by first | (with_reducible assumption) | assumption)
                                                      obtain ⟨ad290, e290, hx290_0⟩ := Kd.at_int HR288_0.out 1 p290 q290
                                                      have hw290_0 := hx290_0
                                                      (try rw [show ((1 : Int)).toNat = 1 from rfl] at hw290_0)
                                                      (try rw [show 1 * 1 = 1 from rfl] at hw290_0)
                                                      (try simp only [Nat.reduceMul, Nat.reduceEqDiff, Go.Addr.add, ↓reduceIte] at hw290_0)
                                                      obtain rfl : ad289 = ad290 := (by injection e290)
                                                      (try simp only [show (1 : Int).toNat = 1 from rfl, Nat.reduceMul, Nat.reduceEqDiff, Go.Addr.add, ↓reduceIte] at hx290_0)
                                                      have qi290 : (1 < (rd_L3 l8 x496_8).length) = True := eq_true (by omega)
                                                      (try rw [show ((1 : Int)).toNat = 1 from rfl] at hx290_0)
                                                      replace hx290_0 := (HB.out.cell (World.block_lt_of_cell? w _ hx290_0)).trans hx290_0
                                                      replace p290 := eq_true p290
                                                      replace q290 := eq_true q290
                                                      refine start_ (n := 13) (S := fun w' => w'.cell? ad289 = some (.int .i64 (rd (rd_L3 l8 x496_8) 0)) ∧ w'.cell? ⟨ad289.block, ad289.off + 1, none⟩ = some (.int .i64 (rd (rd_L3 l8 x496_8) 1))) (ds := []) #[false, false, false, false, false, false, false, false, false, false, false, false, false] (by kernel_rfl) rfl rfl ⟨((HB.out.cell (World.block_lt_of_cell? w _ hw289_0)).trans hw289_0), ((HB.out.cell (World.block_lt_of_cell? w _ hw290_0)).trans hw290_0)⟩ (fun hHeld => ?_); refine with_tabW laws_FnOrdersTurnOfAll.tab69 laws_FnOrdersTurnOfAll.bits69 (fun HT_ HW_ => ?_)
                                                      generalize wr.drew = w201 at HB hx289_0 hx290_0 hHeld ⊢
                                                      refine pure_ (i := 0) (N := some 501) (v := ?_) (a' := ?_) #[true, false, false, false, false, false, false, false, false, false, false, false, false] rfl rfl (any_of HT_.out (by kernel_rfl)) (fun _ _ _ h => h) (Or.inl ⟨by rfl, ?_⟩) ?_ ?_
                                                      rotate_left
                                                      · intro w'
                                                        go_simp
                                                        with_reducible rfl
                                                      rotate_left
                                                      · simp only [Act.put, List.setIfInBounds_toArray, List.set_cons_zero, List.set_cons_succ, i64_w, i32_w]
                                                        rfl
                                                      refine pure_ (i := 1) (N := some 502) (v := ?_) (a' := ?_) #[true, true, false, false, false, false, false, false, false, false, false, false, false] rfl rfl (any_of HT_.out (by kernel_rfl)) (fun _ _ _ h => h) (Or.inl ⟨by rfl, ?_⟩) ?_ ?_
                                                      rotate_left
                                                      · intro w'
                                                        go_simp
                                                        with_reducible rfl
                                                      rotate_left
                                                      · simp only [Act.put, List.setIfInBounds_toArray, List.set_cons_zero, List.set_cons_succ, i64_w, i32_w]
                                                        rfl
                                                      refine pure_ (i := 2) (N := some 503) (v := ?_) (a' := ?_) #[true, true, true, false, false, false, false, false, false, false, false, false, false] rfl rfl (any_of HT_.out (by kernel_rfl)) (fun _ _ _ h => h) (Or.inl ⟨by rfl, ?_⟩) ?_ ?_
                                                      rotate_left
                                                      · intro w'
                                                        go_simp
                                                        with_reducible rfl
                                                      rotate_left
                                                      · simp only [Act.put, List.setIfInBounds_toArray, List.set_cons_zero, List.set_cons_succ, i64_w, i32_w]
                                                        rfl
                                                      refine pure_ (i := 4) (N := some 505) (v := ?_) (a' := ?_) #[true, true, true, false, true, false, false, false, false, false, false, false, false] rfl rfl (any_of HT_.out (by kernel_rfl)) (fun _ _ _ h => h) (Or.inl ⟨by rfl, ?_⟩) ?_ ?_
                                                      rotate_left
                                                      · intro w'
                                                        go_simp
                                                        with_reducible rfl
                                                      rotate_left
                                                      · simp only [Act.put, List.setIfInBounds_toArray, List.set_cons_zero, List.set_cons_succ, i64_w, i32_w]
                                                        rfl
                                                      refine pure_ (i := 5) (N := some 506) (v := ?_) (a' := ?_) #[true, true, true, false, true, true, false, false, false, false, false, false, false] rfl rfl (any_of HT_.out (by kernel_rfl)) (fun _ _ _ h => h) (Or.inl ⟨by rfl, ?_⟩) ?_ ?_
                                                      rotate_left
                                                      · intro w'
                                                        go_simp
                                                        with_reducible rfl
                                                      rotate_left
                                                      · simp only [Act.put, List.setIfInBounds_toArray, List.set_cons_zero, List.set_cons_succ, i64_w, i32_w]
                                                        rfl
                                                      refine take_ (i := 3) (N := some 504) (v := ?_) (a' := ?_) #[true, true, true, true, true, true, false, false, false, false, false, false, false] rfl rfl (take_ofW HT_.out HW_.out (by kernel_rfl)) (fun _ _ _ h => h) (Or.inl ⟨by rfl, ?_⟩) hHeld ?_ ?_
                                                      rotate_left
                                                      · rintro w' ⟨s0, s1⟩
                                                        go_simp
                                                        with_reducible rfl
                                                      rotate_left
                                                      · simp only [Act.put, List.setIfInBounds_toArray, List.set_cons_zero, List.set_cons_succ, i64_w, i32_w]
                                                        rfl
                                                      refine take_ (i := 6) (N := some 507) (v := ?_) (a' := ?_) #[true, true, true, true, true, true, true, false, false, false, false, false, false] rfl rfl (take_ofW HT_.out HW_.out (by kernel_rfl)) (fun _ _ _ h => h) (Or.inl ⟨by rfl, ?_⟩) hHeld ?_ ?_
                                                      rotate_left
                                                      · rintro w' ⟨s0, s1⟩
                                                        go_simp
                                                        with_reducible rfl
                                                      rotate_left
                                                      · simp only [Act.put, List.setIfInBounds_toArray, List.set_cons_zero, List.set_cons_succ, i64_w, i32_w]
                                                        rfl
                                                      refine one_ (i := 7) (N := some 508) #[true, true, true, true, true, true, true, true, false, false, false, false, false] rfl rfl (one_of HT_.out (by kernel_rfl)) (by decide) (fun K hK => ?_)
                                                      refine goes_ Tryd.func18 (by kernel_rfl) rfl #[.string x73_8, .int .i64 (rd (rd_L3 l8 x496_8) 0), .int .i64 (rd (rd_L3 l8 x496_8) 1)] (by rfl) rfl rfl (by (try simp only [List.map_toArray, List.map_cons, List.map_nil]); first | done | rfl | (simp only [List.length_drop, List.length_take]; rfl)) ?_
                                                      with_reducible refine (impl_TurnRun.calls x73_8 (rd (rd_L3 l8 x496_8) 0) (rd (rd_L3 l8 x496_8) 1) t291 true _ A199.out).mono ?_
                                                      rintro e w202 ⟨rfl, hb⟩
                                                      refine ⟨_, rfl, ?_⟩
                                                      have n0_ := Aside0.mk (below_step (by repeat (first | (with_reducible first | exact HB.out | apply below_alloc | apply pw_below_drewN | apply below_drew1) | exact HB.out)) hb)
                                                      clear HB
                                                      have HB := n0_
                                                      clear n0_
                                                      (try clear hb)
                                                      (try clear hb2)
                                                      (try clear hk)
                                                      (try clear hi)
                                                      refine hK.out _ _ ⟨((HB.out.cell (World.block_lt_of_cell? w _ hw289_0)).trans hw289_0), ((HB.out.cell (World.block_lt_of_cell? w _ hw290_0)).trans hw290_0)⟩ (fun hHeld => ?_)
                                                      clear hK K
                                                      refine norm_ (a' := ?_) ?_ ?_
                                                      rotate_left
                                                      · show Act.put _ (some 508) _ = _
                                                        simp only [Act.put, List.setIfInBounds_toArray, List.set_cons_zero, List.set_cons_succ, i64_w, i32_w]
                                                        rfl
                                                      refine pure_ (i := 8) (N := some 500) (v := ?_) (a' := ?_) #[true, true, true, true, true, true, true, true, true, false, false, false, false] rfl rfl (any_of HT_.out (by kernel_rfl)) (fun _ _ _ h => h) (Or.inl ⟨by rfl, ?_⟩) ?_ ?_
                                                      rotate_left
                                                      · intro w'
                                                        go_simp
                                                        with_reducible rfl
                                                      rotate_left
                                                      · simp only [Act.put, List.setIfInBounds_toArray, List.set_cons_zero, List.set_cons_succ, i64_w, i32_w]
                                                        rfl
                                                      refine pure_ (i := 9) (N := some 509) (v := ?_) (a' := ?_) #[true, true, true, true, true, true, true, true, true, true, false, false, false] rfl rfl (any_of HT_.out (by kernel_rfl)) (fun _ _ _ h => h) (Or.inl ⟨by rfl, ?_⟩) ?_ ?_
                                                      rotate_left
                                                      · intro w'
                                                        go_simp
                                                        with_reducible rfl
                                                      rotate_left
                                                      · simp only [Act.put, List.setIfInBounds_toArray, List.set_cons_zero, List.set_cons_succ, i64_w, i32_w]
                                                        rfl
                                                      refine pure_ (i := 10) (N := some 510) (v := ?_) (a' := ?_) #[true, true, true, true, true, true, true, true, true, true, true, false, false] rfl rfl (any_of HT_.out (by kernel_rfl)) (fun _ _ _ h => h) (Or.inl ⟨by rfl, ?_⟩) ?_ ?_
                                                      rotate_left
                                                      · intro w'
                                                        go_simp
                                                        with_reducible rfl
                                                      rotate_left
                                                      · simp only [Act.put, List.setIfInBounds_toArray, List.set_cons_zero, List.set_cons_succ, i64_w, i32_w]
                                                        rfl
                                                      refine pure_ (i := 11) (N := some 76) (v := ?_) (a' := ?_) #[true, true, true, true, true, true, true, true, true, true, true, true, false] rfl rfl (any_of HT_.out (by kernel_rfl)) (fun _ _ _ h => h) (Or.inl ⟨by rfl, ?_⟩) ?_ ?_
                                                      rotate_left
                                                      · intro w'
                                                        go_simp
                                                        with_reducible rfl
                                                      rotate_left
                                                      · simp only [Act.put, List.setIfInBounds_toArray, List.set_cons_zero, List.set_cons_succ, i64_w, i32_w]
                                                        rfl
                                                      refine pure_ (i := 12) (N := some 77) (v := ?_) (a' := ?_) #[true, true, true, true, true, true, true, true, true, true, true, true, true] rfl rfl (any_of HT_.out (by kernel_rfl)) (fun _ _ _ h => h) (Or.inl ⟨by rfl, ?_⟩) ?_ ?_
                                                      rotate_left
                                                      · intro w'
                                                        go_simp
                                                        with_reducible rfl
                                                      rotate_left
                                                      · simp only [Act.put, List.setIfInBounds_toArray, List.set_cons_zero, List.set_cons_succ, i64_w, i32_w]
                                                        rfl
                                                      refine done_ (done_of HT_.out (by kernel_rfl)) ?_
                                                      try go_wp2
                                                      go_roundg k8
                                                      case measure => first | exact Nat.lt_succ_self _ | (have := HJ10.out; have := HJ25.out; have := HJ79.out; have := HJ136.out; have := HJ151.out; have := HJ166.out; have := HJ177.out; have := HK8.out; omega)
                                                      case rel => exact ⟨(t291), (wrap64 (x496_8 + 1)), (by first | rfl | (simp; done) | (simp [*]; done) | (simp [*]; first | exact bx1 _ _ | exact bx2 _ _ | exact (bx1 _ _).symm | exact (bx2 _ _).symm | exact bx3 _ _ | exact bx4 _ _)), (by first | rfl | (simp; done) | (simp [*]; done) | (simp [*]; first | exact bx1 _ _ | exact bx2 _ _ | exact (bx1 _ _).symm | exact (bx2 _ _).symm | exact bx3 _ _ | exact bx4 _ _)), H', ⟨by first | exact Nat.le_refl _ | exact Nat.le_of_lt HK8.out | (have := HJ10.out; have := HJ25.out; have := HJ79.out; have := HJ136.out; have := HJ151.out; have := HJ166.out; have := HJ177.out; have := HK8.out; omega)⟩, ⟨by repeat (first | (with_reducible first | exact HB.out | apply below_alloc | apply pw_below_drewN | apply below_drew1) | exact HB.out)⟩⟩
                                                    · replace c200 := Bool.eq_false_iff.mpr c200
                                                      subst c200
                                                      rw [if_neg (show ¬ (false = true) by decide)] at H
                                                      exact absurd (hrt.symm.trans (Option.some.inj H).symm) (by decide)
                                                  · rw [if_neg c198] at H
                                                    exact absurd H (by simp)
                                                · rw [if_neg c197] at H
                                                  exact absurd H (by simp)
                                              · rw [if_neg c196] at H
                                                exact absurd H (by simp)
                                            · rw [if_neg c195] at H
                                              exact absurd H (by simp)
                                          · rw [if_neg c194] at H
                                            have c194b0 : decide (x496_8 < (l8.length : Int)) = false := decide_eq_false c194
                                            clear c194
                                            obtain rfl := Option.some.inj H
                                            clear hrt
                                            go_wp2
                                            go_ret
                                            exact ⟨by first | rfl | (simp [errW_none, errW_some] <;> rfl) | (simp [*, errW_none, errW_some] <;> rfl), by repeat (first | (with_reducible first | exact HB.out | apply below_alloc | apply pw_below_drewN | apply below_drew1) | exact HB.out)⟩
                                    · replace c193 := Bool.eq_false_iff.mpr c193
                                      subst c193
                                      rw [if_neg (show ¬ (false = true) by decide)] at H
                                      obtain rfl := Option.some.inj H
                                      clear hrt
                                      go_wp2
                                      go_ret
                                      exact ⟨by first | rfl | (simp [errW_none, errW_some] <;> rfl) | (simp [*, errW_none, errW_some] <;> rfl), by repeat (first | (with_reducible first | exact HB.out | apply below_alloc | apply pw_below_drewN | apply below_drew1) | exact HB.out)⟩
end Go.Proofs.YtkipdkkiojbbeaaDoor.A
