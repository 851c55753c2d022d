-- WRITTEN BY printx.py, a program of this session over the kit's print: not typed by hand. Lean checks it.
import Derived.Test.YthekdgadnhkbhaaGreatDoorAx0
import Derived.Test.YthekdgadnhkbhaaGreatDoorAx3
namespace Go.Proofs.YthekdgadnhkbhaaGreatDoor.A
open Go.RowKit Go.Proofs.YthekdgadnhkbhaaGreatDoorW.PrintWords Go.Proofs.YthekdgadnhkbhaaGreatDoorW.PrintLast Go.Proofs.YthekdgadnhkbhaaGreatDoorW.PrintMore Go.Proofs.YthekdgadnhkbhaaGreatDoor.X
attribute [local go_sem] max2_int min2_int max_two min_two max_three min_three max_four min_four   -- for this text's walks alone
set_option linter.unusedVariables false
set_option linter.unusedSimpArgs false

/-! ### spec_fiGood: function 28 -/
mutual
def spec_fiGood.j0 : Nat → List (List Int) → Bool → Option (Bool)
  | 0, _, _ => none
  | k + 1, x0, x16 => if x16 = true then (some false) else (spec_fiGood.l0 k x0 x0 (x0.length : Int) 0)
def spec_fiGood.l0 : Nat → List (List Int) → List (List Int) → Int → Int → Option (Bool)
  | 0, _, _, _, _ => none
  | k + 1, x0, x17, x18, x19 => if x19 < x18 then (if 0 ≤ x19 then (if x19 < (x17.length : Int) then (if 0 < (x0.length : Int) then (if ((rd_L1 x17 x19).length : Int) = ((rd_L1 x0 0).length : Int) then ((spec_l1All.f k (rd_L1 x17 x19) 1 999).bind fun t157 => (if t157 = true then (spec_fiGood.l0 k x0 x17 x18 (wrap64 (x19 + 1))) else (some false))) else (some false)) else (none)) else (none)) else (none)) else (some true)
end
def spec_fiGood.f (k : Nat) (l0 : List (List Int)) : Option (Bool) := (spec_l1In.f (l0.length : Int) 1 8).bind fun t152 => (if t152 = true then (if 0 < (l0.length : Int) then ((spec_l1In.f ((rd_L1 l0 0).length : Int) 1 8).bind fun t154 => (spec_fiGood.j0 k l0 (!t154))) else (none)) else (spec_fiGood.j0 k l0 true))
set_option maxHeartbeats 8000000 in
set_option maxRecDepth 100000 in
theorem spec_fiGood.calls (k : Nat) (A0 : Option Addr) (c0 : Nat) (l0 : List (List Int)) (r : Bool) (w : World) (hr0 : Kd.C (Kd.slice 3 (Kd.int .i64)) w A0 l0.length l0) (hc0 : l0.length ≤ c0) (h : spec_fiGood.f k l0 = some r) :
    Calls Tryz.prog 28 #[.slice A0 l0.length c0] w fun e w' => e = .returned (.bool r) ∧ Drawn0 w w' := by
  have HR0 := Aside0.mk hr0
  have HC0 := Aside0.mk hc0
  clear hr0 hc0
  have H : ((spec_l1In.f (l0.length : Int) 1 8).bind fun t152 => (if t152 = true then (if 0 < (l0.length : Int) then ((spec_l1In.f ((rd_L1 l0 0).length : Int) 1 8).bind fun t154 => (spec_fiGood.j0 k l0 (!t154))) else (none)) else (spec_fiGood.j0 k l0 true))) = some r := h
  clear h
  have HC2 := Aside0.mk H
  clear H
  go_enter Tryz.func28, Tryz.ntmps28
  go_upto_region 1 with (fail)
  go_cut [16] (fun v16 wc => ∃ (kq : Nat) (x16_1 : Bool), v16 = .bool x16_1 ∧ Aside0 (spec_fiGood.j0 kq l0 x16_1 = some r) ∧ Aside0 (kq ≤ k) ∧ Drawn0 w wc)
  case first =>
    have H := HC2.out
    clear HC2
    replace H := Option.bind_eq_some_iff.mp H
    obtain ⟨t152, A30, H⟩ := H
    replace H : (if t152 = true then (if 0 < (l0.length : Int) then ((spec_l1In.f ((rd_L1 l0 0).length : Int) 1 8).bind fun t154 => (spec_fiGood.j0 k l0 (!t154))) else (none)) else (spec_fiGood.j0 k l0 true)) = some r := H
    have A3 := Aside0.mk A30
    clear A30
    by_cases c4 : t152 = true
    rotate_left
    · replace c4 := Bool.eq_false_iff.mpr c4
      subst c4
      have H1 : (spec_fiGood.j0 k l0 true) = some r := by rw [if_neg (show ¬ (false = true) by decide)] at H; exact H
      clear H
      have H := H1
      clear H1
      have H' := Aside0.mk H
      clear H
      go_wp2_with (((with_reducible refine gate_callee (f := 37) rfl ?_); refine goesL_ (some 7) rfl rfl Tryz.func37 (by kernel_rfl) rfl #[.int .i64 (l0.length : Int), .int .i64 1, .int .i64 8] rfl (by (try simp only [List.map_toArray, List.map_cons, List.map_nil]); rfl) ?_; (with_reducible refine (spec_l1In.calls (l0.length : Int) 1 8 false _ A3.out).mono ?_); rintro e w' ⟨rfl, ⟨nd, rfl⟩⟩; refine ⟨_, rfl, ?_⟩))
      go_meet
      case rel => exact ⟨_, (true), (by rfl), H', ⟨by omega⟩, by repeat (first | exact Drawn0.refl _ | apply Drawn0.step)⟩
    subst c4
    have H1 : (if 0 < (l0.length : Int) then ((spec_l1In.f ((rd_L1 l0 0).length : Int) 1 8).bind fun t154 => (spec_fiGood.j0 k l0 (!t154))) else (none)) = some r := by rw [if_pos rfl] at H; exact H
    clear H
    have H := H1
    clear H1
    by_cases c5 : 0 < (l0.length : Int)
    rotate_left
    · rw [if_neg c5] at H
      exact absurd H (by simp)
    rw [if_pos c5] at H
    have c5b0 : decide (0 < (l0.length : Int)) = true := decide_eq_true c5
    have c5b1 : decide (0 < l0.length) = true := decide_eq_true (by omega)
    clear c5
    (skip)
    replace H := Option.bind_eq_some_iff.mp H
    obtain ⟨t154, A60, H⟩ := H
    replace H : (spec_fiGood.j0 k l0 (!t154)) = some r := H
    have A6 := Aside0.mk A60
    clear A60
    have H' := Aside0.mk H
    clear H
    go_wp2_with (first | ((with_reducible refine gate_callee (f := 37) rfl ?_); refine goesL_ (some 7) rfl rfl Tryz.func37 (by kernel_rfl) rfl #[.int .i64 (l0.length : Int), .int .i64 1, .int .i64 8] rfl (by (try simp only [List.map_toArray, List.map_cons, List.map_nil]); rfl) ?_; (with_reducible refine (spec_l1In.calls (l0.length : Int) 1 8 true _ A3.out).mono ?_); rintro e w' ⟨rfl, ⟨nd, rfl⟩⟩; refine ⟨_, rfl, ?_⟩; have p153 : 0 ≤ (0 : Int) := (by omega); have q153 : 0 < (l0.length : Int) := of_decide_eq_true (by (with_reducible assumption)); obtain ⟨ad153, A153_0, c153_0, e153, hx153_0, hl153_0, hi153_0⟩ := at_L1 HR0.out 0 p153 q153; cases e153; have qi153 : (0 < l0.length) = True := eq_true (by omega); (try rw [show ((0 : Int)).toNat = 0 from rfl] at hx153_0); (try rw [Addr.add_zero'] at hx153_0); have HR153_0 := Aside0.mk hi153_0; have HC153_0 := Aside0.mk hl153_0; clear hi153_0 hl153_0; replace p153 := eq_true p153; replace q153 := eq_true q153) | (go_at_call 37; (with_reducible refine (spec_l1In.calls ((rd_L1 l0 0).length : Int) 1 8 t154 _ A6.out).mono ?_); rintro e w' ⟨rfl, ⟨nd, rfl⟩⟩))
    go_meet
    case rel => exact ⟨_, (!t154), (by rfl), H', ⟨by omega⟩, by repeat (first | exact Drawn0.refl _ | apply Drawn0.step)⟩
  case rest =>
    clear HC2
    obtain ⟨kq, x16_1, rfl, HA, HJ1, ⟨mc1, rfl⟩⟩ := hcut
    cases kq with
    | zero => exact absurd HA.out (by simp [spec_fiGood.j0])
    | succ kj1 =>
      have H := HA.out
      clear HA
      simp only [spec_fiGood.j0] at H
      by_cases c7 : x16_1 = true
      · subst c7
        have H1 : (some false) = some r := by rw [if_pos rfl] at H; exact H
        clear H
        have H := H1
        clear H1
        obtain rfl := Option.some.inj H
        go_wp2
        go_ret
        exact ⟨by rfl, by repeat (first | exact Drawn0.refl _ | apply Drawn0.step)⟩
      replace c7 := Bool.eq_false_iff.mpr c7
      subst c7
      have H1 : (spec_fiGood.l0 kj1 l0 l0 (l0.length : Int) 0) = some r := by rw [if_neg (show ¬ (false = true) by decide)] at H; exact H
      clear H
      have H := H1
      clear H1
      have H' := Aside0.mk H
      clear H
      go_wp2
      go_loopg [19] kj1 (fun kq v19 w' => ∃ (x19_2 : Int), v19 = .int .i64 x19_2 ∧ Aside0 (spec_fiGood.l0 kq l0 l0 (l0.length : Int) x19_2 = some r) ∧ Aside0 (kq ≤ kj1) ∧ Drawn0 w w')
      case atStart => exact ⟨(0), (by rfl), H', ⟨Nat.le_refl _⟩, by repeat (first | exact Drawn0.refl _ | apply Drawn0.step)⟩
      case round =>
        clear H'
        obtain ⟨x19_2, rfl, HA, HK2, ⟨m2, rfl⟩⟩ := hrel
        cases gk with
        | zero => exact absurd HA.out (by simp [spec_fiGood.l0])
        | succ k2 =>
          have H := HA.out
          clear HA
          simp only [spec_fiGood.l0] at H
          by_cases c8 : x19_2 < (l0.length : Int)
          rotate_left
          · rw [if_neg c8] at H
            have c8b0 : decide (x19_2 < (l0.length : Int)) = false := decide_eq_false c8
            clear c8
            obtain rfl := Option.some.inj H
            go_wp2
            go_ret
            exact ⟨by rfl, by repeat (first | exact Drawn0.refl _ | apply Drawn0.step)⟩
          rw [if_pos c8] at H
          have c8b0 : decide (x19_2 < (l0.length : Int)) = true := decide_eq_true c8
          clear c8
          by_cases c9 : 0 ≤ x19_2
          rotate_left
          · rw [if_neg c9] at H
            exact absurd H (by simp)
          rw [if_pos c9] at H
          have c9b0 : decide (0 ≤ x19_2) = true := decide_eq_true c9
          clear c9
          by_cases c10 : x19_2 < (l0.length : Int)
          rotate_left
          · rw [if_neg c10] at H
            exact absurd H (by simp)
          rw [if_pos c10] at H
          have c10b0 : decide (x19_2 < (l0.length : Int)) = true := decide_eq_true c10
          clear c10
          by_cases c11 : 0 < (l0.length : Int)
          rotate_left
          · rw [if_neg c11] at H
            exact absurd H (by simp)
          rw [if_pos c11] at H
          have c11b0 : decide (0 < (l0.length : Int)) = true := decide_eq_true c11
          have c11b1 : decide (0 < l0.length) = true := decide_eq_true (by omega)
          clear c11
          by_cases c12 : ((rd_L1 l0 x19_2).length : Int) = ((rd_L1 l0 0).length : Int)
          rotate_left
          · rw [if_neg c12] at H
            have c12b0 : (((rd_L1 l0 x19_2).length : Int) == ((rd_L1 l0 0).length : Int)) = false := beq_eq_false_iff_ne.mpr c12
            have c12b1 : (((rd_L1 l0 x19_2).length : Int) != ((rd_L1 l0 0).length : Int)) = true := bne_iff_ne.mpr c12
            have c12b2 : ((rd_L1 l0 x19_2).length == (rd_L1 l0 0).length) = false := by (simp at c12 ⊢; omega)
            obtain rfl := Option.some.inj H
            have p155 : 0 ≤ (x19_2 : Int) := of_decide_eq_true (by (with_reducible assumption))
            have q155 : x19_2 < (l0.length : Int) := of_decide_eq_true (by (with_reducible assumption))
            obtain ⟨ad155, A155_0, c155_0, e155, hx155_0, hl155_0, hi155_0⟩ := at_L1 HR0.out x19_2 p155 q155
            cases e155
            have HR155_0 := Aside0.mk hi155_0
            have HC155_0 := Aside0.mk hl155_0
            clear hi155_0 hl155_0
            replace p155 := eq_true p155
            replace q155 := eq_true q155
            have p156 : 0 ≤ (0 : Int) := (by omega)
            have q156 : 0 < (l0.length : Int) := of_decide_eq_true (by (with_reducible assumption))
            obtain ⟨ad156, A156_0, c156_0, e156, hx156_0, hl156_0, hi156_0⟩ := at_L1 HR0.out 0 p156 q156
            obtain rfl : ad155 = ad156 := (by injection e156)
            have qi156 : (0 < l0.length) = True := eq_true (by omega)
            (try rw [show ((0 : Int)).toNat = 0 from rfl] at hx156_0)
            (try rw [Addr.add_zero'] at hx156_0)
            have HR156_0 := Aside0.mk hi156_0
            have HC156_0 := Aside0.mk hl156_0
            clear hi156_0 hl156_0
            replace p156 := eq_true p156
            replace q156 := eq_true q156
            go_wp2
            go_ret
            exact ⟨by rfl, by repeat (first | exact Drawn0.refl _ | apply Drawn0.step)⟩
          rw [if_pos c12] at H
          have c12b0 : (((rd_L1 l0 x19_2).length : Int) == ((rd_L1 l0 0).length : Int)) = true := beq_iff_eq.mpr c12
          have c12b1 : (((rd_L1 l0 x19_2).length : Int) != ((rd_L1 l0 0).length : Int)) = false := bne_eq_false_iff_eq.mpr c12
          have c12b2 : ((rd_L1 l0 x19_2).length == (rd_L1 l0 0).length) = true := by (simp at c12 ⊢; omega)
          clear c12
          replace H := Option.bind_eq_some_iff.mp H
          obtain ⟨t157, A130, H⟩ := H
          replace H : (if t157 = true then (spec_fiGood.l0 k2 l0 l0 (l0.length : Int) (wrap64 (x19_2 + 1))) else (some false)) = some r := H
          have A13 := Aside0.mk A130
          clear A130
          by_cases c14 : t157 = true
          rotate_left
          · replace c14 := Bool.eq_false_iff.mpr c14
            subst c14
            have H1 : (some false) = some r := by rw [if_neg (show ¬ (false = true) by decide)] at H; exact H
            clear H
            have H := H1
            clear H1
            obtain rfl := Option.some.inj H
            have p155 : 0 ≤ (x19_2 : Int) := of_decide_eq_true (by (with_reducible assumption))
            have q155 : x19_2 < (l0.length : Int) := of_decide_eq_true (by (with_reducible assumption))
            obtain ⟨ad155, A155_0, c155_0, e155, hx155_0, hl155_0, hi155_0⟩ := at_L1 HR0.out x19_2 p155 q155
            cases e155
            have HR155_0 := Aside0.mk hi155_0
            have HC155_0 := Aside0.mk hl155_0
            clear hi155_0 hl155_0
            replace p155 := eq_true p155
            replace q155 := eq_true q155
            have p156 : 0 ≤ (0 : Int) := (by omega)
            have q156 : 0 < (l0.length : Int) := of_decide_eq_true (by (with_reducible assumption))
            obtain ⟨ad156, A156_0, c156_0, e156, hx156_0, hl156_0, hi156_0⟩ := at_L1 HR0.out 0 p156 q156
            obtain rfl : ad155 = ad156 := (by injection e156)
            have qi156 : (0 < l0.length) = True := eq_true (by omega)
            (try rw [show ((0 : Int)).toNat = 0 from rfl] at hx156_0)
            (try rw [Addr.add_zero'] at hx156_0)
            have HR156_0 := Aside0.mk hi156_0
            have HC156_0 := Aside0.mk hl156_0
            clear hi156_0 hl156_0
            replace p156 := eq_true p156
            replace q156 := eq_true q156
            go_wp2_with ((go_at_call 56; (with_reducible refine (spec_l1All.calls k2 _ _ (rd_L1 l0 x19_2) 1 999 false _ ?side1 ?side2 A13.out).mono ?_); (case side1 => repeat ((exact HR155_0.out))); (case side2 => exact HC155_0.out); rintro e w' ⟨rfl, ⟨nd, rfl⟩⟩))
            go_ret
            exact ⟨by rfl, by repeat (first | exact Drawn0.refl _ | apply Drawn0.step)⟩
          subst c14
          have H1 : (spec_fiGood.l0 k2 l0 l0 (l0.length : Int) (wrap64 (x19_2 + 1))) = some r := by rw [if_pos rfl] at H; exact H
          clear H
          have H := H1
          clear H1
          have H' := Aside0.mk H
          clear H
          have p155 : 0 ≤ (x19_2 : Int) := of_decide_eq_true (by (with_reducible assumption))
          have q155 : x19_2 < (l0.length : Int) := of_decide_eq_true (by (with_reducible assumption))
          obtain ⟨ad155, A155_0, c155_0, e155, hx155_0, hl155_0, hi155_0⟩ := at_L1 HR0.out x19_2 p155 q155
          cases e155
          have HR155_0 := Aside0.mk hi155_0
          have HC155_0 := Aside0.mk hl155_0
          clear hi155_0 hl155_0
          replace p155 := eq_true p155
          replace q155 := eq_true q155
          have p156 : 0 ≤ (0 : Int) := (by omega)
          have q156 : 0 < (l0.length : Int) := of_decide_eq_true (by (with_reducible assumption))
          obtain ⟨ad156, A156_0, c156_0, e156, hx156_0, hl156_0, hi156_0⟩ := at_L1 HR0.out 0 p156 q156
          obtain rfl : ad155 = ad156 := (by injection e156)
          have qi156 : (0 < l0.length) = True := eq_true (by omega)
          (try rw [show ((0 : Int)).toNat = 0 from rfl] at hx156_0)
          (try rw [Addr.add_zero'] at hx156_0)
          have HR156_0 := Aside0.mk hi156_0
          have HC156_0 := Aside0.mk hl156_0
          clear hi156_0 hl156_0
          replace p156 := eq_true p156
          replace q156 := eq_true q156
          go_wp2_with ((go_at_call 56; (with_reducible refine (spec_l1All.calls k2 _ _ (rd_L1 l0 x19_2) 1 999 true _ ?side1 ?side2 A13.out).mono ?_); (case side1 => repeat ((exact HR155_0.out))); (case side2 => exact HC155_0.out); rintro e w' ⟨rfl, ⟨nd, rfl⟩⟩))
          (go_roundg k2)
          case measure => have := HJ1.out; have := HK2.out; omega
          case rel => exact ⟨(wrap64 (x19_2 + 1)), (by rfl), H', ⟨by have := HJ1.out; have := HK2.out; omega⟩, by repeat (first | exact Drawn0.refl _ | apply Drawn0.step)⟩

/-! ### spec_fiHeight: function 29 -/
def spec_fiHeight.f (a0 : Int) : Option (Bool) := (spec_l1In.f a0 0 1000).bind fun t158 => (some t158)
set_option maxHeartbeats 8000000 in
set_option maxRecDepth 100000 in
theorem spec_fiHeight.calls (a0 : Int) (r : Bool) (w : World) (h : spec_fiHeight.f a0 = some r) :
    Calls Tryz.prog 29 #[.int .i64 a0] w fun e w' => e = .returned (.bool r) ∧ Drawn0 w w' := by
  have H : ((spec_l1In.f a0 0 1000).bind fun t158 => (some t158)) = some r := h
  clear h
  replace H := Option.bind_eq_some_iff.mp H
  obtain ⟨t158, A20, H⟩ := H
  replace H : (some t158) = some r := H
  have A2 := Aside0.mk A20
  clear A20
  obtain rfl := Option.some.inj H
  go_enter Tryz.func29, Tryz.ntmps29
  go_wp2_with (((with_reducible refine gate_callee (f := 37) rfl ?_); refine goesL_ (some 4) rfl rfl Tryz.func37 (by kernel_rfl) rfl #[.int .i64 a0, .int .i64 0, .int .i64 1000] rfl (by (try simp only [List.map_toArray, List.map_cons, List.map_nil]); rfl) ?_; (with_reducible refine (spec_l1In.calls a0 0 1000 t158 _ A2.out).mono ?_); rintro e w' ⟨rfl, ⟨nd, rfl⟩⟩; refine ⟨_, rfl, ?_⟩))
  go_ret
  exact ⟨by rfl, by repeat (first | exact Drawn0.refl _ | apply Drawn0.step)⟩

/-! ### spec_fiSorted: function 30 -/
mutual
def spec_fiSorted.l0 : Nat → List (List Int) → Int → Int → Option (Bool)
  | 0, _, _, _ => none
  | k + 1, x6, x7, x8 => if x8 < x7 then (if 0 ≤ x8 then (if x8 < (x6.length : Int) then (spec_fiSorted.l1 k (rd_L1 x6 x8) 1 x6 x7 x8) else (none)) else (none)) else (some true)
def spec_fiSorted.l1 : Nat → List Int → Int → List (List Int) → Int → Int → Option (Bool)
  | 0, _, _, _, _, _ => none
  | k + 1, x4, x5, x6, x7, x8 => if x5 < (x4.length : Int) then (if 0 ≤ (wrap64 (x5 - 1)) then (if (wrap64 (x5 - 1)) < (x4.length : Int) then (if 0 ≤ x5 then (if (rd x4 (wrap64 (x5 - 1))) > (rd x4 x5) then (some false) else (spec_fiSorted.l1 k x4 (wrap64 (x5 + 1)) x6 x7 x8)) else (none)) else (none)) else (none)) else (spec_fiSorted.l0 k x6 x7 (wrap64 (x8 + 1)))
end
def spec_fiSorted.f (k : Nat) (l0 : List (List Int)) : Option (Bool) := spec_fiSorted.l0 k l0 (l0.length : Int) 0
set_option maxHeartbeats 8000000 in
set_option maxRecDepth 100000 in
theorem spec_fiSorted.calls (k : Nat) (A0 : Option Addr) (c0 : Nat) (l0 : List (List Int)) (r : Bool) (w : World) (hr0 : Kd.C (Kd.slice 3 (Kd.int .i64)) w A0 l0.length l0) (hc0 : l0.length ≤ c0) (h : spec_fiSorted.f k l0 = some r) :
    Calls Tryz.prog 30 #[.slice A0 l0.length c0] w fun e w' => e = .returned (.bool r) ∧ Drawn0 w w' := by
  have HR0 := Aside0.mk hr0
  have HC0 := Aside0.mk hc0
  clear hr0 hc0
  have H : (spec_fiSorted.l0 k l0 (l0.length : Int) 0) = some r := h
  clear h
  have H' := Aside0.mk H
  clear H
  go_enter Tryz.func30, Tryz.ntmps30
  go_wp2
  repeat (go_quiet (fail); try go_wp2)
  go_loopg [8] k (fun kq v8 w' => ∃ (x8_1 : Int), v8 = .int .i64 x8_1 ∧ Aside0 (spec_fiSorted.l0 kq l0 (l0.length : Int) x8_1 = some r) ∧ Aside0 (kq ≤ k) ∧ Drawn0 w w')
  case atStart => exact ⟨(0), (by rfl), H', ⟨Nat.le_refl _⟩, by repeat ((exact Drawn0.refl _))⟩
  case round =>
    clear H'
    obtain ⟨x8_1, rfl, HA, HK1, ⟨m1, rfl⟩⟩ := hrel
    cases gk with
    | zero => exact absurd HA.out (by simp [spec_fiSorted.l0])
    | succ k1 =>
      have H := HA.out
      clear HA
      simp only [spec_fiSorted.l0] at H
      by_cases c2 : x8_1 < (l0.length : Int)
      rotate_left
      · rw [if_neg c2] at H
        have c2b0 : decide (x8_1 < (l0.length : Int)) = false := decide_eq_false c2
        clear c2
        obtain rfl := Option.some.inj H
        go_wp2
        repeat (go_quiet (fail); try go_wp2)
        go_ret
        exact ⟨by rfl, by repeat (first | exact Drawn0.refl _ | apply Drawn0.step)⟩
      rw [if_pos c2] at H
      have c2b0 : decide (x8_1 < (l0.length : Int)) = true := decide_eq_true c2
      clear c2
      by_cases c3 : 0 ≤ x8_1
      rotate_left
      · rw [if_neg c3] at H
        exact absurd H (by simp)
      rw [if_pos c3] at H
      have c3b0 : decide (0 ≤ x8_1) = true := decide_eq_true c3
      clear c3
      by_cases c4 : x8_1 < (l0.length : Int)
      rotate_left
      · rw [if_neg c4] at H
        exact absurd H (by simp)
      rw [if_pos c4] at H
      have c4b0 : decide (x8_1 < (l0.length : Int)) = true := decide_eq_true c4
      clear c4
      have H' := Aside0.mk H
      clear H
      have p159 : 0 ≤ (x8_1 : Int) := of_decide_eq_true (by (with_reducible assumption))
      have q159 : x8_1 < (l0.length : Int) := of_decide_eq_true (by (with_reducible assumption))
      obtain ⟨ad159, A159_0, c159_0, e159, hx159_0, hl159_0, hi159_0⟩ := at_L1 HR0.out x8_1 p159 q159
      cases e159
      have HR159_0 := Aside0.mk hi159_0
      have HC159_0 := Aside0.mk hl159_0
      clear hi159_0 hl159_0
      replace p159 := eq_true p159
      replace q159 := eq_true q159
      go_wp2
      repeat (go_quiet (fail); try go_wp2)
      go_loopg [5] k1 (fun kq v5 w' => ∃ (x5_2 : Int), v5 = .int .i64 x5_2 ∧ Aside0 (spec_fiSorted.l1 kq (rd_L1 l0 x8_1) x5_2 l0 (l0.length : Int) x8_1 = some r) ∧ Aside0 (kq ≤ k1) ∧ Drawn0 w w')
      case atStart => exact ⟨(1), (by rfl), H', ⟨Nat.le_refl _⟩, by repeat (first | exact Drawn0.refl _ | apply Drawn0.step)⟩
      case round =>
        clear H' c2b0 c3b0 c4b0 hx159_0 p159 q159
        obtain ⟨x5_2, rfl, HA, HK2, ⟨m2, rfl⟩⟩ := hrel
        cases gk with
        | zero => exact absurd HA.out (by simp [spec_fiSorted.l1])
        | succ k2 =>
          have H := HA.out
          clear HA
          simp only [spec_fiSorted.l1] at H
          by_cases c5 : x5_2 < ((rd_L1 l0 x8_1).length : Int)
          rotate_left
          · rw [if_neg c5] at H
            have c5b0 : decide (x5_2 < ((rd_L1 l0 x8_1).length : Int)) = false := decide_eq_false c5
            clear c5
            have H' := Aside0.mk H
            clear H
            go_wp2
            repeat (go_quiet (fail); try go_wp2)
            (go_roundg k2)
            case measure => have := HK1.out; have := HK2.out; omega
            case rel => exact ⟨(wrap64 (x8_1 + 1)), (by rfl), H', ⟨by have := HK1.out; have := HK2.out; omega⟩, by repeat (first | exact Drawn0.refl _ | apply Drawn0.step)⟩
          rw [if_pos c5] at H
          have c5b0 : decide (x5_2 < ((rd_L1 l0 x8_1).length : Int)) = true := decide_eq_true c5
          clear c5
          obtain ⟨ji6, hji6⟩ : ∃ j_ : Int, (wrap64 (x5_2 - 1)) = j_ := ⟨_, rfl⟩
          replace H : (if 0 ≤ (ji6) then (if (ji6) < ((rd_L1 l0 x8_1).length : Int) then (if 0 ≤ x5_2 then (if (rd (rd_L1 l0 x8_1) (ji6)) > (rd (rd_L1 l0 x8_1) x5_2) then (some false) else (spec_fiSorted.l1 k2 (rd_L1 l0 x8_1) (wrap64 (x5_2 + 1)) l0 (l0.length : Int) x8_1)) else (none)) else (none)) else (none)) = some r := by (rw [hji6] at H; exact H)
          have hji6w : (IntKind.i64.wrap (x5_2 - 1)) = ji6 := (i64_w _).trans hji6
          by_cases c7 : 0 ≤ (ji6)
          rotate_left
          · rw [if_neg c7] at H
            exact absurd H (by simp)
          rw [if_pos c7] at H
          have c7b0 : decide (0 ≤ (ji6)) = true := decide_eq_true c7
          clear c7
          by_cases c8 : (ji6) < ((rd_L1 l0 x8_1).length : Int)
          rotate_left
          · rw [if_neg c8] at H
            exact absurd H (by simp)
          rw [if_pos c8] at H
          have c8b0 : decide ((ji6) < ((rd_L1 l0 x8_1).length : Int)) = true := decide_eq_true c8
          clear c8
          by_cases c9 : 0 ≤ x5_2
          rotate_left
          · rw [if_neg c9] at H
            exact absurd H (by simp)
          rw [if_pos c9] at H
          have c9b0 : decide (0 ≤ x5_2) = true := decide_eq_true c9
          clear c9
          by_cases c10 : (rd (rd_L1 l0 x8_1) (ji6)) > (rd (rd_L1 l0 x8_1) x5_2)
          · rw [if_pos c10] at H
            have c10b0 : decide ((rd (rd_L1 l0 x8_1) x5_2) < (rd (rd_L1 l0 x8_1) (ji6))) = true := decide_eq_true c10
            clear c10
            obtain rfl := Option.some.inj H
            have p160 : 0 ≤ ((ji6) : Int) := of_decide_eq_true (by (with_reducible assumption))
            have q160 : (ji6) < ((rd_L1 l0 x8_1).length : Int) := of_decide_eq_true (by (with_reducible assumption))
            obtain ⟨ad160, e160, hx160_0⟩ := Kd.at_int HR159_0.out (ji6) p160 q160
            cases e160
            replace p160 := eq_true p160
            replace q160 := eq_true q160
            have p161 : 0 ≤ (x5_2 : Int) := of_decide_eq_true (by (with_reducible assumption))
            have q161 : x5_2 < ((rd_L1 l0 x8_1).length : Int) := of_decide_eq_true (by (with_reducible assumption))
            obtain ⟨ad161, e161, hx161_0⟩ := Kd.at_int HR159_0.out x5_2 p161 q161
            obtain rfl : ad160 = ad161 := (by injection e161)
            replace p161 := eq_true p161
            replace q161 := eq_true q161
            go_wp2
            repeat (go_quiet (fail); try go_wp2)
            go_ret
            exact ⟨by rfl, by repeat (first | exact Drawn0.refl _ | apply Drawn0.step)⟩
          rw [if_neg c10] at H
          have c10b0 : decide ((rd (rd_L1 l0 x8_1) x5_2) < (rd (rd_L1 l0 x8_1) (ji6))) = false := decide_eq_false c10
          clear c10
          have H' := Aside0.mk H
          clear H
          have p160 : 0 ≤ ((ji6) : Int) := of_decide_eq_true (by (with_reducible assumption))
          have q160 : (ji6) < ((rd_L1 l0 x8_1).length : Int) := of_decide_eq_true (by (with_reducible assumption))
          obtain ⟨ad160, e160, hx160_0⟩ := Kd.at_int HR159_0.out (ji6) p160 q160
          cases e160
          replace p160 := eq_true p160
          replace q160 := eq_true q160
          have p161 : 0 ≤ (x5_2 : Int) := of_decide_eq_true (by (with_reducible assumption))
          have q161 : x5_2 < ((rd_L1 l0 x8_1).length : Int) := of_decide_eq_true (by (with_reducible assumption))
          obtain ⟨ad161, e161, hx161_0⟩ := Kd.at_int HR159_0.out x5_2 p161 q161
          obtain rfl : ad160 = ad161 := (by injection e161)
          replace p161 := eq_true p161
          replace q161 := eq_true q161
          go_wp2
          repeat (go_quiet (fail); try go_wp2)
          (go_roundg k2)
          case measure => have := HK1.out; have := HK2.out; omega
          case rel => exact ⟨(wrap64 (x5_2 + 1)), (by rfl), H', ⟨by have := HK1.out; have := HK2.out; omega⟩, by repeat (first | exact Drawn0.refl _ | apply Drawn0.step)⟩

/-! ### spec_fiTurn: function 31 -/
mutual
def spec_fiTurn.l0 : Nat → List (List Int) → List (List Int) → Int → Int → Option ((List (List Int)))
  | 0, _, _, _, _ => none
  | k + 1, x0, x3, x11, x12 => if x12 < x11 then (spec_fiTurn.l1 k x0 x3 x12 ([] : List Int) x11 x12 x0 (x0.length : Int) 0) else (some x3)
def spec_fiTurn.l1 : Nat → List (List Int) → List (List Int) → Int → List Int → Int → Int → List (List Int) → Int → Int → Option ((List (List Int)))
  | 0, _, _, _, _, _, _, _, _, _ => none
  | k + 1, x0, x3, x4, x5, x11, x12, x15, x16, x17 => if x17 < x16 then (if 0 ≤ x17 then (if x17 < (x15.length : Int) then (if 0 ≤ x4 then (if x4 < ((rd_L1 x15 x17).length : Int) then (if x5.length < 17592186044416 then (spec_fiTurn.l1 k x0 x3 x4 (x5 ++ [rd (rd_L1 x15 x17) x4]) x11 x12 x15 x16 (wrap64 (x17 + 1))) else (none)) else (none)) else (none)) else (none)) else (none)) else (if x3.length < 5864062014805 then (spec_fiTurn.l0 k x0 (x3 ++ [x5]) x11 (wrap64 (x12 + 1))) else (none))
end
def spec_fiTurn.f (k : Nat) (l0 : List (List Int)) : Option ((List (List Int))) := if 0 < (l0.length : Int) then (spec_fiTurn.l0 k l0 ([] : List (List Int)) ((rd_L1 l0 0).length : Int) 0) else (none)
set_option maxHeartbeats 8000000 in
set_option maxRecDepth 100000 in
theorem spec_fiTurn.calls (k : Nat) (A0 : Option Addr) (c0 : Nat) (l0 : List (List Int)) (r : List (List Int)) (w : World) (hr0 : Kd.C (Kd.slice 3 (Kd.int .i64)) w A0 l0.length l0) (hc0 : l0.length ≤ c0) (h : spec_fiTurn.f k l0 = some r) :
    Calls Tryz.prog 31 #[.slice A0 l0.length c0] w fun e w' => ∃ v0_ : Value, e = .returned (v0_) ∧ Kd.S (Kd.slice 3 (Kd.int .i64)) 28 w' w.heap.size (fun _ => True) v0_ r ∧ Below w.heap.size w w' := by
  have HR0 := Aside0.mk hr0
  have HC0 := Aside0.mk hc0
  clear hr0 hc0
  have HB := Aside0.mk (Below.refl w.heap.size w)
  have H : (if 0 < (l0.length : Int) then (spec_fiTurn.l0 k l0 ([] : List (List Int)) ((rd_L1 l0 0).length : Int) 0) else (none)) = some r := h
  clear h
  by_cases c2 : 0 < (l0.length : Int)
  rotate_left
  · rw [if_neg c2] at H
    exact absurd H (by simp)
  rw [if_pos c2] at H
  have c2b0 : decide (0 < (l0.length : Int)) = true := decide_eq_true c2
  have c2b1 : decide (0 < l0.length) = true := decide_eq_true (by omega)
  clear c2
  have H' := Aside0.mk H
  clear H
  have p162 : 0 ≤ (0 : Int) := (by omega)
  have q162 : 0 < (l0.length : Int) := of_decide_eq_true (by (with_reducible assumption))
  obtain ⟨ad162, A162_0, c162_0, e162, hx162_0, hl162_0, hi162_0⟩ := at_L1 HR0.out 0 p162 q162
  cases e162
  have qi162 : (0 < l0.length) = True := eq_true (by omega)
  (try rw [show ((0 : Int)).toNat = 0 from rfl] at hx162_0)
  (try rw [Addr.add_zero'] at hx162_0)
  have HR162_0 := Aside0.mk hi162_0
  have HC162_0 := Aside0.mk hl162_0
  clear hi162_0 hl162_0
  replace p162 := eq_true p162
  replace q162 := eq_true q162
  go_enter Tryz.func31, Tryz.ntmps31
  go_wp2
  go_loopg [3, 12] k (fun kq v3 v12 w' => ∃ (x3_1 : List (List Int)) (x12_1 : Int), v12 = .int .i64 x12_1 ∧ Aside0 (spec_fiTurn.l0 kq l0 x3_1 ((rd_L1 l0 0).length : Int) x12_1 = some r) ∧ Aside0 (kq ≤ k) ∧ Aside0 (Kd.S (Kd.slice 3 (Kd.int .i64)) 28 w' w.heap.size (fun _ => True) v3 x3_1) ∧ Aside0 (Below w.heap.size w w'))
  case atStart => exact ⟨(([] : List (List Int))), (0), (by rfl), H', ⟨Nat.le_refl _⟩, ⟨by (exact Kd.S_nil _ _ _ _ _)⟩, ⟨by repeat ((with_reducible (exact HB.out)))⟩⟩
  case round =>
    clear H' c2b0 c2b1 hx162_0 p162 q162
    obtain ⟨x3_1, x12_1, rfl, HA, HK1, HO_3, HB⟩ := hrel
    cases gk with
    | zero => exact absurd HA.out (by simp [spec_fiTurn.l0])
    | succ k1 =>
      have H := HA.out
      clear HA
      simp only [spec_fiTurn.l0] at H
      by_cases c3 : x12_1 < ((rd_L1 l0 0).length : Int)
      rotate_left
      · rw [if_neg c3] at H
        have c3b0 : decide (x12_1 < ((rd_L1 l0 0).length : Int)) = false := decide_eq_false c3
        clear c3
        obtain rfl := Option.some.inj H
        go_wp2
        go_ret
        exact ⟨_, by rfl, by (with_reducible repeat (fail)); exact HO_3.out, by repeat ((with_reducible (exact HB.out)))⟩
      rw [if_pos c3] at H
      have c3b0 : decide (x12_1 < ((rd_L1 l0 0).length : Int)) = true := decide_eq_true c3
      clear c3
      have H' := Aside0.mk H
      clear H
      go_wp2
      go_loopg [5, 17] k1 (fun kq v5 v17 w' => ∃ (x5_2 : List Int) (x17_2 : Int), v17 = .int .i64 x17_2 ∧ Aside0 (spec_fiTurn.l1 kq l0 x3_1 x12_1 x5_2 ((rd_L1 l0 0).length : Int) x12_1 l0 (l0.length : Int) x17_2 = some r) ∧ Aside0 (kq ≤ k1) ∧ Aside0 (Kd.S (Kd.slice 3 (Kd.int .i64)) 28 w' w.heap.size (fun k_ => some k_ ≠ (v5 : Value).ownBlock) u3 x3_1) ∧ Aside0 (Kd.R (Kd.int .i64) 3 w' w.heap.size (fun _ => True) v5 x5_2) ∧ Aside0 (Below w.heap.size w w'))
      case atStart => exact ⟨(([] : List Int)), (0), (by rfl), H', ⟨Nat.le_refl _⟩, ⟨by (with_reducible repeat (fail)); exact Kd.S_mono HO_3.out (fun _ hk => (by simp [Value.ownBlock]))⟩, ⟨by (exact Kd.R_nil _ _ _ _ _)⟩, ⟨by repeat ((with_reducible (exact HB.out)))⟩⟩
      case round =>
        clear H' c3b0
        obtain ⟨x5_2, x17_2, rfl, HA, HK2, HO_3, HO_5, HB⟩ := hrel
        cases gk with
        | zero => exact absurd HA.out (by simp [spec_fiTurn.l1])
        | succ k2 =>
          have H := HA.out
          clear HA
          simp only [spec_fiTurn.l1] at H
          by_cases c4 : x17_2 < (l0.length : Int)
          rotate_left
          · rw [if_neg c4] at H
            have c4b0 : decide (x17_2 < (l0.length : Int)) = false := decide_eq_false c4
            clear c4
            by_cases c11 : x3_1.length < 5864062014805
            rotate_left
            · rw [if_neg c11] at H
              exact absurd H (by simp)
            rw [if_pos c11] at H
            have LMc11 := Aside0.mk c11
            clear c11
            obtain ⟨y168, hy168⟩ : ∃ y_ : List (List Int), y_ = (x3_1 ++ [x5_2]) := ⟨_, rfl⟩
            replace H : (spec_fiTurn.l0 k2 l0 y168 ((rd_L1 l0 0).length : Int) (wrap64 (x12_1 + 1))) = some r := by (rw [hy168]; with_reducible exact H)
            have Ny168 := Aside0.mk hy168
            clear hy168
            have H' := Aside0.mk H
            clear H
            obtain ⟨Ao13, co13, eo13⟩ := Kd.R_slice HO_5.out
            subst eo13
            go_wp2_with (((with_reducible refine gate_builtin (b := .append) (xs := #[.tmp 29, .tmp 31]) rfl ?_); at_builtin; refine Kd.S_append (Kd.slice 3 (Kd.int .i64)) (w0 := w) w.heap.size rfl (.tmp 29) (.tmp 31) 22 28 (.slice none 0 0) 24 rfl Tryz.underlying22 info28 rfl (by decide) (by omega) u3 x3_1 x5_2 [.slice Ao13 x5_2.length co13] (fun _ => True) (fun k_ => some k_ = (.slice Ao13 x5_2.length co13 : Value).ownBlock) rfl rfl ?aP (fun k_ hk_ => ((Kd.R_mono (ok' := fun k_ => ((fun _ => True)) k_ ∧ some k_ ≠ (u3 : Value).ownBlock) (Kd.R_apart' (HO_5.out) (Kd.S_typed HO_3.out) (by decide)) (fun k_ hk => ⟨trivial, hk.2⟩))).1 k_ hk_.symm) ?aF ?aO ?aB ?aS ?aL ?_; (case aP => exact Kd.M_row (Kd.R_mono (Kd.R_tight rfl (Kd.R_mono (ok' := fun k_ => ((fun _ => True)) k_ ∧ some k_ ≠ (u3 : Value).ownBlock) (Kd.R_apart' (HO_5.out) (Kd.S_typed HO_3.out) (by decide)) (fun k_ hk => ⟨trivial, hk.2⟩))) (fun _ h_ => h_))); (case aB => exact (by repeat ((with_reducible (exact HB.out))))); (case aF => exact (fun _ _ => trivial)); (case aO => exact (by (with_reducible repeat (fail)); exact Kd.S_mono HO_3.out (fun k_ hk => ⟨trivial, fun e_ => hk e_⟩))); (case aS => exact (below_size (by repeat ((with_reducible (exact HB.out)))))); (case aL => have := LMc11.out; omega); intro v169 w12 ho hb hg hat; rw [← Ny168.out] at ho; have n0_ := Aside0.mk (hb); have n1_ := Aside0.mk (ho); clear HB; clear HO_3; clear HO_5; have HB := n0_; have HO170 := n1_; clear n0_ n1_; clear ho hb hg hat))
            (go_roundg k2)
            case measure => have := HK1.out; have := HK2.out; omega
            case rel => exact ⟨(y168), (wrap64 (x12_1 + 1)), (by rfl), H', ⟨by have := HK1.out; have := HK2.out; omega⟩, ⟨by (with_reducible repeat (fail)); exact HO170.out⟩, ⟨by repeat ((with_reducible (exact HB.out)))⟩⟩
          rw [if_pos c4] at H
          have c4b0 : decide (x17_2 < (l0.length : Int)) = true := decide_eq_true c4
          clear c4
          by_cases c5 : 0 ≤ x17_2
          rotate_left
          · rw [if_neg c5] at H
            exact absurd H (by simp)
          rw [if_pos c5] at H
          have c5b0 : decide (0 ≤ x17_2) = true := decide_eq_true c5
          clear c5
          by_cases c6 : x17_2 < (l0.length : Int)
          rotate_left
          · rw [if_neg c6] at H
            exact absurd H (by simp)
          rw [if_pos c6] at H
          have c6b0 : decide (x17_2 < (l0.length : Int)) = true := decide_eq_true c6
          clear c6
          by_cases c7 : 0 ≤ x12_1
          rotate_left
          · rw [if_neg c7] at H
            exact absurd H (by simp)
          rw [if_pos c7] at H
          have c7b0 : decide (0 ≤ x12_1) = true := decide_eq_true c7
          clear c7
          by_cases c8 : x12_1 < ((rd_L1 l0 x17_2).length : Int)
          rotate_left
          · rw [if_neg c8] at H
            exact absurd H (by simp)
          rw [if_pos c8] at H
          have c8b0 : decide (x12_1 < ((rd_L1 l0 x17_2).length : Int)) = true := decide_eq_true c8
          clear c8
          by_cases c9 : x5_2.length < 17592186044416
          rotate_left
          · rw [if_neg c9] at H
            exact absurd H (by simp)
          rw [if_pos c9] at H
          have LMc9 := Aside0.mk c9
          clear c9
          obtain ⟨y165, hy165⟩ : ∃ y_ : List Int, y_ = (x5_2 ++ [rd (rd_L1 l0 x17_2) x12_1]) := ⟨_, rfl⟩
          replace H : (spec_fiTurn.l1 k2 l0 x3_1 x12_1 y165 ((rd_L1 l0 0).length : Int) x12_1 l0 (l0.length : Int) (wrap64 (x17_2 + 1))) = some r := by (rw [hy165]; with_reducible exact H)
          have Ny165 := Aside0.mk hy165
          clear hy165
          have H' := Aside0.mk H
          clear H
          have p163 : 0 ≤ (x17_2 : Int) := of_decide_eq_true (by (with_reducible assumption))
          have q163 : x17_2 < (l0.length : Int) := of_decide_eq_true (by (with_reducible assumption))
          obtain ⟨ad163, A163_0, c163_0, e163, hx163_0, hl163_0, hi163_0⟩ := at_L1 HR0.out x17_2 p163 q163
          obtain rfl : ad162 = ad163 := (by injection e163)
          replace hx163_0 := (HB.out.cell (World.block_lt_of_cell? w _ hx163_0)).trans hx163_0
          have HR163_0 := Aside0.mk hi163_0
          have HC163_0 := Aside0.mk hl163_0
          clear hi163_0 hl163_0
          replace p163 := eq_true p163
          replace q163 := eq_true q163
          have p164 : 0 ≤ (x12_1 : Int) := of_decide_eq_true (by (with_reducible assumption))
          have q164 : x12_1 < ((rd_L1 l0 x17_2).length : Int) := of_decide_eq_true (by (with_reducible assumption))
          obtain ⟨ad164, e164, hx164_0⟩ := Kd.at_int HR163_0.out x12_1 p164 q164
          cases e164
          replace hx164_0 := (HB.out.cell (World.block_lt_of_cell? w _ hx164_0)).trans hx164_0
          replace p164 := eq_true p164
          replace q164 := eq_true q164
          go_wp2_with (((with_reducible refine gate_builtin (b := .append) (xs := #[.tmp 21, .tmp 26]) rfl ?_); at_builtin; refine Kd.R_append (Kd.int .i64) (w0 := w) w.heap.size rfl (.tmp 21) (.tmp 26) 28 3 (.int .i64 0) 8 rfl Tryz.underlying28 info3 rfl (by decide) (by omega) u5 x5_2 (rd (rd_L1 l0 x17_2) x12_1) [.int .i64 (rd (rd_L1 l0 x17_2) x12_1)] (fun _ => True) (fun _ => False) rfl rfl ?aP (fun _ hk => hk.elim) ?aF ?aO ?aB ?aS ?aL ?_; (case aP => exact rfl); (case aB => exact (by repeat ((with_reducible (exact HB.out))))); (case aF => exact (fun _ _ => trivial)); (case aO => exact (by (with_reducible repeat (fail)); exact HO_5.out)); (case aS => exact (below_size (by repeat ((with_reducible (exact HB.out)))))); (case aL => have := LMc9.out; omega); intro v166 w10 ho hb hg hat; rw [← Ny165.out] at ho; have n0_ := Aside0.mk (Kd.S_after (ok := (fun _ => True)) (by (with_reducible repeat (fail)); exact Kd.S_mono HO_3.out (fun _ hk => ⟨trivial, hk⟩)) hg hat); have n1_ := Aside0.mk (hb); have n2_ := Aside0.mk (ho); clear HO_3; clear HB; clear HO_5; have HO_3 := n0_; have HB := n1_; have HO167 := n2_; clear n0_ n1_ n2_; clear ho hb hg hat))
          (go_roundg k2)
          case measure => have := HK1.out; have := HK2.out; omega
          case rel => exact ⟨(y165), (wrap64 (x17_2 + 1)), (by rfl), H', ⟨by have := HK1.out; have := HK2.out; omega⟩, ⟨by (with_reducible repeat (fail)); exact Kd.S_mono HO_3.out (fun _ hk => hk.2)⟩, ⟨by (with_reducible repeat (fail)); exact HO167.out⟩, ⟨by repeat ((with_reducible (exact HB.out)))⟩⟩

end Go.Proofs.YthekdgadnhkbhaaGreatDoor.A
