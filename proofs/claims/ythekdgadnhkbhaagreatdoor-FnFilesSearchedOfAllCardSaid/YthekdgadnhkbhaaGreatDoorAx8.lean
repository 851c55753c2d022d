-- WRITTEN BY printx.py, a program of this session over the kit's print: not typed by hand. Lean checks it.
import Derived.Test.YthekdgadnhkbhaaGreatDoorAx0
import Derived.Test.YthekdgadnhkbhaaGreatDoorAx3
import Derived.Test.YthekdgadnhkbhaaGreatDoorAx4
import Derived.Test.YthekdgadnhkbhaaGreatDoorAx7
namespace Go.Proofs.YthekdgadnhkbhaaGreatDoor.A
open Go.RowKit Go.Proofs.YthekdgadnhkbhaaGreatDoorW.PrintWords Go.Proofs.YthekdgadnhkbhaaGreatDoorW.PrintLast Go.Proofs.YthekdgadnhkbhaaGreatDoorW.PrintMore Go.Proofs.YthekdgadnhkbhaaGreatDoor.X
attribute [local go_sem] max2_int min2_int max_two min_two max_three min_three max_four min_four   -- for this text's walks alone
set_option linter.unusedVariables false
set_option linter.unusedSimpArgs false

/-! ### spec_HeightOfRank: function 12 -/
def spec_HeightOfRank.f (k : Nat) (l0 : List (List Int)) (a1 : Int) : Option (Int × Bool) := (spec_fiGood.f k l0).bind fun t262 => (if t262 = true then (if 0 < (l0.length : Int) then ((spec_l1In.f a1 0 (wrap64 ((wrap64 ((l0.length : Int) * ((rd_L1 l0 0).length : Int))) - 1))).bind fun t264 => (if t264 = true then ((spec_fiAll.f k l0).bind fun t265 => (if 0 ≤ a1 then (if a1 < (t265.length : Int) then (some (rd t265 a1, true)) else (none)) else (none))) else (some (0, false)))) else (none)) else (some (0, false)))
set_option maxHeartbeats 8000000 in
set_option maxRecDepth 100000 in
theorem spec_HeightOfRank.calls (k : Nat) (A0 : Option Addr) (c0 : Nat) (l0 : List (List Int)) (a1 : Int) (r1 : Int) (r2 : Bool) (w : World) (hr0 : Kd.C (Kd.slice 3 (Kd.int .i64)) w A0 l0.length l0) (hc0 : l0.length ≤ c0) (h : spec_HeightOfRank.f k l0 a1 = some (r1, r2)) :
    Calls Tryz.prog 12 #[.slice A0 l0.length c0, .int .i64 a1] w fun e w' => e = .returned (.tuple #[.int .i64 r1, .bool r2]) ∧ Below w.heap.size w w' := by
  have HR0 := Aside0.mk hr0
  have HC0 := Aside0.mk hc0
  clear hr0 hc0
  have HB := Aside0.mk (Below.refl w.heap.size w)
  have H : ((spec_fiGood.f k l0).bind fun t262 => (if t262 = true then (if 0 < (l0.length : Int) then ((spec_l1In.f a1 0 (wrap64 ((wrap64 ((l0.length : Int) * ((rd_L1 l0 0).length : Int))) - 1))).bind fun t264 => (if t264 = true then ((spec_fiAll.f k l0).bind fun t265 => (if 0 ≤ a1 then (if a1 < (t265.length : Int) then (some (rd t265 a1, true)) else (none)) else (none))) else (some (0, false)))) else (none)) else (some (0, false)))) = some (r1, r2) := h
  clear h
  replace H := Option.bind_eq_some_iff.mp H
  obtain ⟨t262, A30, H⟩ := H
  replace H : (if t262 = true then (if 0 < (l0.length : Int) then ((spec_l1In.f a1 0 (wrap64 ((wrap64 ((l0.length : Int) * ((rd_L1 l0 0).length : Int))) - 1))).bind fun t264 => (if t264 = true then ((spec_fiAll.f k l0).bind fun t265 => (if 0 ≤ a1 then (if a1 < (t265.length : Int) then (some (rd t265 a1, true)) else (none)) else (none))) else (some (0, false)))) else (none)) else (some (0, false))) = some (r1, r2) := H
  have A3 := Aside0.mk A30
  clear A30
  by_cases c4 : t262 = true
  rotate_left
  · replace c4 := Bool.eq_false_iff.mpr c4
    subst c4
    have H1 : (some (0, false)) = some (r1, r2) := by rw [if_neg (show ¬ (false = true) by decide)] at H; exact H
    clear H
    have H := H1
    clear H1
    simp only [Option.some.injEq, Prod.mk.injEq] at H
    obtain ⟨rfl, rfl⟩ := H
    go_enter Tryz.func12, Tryz.ntmps12
    go_wp2_with (((with_reducible refine gate_callee (f := 28) rfl ?_); refine goesL_ (some 7) rfl rfl Tryz.func28 (by kernel_rfl) rfl #[.slice A0 l0.length c0] rfl (by (try simp only [List.map_toArray, List.map_cons, List.map_nil]); rfl) ?_; (with_reducible refine (spec_fiGood.calls k _ _ l0 false _ ?side1 ?side2 A3.out).mono ?_); (case side1 => repeat ((exact HR0.out))); (case side2 => exact HC0.out); rintro e w' ⟨rfl, ⟨nd, rfl⟩⟩; refine ⟨_, rfl, ?_⟩))
    go_ret2
    exact ⟨by rfl, by repeat ((with_reducible first | exact HB.out | apply pw_below_drewN))⟩
  subst c4
  have H1 : (if 0 < (l0.length : Int) then ((spec_l1In.f a1 0 (wrap64 ((wrap64 ((l0.length : Int) * ((rd_L1 l0 0).length : Int))) - 1))).bind fun t264 => (if t264 = true then ((spec_fiAll.f k l0).bind fun t265 => (if 0 ≤ a1 then (if a1 < (t265.length : Int) then (some (rd t265 a1, true)) else (none)) else (none))) else (some (0, false)))) else (none)) = some (r1, r2) := by rw [if_pos rfl] at H; exact H
  clear H
  have H := H1
  clear H1
  by_cases c5 : 0 < (l0.length : Int)
  rotate_left
  · rw [if_neg c5] at H
    exact absurd H (by simp)
  rw [if_pos c5] at H
  have c5b0 : decide (0 < (l0.length : Int)) = true := decide_eq_true c5
  have c5b1 : decide (0 < l0.length) = true := decide_eq_true (by omega)
  clear c5
  replace H := Option.bind_eq_some_iff.mp H
  obtain ⟨t264, A60, H⟩ := H
  replace H : (if t264 = true then ((spec_fiAll.f k l0).bind fun t265 => (if 0 ≤ a1 then (if a1 < (t265.length : Int) then (some (rd t265 a1, true)) else (none)) else (none))) else (some (0, false))) = some (r1, r2) := H
  have A6 := Aside0.mk A60
  clear A60
  by_cases c7 : t264 = true
  rotate_left
  · replace c7 := Bool.eq_false_iff.mpr c7
    subst c7
    have H1 : (some (0, false)) = some (r1, r2) := by rw [if_neg (show ¬ (false = true) by decide)] at H; exact H
    clear H
    have H := H1
    clear H1
    simp only [Option.some.injEq, Prod.mk.injEq] at H
    obtain ⟨rfl, rfl⟩ := H
    go_enter Tryz.func12, Tryz.ntmps12
    go_wp2_with (first | ((with_reducible refine gate_callee (f := 28) rfl ?_); refine goesL_ (some 7) rfl rfl Tryz.func28 (by kernel_rfl) rfl #[.slice A0 l0.length c0] rfl (by (try simp only [List.map_toArray, List.map_cons, List.map_nil]); rfl) ?_; (with_reducible refine (spec_fiGood.calls k _ _ l0 true _ ?side1 ?side2 A3.out).mono ?_); (case side1 => repeat ((exact HR0.out))); (case side2 => exact HC0.out); rintro e w' ⟨rfl, ⟨nd, rfl⟩⟩; refine ⟨_, rfl, ?_⟩; have p263 : 0 ≤ (0 : Int) := (by omega); have q263 : 0 < (l0.length : Int) := of_decide_eq_true (by (with_reducible assumption)); obtain ⟨ad263, A263_0, c263_0, e263, hx263_0, hl263_0, hi263_0⟩ := at_L1 HR0.out 0 p263 q263; cases e263; have qi263 : (0 < l0.length) = True := eq_true (by omega); (try rw [show ((0 : Int)).toNat = 0 from rfl] at hx263_0); (try rw [Addr.add_zero'] at hx263_0); have HR263_0 := Aside0.mk hi263_0; have HC263_0 := Aside0.mk hl263_0; clear hi263_0 hl263_0; replace p263 := eq_true p263; replace q263 := eq_true q263) | (go_at_call 37; (with_reducible refine (spec_l1In.calls a1 0 (wrap64 ((wrap64 ((l0.length : Int) * ((rd_L1 l0 0).length : Int))) - 1)) false _ A6.out).mono ?_); rintro e w' ⟨rfl, ⟨nd, rfl⟩⟩))
    go_ret2
    exact ⟨by rfl, by repeat ((with_reducible first | exact HB.out | apply pw_below_drewN))⟩
  subst c7
  have H1 : ((spec_fiAll.f k l0).bind fun t265 => (if 0 ≤ a1 then (if a1 < (t265.length : Int) then (some (rd t265 a1, true)) else (none)) else (none))) = some (r1, r2) := by rw [if_pos rfl] at H; exact H
  clear H
  have H := H1
  clear H1
  replace H := Option.bind_eq_some_iff.mp H
  obtain ⟨t265, A80, H⟩ := H
  replace H : (if 0 ≤ a1 then (if a1 < (t265.length : Int) then (some (rd t265 a1, true)) else (none)) else (none)) = some (r1, r2) := H
  have A8 := Aside0.mk A80
  clear A80
  by_cases c9 : 0 ≤ a1
  rotate_left
  · rw [if_neg c9] at H
    exact absurd H (by simp)
  rw [if_pos c9] at H
  have c9b0 : decide (0 ≤ a1) = true := decide_eq_true c9
  clear c9
  by_cases c10 : a1 < (t265.length : Int)
  rotate_left
  · rw [if_neg c10] at H
    exact absurd H (by simp)
  rw [if_pos c10] at H
  have c10b0 : decide (a1 < (t265.length : Int)) = true := decide_eq_true c10
  clear c10
  simp only [Option.some.injEq, Prod.mk.injEq] at H
  obtain ⟨rfl, rfl⟩ := H
  go_enter Tryz.func12, Tryz.ntmps12
  go_wp2_with (first | ((with_reducible refine gate_callee (f := 28) rfl ?_); refine goesL_ (some 7) rfl rfl Tryz.func28 (by kernel_rfl) rfl #[.slice A0 l0.length c0] rfl (by (try simp only [List.map_toArray, List.map_cons, List.map_nil]); rfl) ?_; (with_reducible refine (spec_fiGood.calls k _ _ l0 true _ ?side1 ?side2 A3.out).mono ?_); (case side1 => repeat ((exact HR0.out))); (case side2 => exact HC0.out); rintro e w' ⟨rfl, ⟨nd, rfl⟩⟩; refine ⟨_, rfl, ?_⟩; have p263 : 0 ≤ (0 : Int) := (by omega); have q263 : 0 < (l0.length : Int) := of_decide_eq_true (by (with_reducible assumption)); obtain ⟨ad263, A263_0, c263_0, e263, hx263_0, hl263_0, hi263_0⟩ := at_L1 HR0.out 0 p263 q263; cases e263; have qi263 : (0 < l0.length) = True := eq_true (by omega); (try rw [show ((0 : Int)).toNat = 0 from rfl] at hx263_0); (try rw [Addr.add_zero'] at hx263_0); have HR263_0 := Aside0.mk hi263_0; have HC263_0 := Aside0.mk hl263_0; clear hi263_0 hl263_0; replace p263 := eq_true p263; replace q263 := eq_true q263) | (go_at_call 37; (with_reducible refine (spec_l1In.calls a1 0 (wrap64 ((wrap64 ((l0.length : Int) * ((rd_L1 l0 0).length : Int))) - 1)) true _ A6.out).mono ?_); rintro e w' ⟨rfl, ⟨nd, rfl⟩⟩) | ((with_reducible refine gate_callee (f := 33) rfl ?_); refine goesL_ (some 23) rfl rfl Tryz.func33 (by kernel_rfl) rfl #[.slice (some ad263) l0.length c0] rfl (by (try simp only [List.map_toArray, List.map_cons, List.map_nil]); rfl) ?_; (with_reducible refine (spec_fiAll.calls k _ _ l0 t265 _ ?side1 ?side2 A8.out).mono ?_); (case side1 => repeat ((exact HR0.out))); (case side2 => exact HC0.out); rintro e w11 ⟨v266, rfl, ho0, hb⟩; refine ⟨_, rfl, ?_⟩; have n0_ := Aside0.mk (Kd.R_lower ho0 (below_size (by repeat ((with_reducible first | exact HB.out | apply pw_below_drewN))))); have n1_ := Aside0.mk (below_step (by repeat ((with_reducible first | exact HB.out | apply pw_below_drewN))) hb); clear HB; have HO267 := n0_; have HB := n1_; clear n0_ n1_; (try clear hb); (try clear hb2); (try clear hk); (try clear hi); (try clear ho0); obtain ⟨Ao12, co12, eo12⟩ := Kd.R_slice HO267.out; subst eo12; have p268 : 0 ≤ (a1 : Int) := of_decide_eq_true (by (with_reducible assumption)); have q268 : a1 < (t265.length : Int) := of_decide_eq_true (by (with_reducible assumption)); obtain ⟨ad268, e268, hx268_0⟩ := Kd.at_int (Kd.R_reads' HO267.out).2.2 a1 p268 q268; cases e268; replace p268 := eq_true p268; replace q268 := eq_true q268))
  go_ret2
  exact ⟨by rfl, by repeat ((with_reducible (exact HB.out)))⟩

-- given: function 62 (slices_Clone_int_int)

end Go.Proofs.YthekdgadnhkbhaaGreatDoor.A
