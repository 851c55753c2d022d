-- Printed: Lean checks it.
import Derived.Test.YtohhlkehglahhaaGreatDoorAx0
import Derived.Test.YtohhlkehglahhaaGreatDoorAx2
import Derived.Test.YtohhlkehglahhaaGreatDoorAx3
import Derived.Test.YtohhlkehglahhaaGreatDoorAx6
namespace Go.Proofs.YtohhlkehglahhaaGreatDoor.A
open Go.RowKit Go.Proofs.YtohhlkehglahhaaGreatDoorW.PrintWords Go.Proofs.YtohhlkehglahhaaGreatDoorW.PrintLast Go.Proofs.YtohhlkehglahhaaGreatDoorW.PrintMore Go.Proofs.YtohhlkehglahhaaGreatDoor.X
attribute [local go_sem] max2_int min2_int max_two min_two max_three min_three max_four min_four
set_option linter.unusedVariables false
set_option linter.unusedSimpArgs false
mutual
def Qd.j0 : Nat → List (List Int) → Int → Bool → Option ((List (List Int)) × Bool)
 | 0, _, _, _ => none
 | k + 1, x0, x1, x28 => if x28 = true then (some (([] : List (List Int)), false)) else (if 0 < (x0.length : Int) then (Qd.l0 k x0 x1 ([] : List (List Int)) 0 (wrap64 (((rd_L2 x0 0).length : Int) - 1))) else (none))
def Qd.l0 : Nat → List (List Int) → Int → List (List Int) → Int → Int → Option ((List (List Int)) × Bool)
 | 0, _, _, _, _, _ => none
 | k + 1, x0, x1, x6, x7, x8 => if x7 < (x0.length : Int) then (Qd.j2 k x0 x1 x6 x7 x8 (decide (x8 ≥ 0))) else (Qd.j2 k x0 x1 x6 x7 x8 false)
def Qd.j2 : Nat → List (List Int) → Int → List (List Int) → Int → Int → Bool → Option ((List (List Int)) × Bool)
 | 0, _, _, _, _, _, _ => none
 | k + 1, x0, x1, x6, x7, x8, x41 => if x41 = true then (if x6.length < 5864062014805 then ((some (x6 ++ [(([x7, x8] : List Int))] : List (List Int))).bind fun y291 => (if 0 ≤ x7 then (if x7 < (x0.length : Int) then (if 0 ≤ x8 then (if x8 < ((rd_L2 x0 x7).length : Int) then (if (rd (rd_L2 x0 x7) x8) = x1 then (some (y291, true)) else (if (rd (rd_L2 x0 x7) x8) > x1 then (Qd.l0 k x0 x1 y291 x7 (wrap64 (x8 - 1))) else (Qd.l0 k x0 x1 y291 (wrap64 (x7 + 1)) x8))) else (none)) else (none)) else (none)) else (none))) else (none)) else (some (x6, true))
end
def Qd.f (k : Nat) (l0 : List (List Int)) (a1 : Int) : Option ((List (List Int)) × Bool) := (Qr.f k l0).bind fun t280 => (if t280 = true then ((Qx1.f a1).bind fun t281 => (if t281 = true then ((Qa1.f k l0).bind fun t282 => (if t282 = true then ((Qx.f k l0).bind fun t283 => ((Qa1.f k t283).bind fun t286 => (Qd.j0 k l0 a1 (!t286)))) else (Qd.j0 k l0 a1 true))) else (Qd.j0 k l0 a1 true))) else (Qd.j0 k l0 a1 true))
set_option maxHeartbeats 8000000 in
set_option maxRecDepth 100000 in
theorem Qd.calls (k : Nat) (A0 : Option Addr) (c0 : Nat) (l0 : List (List Int)) (a1 : Int) (r1 : List (List Int)) (r2 : Bool) (w : World) (hr0 : Kd.C (Kd.slice 3 (Kd.int .i64)) w A0 l0.length l0) (hc0 : l0.length ≤ c0) (h : Qd.f k l0 a1 = some (r1, r2)) :
  Calls Tryz.prog 7 #[.slice A0 l0.length c0, .int .i64 a1] w fun e w' => ∃ v0_ : Value, e = .returned (.tuple #[v0_, .bool r2]) ∧ Kd.S (Kd.slice 3 (Kd.int .i64)) 32 w' w.heap.size (fun _ => True) v0_ r1 ∧ Below w.heap.size w w' := by
 have HR0 := Qa.mk hr0
 have HC0 := Qa.mk hc0
 clear hr0 hc0
 have HB := Qa.mk (Below.refl w.heap.size w)
 have H : ((Qr.f k l0).bind fun t280 => (if t280 = true then ((Qx1.f a1).bind fun t281 => (if t281 = true then ((Qa1.f k l0).bind fun t282 => (if t282 = true then ((Qx.f k l0).bind fun t283 => ((Qa1.f k t283).bind fun t286 => (Qd.j0 k l0 a1 (!t286)))) else (Qd.j0 k l0 a1 true))) else (Qd.j0 k l0 a1 true))) else (Qd.j0 k l0 a1 true))) = some (r1, r2) := h
 clear h
 have HC3 := Qa.mk H
 clear H
 go_enter Tryz.func7, Tryz.ntmps7
 go_upto_region 1 with (fail)
 repeat (go_quiet (fail); go_upto_region 1 with (fail))
 go_cut [28] (fun v28 wc => ∃ (kq : Nat) (x28_2 : Bool), v28 = .bool x28_2 ∧ Qa (Qd.j0 kq l0 a1 x28_2 = some (r1, r2)) ∧ Qa (kq ≤ k) ∧ Qa (Below w.heap.size w wc))
 case first =>
  have H := HC3.out
  clear HC3
  replace H := Option.bind_eq_some_iff.mp H
  obtain ⟨t280, A40, H⟩ := H
  replace H : (if t280 = true then ((Qx1.f a1).bind fun t281 => (if t281 = true then ((Qa1.f k l0).bind fun t282 => (if t282 = true then ((Qx.f k l0).bind fun t283 => ((Qa1.f k t283).bind fun t286 => (Qd.j0 k l0 a1 (!t286)))) else (Qd.j0 k l0 a1 true))) else (Qd.j0 k l0 a1 true))) else (Qd.j0 k l0 a1 true)) = some (r1, r2) := H
  have A4 := Qa.mk A40
  clear A40
  by_cases c5 : t280 = true
  rotate_left
  ·replace c5 := Bool.eq_false_iff.mpr c5
   subst c5
   have H1 : (Qd.j0 k l0 a1 true) = some (r1, r2) := by rw [if_neg (show ¬ (false = true) by decide)] at H; exact H
   clear H
   have H := H1
   clear H1
   have H' := Qa.mk H
   clear H
   go_wp2_with ((go_at_call 31; (with_reducible refine (Qr.calls k _ _ l0 false _ ?side1 ?side2 A4.out).mono ?_); (case side1 => repeat ((exact (Kd.C_below HR0.out HB.out)))); (case side2 => exact HC0.out); rintro e w' ⟨rfl, ⟨nd, rfl⟩⟩; (try fail)))
   repeat (go_quiet (fail); try go_wp2_with (fail))
   go_meet
   case rel => exact ⟨_, (true), (by rfl), H', ⟨by omega⟩, ⟨by repeat ((with_reducible first | exact HB.out | apply Qi))⟩⟩
  subst c5
  have H1 : ((Qx1.f a1).bind fun t281 => (if t281 = true then ((Qa1.f k l0).bind fun t282 => (if t282 = true then ((Qx.f k l0).bind fun t283 => ((Qa1.f k t283).bind fun t286 => (Qd.j0 k l0 a1 (!t286)))) else (Qd.j0 k l0 a1 true))) else (Qd.j0 k l0 a1 true))) = some (r1, r2) := by rw [if_pos rfl] at H; exact H
  clear H
  have H := H1
  clear H1
  replace H := Option.bind_eq_some_iff.mp H
  obtain ⟨t281, A60, H⟩ := H
  replace H : (if t281 = true then ((Qa1.f k l0).bind fun t282 => (if t282 = true then ((Qx.f k l0).bind fun t283 => ((Qa1.f k t283).bind fun t286 => (Qd.j0 k l0 a1 (!t286)))) else (Qd.j0 k l0 a1 true))) else (Qd.j0 k l0 a1 true)) = some (r1, r2) := H
  have A6 := Qa.mk A60
  clear A60
  by_cases c7 : t281 = true
  rotate_left
  ·replace c7 := Bool.eq_false_iff.mpr c7
   subst c7
   have H1 : (Qd.j0 k l0 a1 true) = some (r1, r2) := by rw [if_neg (show ¬ (false = true) by decide)] at H; exact H
   clear H
   have H := H1
   clear H1
   have H' := Qa.mk H
   clear H
   go_wp2_with (first | (go_at_call 31; (with_reducible refine (Qr.calls k _ _ l0 true _ ?side1 ?side2 A4.out).mono ?_); (case side1 => repeat ((exact (Kd.C_below HR0.out HB.out)))); (case side2 => exact HC0.out); rintro e w' ⟨rfl, ⟨nd, rfl⟩⟩; (try fail)) | (go_at_call 42; (with_reducible refine (Qx1.calls a1 false _ A6.out).mono ?_); rintro e w' ⟨rfl, ⟨nd, rfl⟩⟩; (try fail)))
   repeat (go_quiet (fail); try go_wp2_with (fail))
   go_meet
   case rel => exact ⟨_, (true), (by rfl), H', ⟨by omega⟩, ⟨by repeat ((with_reducible first | exact HB.out | apply Qi))⟩⟩
  subst c7
  have H1 : ((Qa1.f k l0).bind fun t282 => (if t282 = true then ((Qx.f k l0).bind fun t283 => ((Qa1.f k t283).bind fun t286 => (Qd.j0 k l0 a1 (!t286)))) else (Qd.j0 k l0 a1 true))) = some (r1, r2) := by rw [if_pos rfl] at H; exact H
  clear H
  have H := H1
  clear H1
  replace H := Option.bind_eq_some_iff.mp H
  obtain ⟨t282, A80, H⟩ := H
  replace H : (if t282 = true then ((Qx.f k l0).bind fun t283 => ((Qa1.f k t283).bind fun t286 => (Qd.j0 k l0 a1 (!t286)))) else (Qd.j0 k l0 a1 true)) = some (r1, r2) := H
  have A8 := Qa.mk A80
  clear A80
  by_cases c9 : t282 = true
  rotate_left
  ·replace c9 := Bool.eq_false_iff.mpr c9
   subst c9
   have H1 : (Qd.j0 k l0 a1 true) = some (r1, r2) := by rw [if_neg (show ¬ (false = true) by decide)] at H; exact H
   clear H
   have H := H1
   clear H1
   have H' := Qa.mk H
   clear H
   go_wp2_with (first | (go_at_call 31; (with_reducible refine (Qr.calls k _ _ l0 true _ ?side1 ?side2 A4.out).mono ?_); (case side1 => repeat ((exact (Kd.C_below HR0.out HB.out)))); (case side2 => exact HC0.out); rintro e w' ⟨rfl, ⟨nd, rfl⟩⟩; (try fail)) | (go_at_call 42; (with_reducible refine (Qx1.calls a1 true _ A6.out).mono ?_); rintro e w' ⟨rfl, ⟨nd, rfl⟩⟩; (try fail)) | (go_at_call 43; (with_reducible refine (Qa1.calls k _ _ l0 false _ ?side1 ?side2 A8.out).mono ?_); (case side1 => repeat ((exact (Kd.C_below HR0.out (by repeat ((with_reducible first | exact HB.out | apply Qi))))))); (case side2 => exact HC0.out); rintro e w' ⟨rfl, ⟨nd, rfl⟩⟩; (try fail)))
   repeat (go_quiet (fail); try go_wp2_with (fail))
   go_meet
   case rel => exact ⟨_, (true), (by rfl), H', ⟨by omega⟩, ⟨by repeat ((with_reducible first | exact HB.out | apply Qi))⟩⟩
  subst c9
  have H1 : ((Qx.f k l0).bind fun t283 => ((Qa1.f k t283).bind fun t286 => (Qd.j0 k l0 a1 (!t286)))) = some (r1, r2) := by rw [if_pos rfl] at H; exact H
  clear H
  have H := H1
  clear H1
  replace H := Option.bind_eq_some_iff.mp H
  obtain ⟨t283, A100, H⟩ := H
  replace H : ((Qa1.f k t283).bind fun t286 => (Qd.j0 k l0 a1 (!t286))) = some (r1, r2) := H
  have A10 := Qa.mk A100
  clear A100
  replace H := Option.bind_eq_some_iff.mp H
  obtain ⟨t286, A110, H⟩ := H
  replace H : (Qd.j0 k l0 a1 (!t286)) = some (r1, r2) := H
  have A11 := Qa.mk A110
  clear A110
  have H' := Qa.mk H
  clear H
  go_wp2_with (first | (go_at_call 31; (with_reducible refine (Qr.calls k _ _ l0 true _ ?side1 ?side2 A4.out).mono ?_); (case side1 => repeat ((exact (Kd.C_below HR0.out HB.out)))); (case side2 => exact HC0.out); rintro e w' ⟨rfl, ⟨nd, rfl⟩⟩; (try fail)) | (go_at_call 42; (with_reducible refine (Qx1.calls a1 true _ A6.out).mono ?_); rintro e w' ⟨rfl, ⟨nd, rfl⟩⟩; (try fail)) | (go_at_call 43; (with_reducible refine (Qa1.calls k _ _ l0 true _ ?side1 ?side2 A8.out).mono ?_); (case side1 => repeat ((exact (Kd.C_below HR0.out (by repeat ((with_reducible first | exact HB.out | apply Qi))))))); (case side2 => exact HC0.out); rintro e w' ⟨rfl, ⟨nd, rfl⟩⟩; (try fail)) | (go_at_call 44; (with_reducible refine (Qx.calls k _ _ l0 t283 _ ?side1 ?side2 A10.out).mono ?_); (case side1 => repeat ((exact (Kd.C_below HR0.out (by repeat ((with_reducible first | exact HB.out | apply Qi))))))); (case side2 => exact HC0.out); rintro e w12 ⟨v284, rfl, ho0, hb⟩; have n0_ := Qa.mk (Kd.S_lower ho0 (Qq (by repeat ((with_reducible first | exact HB.out | apply Qi))))); have n1_ := Qa.mk (Qh (by repeat ((with_reducible first | exact HB.out | apply Qi))) hb); clear HB; have HO285 := n0_; have HB := n1_; clear n0_ n1_; (try clear hb); (try clear hb2); (try clear hk); (try clear hi); (try clear ho0); obtain ⟨Ao13, co13, eo13⟩ := Kd.S_slice HO285.out; subst eo13) | (go_at_call 43; (with_reducible refine (Qa1.calls k _ _ t283 t286 _ ?side1 ?side2 A11.out).mono ?_); (case side1 => repeat ((exact (Kd.S_reads' HO285.out).2.2))); (case side2 => exact (Kd.S_reads' HO285.out).2.1); rintro e w' ⟨rfl, ⟨nd, rfl⟩⟩; (try fail)))
  repeat (go_quiet (fail); try go_wp2_with (fail))
  go_meet
  case rel => exact ⟨_, (!t286), (by rfl), H', ⟨by omega⟩, ⟨by repeat ((with_reducible first | exact HB.out | apply Qi))⟩⟩
 case rest =>
  clear HC3
  obtain ⟨kq, x28_2, rfl, HA, HJ2, HB⟩ := hcut
  cases kq with
  | zero => exact absurd HA.out (by simp [Qd.j0])
  | succ kj2 =>
   have H := HA.out
   clear HA
   simp only [Qd.j0] at H
   by_cases c14 : x28_2 = true
   ·subst c14
    have H1 : (some (([] : List (List Int)), false)) = some (r1, r2) := by rw [if_pos rfl] at H; exact H
    clear H
    have H := H1
    clear H1
    simp only [Option.some.injEq, Prod.mk.injEq] at H
    obtain ⟨rfl, rfl⟩ := H
    go_wp2
    repeat (go_quiet (fail); try go_wp2)
    go_ret2
    exact ⟨_, by rfl, by (exact Kd.S_nil _ _ _ _ _), by repeat ((with_reducible (exact HB.out)))⟩
   replace c14 := Bool.eq_false_iff.mpr c14
   subst c14
   have H1 : (if 0 < (l0.length : Int) then (Qd.l0 kj2 l0 a1 ([] : List (List Int)) 0 (wrap64 (((rd_L2 l0 0).length : Int) - 1))) else (none)) = some (r1, r2) := by rw [if_neg (show ¬ (false = true) by decide)] at H; exact H
   clear H
   have H := H1
   clear H1
   by_cases c15 : 0 < (l0.length : Int)
   rotate_left
   ·rw [if_neg c15] at H
    exact absurd H (by simp)
   rw [if_pos c15] at H
   have c15b0 : decide (0 < (l0.length : Int)) = true := decide_eq_true c15
   have c15b1 : decide (0 < l0.length) = true := decide_eq_true (by omega)
   clear c15
   have H' := Qa.mk H
   clear H
   have p287 : 0 ≤ (0 : Int) := (by omega)
   have q287 : 0 < (l0.length : Int) := of_decide_eq_true (by (with_reducible assumption))
   obtain ⟨ad287, A287_0, c287_0, e287, hx287_0, hl287_0, hi287_0⟩ := at_L2 HR0.out 0 p287 q287
   cases e287
   have qi287 : (0 < l0.length) = True := eq_true (by omega)
   (try rw [show ((0 : Int)).toNat = 0 from rfl] at hx287_0)
   (try rw [Addr.add_zero'] at hx287_0)
   replace hx287_0 := (HB.out.cell (World.block_lt_of_cell? w _ hx287_0)).trans hx287_0
   have HR287_0 := Qa.mk hi287_0
   have HC287_0 := Qa.mk hl287_0
   clear hi287_0 hl287_0
   replace p287 := eq_true p287
   replace q287 := eq_true q287
   go_wp2
   repeat (go_quiet (fail); try go_wp2)
   go_loopg [6, 7, 8] kj2 (fun kq v6 v7 v8 w' => ∃ (x6_2 : List (List Int)) (x7_2 : Int) (x8_2 : Int), v7 = .int .i64 x7_2 ∧ v8 = .int .i64 x8_2 ∧ Qa (Qd.l0 kq l0 a1 x6_2 x7_2 x8_2 = some (r1, r2)) ∧ Qa (kq ≤ kj2) ∧ Qa (Kd.S (Kd.slice 3 (Kd.int .i64)) 32 w' w.heap.size (fun _ => True) v6 x6_2) ∧ Qa (Below w.heap.size w w'))
   case atStart => exact ⟨(([] : List (List Int))), (0), (wrap64 (((rd_L2 l0 0).length : Int) - 1)), (by rfl), (by rfl), H', ⟨Nat.le_refl _⟩, ⟨by (exact Kd.S_nil _ _ _ _ _)⟩, ⟨by repeat ((with_reducible first | exact HB.out | apply Qi))⟩⟩
   case round =>
    clear H' c15b0 c15b1 hx287_0 p287 q287
    obtain ⟨x6_2, x7_2, x8_2, rfl, rfl, HA, HK2, HO_6, HB⟩ := hrel
    cases gk with
    | zero => exact absurd HA.out (by simp [Qd.l0])
    | succ k2 =>
     have H := HA.out
     clear HA
     simp only [Qd.l0] at H
     have HC16 := Qa.mk H
     clear H
     go_upto_region 5 with (fail)
     repeat (go_quiet (fail); go_upto_region 5 with (fail))
     go_cut [41] (fun v41 wc => ∃ (kq : Nat) (x41_15 : Bool), v41 = .bool x41_15 ∧ Qa (Qd.j2 kq l0 a1 x6_2 x7_2 x8_2 x41_15 = some (r1, r2)) ∧ Qa (kq ≤ k2) ∧ Qa (Kd.S (Kd.slice 3 (Kd.int .i64)) 32 wc w.heap.size (fun _ => True) u6 x6_2) ∧ Qa (Below w.heap.size w wc))
     case first =>
      have H := HC16.out
      clear HC16
      by_cases c17 : x7_2 < (l0.length : Int)
      ·rw [if_pos c17] at H
       have c17b0 : decide (x7_2 < (l0.length : Int)) = true := decide_eq_true c17
       clear c17
       (skip)
       have H' := Qa.mk H
       clear H
       go_wp2
       repeat (go_quiet (fail); try go_wp2)
       go_meet
       case rel => exact ⟨_, (decide (x8_2 ≥ 0)), (by rfl), H', ⟨by have := HJ2.out; have := HK2.out; omega⟩, ⟨by (with_reducible repeat (fail)); exact HO_6.out⟩, ⟨by repeat ((with_reducible (exact HB.out)))⟩⟩
      rw [if_neg c17] at H
      have c17b0 : decide (x7_2 < (l0.length : Int)) = false := decide_eq_false c17
      clear c17
      (skip)
      have H' := Qa.mk H
      clear H
      go_wp2
      repeat (go_quiet (fail); try go_wp2)
      go_meet
      case rel => exact ⟨_, (false), (by rfl), H', ⟨by have := HJ2.out; have := HK2.out; omega⟩, ⟨by (with_reducible repeat (fail)); exact HO_6.out⟩, ⟨by repeat ((with_reducible (exact HB.out)))⟩⟩
     case rest =>
      clear HC16
      obtain ⟨kq, x41_15, rfl, HA, HJ15, HO_6, HB⟩ := hcut
      cases kq with
      | zero => exact absurd HA.out (by simp [Qd.j2])
      | succ kj15 =>
       have H := HA.out
       clear HA
       simp only [Qd.j2] at H
       by_cases c18 : x41_15 = true
       rotate_left
       ·replace c18 := Bool.eq_false_iff.mpr c18
        subst c18
        have H1 : (some (x6_2, true)) = some (r1, r2) := by rw [if_neg (show ¬ (false = true) by decide)] at H; exact H
        clear H
        have H := H1
        clear H1
        simp only [Option.some.injEq, Prod.mk.injEq] at H
        obtain ⟨rfl, rfl⟩ := H
        go_wp2
        repeat (go_quiet (fail); try go_wp2)
        go_ret2
        exact ⟨_, by rfl, by (with_reducible repeat (fail)); exact HO_6.out, by repeat ((with_reducible (exact HB.out)))⟩
       subst c18
       have H1 : (if x6_2.length < 5864062014805 then ((some (x6_2 ++ [(([x7_2, x8_2] : List Int))] : List (List Int))).bind fun y291 => (if 0 ≤ x7_2 then (if x7_2 < (l0.length : Int) then (if 0 ≤ x8_2 then (if x8_2 < ((rd_L2 l0 x7_2).length : Int) then (if (rd (rd_L2 l0 x7_2) x8_2) = a1 then (some (y291, true)) else (if (rd (rd_L2 l0 x7_2) x8_2) > a1 then (Qd.l0 kj15 l0 a1 y291 x7_2 (wrap64 (x8_2 - 1))) else (Qd.l0 kj15 l0 a1 y291 (wrap64 (x7_2 + 1)) x8_2))) else (none)) else (none)) else (none)) else (none))) else (none)) = some (r1, r2) := by rw [if_pos rfl] at H; exact H
       clear H
       have H := H1
       clear H1
       obtain ⟨y288, hy288⟩ : ∃ y_ : List Int, y_ = (([x7_2, x8_2] : List Int)) := ⟨_, rfl⟩
       replace H : (if x6_2.length < 5864062014805 then ((some (x6_2 ++ [y288] : List (List Int))).bind fun y291 => (if 0 ≤ x7_2 then (if x7_2 < (l0.length : Int) then (if 0 ≤ x8_2 then (if x8_2 < ((rd_L2 l0 x7_2).length : Int) then (if (rd (rd_L2 l0 x7_2) x8_2) = a1 then (some (y291, true)) else (if (rd (rd_L2 l0 x7_2) x8_2) > a1 then (Qd.l0 kj15 l0 a1 y291 x7_2 (wrap64 (x8_2 - 1))) else (Qd.l0 kj15 l0 a1 y291 (wrap64 (x7_2 + 1)) x8_2))) else (none)) else (none)) else (none)) else (none))) else (none)) = some (r1, r2) := by (rw [hy288]; with_reducible exact H)
       have Ny288 := Qa.mk hy288
       clear hy288
       by_cases c19 : x6_2.length < 5864062014805
       rotate_left
       ·rw [if_neg c19] at H
        exact absurd H (by simp)
       rw [if_pos c19] at H
       have LMc19 := Qa.mk c19
       clear c19
       obtain ⟨y291, hy291⟩ : ∃ y_ : List (List Int), y_ = (x6_2 ++ [y288]) := ⟨_, rfl⟩
       replace H : (if 0 ≤ x7_2 then (if x7_2 < (l0.length : Int) then (if 0 ≤ x8_2 then (if x8_2 < ((rd_L2 l0 x7_2).length : Int) then (if (rd (rd_L2 l0 x7_2) x8_2) = a1 then (some (y291, true)) else (if (rd (rd_L2 l0 x7_2) x8_2) > a1 then (Qd.l0 kj15 l0 a1 y291 x7_2 (wrap64 (x8_2 - 1))) else (Qd.l0 kj15 l0 a1 y291 (wrap64 (x7_2 + 1)) x8_2))) else (none)) else (none)) else (none)) else (none)) = some (r1, r2) := by (have H2_ := (Option.bind_some _ _).symm.trans H; rw [hy291]; with_reducible exact H2_)
       have Ny291 := Qa.mk hy291
       clear hy291
       by_cases c20 : 0 ≤ x7_2
       rotate_left
       ·rw [if_neg c20] at H
        exact absurd H (by simp)
       rw [if_pos c20] at H
       have c20b0 : decide (0 ≤ x7_2) = true := decide_eq_true c20
       clear c20
       by_cases c21 : x7_2 < (l0.length : Int)
       rotate_left
       ·rw [if_neg c21] at H
        exact absurd H (by simp)
       rw [if_pos c21] at H
       have c21b0 : decide (x7_2 < (l0.length : Int)) = true := decide_eq_true c21
       clear c21
       by_cases c22 : 0 ≤ x8_2
       rotate_left
       ·rw [if_neg c22] at H
        exact absurd H (by simp)
       rw [if_pos c22] at H
       have c22b0 : decide (0 ≤ x8_2) = true := decide_eq_true c22
       clear c22
       by_cases c23 : x8_2 < ((rd_L2 l0 x7_2).length : Int)
       rotate_left
       ·rw [if_neg c23] at H
        exact absurd H (by simp)
       rw [if_pos c23] at H
       have c23b0 : decide (x8_2 < ((rd_L2 l0 x7_2).length : Int)) = true := decide_eq_true c23
       clear c23
       by_cases c24 : (rd (rd_L2 l0 x7_2) x8_2) = a1
       ·rw [if_pos c24] at H
        have c24b0 : ((rd (rd_L2 l0 x7_2) x8_2) == a1) = true := beq_iff_eq.mpr c24
        have c24b1 : ((rd (rd_L2 l0 x7_2) x8_2) != a1) = false := bne_eq_false_iff_eq.mpr c24
        clear c24
        simp only [Option.some.injEq, Prod.mk.injEq] at H
        obtain ⟨rfl, rfl⟩ := H
        go_wp2_with (first | ((with_reducible refine gate_dst (N := 45) rfl ?_); refine Kd.R_lit (Kd.int .i64) _ 3 ?hg (N := 45) ?hd (xs := ([x7_2, x8_2] : List Int)) (inner := [.int .i64 x7_2, .int .i64 x8_2]) (ok := fun _ => True) (okp := fun _ => True) ?hr ?hp (fun _ hk => hk) trivial (Below.refl _ _) (Nat.le_refl _) (by simp) ?_; (case hd => rfl); (case hg => rfl); (case hr => (go_simp; done)); (case hp => exact (Reps.one (show Kd.M (Kd.int .i64) _ _ _ x7_2 [.int .i64 x7_2] from rfl) (Reps.one (show Kd.M (Kd.int .i64) _ _ _ x8_2 [.int .i64 x8_2] from rfl) (Reps.none _ _)))); intro v289 w25 ho26 hb hg_ hnew_; clear hg_ hnew_; ((rw [← Ny288.out] at ho26)); have n0_ := Qa.mk (Kd.S_elder' (by (with_reducible repeat (fail)); exact HO_6.out) (Kd.R_base ho26) hb); have n1_ := Qa.mk (Kd.R_lower ho26 (Qq (by repeat ((with_reducible (exact HB.out)))))); have n2_ := Qa.mk (Qh (by repeat ((with_reducible (exact HB.out)))) hb); clear HO_6; clear HB; have HO_6 := n0_; have HO290 := n1_; have HB := n2_; clear n0_ n1_ n2_; clear hb ho26; obtain ⟨Ao28, co28, eo28⟩ := Kd.R_slice HO290.out; subst eo28) | ((with_reducible refine gate_builtin (b := .append) (xs := #[.tmp 42, .tmp 46]) rfl ?_); at_builtin; refine Kd.S_append (Kd.slice 3 (Kd.int .i64)) (w0 := w) w.heap.size rfl (.tmp 42) (.tmp 46) 24 32 (.slice none 0 0) 24 rfl Tryz.underlying24 info32 rfl (by decide) (by omega) u6 x6_2 y288 [.slice Ao28 y288.length co28] (fun _ => True) (fun k_ => some k_ = (.slice Ao28 y288.length co28 : Value).ownBlock) rfl rfl ?aP (fun k_ hk_ => ((Kd.R_mono (ok' := fun k_ => ((fun _ => True)) k_ ∧ some k_ ≠ (u6 : Value).ownBlock) (Kd.R_apart' (HO290.out) (Kd.S_typed HO_6.out) (by decide)) (fun k_ hk => ⟨trivial, hk.2⟩))).1 k_ hk_.symm) ?aF ?aO ?aB ?aS ?aL ?_; (case aP => exact Kd.M_row (Kd.R_mono (Kd.R_tight rfl (Kd.R_mono (ok' := fun k_ => ((fun _ => True)) k_ ∧ some k_ ≠ (u6 : Value).ownBlock) (Kd.R_apart' (HO290.out) (Kd.S_typed HO_6.out) (by decide)) (fun k_ hk => ⟨trivial, hk.2⟩))) (fun _ h_ => h_))); (case aB => exact (by repeat ((with_reducible (exact HB.out))))); (case aF => exact (fun _ _ => trivial)); (case aO => exact (by (with_reducible repeat (fail)); exact Kd.S_mono HO_6.out (fun k_ hk => ⟨trivial, fun e_ => hk.2 e_⟩))); (case aS => exact (Qq (by repeat ((with_reducible (exact HB.out)))))); (case aL => have := LMc19.out; omega); intro v292 w27 ho hb hg hat; rw [← Ny291.out] at ho; have n0_ := Qa.mk (hb); have n1_ := Qa.mk (ho); clear HB; clear HO_6; clear HO290; have HB := n0_; have HO293 := n1_; clear n0_ n1_; clear ho hb hg hat; have p294 : 0 ≤ (x7_2 : Int) := of_decide_eq_true (by (with_reducible assumption)); have q294 : x7_2 < (l0.length : Int) := of_decide_eq_true (by (with_reducible assumption)); obtain ⟨ad294, A294_0, c294_0, e294, hx294_0, hl294_0, hi294_0⟩ := at_L2 HR0.out x7_2 p294 q294; obtain rfl : ad287 = ad294 := (by injection e294); replace hx294_0 := (HB.out.cell (World.block_lt_of_cell? w _ hx294_0)).trans hx294_0; have HR294_0 := Qa.mk hi294_0; have HC294_0 := Qa.mk hl294_0; clear hi294_0 hl294_0; replace p294 := eq_true p294; replace q294 := eq_true q294; have p295 : 0 ≤ (x8_2 : Int) := of_decide_eq_true (by (with_reducible assumption)); have q295 : x8_2 < ((rd_L2 l0 x7_2).length : Int) := of_decide_eq_true (by (with_reducible assumption)); obtain ⟨ad295, e295, hx295_0⟩ := Kd.at_int HR294_0.out x8_2 p295 q295; cases e295; replace hx295_0 := (HB.out.cell (World.block_lt_of_cell? w _ hx295_0)).trans hx295_0; replace p295 := eq_true p295; replace q295 := eq_true q295))
        repeat (go_quiet (fail); try go_wp2_with (fail))
        go_ret2
        exact ⟨_, by rfl, by (with_reducible repeat (fail)); exact HO293.out, by repeat ((with_reducible (exact HB.out)))⟩
       rw [if_neg c24] at H
       have c24b0 : ((rd (rd_L2 l0 x7_2) x8_2) == a1) = false := beq_eq_false_iff_ne.mpr c24
       have c24b1 : ((rd (rd_L2 l0 x7_2) x8_2) != a1) = true := bne_iff_ne.mpr c24
       by_cases c29 : (rd (rd_L2 l0 x7_2) x8_2) > a1
       ·rw [if_pos c29] at H
        have c29b0 : decide (a1 < (rd (rd_L2 l0 x7_2) x8_2)) = true := decide_eq_true c29
        clear c29
        have H' := Qa.mk H
        clear H
        go_wp2_with (first | ((with_reducible refine gate_dst (N := 45) rfl ?_); refine Kd.R_lit (Kd.int .i64) _ 3 ?hg (N := 45) ?hd (xs := ([x7_2, x8_2] : List Int)) (inner := [.int .i64 x7_2, .int .i64 x8_2]) (ok := fun _ => True) (okp := fun _ => True) ?hr ?hp (fun _ hk => hk) trivial (Below.refl _ _) (Nat.le_refl _) (by simp) ?_; (case hd => rfl); (case hg => rfl); (case hr => (go_simp; done)); (case hp => exact (Reps.one (show Kd.M (Kd.int .i64) _ _ _ x7_2 [.int .i64 x7_2] from rfl) (Reps.one (show Kd.M (Kd.int .i64) _ _ _ x8_2 [.int .i64 x8_2] from rfl) (Reps.none _ _)))); intro v289 w30 ho31 hb hg_ hnew_; clear hg_ hnew_; ((rw [← Ny288.out] at ho31)); have n0_ := Qa.mk (Kd.S_elder' (by (with_reducible repeat (fail)); exact HO_6.out) (Kd.R_base ho31) hb); have n1_ := Qa.mk (Kd.R_lower ho31 (Qq (by repeat ((with_reducible (exact HB.out)))))); have n2_ := Qa.mk (Qh (by repeat ((with_reducible (exact HB.out)))) hb); clear HO_6; clear HB; have HO_6 := n0_; have HO290 := n1_; have HB := n2_; clear n0_ n1_ n2_; clear hb ho31; obtain ⟨Ao33, co33, eo33⟩ := Kd.R_slice HO290.out; subst eo33) | ((with_reducible refine gate_builtin (b := .append) (xs := #[.tmp 42, .tmp 46]) rfl ?_); at_builtin; refine Kd.S_append (Kd.slice 3 (Kd.int .i64)) (w0 := w) w.heap.size rfl (.tmp 42) (.tmp 46) 24 32 (.slice none 0 0) 24 rfl Tryz.underlying24 info32 rfl (by decide) (by omega) u6 x6_2 y288 [.slice Ao33 y288.length co33] (fun _ => True) (fun k_ => some k_ = (.slice Ao33 y288.length co33 : Value).ownBlock) rfl rfl ?aP (fun k_ hk_ => ((Kd.R_mono (ok' := fun k_ => ((fun _ => True)) k_ ∧ some k_ ≠ (u6 : Value).ownBlock) (Kd.R_apart' (HO290.out) (Kd.S_typed HO_6.out) (by decide)) (fun k_ hk => ⟨trivial, hk.2⟩))).1 k_ hk_.symm) ?aF ?aO ?aB ?aS ?aL ?_; (case aP => exact Kd.M_row (Kd.R_mono (Kd.R_tight rfl (Kd.R_mono (ok' := fun k_ => ((fun _ => True)) k_ ∧ some k_ ≠ (u6 : Value).ownBlock) (Kd.R_apart' (HO290.out) (Kd.S_typed HO_6.out) (by decide)) (fun k_ hk => ⟨trivial, hk.2⟩))) (fun _ h_ => h_))); (case aB => exact (by repeat ((with_reducible (exact HB.out))))); (case aF => exact (fun _ _ => trivial)); (case aO => exact (by (with_reducible repeat (fail)); exact Kd.S_mono HO_6.out (fun k_ hk => ⟨trivial, fun e_ => hk.2 e_⟩))); (case aS => exact (Qq (by repeat ((with_reducible (exact HB.out)))))); (case aL => have := LMc19.out; omega); intro v292 w32 ho hb hg hat; rw [← Ny291.out] at ho; have n0_ := Qa.mk (hb); have n1_ := Qa.mk (ho); clear HB; clear HO_6; clear HO290; have HB := n0_; have HO293 := n1_; clear n0_ n1_; clear ho hb hg hat; have p294 : 0 ≤ (x7_2 : Int) := of_decide_eq_true (by (with_reducible assumption)); have q294 : x7_2 < (l0.length : Int) := of_decide_eq_true (by (with_reducible assumption)); obtain ⟨ad294, A294_0, c294_0, e294, hx294_0, hl294_0, hi294_0⟩ := at_L2 HR0.out x7_2 p294 q294; obtain rfl : ad287 = ad294 := (by injection e294); replace hx294_0 := (HB.out.cell (World.block_lt_of_cell? w _ hx294_0)).trans hx294_0; have HR294_0 := Qa.mk hi294_0; have HC294_0 := Qa.mk hl294_0; clear hi294_0 hl294_0; replace p294 := eq_true p294; replace q294 := eq_true q294; have p295 : 0 ≤ (x8_2 : Int) := of_decide_eq_true (by (with_reducible assumption)); have q295 : x8_2 < ((rd_L2 l0 x7_2).length : Int) := of_decide_eq_true (by (with_reducible assumption)); obtain ⟨ad295, e295, hx295_0⟩ := Kd.at_int HR294_0.out x8_2 p295 q295; cases e295; replace hx295_0 := (HB.out.cell (World.block_lt_of_cell? w _ hx295_0)).trans hx295_0; replace p295 := eq_true p295; replace q295 := eq_true q295))
        repeat (go_quiet (fail); try go_wp2_with (fail))
        (go_roundg kj15)
        case measure => have := HJ2.out; have := HK2.out; have := HJ15.out; omega
        case rel => exact ⟨(y291), (x7_2), (wrap64 (x8_2 - 1)), (by rfl), (by rfl), H', ⟨by have := HJ2.out; have := HK2.out; have := HJ15.out; omega⟩, ⟨by (with_reducible repeat (fail)); exact HO293.out⟩, ⟨by repeat ((with_reducible (exact HB.out)))⟩⟩
       rw [if_neg c29] at H
       have c29b0 : decide (a1 < (rd (rd_L2 l0 x7_2) x8_2)) = false := decide_eq_false c29
       clear c29
       have H' := Qa.mk H
       clear H
       go_wp2_with (first | ((with_reducible refine gate_dst (N := 45) rfl ?_); refine Kd.R_lit (Kd.int .i64) _ 3 ?hg (N := 45) ?hd (xs := ([x7_2, x8_2] : List Int)) (inner := [.int .i64 x7_2, .int .i64 x8_2]) (ok := fun _ => True) (okp := fun _ => True) ?hr ?hp (fun _ hk => hk) trivial (Below.refl _ _) (Nat.le_refl _) (by simp) ?_; (case hd => rfl); (case hg => rfl); (case hr => (go_simp; done)); (case hp => exact (Reps.one (show Kd.M (Kd.int .i64) _ _ _ x7_2 [.int .i64 x7_2] from rfl) (Reps.one (show Kd.M (Kd.int .i64) _ _ _ x8_2 [.int .i64 x8_2] from rfl) (Reps.none _ _)))); intro v289 w34 ho35 hb hg_ hnew_; clear hg_ hnew_; ((rw [← Ny288.out] at ho35)); have n0_ := Qa.mk (Kd.S_elder' (by (with_reducible repeat (fail)); exact HO_6.out) (Kd.R_base ho35) hb); have n1_ := Qa.mk (Kd.R_lower ho35 (Qq (by repeat ((with_reducible (exact HB.out)))))); have n2_ := Qa.mk (Qh (by repeat ((with_reducible (exact HB.out)))) hb); clear HO_6; clear HB; have HO_6 := n0_; have HO290 := n1_; have HB := n2_; clear n0_ n1_ n2_; clear hb ho35; obtain ⟨Ao37, co37, eo37⟩ := Kd.R_slice HO290.out; subst eo37) | ((with_reducible refine gate_builtin (b := .append) (xs := #[.tmp 42, .tmp 46]) rfl ?_); at_builtin; refine Kd.S_append (Kd.slice 3 (Kd.int .i64)) (w0 := w) w.heap.size rfl (.tmp 42) (.tmp 46) 24 32 (.slice none 0 0) 24 rfl Tryz.underlying24 info32 rfl (by decide) (by omega) u6 x6_2 y288 [.slice Ao37 y288.length co37] (fun _ => True) (fun k_ => some k_ = (.slice Ao37 y288.length co37 : Value).ownBlock) rfl rfl ?aP (fun k_ hk_ => ((Kd.R_mono (ok' := fun k_ => ((fun _ => True)) k_ ∧ some k_ ≠ (u6 : Value).ownBlock) (Kd.R_apart' (HO290.out) (Kd.S_typed HO_6.out) (by decide)) (fun k_ hk => ⟨trivial, hk.2⟩))).1 k_ hk_.symm) ?aF ?aO ?aB ?aS ?aL ?_; (case aP => exact Kd.M_row (Kd.R_mono (Kd.R_tight rfl (Kd.R_mono (ok' := fun k_ => ((fun _ => True)) k_ ∧ some k_ ≠ (u6 : Value).ownBlock) (Kd.R_apart' (HO290.out) (Kd.S_typed HO_6.out) (by decide)) (fun k_ hk => ⟨trivial, hk.2⟩))) (fun _ h_ => h_))); (case aB => exact (by repeat ((with_reducible (exact HB.out))))); (case aF => exact (fun _ _ => trivial)); (case aO => exact (by (with_reducible repeat (fail)); exact Kd.S_mono HO_6.out (fun k_ hk => ⟨trivial, fun e_ => hk.2 e_⟩))); (case aS => exact (Qq (by repeat ((with_reducible (exact HB.out)))))); (case aL => have := LMc19.out; omega); intro v292 w36 ho hb hg hat; rw [← Ny291.out] at ho; have n0_ := Qa.mk (hb); have n1_ := Qa.mk (ho); clear HB; clear HO_6; clear HO290; have HB := n0_; have HO293 := n1_; clear n0_ n1_; clear ho hb hg hat; have p294 : 0 ≤ (x7_2 : Int) := of_decide_eq_true (by (with_reducible assumption)); have q294 : x7_2 < (l0.length : Int) := of_decide_eq_true (by (with_reducible assumption)); obtain ⟨ad294, A294_0, c294_0, e294, hx294_0, hl294_0, hi294_0⟩ := at_L2 HR0.out x7_2 p294 q294; obtain rfl : ad287 = ad294 := (by injection e294); replace hx294_0 := (HB.out.cell (World.block_lt_of_cell? w _ hx294_0)).trans hx294_0; have HR294_0 := Qa.mk hi294_0; have HC294_0 := Qa.mk hl294_0; clear hi294_0 hl294_0; replace p294 := eq_true p294; replace q294 := eq_true q294; have p295 : 0 ≤ (x8_2 : Int) := of_decide_eq_true (by (with_reducible assumption)); have q295 : x8_2 < ((rd_L2 l0 x7_2).length : Int) := of_decide_eq_true (by (with_reducible assumption)); obtain ⟨ad295, e295, hx295_0⟩ := Kd.at_int HR294_0.out x8_2 p295 q295; cases e295; replace hx295_0 := (HB.out.cell (World.block_lt_of_cell? w _ hx295_0)).trans hx295_0; replace p295 := eq_true p295; replace q295 := eq_true q295))
       repeat (go_quiet (fail); try go_wp2_with (fail))
       (go_roundg kj15)
       case measure => have := HJ2.out; have := HK2.out; have := HJ15.out; omega
       case rel => exact ⟨(y291), (wrap64 (x7_2 + 1)), (x8_2), (by rfl), (by rfl), H', ⟨by have := HJ2.out; have := HK2.out; have := HJ15.out; omega⟩, ⟨by (with_reducible repeat (fail)); exact HO293.out⟩, ⟨by repeat ((with_reducible (exact HB.out)))⟩⟩
-- given: function 73 (slices_Grow_int_int)
end Go.Proofs.YtohhlkehglahhaaGreatDoor.A
