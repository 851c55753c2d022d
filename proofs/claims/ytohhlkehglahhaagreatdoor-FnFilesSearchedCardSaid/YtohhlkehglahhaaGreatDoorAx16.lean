-- Printed: Lean checks it.
import Derived.Test.YtohhlkehglahhaaGreatDoorAx0
import Derived.Test.YtohhlkehglahhaaGreatDoorAx2
namespace Go.Proofs.YtohhlkehglahhaaGreatDoor.A
open Go.RowKit Go.Proofs.YtohhlkehglahhaaGreatDoorW.PrintWords Go.Proofs.YtohhlkehglahhaaGreatDoorW.PrintLast Go.Proofs.YtohhlkehglahhaaGreatDoorW.PrintMore Go.Proofs.YtohhlkehglahhaaGreatDoor.X
attribute [local go_sem] max2_int min2_int max_two min_two max_three min_three max_four min_four
set_option linter.unusedVariables false
set_option linter.unusedSimpArgs false
def Qg1.l0 : Nat → Int → Int → Option (Int)
 | 0, _, _ => none
 | k + 1, x0, x1 => if x1 > 0 then (if x1 = 0 then (none) else (Qg1.l0 k x1 (Int.tmod x0 x1))) else (some x0)
def Qg1.f (k : Nat) (a0 : Int) (a1 : Int) : Option (Int) := Qg1.l0 k a0 a1
theorem Qg1.mono_l : ∀ k, (∀ y0 y1, LeO (Qg1.l0 k y0 y1) (Qg1.l0 (k + 1) y0 y1))
 | 0 => fun _ _ r h => by simp [Qg1.l0] at h
 | k + 1 => by
  have ih0 := Qg1.mono_l k
  ·intro y0 y1
   unfold Qg1.l0
   repeat' first
   | (with_reducible exact ih0 _ _)
   | (with_reducible exact LeO.refl _)
   | (with_reducible exact LeO.none _)
   | (with_reducible refine LeO.ite ?_ ?_)
   | (with_reducible refine LeO.bind ?_ (fun _ => ?_))
   | exact ih0 _ _
   | exact LeO.none _
   | refine LeO.ite ?_ ?_
   | refine LeO.bind ?_ (fun _ => ?_)
theorem Qg1.mono : ∀ a0 a1 k, LeO (Qg1.f k a0 a1) (Qg1.f (k + 1) a0 a1) := by
 intro a0 a1 k
 have ih0 := Qg1.mono_l k
 unfold Qg1.f
 repeat' first
   | (with_reducible exact ih0 _ _)
   | (with_reducible exact LeO.refl _)
   | (with_reducible exact LeO.none _)
   | (with_reducible refine LeO.ite ?_ ?_)
   | (with_reducible refine LeO.bind ?_ (fun _ => ?_))
   | exact ih0 _ _
   | exact LeO.none _
   | refine LeO.ite ?_ ?_
   | refine LeO.bind ?_ (fun _ => ?_)
set_option maxHeartbeats 8000000 in
set_option maxRecDepth 100000 in
theorem Qg1.calls (k : Nat) (a0 : Int) (a1 : Int) (r : Int) (w : World) (h : Qg1.f k a0 a1 = some r) :
  Calls Tryz.prog 53 #[.int .i64 a0, .int .i64 a1] w fun e w' => e = .returned (.int .i64 r) ∧ Drawn0 w w' := by
 have H : (Qg1.l0 k a0 a1) = some r := h
 clear h
 have H' := Qa.mk H
 clear H
 go_enter Tryz.func53, Tryz.ntmps53
 go_wp2
 repeat (go_quiet (fail); try go_wp2)
 go_loopg [0, 1] k (fun kq v0 v1 w' => ∃ (x0_1 : Int) (x1_1 : Int), v0 = .int .i64 x0_1 ∧ v1 = .int .i64 x1_1 ∧ Qa (Qg1.l0 kq x0_1 x1_1 = some r) ∧ Qa (kq ≤ k) ∧ Drawn0 w w')
 case atStart => exact ⟨(a0), (a1), (by rfl), (by rfl), H', ⟨Nat.le_refl _⟩, by repeat ((exact Drawn0.refl _))⟩
 case round =>
  clear H'
  obtain ⟨x0_1, x1_1, rfl, rfl, HA, HK1, ⟨m1, rfl⟩⟩ := hrel
  cases gk with
  | zero => exact absurd HA.out (by simp [Qg1.l0])
  | succ k1 =>
   have H := HA.out
   clear HA
   simp only [Qg1.l0] at H
   by_cases c3 : x1_1 > 0
   rotate_left
   ·rw [if_neg c3] at H
    have c3b0 : decide (0 < x1_1) = false := decide_eq_false c3
    clear c3
    obtain rfl := Option.some.inj H
    go_wp2
    repeat (go_quiet (fail); try go_wp2)
    go_ret
    exact ⟨by rfl, by repeat (first | exact Drawn0.refl _ | apply Drawn0.step)⟩
   rw [if_pos c3] at H
   have c3b0 : decide (0 < x1_1) = true := decide_eq_true c3
   clear c3
   by_cases c4 : x1_1 = 0
   ·rw [if_pos c4] at H
    exact absurd H (by simp)
   rw [if_neg c4] at H
   have c4b0 : (x1_1 == 0) = false := beq_eq_false_iff_ne.mpr c4
   have c4b1 : (x1_1 != 0) = true := bne_iff_ne.mpr c4
   have H' := Qa.mk H
   clear H
   go_wp2
   repeat (go_quiet (fail); try go_wp2)
   (go_roundg k1)
   case measure => have := HK1.out; omega
   case rel => exact ⟨(x1_1), (Int.tmod x0_1 x1_1), (by rfl), (by rfl), H', ⟨by have := HK1.out; omega⟩, by repeat (first | exact Drawn0.refl _ | apply Drawn0.step)⟩
mutual
def Qc.j0 : Nat → Int → Int → Bool → Option (Int × Bool)
 | 0, _, _, _ => none
 | k + 1, x0, x1, x24 => if x24 = true then (some (0, false)) else (Qc.l0 k x0 x1 (([] : List Int)) (([] : List Int)) 2)
def Qc.l0 : Nat → Int → Int → List Int → List Int → Int → Option (Int × Bool)
 | 0, _, _, _, _, _ => none
 | k + 1, x0, x1, x6, x7, x8 => if x8 ≤ (wrap64 (x0 * x1)) then (if x6.length < 17592186044416 then (Qc.l0 k x0 x1 (x6 ++ [x8]) x7 (wrap64 (x8 + 1))) else (none)) else (Qc.l1 k x0 x1 x6 x7 0)
def Qc.l1 : Nat → Int → Int → List Int → List Int → Int → Option (Int × Bool)
 | 0, _, _, _, _, _ => none
 | k + 1, x0, x1, x6, x7, x9 => if x9 < x0 then (Qc.l2 k x0 x1 x6 x7 x9 0) else (Qc.l3 k x7 1 x6 (x6.length : Int) 0)
def Qc.l2 : Nat → Int → Int → List Int → List Int → Int → Int → Option (Int × Bool)
 | 0, _, _, _, _, _, _ => none
 | k + 1, x0, x1, x6, x7, x9, x10 => if x10 < x1 then (if x7.length < 17592186044416 then (Qc.l2 k x0 x1 x6 (x7 ++ [wrap64 ((wrap64 ((wrap64 ((wrap64 (x0 - x9)) + x1)) - x10)) - 1)]) x9 (wrap64 (x10 + 1))) else (none)) else (Qc.l1 k x0 x1 x6 x7 (wrap64 (x9 + 1)))
def Qc.l3 : Nat → List Int → Int → List Int → Int → Int → Option (Int × Bool)
 | 0, _, _, _, _, _ => none
 | k + 1, x7, x11, x59, x60, x61 => if x61 < x60 then (if 0 ≤ x61 then (if x61 < (x59.length : Int) then (Qc.l4 k x7 x11 (rd x59 x61) x59 x60 x61 (x7.length : Int) 0) else (none)) else (none)) else (some (x11, true))
def Qc.l4 : Nat → List Int → Int → Int → List Int → Int → Int → Int → Int → Option (Int × Bool)
 | 0, _, _, _, _, _, _, _, _ => none
 | k + 1, x7, x11, x13, x59, x60, x61, x66, x67 => if x67 < x66 then (if 0 ≤ x67 then (if x67 < (x7.length : Int) then ((Qg1.f k x13 (rd x7 x67)).bind fun t379 => (if t379 = 0 then (none) else (Qc.l4 k (x7.set (x67 : Int).toNat (wrap64 (Int.tdiv (rd x7 x67) t379))) x11 (wrap64 (Int.tdiv x13 t379)) x59 x60 x61 x66 (wrap64 (x67 + 1))))) else (none)) else (none)) else (Qc.l3 k x7 (wrap64 (x11 * x13)) x59 x60 (wrap64 (x61 + 1)))
end
def Qc.f (k : Nat) (a0 : Int) (a1 : Int) : Option (Int × Bool) := (Qj1.f a0 1 4).bind fun t363 => (if t363 = true then ((Qj1.f a1 1 5).bind fun t364 => (Qc.j0 k a0 a1 (!t364))) else (Qc.j0 k a0 a1 true))
theorem Qc.mono_l : ∀ k, (∀ y0 y1 y2, LeO (Qc.j0 k y0 y1 y2) (Qc.j0 (k + 1) y0 y1 y2)) ∧ (∀ y0 y1 y2 y3 y4, LeO (Qc.l0 k y0 y1 y2 y3 y4) (Qc.l0 (k + 1) y0 y1 y2 y3 y4)) ∧ (∀ y0 y1 y2 y3 y4, LeO (Qc.l1 k y0 y1 y2 y3 y4) (Qc.l1 (k + 1) y0 y1 y2 y3 y4)) ∧ (∀ y0 y1 y2 y3 y4 y5, LeO (Qc.l2 k y0 y1 y2 y3 y4 y5) (Qc.l2 (k + 1) y0 y1 y2 y3 y4 y5)) ∧ (∀ y0 y1 y2 y3 y4, LeO (Qc.l3 k y0 y1 y2 y3 y4) (Qc.l3 (k + 1) y0 y1 y2 y3 y4)) ∧ (∀ y0 y1 y2 y3 y4 y5 y6 y7, LeO (Qc.l4 k y0 y1 y2 y3 y4 y5 y6 y7) (Qc.l4 (k + 1) y0 y1 y2 y3 y4 y5 y6 y7))
 | 0 => ⟨fun _ _ _ r h => by simp [Qc.j0] at h, fun _ _ _ _ _ r h => by simp [Qc.l0] at h, fun _ _ _ _ _ r h => by simp [Qc.l1] at h, fun _ _ _ _ _ _ r h => by simp [Qc.l2] at h, fun _ _ _ _ _ r h => by simp [Qc.l3] at h, fun _ _ _ _ _ _ _ _ r h => by simp [Qc.l4] at h⟩
 | k + 1 => by
  obtain ⟨ih0, ih1, ih2, ih3, ih4, ih5⟩ := Qc.mono_l k
  refine ⟨?_, ?_, ?_, ?_, ?_, ?_⟩
  ·intro y0 y1 y2
   unfold Qc.j0
   repeat' first
   | (with_reducible exact ih0 _ _ _)
   | (with_reducible exact ih1 _ _ _ _ _)
   | (with_reducible exact ih2 _ _ _ _ _)
   | (with_reducible exact ih3 _ _ _ _ _ _)
   | (with_reducible exact ih4 _ _ _ _ _)
   | (with_reducible exact ih5 _ _ _ _ _ _ _ _)
   | (with_reducible exact Qg1.mono _ _ _)
   | (with_reducible exact LeO.refl _)
   | (with_reducible exact LeO.none _)
   | (with_reducible refine LeO.ite ?_ ?_)
   | (with_reducible refine LeO.bind ?_ (fun _ => ?_))
   | exact ih0 _ _ _
   | exact ih1 _ _ _ _ _
   | exact ih2 _ _ _ _ _
   | exact ih3 _ _ _ _ _ _
   | exact ih4 _ _ _ _ _
   | exact ih5 _ _ _ _ _ _ _ _
   | exact Qg1.mono _ _ _
   | exact LeO.none _
   | refine LeO.ite ?_ ?_
   | refine LeO.bind ?_ (fun _ => ?_)
  ·intro y0 y1 y2 y3 y4
   unfold Qc.l0
   repeat' first
   | (with_reducible exact ih0 _ _ _)
   | (with_reducible exact ih1 _ _ _ _ _)
   | (with_reducible exact ih2 _ _ _ _ _)
   | (with_reducible exact ih3 _ _ _ _ _ _)
   | (with_reducible exact ih4 _ _ _ _ _)
   | (with_reducible exact ih5 _ _ _ _ _ _ _ _)
   | (with_reducible exact Qg1.mono _ _ _)
   | (with_reducible exact LeO.refl _)
   | (with_reducible exact LeO.none _)
   | (with_reducible refine LeO.ite ?_ ?_)
   | (with_reducible refine LeO.bind ?_ (fun _ => ?_))
   | exact ih0 _ _ _
   | exact ih1 _ _ _ _ _
   | exact ih2 _ _ _ _ _
   | exact ih3 _ _ _ _ _ _
   | exact ih4 _ _ _ _ _
   | exact ih5 _ _ _ _ _ _ _ _
   | exact Qg1.mono _ _ _
   | exact LeO.none _
   | refine LeO.ite ?_ ?_
   | refine LeO.bind ?_ (fun _ => ?_)
  ·intro y0 y1 y2 y3 y4
   unfold Qc.l1
   repeat' first
   | (with_reducible exact ih0 _ _ _)
   | (with_reducible exact ih1 _ _ _ _ _)
   | (with_reducible exact ih2 _ _ _ _ _)
   | (with_reducible exact ih3 _ _ _ _ _ _)
   | (with_reducible exact ih4 _ _ _ _ _)
   | (with_reducible exact ih5 _ _ _ _ _ _ _ _)
   | (with_reducible exact Qg1.mono _ _ _)
   | (with_reducible exact LeO.refl _)
   | (with_reducible exact LeO.none _)
   | (with_reducible refine LeO.ite ?_ ?_)
   | (with_reducible refine LeO.bind ?_ (fun _ => ?_))
   | exact ih0 _ _ _
   | exact ih1 _ _ _ _ _
   | exact ih2 _ _ _ _ _
   | exact ih3 _ _ _ _ _ _
   | exact ih4 _ _ _ _ _
   | exact ih5 _ _ _ _ _ _ _ _
   | exact Qg1.mono _ _ _
   | exact LeO.none _
   | refine LeO.ite ?_ ?_
   | refine LeO.bind ?_ (fun _ => ?_)
  ·intro y0 y1 y2 y3 y4 y5
   unfold Qc.l2
   repeat' first
   | (with_reducible exact ih0 _ _ _)
   | (with_reducible exact ih1 _ _ _ _ _)
   | (with_reducible exact ih2 _ _ _ _ _)
   | (with_reducible exact ih3 _ _ _ _ _ _)
   | (with_reducible exact ih4 _ _ _ _ _)
   | (with_reducible exact ih5 _ _ _ _ _ _ _ _)
   | (with_reducible exact Qg1.mono _ _ _)
   | (with_reducible exact LeO.refl _)
   | (with_reducible exact LeO.none _)
   | (with_reducible refine LeO.ite ?_ ?_)
   | (with_reducible refine LeO.bind ?_ (fun _ => ?_))
   | exact ih0 _ _ _
   | exact ih1 _ _ _ _ _
   | exact ih2 _ _ _ _ _
   | exact ih3 _ _ _ _ _ _
   | exact ih4 _ _ _ _ _
   | exact ih5 _ _ _ _ _ _ _ _
   | exact Qg1.mono _ _ _
   | exact LeO.none _
   | refine LeO.ite ?_ ?_
   | refine LeO.bind ?_ (fun _ => ?_)
  ·intro y0 y1 y2 y3 y4
   unfold Qc.l3
   repeat' first
   | (with_reducible exact ih0 _ _ _)
   | (with_reducible exact ih1 _ _ _ _ _)
   | (with_reducible exact ih2 _ _ _ _ _)
   | (with_reducible exact ih3 _ _ _ _ _ _)
   | (with_reducible exact ih4 _ _ _ _ _)
   | (with_reducible exact ih5 _ _ _ _ _ _ _ _)
   | (with_reducible exact Qg1.mono _ _ _)
   | (with_reducible exact LeO.refl _)
   | (with_reducible exact LeO.none _)
   | (with_reducible refine LeO.ite ?_ ?_)
   | (with_reducible refine LeO.bind ?_ (fun _ => ?_))
   | exact ih0 _ _ _
   | exact ih1 _ _ _ _ _
   | exact ih2 _ _ _ _ _
   | exact ih3 _ _ _ _ _ _
   | exact ih4 _ _ _ _ _
   | exact ih5 _ _ _ _ _ _ _ _
   | exact Qg1.mono _ _ _
   | exact LeO.none _
   | refine LeO.ite ?_ ?_
   | refine LeO.bind ?_ (fun _ => ?_)
  ·intro y0 y1 y2 y3 y4 y5 y6 y7
   unfold Qc.l4
   repeat' first
   | (with_reducible exact ih0 _ _ _)
   | (with_reducible exact ih1 _ _ _ _ _)
   | (with_reducible exact ih2 _ _ _ _ _)
   | (with_reducible exact ih3 _ _ _ _ _ _)
   | (with_reducible exact ih4 _ _ _ _ _)
   | (with_reducible exact ih5 _ _ _ _ _ _ _ _)
   | (with_reducible exact Qg1.mono _ _ _)
   | (with_reducible exact LeO.refl _)
   | (with_reducible exact LeO.none _)
   | (with_reducible refine LeO.ite ?_ ?_)
   | (with_reducible refine LeO.bind ?_ (fun _ => ?_))
   | exact ih0 _ _ _
   | exact ih1 _ _ _ _ _
   | exact ih2 _ _ _ _ _
   | exact ih3 _ _ _ _ _ _
   | exact ih4 _ _ _ _ _
   | exact ih5 _ _ _ _ _ _ _ _
   | exact Qg1.mono _ _ _
   | exact LeO.none _
   | refine LeO.ite ?_ ?_
   | refine LeO.bind ?_ (fun _ => ?_)
theorem Qc.mono : ∀ a0 a1 k, LeO (Qc.f k a0 a1) (Qc.f (k + 1) a0 a1) := by
 intro a0 a1 k
 obtain ⟨ih0, ih1, ih2, ih3, ih4, ih5⟩ := Qc.mono_l k
 unfold Qc.f
 repeat' first
   | (with_reducible exact ih0 _ _ _)
   | (with_reducible exact ih1 _ _ _ _ _)
   | (with_reducible exact ih2 _ _ _ _ _)
   | (with_reducible exact ih3 _ _ _ _ _ _)
   | (with_reducible exact ih4 _ _ _ _ _)
   | (with_reducible exact ih5 _ _ _ _ _ _ _ _)
   | (with_reducible exact Qg1.mono _ _ _)
   | (with_reducible exact LeO.refl _)
   | (with_reducible exact LeO.none _)
   | (with_reducible refine LeO.ite ?_ ?_)
   | (with_reducible refine LeO.bind ?_ (fun _ => ?_))
   | exact ih0 _ _ _
   | exact ih1 _ _ _ _ _
   | exact ih2 _ _ _ _ _
   | exact ih3 _ _ _ _ _ _
   | exact ih4 _ _ _ _ _
   | exact ih5 _ _ _ _ _ _ _ _
   | exact Qg1.mono _ _ _
   | exact LeO.none _
   | refine LeO.ite ?_ ?_
   | refine LeO.bind ?_ (fun _ => ?_)
set_option maxHeartbeats 8000000 in
set_option maxRecDepth 100000 in
theorem Qc.calls (k : Nat) (a0 : Int) (a1 : Int) (r1 : Int) (r2 : Bool) (w : World) (h : Qc.f k a0 a1 = some (r1, r2)) :
  Calls Tryz.prog 21 #[.int .i64 a0, .int .i64 a1] w fun e w' => e = .returned (.tuple #[.int .i64 r1, .bool r2]) ∧ Below w.heap.size w w' := by
 have HB := Qa.mk (Below.refl w.heap.size w)
 have H : ((Qj1.f a0 1 4).bind fun t363 => (if t363 = true then ((Qj1.f a1 1 5).bind fun t364 => (Qc.j0 k a0 a1 (!t364))) else (Qc.j0 k a0 a1 true))) = some (r1, r2) := h
 clear h
 have HC3 := Qa.mk H
 clear H
 go_enter Tryz.func21, Tryz.ntmps21
 go_upto_region 1 with (fail)
 go_cut [24] (fun v24 wc => ∃ (kq : Nat) (x24_2 : Bool), v24 = .bool x24_2 ∧ Qa (Qc.j0 kq a0 a1 x24_2 = some (r1, r2)) ∧ Qa (kq ≤ k) ∧ Qa (Below w.heap.size w wc))
 case first =>
  have H := HC3.out
  clear HC3
  replace H := Option.bind_eq_some_iff.mp H
  obtain ⟨t363, A40, H⟩ := H
  replace H : (if t363 = true then ((Qj1.f a1 1 5).bind fun t364 => (Qc.j0 k a0 a1 (!t364))) else (Qc.j0 k a0 a1 true)) = some (r1, r2) := H
  have A4 := Qa.mk A40
  clear A40
  by_cases c5 : t363 = true
  rotate_left
  ·replace c5 := Bool.eq_false_iff.mpr c5
   subst c5
   have H1 : (Qc.j0 k a0 a1 true) = some (r1, r2) := by rw [if_neg (show ¬ (false = true) by decide)] at H; exact H
   clear H
   have H := H1
   clear H1
   have H' := Qa.mk H
   clear H
   go_wp2_with (((with_reducible refine Qg (f := 49) rfl ?_); refine goesL_ (some 18) rfl rfl Tryz.func49 (by kernel_rfl) rfl #[.int .i64 a0, .int .i64 1, .int .i64 4] rfl (by (try simp only [List.map_toArray, List.map_cons, List.map_nil]); rfl) ?_; (with_reducible refine (Qj1.calls a0 1 4 false _ A4.out).mono ?_); rintro e w' ⟨rfl, ⟨nd, rfl⟩⟩; refine ⟨_, rfl, ?_⟩))
   go_meet
   case rel => exact ⟨_, (true), (by rfl), H', ⟨by omega⟩, ⟨by repeat ((with_reducible first | exact HB.out | apply Qi))⟩⟩
  subst c5
  have H1 : ((Qj1.f a1 1 5).bind fun t364 => (Qc.j0 k a0 a1 (!t364))) = some (r1, r2) := by rw [if_pos rfl] at H; exact H
  clear H
  have H := H1
  clear H1
  replace H := Option.bind_eq_some_iff.mp H
  obtain ⟨t364, A60, H⟩ := H
  replace H : (Qc.j0 k a0 a1 (!t364)) = some (r1, r2) := H
  have A6 := Qa.mk A60
  clear A60
  have H' := Qa.mk H
  clear H
  go_wp2_with (first | ((with_reducible refine Qg (f := 49) rfl ?_); refine goesL_ (some 18) rfl rfl Tryz.func49 (by kernel_rfl) rfl #[.int .i64 a0, .int .i64 1, .int .i64 4] rfl (by (try simp only [List.map_toArray, List.map_cons, List.map_nil]); rfl) ?_; (with_reducible refine (Qj1.calls a0 1 4 true _ A4.out).mono ?_); rintro e w' ⟨rfl, ⟨nd, rfl⟩⟩; refine ⟨_, rfl, ?_⟩) | (go_at_call 49; (with_reducible refine (Qj1.calls a1 1 5 t364 _ A6.out).mono ?_); rintro e w' ⟨rfl, ⟨nd, rfl⟩⟩))
  go_meet
  case rel => exact ⟨_, (!t364), (by rfl), H', ⟨by omega⟩, ⟨by repeat ((with_reducible first | exact HB.out | apply Qi))⟩⟩
 case rest =>
  clear HC3
  obtain ⟨kq, x24_2, rfl, HA, HJ2, HB⟩ := hcut
  cases kq with
  | zero => exact absurd HA.out (by simp [Qc.j0])
  | succ kj2 =>
   have H := HA.out
   clear HA
   simp only [Qc.j0] at H
   by_cases c7 : x24_2 = true
   ·subst c7
    have H1 : (some (0, false)) = some (r1, r2) := by rw [if_pos rfl] at H; exact H
    clear H
    have H := H1
    clear H1
    simp only [Option.some.injEq, Prod.mk.injEq] at H
    obtain ⟨rfl, rfl⟩ := H
    go_wp2
    go_ret2
    exact ⟨by rfl, by repeat ((with_reducible (exact HB.out)))⟩
   replace c7 := Bool.eq_false_iff.mpr c7
   subst c7
   have H1 : (Qc.l0 kj2 a0 a1 (([] : List Int)) (([] : List Int)) 2) = some (r1, r2) := by rw [if_neg (show ¬ (false = true) by decide)] at H; exact H
   clear H
   have H := H1
   clear H1
   obtain ⟨y365, hy365⟩ : ∃ y_ : List Int, y_ = (([] : List Int)) := ⟨_, rfl⟩
   replace H : (Qc.l0 kj2 a0 a1 y365 (([] : List Int)) 2) = some (r1, r2) := by (rw [hy365]; with_reducible exact H)
   have Ny365 := Qa.mk hy365
   clear hy365
   obtain ⟨y368, hy368⟩ : ∃ y_ : List Int, y_ = (([] : List Int)) := ⟨_, rfl⟩
   replace H : (Qc.l0 kj2 a0 a1 y365 y368 2) = some (r1, r2) := by (rw [hy368]; with_reducible exact H)
   have Ny368 := Qa.mk hy368
   clear hy368
   have H' := Qa.mk H
   clear H
   go_wp2_with (first | ((with_reducible refine gate_dst (N := 25) rfl ?_); refine Kd.R_lit (Kd.int .i64) _ 3 ?hg (N := 25) ?hd (xs := ([] : List Int)) (inner := []) (ok := fun _ => True) (okp := fun _ => True) ?hr ?hp (fun _ hk => hk) trivial (Below.refl _ _) (Nat.le_refl _) (by simp) ?_; (case hd => rfl); (case hg => rfl); (case hr => (go_simp; done)); (case hp => exact (Reps.none _ _)); intro v366 w8 ho9 hb hg_ hnew_; clear hg_ hnew_; ((rw [← Ny365.out] at ho9)); have n0_ := Qa.mk (Kd.R_lower ho9 (Qq (by repeat ((with_reducible (exact HB.out)))))); have n1_ := Qa.mk (Qh (by repeat ((with_reducible (exact HB.out)))) hb); clear HB; have HO367 := n0_; have HB := n1_; clear n0_ n1_; clear hb ho9) | ((with_reducible refine gate_dst (N := 26) rfl ?_); refine Kd.R_lit (Kd.int .i64) _ 3 ?hg (N := 26) ?hd (xs := ([] : List Int)) (inner := []) (ok := fun _ => True) (okp := fun _ => True) ?hr ?hp (fun _ hk => hk) trivial (Below.refl _ _) (Nat.le_refl _) (by simp) ?_; (case hd => rfl); (case hg => rfl); (case hr => (go_simp; done)); (case hp => exact (Reps.none _ _)); intro v369 w10 ho11 hb hg_ hnew_; clear hg_ hnew_; ((rw [← Ny368.out] at ho11)); have n0_ := Qa.mk (Kd.R_elder' (by (with_reducible repeat (fail)); exact HO367.out) (Kd.R_base ho11) hb); have n1_ := Qa.mk (Kd.R_lower (Kd.R_new' ho11 (Kd.R_lt (by (with_reducible repeat (fail)); exact HO367.out))) (Qq (by repeat ((with_reducible (exact HB.out)))))); have n2_ := Qa.mk (Qh (by repeat ((with_reducible (exact HB.out)))) hb); clear HO367; clear HB; have HO367 := n0_; have HO370 := n1_; have HB := n2_; clear n0_ n1_ n2_; clear hb ho11))
   go_loopg [6, 8] kj2 (fun kq v6 v8 w' => ∃ (x6_2 : List Int) (x8_2 : Int), v8 = .int .i64 x8_2 ∧ Qa (Qc.l0 kq a0 a1 x6_2 y368 x8_2 = some (r1, r2)) ∧ Qa (kq ≤ kj2) ∧ Qa (Kd.R (Kd.int .i64) 3 w' w.heap.size (fun k_ => some k_ ≠ (v369 : Value).ownBlock) v6 x6_2) ∧ Qa (Kd.R (Kd.int .i64) 3 w' w.heap.size (fun k_ => some k_ ≠ (v6 : Value).ownBlock) v369 y368) ∧ Qa (Below w.heap.size w w'))
   case atStart => exact ⟨(y365), (2), (by rfl), H', ⟨Nat.le_refl _⟩, ⟨by (with_reducible repeat (fail)); exact Kd.R_mono HO367.out (fun _ hk => hk.2)⟩, ⟨by (with_reducible repeat (fail)); exact Kd.R_mono HO370.out (fun _ hk => hk.2)⟩, ⟨by repeat ((with_reducible (exact HB.out)))⟩⟩
   case round =>
    clear H'
    obtain ⟨x6_2, x8_2, rfl, HA, HK2, HO_6, HO_7, HB⟩ := hrel
    cases gk with
    | zero => exact absurd HA.out (by simp [Qc.l0])
    | succ k2 =>
     have H := HA.out
     clear HA
     simp only [Qc.l0] at H
     by_cases c12 : x8_2 ≤ (wrap64 (a0 * a1))
     ·rw [if_pos c12] at H
      have c12b0 : decide (x8_2 ≤ (wrap64 (a0 * a1))) = true := decide_eq_true c12
      clear c12
      by_cases c13 : x6_2.length < 17592186044416
      rotate_left
      ·rw [if_neg c13] at H
       exact absurd H (by simp)
      rw [if_pos c13] at H
      have LMc13 := Qa.mk c13
      clear c13
      obtain ⟨y371, hy371⟩ : ∃ y_ : List Int, y_ = (x6_2 ++ [x8_2]) := ⟨_, rfl⟩
      replace H : (Qc.l0 k2 a0 a1 y371 y368 (wrap64 (x8_2 + 1))) = some (r1, r2) := by (rw [hy371]; with_reducible exact H)
      have Ny371 := Qa.mk hy371
      clear hy371
      have H' := Qa.mk H
      clear H
      go_wp2_with (((with_reducible refine gate_builtin (b := .append) (xs := #[.tmp 34, .tmp 36]) rfl ?_); at_builtin; refine Kd.R_append (Kd.int .i64) (w0 := w) w.heap.size rfl (.tmp 34) (.tmp 36) 32 3 (.int .i64 0) 8 rfl Tryz.underlying32 info3 rfl (by decide) (by omega) u6 x6_2 x8_2 [.int .i64 x8_2] (fun k_ => some k_ ≠ (v369 : Value).ownBlock) (fun _ => False) rfl rfl ?aP (fun _ hk => hk.elim) ?aF ?aO ?aB ?aS ?aL ?_; (case aP => exact rfl); (case aB => exact (by repeat ((with_reducible (exact HB.out))))); (case aF => exact (fun k_ hk => Kd.fresh' (Kd.R_lt (by (with_reducible repeat (fail)); exact HO_7.out)) k_ hk)); (case aO => exact (by (with_reducible repeat (fail)); exact HO_6.out)); (case aS => exact (Qq (by repeat ((with_reducible (exact HB.out)))))); (case aL => have := LMc13.out; omega); intro v372 w14 ho hb hg hat; rw [← Ny371.out] at ho; have n0_ := Qa.mk (Kd.R_after (ok := (fun _ => True)) (by (with_reducible repeat (fail)); exact Kd.R_mono HO_7.out (fun _ hk => ⟨trivial, hk⟩)) hg hat); have n1_ := Qa.mk (hb); have n2_ := Qa.mk (ho); clear HO_7; clear HB; clear HO_6; have HO_7 := n0_; have HB := n1_; have HO373 := n2_; clear n0_ n1_ n2_; clear ho hb hg hat))
      (go_roundg k2)
      case measure => have := HJ2.out; have := HK2.out; omega
      case rel => exact ⟨(y371), (wrap64 (x8_2 + 1)), (by rfl), H', ⟨by have := HJ2.out; have := HK2.out; omega⟩, ⟨by (with_reducible repeat (fail)); exact HO373.out⟩, ⟨by (with_reducible repeat (fail)); exact Kd.R_mono HO_7.out (fun _ hk => hk.2)⟩, ⟨by repeat ((with_reducible (exact HB.out)))⟩⟩
     rw [if_neg c12] at H
     have c12b0 : decide (x8_2 ≤ (wrap64 (a0 * a1))) = false := decide_eq_false c12
     clear c12
     have H' := Qa.mk H
     clear H
     go_wp2
     go_loopg [7, 9] k2 (fun kq v7 v9 w' => ∃ (x7_3 : List Int) (x9_3 : Int), v9 = .int .i64 x9_3 ∧ Qa (Qc.l1 kq a0 a1 x6_2 x7_3 x9_3 = some (r1, r2)) ∧ Qa (kq ≤ k2) ∧ Qa (Kd.R (Kd.int .i64) 3 w' w.heap.size (fun k_ => some k_ ≠ (v7 : Value).ownBlock) u6 x6_2) ∧ Qa (Kd.R (Kd.int .i64) 3 w' w.heap.size (fun k_ => some k_ ≠ (u6 : Value).ownBlock) v7 x7_3) ∧ Qa (Below w.heap.size w w'))
     case atStart => exact ⟨(y368), (0), (by rfl), H', ⟨Nat.le_refl _⟩, ⟨by (with_reducible repeat (fail)); exact HO_6.out⟩, ⟨by (with_reducible repeat (fail)); exact HO_7.out⟩, ⟨by repeat ((with_reducible (exact HB.out)))⟩⟩
     case round =>
      clear H' c12b0
      obtain ⟨x7_3, x9_3, rfl, HA, HK3, HO_6, HO_7, HB⟩ := hrel
      cases gk with
      | zero => exact absurd HA.out (by simp [Qc.l1])
      | succ k3 =>
       have H := HA.out
       clear HA
       simp only [Qc.l1] at H
       by_cases c15 : x9_3 < a0
       ·rw [if_pos c15] at H
        have c15b0 : decide (x9_3 < a0) = true := decide_eq_true c15
        clear c15
        have H' := Qa.mk H
        clear H
        go_wp2
        go_loopg [7, 10] k3 (fun kq v7 v10 w' => ∃ (x7_4 : List Int) (x10_4 : Int), v10 = .int .i64 x10_4 ∧ Qa (Qc.l2 kq a0 a1 x6_2 x7_4 x9_3 x10_4 = some (r1, r2)) ∧ Qa (kq ≤ k3) ∧ Qa (Kd.R (Kd.int .i64) 3 w' w.heap.size (fun k_ => some k_ ≠ (v7 : Value).ownBlock) u6 x6_2) ∧ Qa (Kd.R (Kd.int .i64) 3 w' w.heap.size (fun k_ => some k_ ≠ (u6 : Value).ownBlock) v7 x7_4) ∧ Qa (Below w.heap.size w w'))
        case atStart => exact ⟨(x7_3), (0), (by rfl), H', ⟨Nat.le_refl _⟩, ⟨by (with_reducible repeat (fail)); exact HO_6.out⟩, ⟨by (with_reducible repeat (fail)); exact HO_7.out⟩, ⟨by repeat ((with_reducible (exact HB.out)))⟩⟩
        case round =>
         clear H' c15b0
         obtain ⟨x7_4, x10_4, rfl, HA, HK4, HO_6, HO_7, HB⟩ := hrel
         cases gk with
         | zero => exact absurd HA.out (by simp [Qc.l2])
         | succ k4 =>
          have H := HA.out
          clear HA
          simp only [Qc.l2] at H
          by_cases c16 : x10_4 < a1
          rotate_left
          ·rw [if_neg c16] at H
           have c16b0 : decide (x10_4 < a1) = false := decide_eq_false c16
           clear c16
           have H' := Qa.mk H
           clear H
           go_wp2
           (go_roundg k4)
           case measure => have := HJ2.out; have := HK2.out; have := HK3.out; have := HK4.out; omega
           case rel => exact ⟨(x7_4), (wrap64 (x9_3 + 1)), (by rfl), H', ⟨by have := HJ2.out; have := HK2.out; have := HK3.out; have := HK4.out; omega⟩, ⟨by (with_reducible repeat (fail)); exact HO_6.out⟩, ⟨by (with_reducible repeat (fail)); exact HO_7.out⟩, ⟨by repeat ((with_reducible (exact HB.out)))⟩⟩
          rw [if_pos c16] at H
          have c16b0 : decide (x10_4 < a1) = true := decide_eq_true c16
          clear c16
          by_cases c17 : x7_4.length < 17592186044416
          rotate_left
          ·rw [if_neg c17] at H
           exact absurd H (by simp)
          rw [if_pos c17] at H
          have LMc17 := Qa.mk c17
          clear c17
          obtain ⟨y374, hy374⟩ : ∃ y_ : List Int, y_ = (x7_4 ++ [wrap64 ((wrap64 ((wrap64 ((wrap64 (a0 - x9_3)) + a1)) - x10_4)) - 1)]) := ⟨_, rfl⟩
          replace H : (Qc.l2 k4 a0 a1 x6_2 y374 x9_3 (wrap64 (x10_4 + 1))) = some (r1, r2) := by (rw [hy374]; with_reducible exact H)
          have Ny374 := Qa.mk hy374
          clear hy374
          have H' := Qa.mk H
          clear H
          go_wp2_with (((with_reducible refine gate_builtin (b := .append) (xs := #[.tmp 48, .tmp 57]) rfl ?_); at_builtin; refine Kd.R_append (Kd.int .i64) (w0 := w) w.heap.size rfl (.tmp 48) (.tmp 57) 32 3 (.int .i64 0) 8 rfl Tryz.underlying32 info3 rfl (by decide) (by omega) u7 x7_4 (wrap64 ((wrap64 ((wrap64 ((wrap64 (a0 - x9_3)) + a1)) - x10_4)) - 1)) [.int .i64 (wrap64 ((wrap64 ((wrap64 ((wrap64 (a0 - x9_3)) + a1)) - x10_4)) - 1))] (fun k_ => some k_ ≠ (u6 : Value).ownBlock) (fun _ => False) rfl rfl ?aP (fun _ hk => hk.elim) ?aF ?aO ?aB ?aS ?aL ?_; (case aP => exact rfl); (case aB => exact (by repeat ((with_reducible (exact HB.out))))); (case aF => exact (fun k_ hk => Kd.fresh' (Kd.R_lt (by (with_reducible repeat (fail)); exact HO_6.out)) k_ hk)); (case aO => exact (by (with_reducible repeat (fail)); exact HO_7.out)); (case aS => exact (Qq (by repeat ((with_reducible (exact HB.out)))))); (case aL => have := LMc17.out; omega); intro v375 w18 ho hb hg hat; rw [← Ny374.out] at ho; have n0_ := Qa.mk (Kd.R_after (ok := (fun _ => True)) (by (with_reducible repeat (fail)); exact Kd.R_mono HO_6.out (fun _ hk => ⟨trivial, hk⟩)) hg hat); have n1_ := Qa.mk (hb); have n2_ := Qa.mk (ho); clear HO_6; clear HB; clear HO_7; have HO_6 := n0_; have HB := n1_; have HO376 := n2_; clear n0_ n1_ n2_; clear ho hb hg hat))
          (go_roundg k4)
          case measure => have := HJ2.out; have := HK2.out; have := HK3.out; have := HK4.out; omega
          case rel => exact ⟨(y374), (wrap64 (x10_4 + 1)), (by rfl), H', ⟨by have := HJ2.out; have := HK2.out; have := HK3.out; have := HK4.out; omega⟩, ⟨by (with_reducible repeat (fail)); exact Kd.R_mono HO_6.out (fun _ hk => hk.2)⟩, ⟨by (with_reducible repeat (fail)); exact HO376.out⟩, ⟨by repeat ((with_reducible (exact HB.out)))⟩⟩
       rw [if_neg c15] at H
       have c15b0 : decide (x9_3 < a0) = false := decide_eq_false c15
       clear c15
       have H' := Qa.mk H
       clear H
       obtain ⟨Ao19, co19, eo19⟩ := Kd.R_slice HO_6.out
       subst eo19
       go_wp2
       go_loopg [11, 61] k3 (fun kq v11 v61 w' => ∃ (x7_4 : List Int) (x11_4 : Int) (x61_4 : Int), v11 = .int .i64 x11_4 ∧ v61 = .int .i64 x61_4 ∧ Qa (Qc.l3 kq x7_4 x11_4 x6_2 (x6_2.length : Int) x61_4 = some (r1, r2)) ∧ Qa (kq ≤ k3) ∧ Qa (Kd.R (Kd.int .i64) 3 w' w.heap.size (fun k_ => some k_ ≠ ((.slice Ao19 x6_2.length co19) : Value).ownBlock) u7 x7_4) ∧ Qa (Kd.R (Kd.int .i64) 3 w' w.heap.size (fun k_ => some k_ ≠ (u7 : Value).ownBlock) (.slice Ao19 x6_2.length co19) x6_2) ∧ Qa (Below w.heap.size w w'))
       case atStart => exact ⟨(x7_3), (1), (0), (by rfl), (by rfl), H', ⟨Nat.le_refl _⟩, ⟨by (with_reducible repeat (fail)); exact HO_7.out⟩, ⟨by (with_reducible repeat (fail)); exact HO_6.out⟩, ⟨by repeat ((with_reducible (exact HB.out)))⟩⟩
       case round =>
        clear H' c15b0
        obtain ⟨x7_4, x11_4, x61_4, rfl, rfl, HA, HK4, HO_7, HO_59, HB⟩ := hrel
        cases gk with
        | zero => exact absurd HA.out (by simp [Qc.l3])
        | succ k4 =>
         have H := HA.out
         clear HA
         simp only [Qc.l3] at H
         by_cases c20 : x61_4 < (x6_2.length : Int)
         rotate_left
         ·rw [if_neg c20] at H
          have c20b0 : decide (x61_4 < (x6_2.length : Int)) = false := decide_eq_false c20
          (try (have c20x0 := c20b0; simp only [hl7_5] at c20x0))
          clear c20
          simp only [Option.some.injEq, Prod.mk.injEq] at H
          obtain ⟨rfl, rfl⟩ := H
          go_wp2
          go_ret2
          exact ⟨by rfl, by repeat ((with_reducible (exact HB.out)))⟩
         rw [if_pos c20] at H
         have c20b0 : decide (x61_4 < (x6_2.length : Int)) = true := decide_eq_true c20
         clear c20
         by_cases c21 : 0 ≤ x61_4
         rotate_left
         ·rw [if_neg c21] at H
          exact absurd H (by simp)
         rw [if_pos c21] at H
         have c21b0 : decide (0 ≤ x61_4) = true := decide_eq_true c21
         clear c21
         by_cases c22 : x61_4 < (x6_2.length : Int)
         rotate_left
         ·rw [if_neg c22] at H
          exact absurd H (by simp)
         rw [if_pos c22] at H
         have c22b0 : decide (x61_4 < (x6_2.length : Int)) = true := decide_eq_true c22
         clear c22
         have H' := Qa.mk H
         clear H
         have p377 : 0 ≤ (x61_4 : Int) := of_decide_eq_true (by (with_reducible assumption))
         have q377 : x61_4 < (x6_2.length : Int) := of_decide_eq_true (by (with_reducible assumption))
         obtain ⟨ad377, e377, hx377_0⟩ := Kd.at_int (Kd.R_reads' HO_59.out).2.2 x61_4 p377 q377
         cases e377
         replace p377 := eq_true p377
         replace q377 := eq_true q377
         obtain ⟨Ao23, co23, eo23⟩ := Kd.R_slice HO_7.out
         subst eo23
         go_wp2
         go_loopg [13, 67] k4 (fun kq v13 v67 w' => ∃ (x7_5 : List Int) (x13_5 : Int) (x67_5 : Int), v13 = .int .i64 x13_5 ∧ v67 = .int .i64 x67_5 ∧ Qa (Qc.l4 kq x7_5 x11_4 x13_5 x6_2 (x6_2.length : Int) x61_4 (x7_4.length : Int) x67_5 = some (r1, r2)) ∧ Qa (kq ≤ k4) ∧ Qa (Kd.R (Kd.int .i64) 3 w' w.heap.size (fun k_ => some k_ ≠ ((.slice (some ad377) x6_2.length co19) : Value).ownBlock) (.slice Ao23 x7_4.length co23) x7_5) ∧ Qa (Kd.R (Kd.int .i64) 3 w' w.heap.size (fun k_ => some k_ ≠ ((.slice Ao23 x7_4.length co23) : Value).ownBlock) (.slice (some ad377) x6_2.length co19) x6_2) ∧ Qa (Below w.heap.size w w'))
         case atStart => exact ⟨(x7_4), (rd x6_2 x61_4), (0), (by rfl), (by rfl), H', ⟨Nat.le_refl _⟩, ⟨by (with_reducible repeat (fail)); exact HO_7.out⟩, ⟨by (with_reducible repeat (fail)); exact HO_59.out⟩, ⟨by repeat ((with_reducible (exact HB.out)))⟩⟩
         case round =>
          clear H' c20b0 c21b0 c22b0 hx377_0 p377 q377
          obtain ⟨x7_5, x13_5, x67_5, rfl, rfl, HA, HK5, HO_7, HO_59, HB⟩ := hrel
          have hl7_5 := (Kd.R_reads' HO_7.out).1
          rw [hl7_5] at HO_7
          (try simp only [hl7_5])
          (try simp only [hl7_5] at HO_59)
          cases gk with
          | zero => exact absurd HA.out (by simp [Qc.l4])
          | succ k5 =>
           have H := HA.out
           clear HA
           simp only [Qc.l4] at H
           by_cases c24 : x67_5 < (x7_4.length : Int)
           rotate_left
           ·rw [if_neg c24] at H
            have c24b0 : decide (x67_5 < (x7_4.length : Int)) = false := decide_eq_false c24
            (try (have c24x0 := c24b0; simp only [hl7_5] at c24x0))
            clear c24
            have H' := Qa.mk H
            clear H
            go_wp2
            (try simp only [← hl7_5])
            (go_roundg k5)
            case measure => have := HJ2.out; have := HK2.out; have := HK3.out; have := HK4.out; have := HK5.out; omega
            case rel => exact ⟨(x7_5), (wrap64 (x11_4 * x13_5)), (wrap64 (x61_4 + 1)), (by rfl), (by rfl), H', ⟨by have := HJ2.out; have := HK2.out; have := HK3.out; have := HK4.out; have := HK5.out; omega⟩, ⟨by (try simp only [hl7_5]); (with_reducible repeat (fail)); exact HO_7.out⟩, ⟨by (try simp only [hl7_5]); (with_reducible repeat (fail)); exact HO_59.out⟩, ⟨by repeat ((with_reducible (exact HB.out)))⟩⟩
           rw [if_pos c24] at H
           have c24b0 : decide (x67_5 < (x7_4.length : Int)) = true := decide_eq_true c24
           clear c24
           by_cases c25 : 0 ≤ x67_5
           rotate_left
           ·rw [if_neg c25] at H
            exact absurd H (by simp)
           rw [if_pos c25] at H
           have c25b0 : decide (0 ≤ x67_5) = true := decide_eq_true c25
           clear c25
           by_cases c26 : x67_5 < (x7_5.length : Int)
           rotate_left
           ·rw [if_neg c26] at H
            exact absurd H (by simp)
           rw [if_pos c26] at H
           have c26b0 : decide (x67_5 < (x7_5.length : Int)) = true := decide_eq_true c26
           clear c26
           replace H := Option.bind_eq_some_iff.mp H
           obtain ⟨t379, A270, H⟩ := H
           replace H : (if t379 = 0 then (none) else (Qc.l4 k5 (x7_5.set (x67_5 : Int).toNat (wrap64 (Int.tdiv (rd x7_5 x67_5) t379))) x11_4 (wrap64 (Int.tdiv x13_5 t379)) x6_2 (x6_2.length : Int) x61_4 (x7_4.length : Int) (wrap64 (x67_5 + 1)))) = some (r1, r2) := H
           have A27 := Qa.mk A270
           clear A270
           by_cases c28 : t379 = 0
           ·rw [if_pos c28] at H
            exact absurd H (by simp)
           rw [if_neg c28] at H
           have c28b0 : (t379 == 0) = false := beq_eq_false_iff_ne.mpr c28
           have c28b1 : (t379 != 0) = true := bne_iff_ne.mpr c28
           obtain ⟨y381, hy381⟩ : ∃ y_ : List Int, y_ = (x7_5.set (x67_5 : Int).toNat (wrap64 (Int.tdiv (rd x7_5 x67_5) t379))) := ⟨_, rfl⟩
           replace H : (Qc.l4 k5 y381 x11_4 (wrap64 (Int.tdiv x13_5 t379)) x6_2 (x6_2.length : Int) x61_4 (x7_4.length : Int) (wrap64 (x67_5 + 1))) = some (r1, r2) := by (rw [hy381]; with_reducible exact H)
           have Ny381 := Qa.mk hy381
           clear hy381
           have H' := Qa.mk H
           clear H
           have p378 : 0 ≤ (x67_5 : Int) := of_decide_eq_true (by (with_reducible assumption))
           have q378 : x67_5 < (x7_5.length : Int) := of_decide_eq_true (by (with_reducible assumption))
           obtain ⟨ad378, e378, hx378_0⟩ := Kd.at_int (Kd.R_reads' HO_7.out).2.2 x67_5 p378 q378
           cases e378
           replace p378 := eq_true p378
           replace q378 := eq_true q378
           go_wp2_with (first | ((with_reducible refine Qg (f := 53) rfl ?_); refine goesL_ (some 75) rfl rfl Tryz.func53 (by kernel_rfl) rfl #[.int .i64 x13_5, .int .i64 (rd x7_5 x67_5)] rfl (by (try simp only [List.map_toArray, List.map_cons, List.map_nil]); rfl) ?_; (with_reducible refine (Qg1.calls k5 x13_5 (rd x7_5 x67_5) t379 _ A27.out).mono ?_); rintro e w' ⟨rfl, ⟨nd, rfl⟩⟩; refine ⟨_, rfl, ?_⟩; (try (rw [drewN_self wr]; generalize hq_ : World.drewN wr _ = wr; have n0_ : Qa (Kd.R (Kd.int .i64) 3 wr w.heap.size (fun k_ => some k_ ≠ (.slice (some ad378) x7_5.length co23 : Value).ownBlock) (.slice (some ad377) x6_2.length co19) x6_2) := ⟨by rw [← hq_]; exact (by (with_reducible repeat ((apply Kd.R_drewN))); exact HO_59.out)⟩; have n1_ : Qa (Kd.R (Kd.int .i64) 3 wr w.heap.size (fun k_ => some k_ ≠ (.slice (some ad377) x6_2.length co19 : Value).ownBlock) (.slice (some ad378) x7_5.length co23) x7_5) := ⟨by rw [← hq_]; exact (by (with_reducible repeat ((apply Kd.R_drewN))); exact HO_7.out)⟩; have n2_ : Qa (Below w.heap.size w wr) := ⟨by rw [← hq_]; exact (by repeat ((with_reducible first | exact HB.out | apply Qi)))⟩; clear HO_59 HO_7 HB hq_; have HO_59 := n0_; have HO_7 := n1_; have HB := n2_; clear n0_ n1_ n2_)); have p380 : 0 ≤ (x67_5 : Int) := of_decide_eq_true (by (with_reducible assumption)); have q380 : x67_5 < (x7_5.length : Int) := of_decide_eq_true (by (with_reducible assumption)); obtain ⟨ad380, e380, hx380_0⟩ := Kd.at_int (Kd.R_reads' HO_7.out).2.2 x67_5 p380 q380; obtain rfl : ad378 = ad380 := (by injection e380); replace p380 := eq_true p380; replace q380 := eq_true q380; have p29 : 0 ≤ (x67_5 : Int) := of_decide_eq_true (by (with_reducible assumption)); have q29 : (x67_5 : Int) < ((x7_5.length : Int) : Int) := of_decide_eq_true (by (with_reducible assumption)); obtain ⟨go29, co29, eo29, gb29, gl29, cl29, HG29⟩ := Kd.R_form HO_7.out (by omega); ((cases eo29)); have GB29 := Qa.mk gb29; have GG29 := Qa.mk HG29; clear gb29 gl29 HG29; ((simp only [add_plain] at hx378_0)); ((simp only [add_plain] at hx380_0)); obtain ⟨hx29_0, hf29_0⟩ := Kd.R_celln 0 HO_7.out (x67_5 : Int) p29 q29; replace p29 := eq_true p29; replace q29 := eq_true q29; obtain ⟨hy30_, hz30_⟩ := Kd.R_celln 0 HO_7.out (x67_5 : Int) (of_decide_eq_true (by (with_reducible assumption))) (of_decide_eq_true (by (with_reducible assumption))); have HP30 := Kd.R_putg HO_7.out (x67_5 : Int) (wrap64 (Int.tdiv (rd x7_5 x67_5) t379))) | ((with_reducible refine gate_store (t := 3) (p := 88) rfl ?_); refine store_event (t := 3) (p := 88) (v := ?vo_w31) (w1 := (wr.setCell ⟨go29, (x67_5 : Int).toNat, none⟩ (.int .i64 (wrap64 (Int.tdiv (rd x7_5 x67_5) t379))))) ?hg ?ho ?hn ?hr ?_; (case ho => rfl); (case hg => rfl); (case hn => rfl); (case hr => (go_simp; done)); intro w31 hw; have hg : wr.grownBy w31 (some go29) := (by rw [hw]; exact HP30.2); have hp_ : Kd.R (Kd.int .i64) 3 w31 w.heap.size (fun k_ => some k_ ≠ (.slice (some ad377) x6_2.length co19 : Value).ownBlock) (.slice (some ⟨go29, 0, none⟩) x7_5.length co23) y381 := (by rw [hw, Ny381.out]; exact HP30.1); clear HP30; have n0_ := Qa.mk (hp_); have n1_ := Qa.mk (Kd.R_after (v := (.slice (some ⟨go29, 0, none⟩) x7_5.length co23)) (v1 := (.slice (some ⟨go29, 0, none⟩) x7_5.length co23)) (ok := (fun _ => True)) (by (with_reducible repeat (fail)); exact Kd.R_mono HO_59.out (fun _ hk => ⟨trivial, hk⟩)) hg (.inl rfl)); have n2_ := Qa.mk ((by rw [hw]; exact below_set (HB.out) GB29.out : Below w.heap.size w w31)); clear HO_7; clear HO_59; clear HB; have HO_7 := n0_; have HO_59 := n1_; have HB := n2_; clear n0_ n1_ n2_; clear hg hw hp_))
           (try simp only [← hl7_5])
           (go_roundg k5)
           case measure => have := HJ2.out; have := HK2.out; have := HK3.out; have := HK4.out; have := HK5.out; omega
           case rel => exact ⟨(y381), (wrap64 (Int.tdiv x13_5 t379)), (wrap64 (x67_5 + 1)), (by rfl), (by rfl), H', ⟨by have := HJ2.out; have := HK2.out; have := HK3.out; have := HK4.out; have := HK5.out; omega⟩, ⟨by (try simp only [hl7_5]); (with_reducible repeat (fail)); exact HO_7.out⟩, ⟨by (try simp only [hl7_5]); (with_reducible repeat (fail)); exact Kd.R_mono HO_59.out (fun _ hk => hk.2)⟩, ⟨by repeat ((with_reducible (exact HB.out)))⟩⟩
mutual
def Qh1.l0 : Nat → Int → List (List Int) → Int → Int → Option (Int)
 | 0, _, _, _, _ => none
 | k + 1, x3, x7, x8, x9 => if x9 < x8 then (if 0 ≤ x9 then (if x9 < (x7.length : Int) then (Qh1.l1 k x3 (rd_L2 x7 x9) 1 x7 x8 x9) else (none)) else (none)) else (some x3)
def Qh1.l1 : Nat → Int → List Int → Int → List (List Int) → Int → Int → Option (Int)
 | 0, _, _, _, _, _, _ => none
 | k + 1, x3, x5, x6, x7, x8, x9 => if x6 < (x5.length : Int) then (if 0 ≤ (wrap64 (x6 - 1)) then (if (wrap64 (x6 - 1)) < (x5.length : Int) then (if 0 ≤ x6 then (if (rd x5 (wrap64 (x6 - 1))) > (rd x5 x6) then (Qh1.l1 k (wrap64 (x3 + 1)) x5 (wrap64 (x6 + 1)) x7 x8 x9) else (Qh1.l1 k x3 x5 (wrap64 (x6 + 1)) x7 x8 x9)) else (none)) else (none)) else (none)) else (Qh1.l0 k x3 x7 x8 (wrap64 (x9 + 1)))
end
def Qh1.f (k : Nat) (l0 : List (List Int)) : Option (Int) := Qh1.l0 k 0 l0 (l0.length : Int) 0
set_option maxHeartbeats 8000000 in
set_option maxRecDepth 100000 in
theorem Qh1.calls (k : Nat) (A0 : Option Addr) (c0 : Nat) (l0 : List (List Int)) (r : Int) (w : World) (hr0 : Kd.C (Kd.slice 3 (Kd.int .i64)) w A0 l0.length l0) (hc0 : l0.length ≤ c0) (h : Qh1.f k l0 = some r) :
  Calls Tryz.prog 54 #[.slice A0 l0.length c0] w fun e w' => e = .returned (.int .i64 r) ∧ Drawn0 w w' := by
 have HR0 := Qa.mk hr0
 have HC0 := Qa.mk hc0
 clear hr0 hc0
 have H : (Qh1.l0 k 0 l0 (l0.length : Int) 0) = some r := h
 clear h
 have H' := Qa.mk H
 clear H
 go_enter Tryz.func54, Tryz.ntmps54
 go_wp2
 repeat (go_quiet (fail); try go_wp2)
 go_loopg [3, 9] k (fun kq v3 v9 w' => ∃ (x3_1 : Int) (x9_1 : Int), v3 = .int .i64 x3_1 ∧ v9 = .int .i64 x9_1 ∧ Qa (Qh1.l0 kq x3_1 l0 (l0.length : Int) x9_1 = some r) ∧ Qa (kq ≤ k) ∧ Drawn0 w w')
 case atStart => exact ⟨(0), (0), (by rfl), (by rfl), H', ⟨Nat.le_refl _⟩, by repeat ((exact Drawn0.refl _))⟩
 case round =>
  clear H'
  obtain ⟨x3_1, x9_1, rfl, rfl, HA, HK1, ⟨m1, rfl⟩⟩ := hrel
  cases gk with
  | zero => exact absurd HA.out (by simp [Qh1.l0])
  | succ k1 =>
   have H := HA.out
   clear HA
   simp only [Qh1.l0] at H
   by_cases c2 : x9_1 < (l0.length : Int)
   rotate_left
   ·rw [if_neg c2] at H
    have c2b0 : decide (x9_1 < (l0.length : Int)) = false := decide_eq_false c2
    (try (have c2x0 := c2b0; simp only [hl382_0] at c2x0))
    clear c2
    obtain rfl := Option.some.inj H
    go_wp2
    repeat (go_quiet (fail); try go_wp2)
    go_ret
    exact ⟨by rfl, by repeat (first | exact Drawn0.refl _ | apply Drawn0.step)⟩
   rw [if_pos c2] at H
   have c2b0 : decide (x9_1 < (l0.length : Int)) = true := decide_eq_true c2
   clear c2
   by_cases c3 : 0 ≤ x9_1
   rotate_left
   ·rw [if_neg c3] at H
    exact absurd H (by simp)
   rw [if_pos c3] at H
   have c3b0 : decide (0 ≤ x9_1) = true := decide_eq_true c3
   clear c3
   by_cases c4 : x9_1 < (l0.length : Int)
   rotate_left
   ·rw [if_neg c4] at H
    exact absurd H (by simp)
   rw [if_pos c4] at H
   have c4b0 : decide (x9_1 < (l0.length : Int)) = true := decide_eq_true c4
   clear c4
   have H' := Qa.mk H
   clear H
   have p382 : 0 ≤ (x9_1 : Int) := of_decide_eq_true (by (with_reducible assumption))
   have q382 : x9_1 < (l0.length : Int) := of_decide_eq_true (by (with_reducible assumption))
   obtain ⟨ad382, A382_0, c382_0, e382, hx382_0, hl382_0, hi382_0⟩ := at_L2 HR0.out x9_1 p382 q382
   cases e382
   have HR382_0 := Qa.mk hi382_0
   have HC382_0 := Qa.mk hl382_0
   clear hi382_0 hl382_0
   replace p382 := eq_true p382
   replace q382 := eq_true q382
   go_wp2
   repeat (go_quiet (fail); try go_wp2)
   go_loopg [3, 6] k1 (fun kq v3 v6 w' => ∃ (x3_2 : Int) (x6_2 : Int), v3 = .int .i64 x3_2 ∧ v6 = .int .i64 x6_2 ∧ Qa (Qh1.l1 kq x3_2 (rd_L2 l0 x9_1) x6_2 l0 (l0.length : Int) x9_1 = some r) ∧ Qa (kq ≤ k1) ∧ Drawn0 w w')
   case atStart => exact ⟨(x3_1), (1), (by rfl), (by rfl), H', ⟨Nat.le_refl _⟩, by repeat (first | exact Drawn0.refl _ | apply Drawn0.step)⟩
   case round =>
    clear H' c2b0 c3b0 c4b0 hx382_0 p382 q382
    obtain ⟨x3_2, x6_2, rfl, rfl, HA, HK2, ⟨m2, rfl⟩⟩ := hrel
    cases gk with
    | zero => exact absurd HA.out (by simp [Qh1.l1])
    | succ k2 =>
     have H := HA.out
     clear HA
     simp only [Qh1.l1] at H
     by_cases c5 : x6_2 < ((rd_L2 l0 x9_1).length : Int)
     rotate_left
     ·rw [if_neg c5] at H
      have c5b0 : decide (x6_2 < ((rd_L2 l0 x9_1).length : Int)) = false := decide_eq_false c5
      clear c5
      have H' := Qa.mk H
      clear H
      go_wp2
      repeat (go_quiet (fail); try go_wp2)
      (go_roundg k2)
      case measure => have := HK1.out; have := HK2.out; omega
      case rel => exact ⟨(x3_2), (wrap64 (x9_1 + 1)), (by rfl), (by rfl), H', ⟨by have := HK1.out; have := HK2.out; omega⟩, by repeat (first | exact Drawn0.refl _ | apply Drawn0.step)⟩
     rw [if_pos c5] at H
     have c5b0 : decide (x6_2 < ((rd_L2 l0 x9_1).length : Int)) = true := decide_eq_true c5
     clear c5
     obtain ⟨ji6, hji6⟩ : ∃ j_ : Int, (wrap64 (x6_2 - 1)) = j_ := ⟨_, rfl⟩
     replace H : (if 0 ≤ (ji6) then (if (ji6) < ((rd_L2 l0 x9_1).length : Int) then (if 0 ≤ x6_2 then (if (rd (rd_L2 l0 x9_1) (ji6)) > (rd (rd_L2 l0 x9_1) x6_2) then (Qh1.l1 k2 (wrap64 (x3_2 + 1)) (rd_L2 l0 x9_1) (wrap64 (x6_2 + 1)) l0 (l0.length : Int) x9_1) else (Qh1.l1 k2 x3_2 (rd_L2 l0 x9_1) (wrap64 (x6_2 + 1)) l0 (l0.length : Int) x9_1)) else (none)) else (none)) else (none)) = some r := by (rw [hji6] at H; exact H)
     have hji6w : (IntKind.i64.wrap (x6_2 - 1)) = ji6 := (i64_w _).trans hji6
     by_cases c7 : 0 ≤ (ji6)
     rotate_left
     ·rw [if_neg c7] at H
      exact absurd H (by simp)
     rw [if_pos c7] at H
     have c7b0 : decide (0 ≤ (ji6)) = true := decide_eq_true c7
     clear c7
     by_cases c8 : (ji6) < ((rd_L2 l0 x9_1).length : Int)
     rotate_left
     ·rw [if_neg c8] at H
      exact absurd H (by simp)
     rw [if_pos c8] at H
     have c8b0 : decide ((ji6) < ((rd_L2 l0 x9_1).length : Int)) = true := decide_eq_true c8
     clear c8
     by_cases c9 : 0 ≤ x6_2
     rotate_left
     ·rw [if_neg c9] at H
      exact absurd H (by simp)
     rw [if_pos c9] at H
     have c9b0 : decide (0 ≤ x6_2) = true := decide_eq_true c9
     clear c9
     by_cases c10 : (rd (rd_L2 l0 x9_1) (ji6)) > (rd (rd_L2 l0 x9_1) x6_2)
     ·rw [if_pos c10] at H
      have c10b0 : decide ((rd (rd_L2 l0 x9_1) x6_2) < (rd (rd_L2 l0 x9_1) (ji6))) = true := decide_eq_true c10
      clear c10
      have H' := Qa.mk H
      clear H
      have p383 : 0 ≤ ((ji6) : Int) := of_decide_eq_true (by (with_reducible assumption))
      have q383 : (ji6) < ((rd_L2 l0 x9_1).length : Int) := of_decide_eq_true (by (with_reducible assumption))
      obtain ⟨ad383, e383, hx383_0⟩ := Kd.at_int HR382_0.out (ji6) p383 q383
      cases e383
      replace p383 := eq_true p383
      replace q383 := eq_true q383
      have p384 : 0 ≤ (x6_2 : Int) := of_decide_eq_true (by (with_reducible assumption))
      have q384 : x6_2 < ((rd_L2 l0 x9_1).length : Int) := of_decide_eq_true (by (with_reducible assumption))
      obtain ⟨ad384, e384, hx384_0⟩ := Kd.at_int HR382_0.out x6_2 p384 q384
      obtain rfl : ad383 = ad384 := (by injection e384)
      replace p384 := eq_true p384
      replace q384 := eq_true q384
      go_wp2
      repeat (go_quiet (fail); try go_wp2)
      (go_roundg k2)
      case measure => have := HK1.out; have := HK2.out; omega
      case rel => exact ⟨(wrap64 (x3_2 + 1)), (wrap64 (x6_2 + 1)), (by rfl), (by rfl), H', ⟨by have := HK1.out; have := HK2.out; omega⟩, by repeat (first | exact Drawn0.refl _ | apply Drawn0.step)⟩
     rw [if_neg c10] at H
     have c10b0 : decide ((rd (rd_L2 l0 x9_1) x6_2) < (rd (rd_L2 l0 x9_1) (ji6))) = false := decide_eq_false c10
     clear c10
     have H' := Qa.mk H
     clear H
     have p383 : 0 ≤ ((ji6) : Int) := of_decide_eq_true (by (with_reducible assumption))
     have q383 : (ji6) < ((rd_L2 l0 x9_1).length : Int) := of_decide_eq_true (by (with_reducible assumption))
     obtain ⟨ad383, e383, hx383_0⟩ := Kd.at_int HR382_0.out (ji6) p383 q383
     cases e383
     replace p383 := eq_true p383
     replace q383 := eq_true q383
     have p384 : 0 ≤ (x6_2 : Int) := of_decide_eq_true (by (with_reducible assumption))
     have q384 : x6_2 < ((rd_L2 l0 x9_1).length : Int) := of_decide_eq_true (by (with_reducible assumption))
     obtain ⟨ad384, e384, hx384_0⟩ := Kd.at_int HR382_0.out x6_2 p384 q384
     obtain rfl : ad383 = ad384 := (by injection e384)
     replace p384 := eq_true p384
     replace q384 := eq_true q384
     go_wp2
     repeat (go_quiet (fail); try go_wp2)
     (go_roundg k2)
     case measure => have := HK1.out; have := HK2.out; omega
     case rel => exact ⟨(x3_2), (wrap64 (x6_2 + 1)), (by rfl), (by rfl), H', ⟨by have := HK1.out; have := HK2.out; omega⟩, by repeat (first | exact Drawn0.refl _ | apply Drawn0.step)⟩
end Go.Proofs.YtohhlkehglahhaaGreatDoor.A
