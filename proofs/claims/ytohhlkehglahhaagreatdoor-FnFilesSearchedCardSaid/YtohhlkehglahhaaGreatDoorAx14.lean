-- Printed: Lean checks it.
import Derived.Test.YtohhlkehglahhaaGreatDoorAx0
import Derived.Test.YtohhlkehglahhaaGreatDoorAx1
import Derived.Test.YtohhlkehglahhaaGreatDoorAx2
import Derived.Test.YtohhlkehglahhaaGreatDoorAx3
namespace Go.Proofs.YtohhlkehglahhaaGreatDoor.A
open Go.RowKit Go.Proofs.YtohhlkehglahhaaGreatDoorW.PrintWords Go.Proofs.YtohhlkehglahhaaGreatDoorW.PrintLast Go.Proofs.YtohhlkehglahhaaGreatDoorW.PrintMore Go.Proofs.YtohhlkehglahhaaGreatDoor.X
attribute [local go_sem] max2_int min2_int max_two min_two max_three min_three max_four min_four
set_option linter.unusedVariables false
set_option linter.unusedSimpArgs false
mutual
def Qj.j0 : Nat → List (List Int) → Int → Int → Bool → Option ((List (List Int)) × Bool)
 | 0, _, _, _, _ => none
 | k + 1, x0, x1, x2, x33 => if x33 = true then (some (([] : List (List Int)), false)) else (Qj.l0 k x0 x1 x2 ([] : List (List Int)) (x0.length : Int) 0)
def Qj.l0 : Nat → List (List Int) → Int → Int → List (List Int) → Int → Int → Option ((List (List Int)) × Bool)
 | 0, _, _, _, _, _, _ => none
 | k + 1, x0, x1, x2, x8, x35, x36 => if x36 < x35 then (if x36 = x1 then (if 0 ≤ x2 then (if x2 < (x0.length : Int) then ((Qi2.f (rd_L2 x0 x2)).bind fun t343 => (if x8.length < 5864062014805 then (Qj.l0 k x0 x1 x2 (x8 ++ [t343]) x35 (wrap64 (x36 + 1))) else (none))) else (none)) else (none)) else (if x36 = x2 then (if 0 ≤ x1 then (if x1 < (x0.length : Int) then ((Qi2.f (rd_L2 x0 x1)).bind fun t350 => (if x8.length < 5864062014805 then (Qj.l0 k x0 x1 x2 (x8 ++ [t350]) x35 (wrap64 (x36 + 1))) else (none))) else (none)) else (none)) else (if 0 ≤ x36 then (if x36 < (x0.length : Int) then ((Qi2.f (rd_L2 x0 x36)).bind fun t357 => (if x8.length < 5864062014805 then (Qj.l0 k x0 x1 x2 (x8 ++ [t357]) x35 (wrap64 (x36 + 1))) else (none))) else (none)) else (none)))) else (some (x8, true))
end
def Qj.f (k : Nat) (l0 : List (List Int)) (a1 : Int) (a2 : Int) : Option ((List (List Int)) × Bool) := (Qr.f k l0).bind fun t339 => (if t339 = true then ((Qj1.f a1 0 (wrap64 ((l0.length : Int) - 1))).bind fun t340 => (if t340 = true then ((Qj1.f a2 0 (wrap64 ((l0.length : Int) - 1))).bind fun t341 => (if t341 = true then (Qj.j0 k l0 a1 a2 (a1 == a2)) else (Qj.j0 k l0 a1 a2 true))) else (Qj.j0 k l0 a1 a2 true))) else (Qj.j0 k l0 a1 a2 true))
set_option maxHeartbeats 8000000 in
set_option maxRecDepth 100000 in
theorem Qj.calls (k : Nat) (A0 : Option Addr) (c0 : Nat) (l0 : List (List Int)) (a1 : Int) (a2 : Int) (r1 : List (List Int)) (r2 : Bool) (w : World) (hr0 : Kd.C (Kd.slice 3 (Kd.int .i64)) w A0 l0.length l0) (hc0 : l0.length ≤ c0) (h : Qj.f k l0 a1 a2 = some (r1, r2)) :
  Calls Tryz.prog 18 #[.slice A0 l0.length c0, .int .i64 a1, .int .i64 a2] w fun e w' => ∃ v0_ : Value, e = .returned (.tuple #[v0_, .bool r2]) ∧ Kd.S (Kd.slice 3 (Kd.int .i64)) 32 w' w.heap.size (fun _ => True) v0_ r1 ∧ Below w.heap.size w w' := by
 have HR0 := Qa.mk hr0
 have HC0 := Qa.mk hc0
 clear hr0 hc0
 have HB := Qa.mk (Below.refl w.heap.size w)
 have H : ((Qr.f k l0).bind fun t339 => (if t339 = true then ((Qj1.f a1 0 (wrap64 ((l0.length : Int) - 1))).bind fun t340 => (if t340 = true then ((Qj1.f a2 0 (wrap64 ((l0.length : Int) - 1))).bind fun t341 => (if t341 = true then (Qj.j0 k l0 a1 a2 (a1 == a2)) else (Qj.j0 k l0 a1 a2 true))) else (Qj.j0 k l0 a1 a2 true))) else (Qj.j0 k l0 a1 a2 true))) = some (r1, r2) := h
 clear h
 have HC4 := Qa.mk H
 clear H
 go_enter Tryz.func18, Tryz.ntmps18
 go_upto_region 1 with (fail)
 go_cut [33] (fun v33 wc => ∃ (kq : Nat) (x33_3 : Bool), v33 = .bool x33_3 ∧ Qa (Qj.j0 kq l0 a1 a2 x33_3 = some (r1, r2)) ∧ Qa (kq ≤ k) ∧ Qa (Below w.heap.size w wc))
 case first =>
  have H := HC4.out
  clear HC4
  replace H := Option.bind_eq_some_iff.mp H
  obtain ⟨t339, A50, H⟩ := H
  replace H : (if t339 = true then ((Qj1.f a1 0 (wrap64 ((l0.length : Int) - 1))).bind fun t340 => (if t340 = true then ((Qj1.f a2 0 (wrap64 ((l0.length : Int) - 1))).bind fun t341 => (if t341 = true then (Qj.j0 k l0 a1 a2 (a1 == a2)) else (Qj.j0 k l0 a1 a2 true))) else (Qj.j0 k l0 a1 a2 true))) else (Qj.j0 k l0 a1 a2 true)) = some (r1, r2) := H
  have A5 := Qa.mk A50
  clear A50
  by_cases c6 : t339 = true
  rotate_left
  ·replace c6 := Bool.eq_false_iff.mpr c6
   subst c6
   have H1 : (Qj.j0 k l0 a1 a2 true) = some (r1, r2) := by rw [if_neg (show ¬ (false = true) by decide)] at H; exact H
   clear H
   have H := H1
   clear H1
   have H' := Qa.mk H
   clear H
   go_wp2_with (((with_reducible refine Qg (f := 31) rfl ?_); refine goesL_ (some 11) rfl rfl Tryz.func31 (by kernel_rfl) rfl #[.slice A0 l0.length c0] rfl (by (try simp only [List.map_toArray, List.map_cons, List.map_nil]); rfl) ?_; (with_reducible refine (Qr.calls k _ _ l0 false _ ?side1 ?side2 A5.out).mono ?_); (case side1 => repeat ((exact (Kd.C_below HR0.out HB.out)))); (case side2 => exact HC0.out); rintro e w' ⟨rfl, ⟨nd, rfl⟩⟩; refine ⟨_, rfl, ?_⟩))
   go_meet
   case rel => exact ⟨_, (true), (by rfl), H', ⟨by omega⟩, ⟨by repeat ((with_reducible first | exact HB.out | apply Qi))⟩⟩
  subst c6
  have H1 : ((Qj1.f a1 0 (wrap64 ((l0.length : Int) - 1))).bind fun t340 => (if t340 = true then ((Qj1.f a2 0 (wrap64 ((l0.length : Int) - 1))).bind fun t341 => (if t341 = true then (Qj.j0 k l0 a1 a2 (a1 == a2)) else (Qj.j0 k l0 a1 a2 true))) else (Qj.j0 k l0 a1 a2 true))) = some (r1, r2) := by rw [if_pos rfl] at H; exact H
  clear H
  have H := H1
  clear H1
  replace H := Option.bind_eq_some_iff.mp H
  obtain ⟨t340, A70, H⟩ := H
  replace H : (if t340 = true then ((Qj1.f a2 0 (wrap64 ((l0.length : Int) - 1))).bind fun t341 => (if t341 = true then (Qj.j0 k l0 a1 a2 (a1 == a2)) else (Qj.j0 k l0 a1 a2 true))) else (Qj.j0 k l0 a1 a2 true)) = some (r1, r2) := H
  have A7 := Qa.mk A70
  clear A70
  by_cases c8 : t340 = true
  rotate_left
  ·replace c8 := Bool.eq_false_iff.mpr c8
   subst c8
   have H1 : (Qj.j0 k l0 a1 a2 true) = some (r1, r2) := by rw [if_neg (show ¬ (false = true) by decide)] at H; exact H
   clear H
   have H := H1
   clear H1
   have H' := Qa.mk H
   clear H
   go_wp2_with (first | ((with_reducible refine Qg (f := 31) rfl ?_); refine goesL_ (some 11) rfl rfl Tryz.func31 (by kernel_rfl) rfl #[.slice A0 l0.length c0] rfl (by (try simp only [List.map_toArray, List.map_cons, List.map_nil]); rfl) ?_; (with_reducible refine (Qr.calls k _ _ l0 true _ ?side1 ?side2 A5.out).mono ?_); (case side1 => repeat ((exact (Kd.C_below HR0.out HB.out)))); (case side2 => exact HC0.out); rintro e w' ⟨rfl, ⟨nd, rfl⟩⟩; refine ⟨_, rfl, ?_⟩) | (go_at_call 49; (with_reducible refine (Qj1.calls a1 0 (wrap64 ((l0.length : Int) - 1)) false _ A7.out).mono ?_); rintro e w' ⟨rfl, ⟨nd, rfl⟩⟩))
   go_meet
   case rel => exact ⟨_, (true), (by rfl), H', ⟨by omega⟩, ⟨by repeat ((with_reducible first | exact HB.out | apply Qi))⟩⟩
  subst c8
  have H1 : ((Qj1.f a2 0 (wrap64 ((l0.length : Int) - 1))).bind fun t341 => (if t341 = true then (Qj.j0 k l0 a1 a2 (a1 == a2)) else (Qj.j0 k l0 a1 a2 true))) = some (r1, r2) := by rw [if_pos rfl] at H; exact H
  clear H
  have H := H1
  clear H1
  replace H := Option.bind_eq_some_iff.mp H
  obtain ⟨t341, A90, H⟩ := H
  replace H : (if t341 = true then (Qj.j0 k l0 a1 a2 (a1 == a2)) else (Qj.j0 k l0 a1 a2 true)) = some (r1, r2) := H
  have A9 := Qa.mk A90
  clear A90
  by_cases c10 : t341 = true
  ·subst c10
   have H1 : (Qj.j0 k l0 a1 a2 (a1 == a2)) = some (r1, r2) := by rw [if_pos rfl] at H; exact H
   clear H
   have H := H1
   clear H1
   have H' := Qa.mk H
   clear H
   go_wp2_with (first | ((with_reducible refine Qg (f := 31) rfl ?_); refine goesL_ (some 11) rfl rfl Tryz.func31 (by kernel_rfl) rfl #[.slice A0 l0.length c0] rfl (by (try simp only [List.map_toArray, List.map_cons, List.map_nil]); rfl) ?_; (with_reducible refine (Qr.calls k _ _ l0 true _ ?side1 ?side2 A5.out).mono ?_); (case side1 => repeat ((exact (Kd.C_below HR0.out HB.out)))); (case side2 => exact HC0.out); rintro e w' ⟨rfl, ⟨nd, rfl⟩⟩; refine ⟨_, rfl, ?_⟩) | (go_at_call 49; (with_reducible refine (Qj1.calls a1 0 (wrap64 ((l0.length : Int) - 1)) true _ A7.out).mono ?_); rintro e w' ⟨rfl, ⟨nd, rfl⟩⟩) | (go_at_call 49; (with_reducible refine (Qj1.calls a2 0 (wrap64 ((l0.length : Int) - 1)) true _ A9.out).mono ?_); rintro e w' ⟨rfl, ⟨nd, rfl⟩⟩))
   go_meet
   case rel => exact ⟨_, ((a1 == a2)), (by rfl), H', ⟨by omega⟩, ⟨by repeat ((with_reducible first | exact HB.out | apply Qi))⟩⟩
  replace c10 := Bool.eq_false_iff.mpr c10
  subst c10
  have H1 : (Qj.j0 k l0 a1 a2 true) = some (r1, r2) := by rw [if_neg (show ¬ (false = true) by decide)] at H; exact H
  clear H
  have H := H1
  clear H1
  have H' := Qa.mk H
  clear H
  go_wp2_with (first | ((with_reducible refine Qg (f := 31) rfl ?_); refine goesL_ (some 11) rfl rfl Tryz.func31 (by kernel_rfl) rfl #[.slice A0 l0.length c0] rfl (by (try simp only [List.map_toArray, List.map_cons, List.map_nil]); rfl) ?_; (with_reducible refine (Qr.calls k _ _ l0 true _ ?side1 ?side2 A5.out).mono ?_); (case side1 => repeat ((exact (Kd.C_below HR0.out HB.out)))); (case side2 => exact HC0.out); rintro e w' ⟨rfl, ⟨nd, rfl⟩⟩; refine ⟨_, rfl, ?_⟩) | (go_at_call 49; (with_reducible refine (Qj1.calls a1 0 (wrap64 ((l0.length : Int) - 1)) true _ A7.out).mono ?_); rintro e w' ⟨rfl, ⟨nd, rfl⟩⟩) | (go_at_call 49; (with_reducible refine (Qj1.calls a2 0 (wrap64 ((l0.length : Int) - 1)) false _ A9.out).mono ?_); rintro e w' ⟨rfl, ⟨nd, rfl⟩⟩))
  go_meet
  case rel => exact ⟨_, (true), (by rfl), H', ⟨by omega⟩, ⟨by repeat ((with_reducible first | exact HB.out | apply Qi))⟩⟩
 case rest =>
  clear HC4
  obtain ⟨kq, x33_3, rfl, HA, HJ3, HB⟩ := hcut
  cases kq with
  | zero => exact absurd HA.out (by simp [Qj.j0])
  | succ kj3 =>
   have H := HA.out
   clear HA
   simp only [Qj.j0] at H
   by_cases c11 : x33_3 = true
   ·subst c11
    have H1 : (some (([] : List (List Int)), false)) = some (r1, r2) := by rw [if_pos rfl] at H; exact H
    clear H
    have H := H1
    clear H1
    simp only [Option.some.injEq, Prod.mk.injEq] at H
    obtain ⟨rfl, rfl⟩ := H
    go_wp2
    go_ret2
    exact ⟨_, by rfl, by (exact Kd.S_nil _ _ _ _ _), by repeat ((with_reducible (exact HB.out)))⟩
   replace c11 := Bool.eq_false_iff.mpr c11
   subst c11
   have H1 : (Qj.l0 kj3 l0 a1 a2 ([] : List (List Int)) (l0.length : Int) 0) = some (r1, r2) := by rw [if_neg (show ¬ (false = true) by decide)] at H; exact H
   clear H
   have H := H1
   clear H1
   have H' := Qa.mk H
   clear H
   go_wp2
   go_loopg [8, 36] kj3 (fun kq v8 v36 w' => ∃ (x8_2 : List (List Int)) (x36_2 : Int), v36 = .int .i64 x36_2 ∧ Qa (Qj.l0 kq l0 a1 a2 x8_2 (l0.length : Int) x36_2 = some (r1, r2)) ∧ Qa (kq ≤ kj3) ∧ Qa (Kd.S (Kd.slice 3 (Kd.int .i64)) 32 w' w.heap.size (fun _ => True) v8 x8_2) ∧ Qa (Below w.heap.size w w'))
   case atStart => exact ⟨(([] : List (List Int))), (0), (by rfl), H', ⟨Nat.le_refl _⟩, ⟨by (exact Kd.S_nil _ _ _ _ _)⟩, ⟨by repeat ((with_reducible (exact HB.out)))⟩⟩
   case round =>
    clear H'
    obtain ⟨x8_2, x36_2, rfl, HA, HK2, HO_8, HB⟩ := hrel
    cases gk with
    | zero => exact absurd HA.out (by simp [Qj.l0])
    | succ k2 =>
     have H := HA.out
     clear HA
     simp only [Qj.l0] at H
     by_cases c12 : x36_2 < (l0.length : Int)
     rotate_left
     ·rw [if_neg c12] at H
      have c12b0 : decide (x36_2 < (l0.length : Int)) = false := decide_eq_false c12
      clear c12
      simp only [Option.some.injEq, Prod.mk.injEq] at H
      obtain ⟨rfl, rfl⟩ := H
      go_wp2
      go_ret2
      exact ⟨_, by rfl, by (with_reducible repeat (fail)); exact HO_8.out, by repeat ((with_reducible (exact HB.out)))⟩
     rw [if_pos c12] at H
     have c12b0 : decide (x36_2 < (l0.length : Int)) = true := decide_eq_true c12
     clear c12
     by_cases c13 : x36_2 = a1
     ·rw [if_pos c13] at H
      have c13b0 : (x36_2 == a1) = true := beq_iff_eq.mpr c13
      have c13b1 : (x36_2 != a1) = false := bne_eq_false_iff_eq.mpr c13
      clear c13
      by_cases c14 : 0 ≤ a2
      rotate_left
      ·rw [if_neg c14] at H
       exact absurd H (by simp)
      rw [if_pos c14] at H
      have c14b0 : decide (0 ≤ a2) = true := decide_eq_true c14
      clear c14
      by_cases c15 : a2 < (l0.length : Int)
      rotate_left
      ·rw [if_neg c15] at H
       exact absurd H (by simp)
      rw [if_pos c15] at H
      have c15b0 : decide (a2 < (l0.length : Int)) = true := decide_eq_true c15
      clear c15
      replace H := Option.bind_eq_some_iff.mp H
      obtain ⟨t343, A160, H⟩ := H
      replace H : (if x8_2.length < 5864062014805 then (Qj.l0 k2 l0 a1 a2 (x8_2 ++ [t343]) (l0.length : Int) (wrap64 (x36_2 + 1))) else (none)) = some (r1, r2) := H
      have A16 := Qa.mk A160
      clear A160
      by_cases c17 : x8_2.length < 5864062014805
      rotate_left
      ·rw [if_neg c17] at H
       exact absurd H (by simp)
      rw [if_pos c17] at H
      have LMc17 := Qa.mk c17
      clear c17
      obtain ⟨y346, hy346⟩ : ∃ y_ : List (List Int), y_ = (x8_2 ++ [t343]) := ⟨_, rfl⟩
      replace H : (Qj.l0 k2 l0 a1 a2 y346 (l0.length : Int) (wrap64 (x36_2 + 1))) = some (r1, r2) := by (rw [hy346]; with_reducible exact H)
      have Ny346 := Qa.mk hy346
      clear hy346
      have H' := Qa.mk H
      clear H
      have p342 : 0 ≤ (a2 : Int) := of_decide_eq_true (by (with_reducible assumption))
      have q342 : a2 < (l0.length : Int) := of_decide_eq_true (by (with_reducible assumption))
      obtain ⟨ad342, A342_0, c342_0, e342, hx342_0, hl342_0, hi342_0⟩ := at_L2 HR0.out a2 p342 q342
      cases e342
      replace hx342_0 := (HB.out.cell (World.block_lt_of_cell? w _ hx342_0)).trans hx342_0
      have HR342_0 := Qa.mk hi342_0
      have HC342_0 := Qa.mk hl342_0
      clear hi342_0 hl342_0
      replace p342 := eq_true p342
      replace q342 := eq_true q342
      go_wp2_with (first | ((with_reducible refine Qg (f := 51) rfl ?_); refine goesL_ (some 56) rfl rfl Tryz.func51 (by kernel_rfl) rfl #[.slice A342_0 (rd_L2 l0 a2).length c342_0] rfl (by (try simp only [List.map_toArray, List.map_cons, List.map_nil]); rfl) ?_; (with_reducible refine (Qi2.calls _ _ (rd_L2 l0 a2) t343 _ ?side1 ?side2 A16.out).mono ?_); (case side1 => repeat ((exact (Kd.C_below HR342_0.out HB.out)))); (case side2 => exact HC342_0.out); rintro e w18 ⟨v344, rfl, ho0, hb⟩; refine ⟨_, rfl, ?_⟩; have n0_ := Qa.mk (Kd.S_elder' (by (with_reducible repeat (fail)); exact HO_8.out) (Kd.R_base ho0) hb); have n1_ := Qa.mk (Kd.R_lower ho0 (Qq (by repeat ((with_reducible (exact HB.out)))))); have n2_ := Qa.mk (Qh (by repeat ((with_reducible (exact HB.out)))) hb); clear HO_8; clear HB; have HO_8 := n0_; have HO345 := n1_; have HB := n2_; clear n0_ n1_ n2_; (try clear hb); (try clear hb2); (try clear hk); (try clear hi); (try clear ho0); obtain ⟨Ao20, co20, eo20⟩ := Kd.R_slice HO345.out; subst eo20) | ((with_reducible refine gate_builtin (b := .append) (xs := #[.tmp 51, .tmp 57]) rfl ?_); (try (refine gate_guard (by rfl) ?_; dsimp only)); at_builtin; refine Kd.S_append (Kd.slice 3 (Kd.int .i64)) (w0 := w) w.heap.size rfl (.tmp 51) (.tmp 57) 24 32 (.slice none 0 0) 24 rfl Tryz.underlying24 info32 rfl (by decide) (by omega) u8 x8_2 t343 [.slice Ao20 t343.length co20] (fun _ => True) (fun k_ => some k_ = (.slice Ao20 t343.length co20 : Value).ownBlock) rfl rfl ?aP (fun k_ hk_ => ((Kd.R_mono (ok' := fun k_ => ((fun _ => True)) k_ ∧ some k_ ≠ (u8 : Value).ownBlock) (Kd.R_apart' (HO345.out) (Kd.S_typed HO_8.out) (by decide)) (fun k_ hk => ⟨trivial, hk.2⟩))).1 k_ hk_.symm) ?aF ?aO ?aB ?aS ?aL ?_; (case aP => exact Kd.M_row (Kd.R_mono (Kd.R_tight rfl (Kd.R_mono (ok' := fun k_ => ((fun _ => True)) k_ ∧ some k_ ≠ (u8 : Value).ownBlock) (Kd.R_apart' (HO345.out) (Kd.S_typed HO_8.out) (by decide)) (fun k_ hk => ⟨trivial, hk.2⟩))) (fun _ h_ => h_))); (case aB => exact (by repeat ((with_reducible (exact HB.out))))); (case aF => exact (fun _ _ => trivial)); (case aO => exact (by (with_reducible repeat (fail)); exact Kd.S_mono HO_8.out (fun k_ hk => ⟨trivial, fun e_ => hk.2 e_⟩))); (case aS => exact (Qq (by repeat ((with_reducible (exact HB.out)))))); (case aL => have := LMc17.out; omega); intro v347 w19 ho hb hg hat; rw [← Ny346.out] at ho; have n0_ := Qa.mk (hb); have n1_ := Qa.mk (ho); clear HB; clear HO_8; clear HO345; have HB := n0_; have HO348 := n1_; clear n0_ n1_; clear ho hb hg hat))
      (go_roundg k2)
      case measure => have := HJ3.out; have := HK2.out; omega
      case rel => exact ⟨(y346), (wrap64 (x36_2 + 1)), (by rfl), H', ⟨by have := HJ3.out; have := HK2.out; omega⟩, ⟨by (with_reducible repeat (fail)); exact HO348.out⟩, ⟨by repeat ((with_reducible (exact HB.out)))⟩⟩
     rw [if_neg c13] at H
     have c13b0 : (x36_2 == a1) = false := beq_eq_false_iff_ne.mpr c13
     have c13b1 : (x36_2 != a1) = true := bne_iff_ne.mpr c13
     by_cases c21 : x36_2 = a2
     ·rw [if_pos c21] at H
      have c21b0 : (x36_2 == a2) = true := beq_iff_eq.mpr c21
      have c21b1 : (x36_2 != a2) = false := bne_eq_false_iff_eq.mpr c21
      clear c21
      by_cases c22 : 0 ≤ a1
      rotate_left
      ·rw [if_neg c22] at H
       exact absurd H (by simp)
      rw [if_pos c22] at H
      have c22b0 : decide (0 ≤ a1) = true := decide_eq_true c22
      clear c22
      by_cases c23 : a1 < (l0.length : Int)
      rotate_left
      ·rw [if_neg c23] at H
       exact absurd H (by simp)
      rw [if_pos c23] at H
      have c23b0 : decide (a1 < (l0.length : Int)) = true := decide_eq_true c23
      clear c23
      replace H := Option.bind_eq_some_iff.mp H
      obtain ⟨t350, A240, H⟩ := H
      replace H : (if x8_2.length < 5864062014805 then (Qj.l0 k2 l0 a1 a2 (x8_2 ++ [t350]) (l0.length : Int) (wrap64 (x36_2 + 1))) else (none)) = some (r1, r2) := H
      have A24 := Qa.mk A240
      clear A240
      by_cases c25 : x8_2.length < 5864062014805
      rotate_left
      ·rw [if_neg c25] at H
       exact absurd H (by simp)
      rw [if_pos c25] at H
      have LMc25 := Qa.mk c25
      clear c25
      obtain ⟨y353, hy353⟩ : ∃ y_ : List (List Int), y_ = (x8_2 ++ [t350]) := ⟨_, rfl⟩
      replace H : (Qj.l0 k2 l0 a1 a2 y353 (l0.length : Int) (wrap64 (x36_2 + 1))) = some (r1, r2) := by (rw [hy353]; with_reducible exact H)
      have Ny353 := Qa.mk hy353
      clear hy353
      have H' := Qa.mk H
      clear H
      have p349 : 0 ≤ (a1 : Int) := of_decide_eq_true (by (with_reducible assumption))
      have q349 : a1 < (l0.length : Int) := of_decide_eq_true (by (with_reducible assumption))
      obtain ⟨ad349, A349_0, c349_0, e349, hx349_0, hl349_0, hi349_0⟩ := at_L2 HR0.out a1 p349 q349
      cases e349
      replace hx349_0 := (HB.out.cell (World.block_lt_of_cell? w _ hx349_0)).trans hx349_0
      have HR349_0 := Qa.mk hi349_0
      have HC349_0 := Qa.mk hl349_0
      clear hi349_0 hl349_0
      replace p349 := eq_true p349
      replace q349 := eq_true q349
      go_wp2_with (first | ((with_reducible refine Qg (f := 51) rfl ?_); refine goesL_ (some 67) rfl rfl Tryz.func51 (by kernel_rfl) rfl #[.slice A349_0 (rd_L2 l0 a1).length c349_0] rfl (by (try simp only [List.map_toArray, List.map_cons, List.map_nil]); rfl) ?_; (with_reducible refine (Qi2.calls _ _ (rd_L2 l0 a1) t350 _ ?side1 ?side2 A24.out).mono ?_); (case side1 => repeat ((exact (Kd.C_below HR349_0.out HB.out)))); (case side2 => exact HC349_0.out); rintro e w26 ⟨v351, rfl, ho0, hb⟩; refine ⟨_, rfl, ?_⟩; have n0_ := Qa.mk (Kd.S_elder' (by (with_reducible repeat (fail)); exact HO_8.out) (Kd.R_base ho0) hb); have n1_ := Qa.mk (Kd.R_lower ho0 (Qq (by repeat ((with_reducible (exact HB.out)))))); have n2_ := Qa.mk (Qh (by repeat ((with_reducible (exact HB.out)))) hb); clear HO_8; clear HB; have HO_8 := n0_; have HO352 := n1_; have HB := n2_; clear n0_ n1_ n2_; (try clear hb); (try clear hb2); (try clear hk); (try clear hi); (try clear ho0); obtain ⟨Ao28, co28, eo28⟩ := Kd.R_slice HO352.out; subst eo28) | ((with_reducible refine gate_builtin (b := .append) (xs := #[.tmp 62, .tmp 68]) rfl ?_); (try (refine gate_guard (by rfl) ?_; dsimp only)); at_builtin; refine Kd.S_append (Kd.slice 3 (Kd.int .i64)) (w0 := w) w.heap.size rfl (.tmp 62) (.tmp 68) 24 32 (.slice none 0 0) 24 rfl Tryz.underlying24 info32 rfl (by decide) (by omega) u8 x8_2 t350 [.slice Ao28 t350.length co28] (fun _ => True) (fun k_ => some k_ = (.slice Ao28 t350.length co28 : Value).ownBlock) rfl rfl ?aP (fun k_ hk_ => ((Kd.R_mono (ok' := fun k_ => ((fun _ => True)) k_ ∧ some k_ ≠ (u8 : Value).ownBlock) (Kd.R_apart' (HO352.out) (Kd.S_typed HO_8.out) (by decide)) (fun k_ hk => ⟨trivial, hk.2⟩))).1 k_ hk_.symm) ?aF ?aO ?aB ?aS ?aL ?_; (case aP => exact Kd.M_row (Kd.R_mono (Kd.R_tight rfl (Kd.R_mono (ok' := fun k_ => ((fun _ => True)) k_ ∧ some k_ ≠ (u8 : Value).ownBlock) (Kd.R_apart' (HO352.out) (Kd.S_typed HO_8.out) (by decide)) (fun k_ hk => ⟨trivial, hk.2⟩))) (fun _ h_ => h_))); (case aB => exact (by repeat ((with_reducible (exact HB.out))))); (case aF => exact (fun _ _ => trivial)); (case aO => exact (by (with_reducible repeat (fail)); exact Kd.S_mono HO_8.out (fun k_ hk => ⟨trivial, fun e_ => hk.2 e_⟩))); (case aS => exact (Qq (by repeat ((with_reducible (exact HB.out)))))); (case aL => have := LMc25.out; omega); intro v354 w27 ho hb hg hat; rw [← Ny353.out] at ho; have n0_ := Qa.mk (hb); have n1_ := Qa.mk (ho); clear HB; clear HO_8; clear HO352; have HB := n0_; have HO355 := n1_; clear n0_ n1_; clear ho hb hg hat))
      (go_roundg k2)
      case measure => have := HJ3.out; have := HK2.out; omega
      case rel => exact ⟨(y353), (wrap64 (x36_2 + 1)), (by rfl), H', ⟨by have := HJ3.out; have := HK2.out; omega⟩, ⟨by (with_reducible repeat (fail)); exact HO355.out⟩, ⟨by repeat ((with_reducible (exact HB.out)))⟩⟩
     rw [if_neg c21] at H
     have c21b0 : (x36_2 == a2) = false := beq_eq_false_iff_ne.mpr c21
     have c21b1 : (x36_2 != a2) = true := bne_iff_ne.mpr c21
     by_cases c29 : 0 ≤ x36_2
     rotate_left
     ·rw [if_neg c29] at H
      exact absurd H (by simp)
     rw [if_pos c29] at H
     have c29b0 : decide (0 ≤ x36_2) = true := decide_eq_true c29
     clear c29
     by_cases c30 : x36_2 < (l0.length : Int)
     rotate_left
     ·rw [if_neg c30] at H
      exact absurd H (by simp)
     rw [if_pos c30] at H
     have c30b0 : decide (x36_2 < (l0.length : Int)) = true := decide_eq_true c30
     clear c30
     replace H := Option.bind_eq_some_iff.mp H
     obtain ⟨t357, A310, H⟩ := H
     replace H : (if x8_2.length < 5864062014805 then (Qj.l0 k2 l0 a1 a2 (x8_2 ++ [t357]) (l0.length : Int) (wrap64 (x36_2 + 1))) else (none)) = some (r1, r2) := H
     have A31 := Qa.mk A310
     clear A310
     by_cases c32 : x8_2.length < 5864062014805
     rotate_left
     ·rw [if_neg c32] at H
      exact absurd H (by simp)
     rw [if_pos c32] at H
     have LMc32 := Qa.mk c32
     clear c32
     obtain ⟨y360, hy360⟩ : ∃ y_ : List (List Int), y_ = (x8_2 ++ [t357]) := ⟨_, rfl⟩
     replace H : (Qj.l0 k2 l0 a1 a2 y360 (l0.length : Int) (wrap64 (x36_2 + 1))) = some (r1, r2) := by (rw [hy360]; with_reducible exact H)
     have Ny360 := Qa.mk hy360
     clear hy360
     have H' := Qa.mk H
     clear H
     have p356 : 0 ≤ (x36_2 : Int) := of_decide_eq_true (by (with_reducible assumption))
     have q356 : x36_2 < (l0.length : Int) := of_decide_eq_true (by (with_reducible assumption))
     obtain ⟨ad356, A356_0, c356_0, e356, hx356_0, hl356_0, hi356_0⟩ := at_L2 HR0.out x36_2 p356 q356
     cases e356
     replace hx356_0 := (HB.out.cell (World.block_lt_of_cell? w _ hx356_0)).trans hx356_0
     have HR356_0 := Qa.mk hi356_0
     have HC356_0 := Qa.mk hl356_0
     clear hi356_0 hl356_0
     replace p356 := eq_true p356
     replace q356 := eq_true q356
     go_wp2_with (first | ((with_reducible refine Qg (f := 51) rfl ?_); refine goesL_ (some 45) rfl rfl Tryz.func51 (by kernel_rfl) rfl #[.slice A356_0 (rd_L2 l0 x36_2).length c356_0] rfl (by (try simp only [List.map_toArray, List.map_cons, List.map_nil]); rfl) ?_; (with_reducible refine (Qi2.calls _ _ (rd_L2 l0 x36_2) t357 _ ?side1 ?side2 A31.out).mono ?_); (case side1 => repeat ((exact (Kd.C_below HR356_0.out HB.out)))); (case side2 => exact HC356_0.out); rintro e w33 ⟨v358, rfl, ho0, hb⟩; refine ⟨_, rfl, ?_⟩; have n0_ := Qa.mk (Kd.S_elder' (by (with_reducible repeat (fail)); exact HO_8.out) (Kd.R_base ho0) hb); have n1_ := Qa.mk (Kd.R_lower ho0 (Qq (by repeat ((with_reducible (exact HB.out)))))); have n2_ := Qa.mk (Qh (by repeat ((with_reducible (exact HB.out)))) hb); clear HO_8; clear HB; have HO_8 := n0_; have HO359 := n1_; have HB := n2_; clear n0_ n1_ n2_; (try clear hb); (try clear hb2); (try clear hk); (try clear hi); (try clear ho0); obtain ⟨Ao35, co35, eo35⟩ := Kd.R_slice HO359.out; subst eo35) | ((with_reducible refine gate_builtin (b := .append) (xs := #[.tmp 40, .tmp 46]) rfl ?_); (try (refine gate_guard (by rfl) ?_; dsimp only)); at_builtin; refine Kd.S_append (Kd.slice 3 (Kd.int .i64)) (w0 := w) w.heap.size rfl (.tmp 40) (.tmp 46) 24 32 (.slice none 0 0) 24 rfl Tryz.underlying24 info32 rfl (by decide) (by omega) u8 x8_2 t357 [.slice Ao35 t357.length co35] (fun _ => True) (fun k_ => some k_ = (.slice Ao35 t357.length co35 : Value).ownBlock) rfl rfl ?aP (fun k_ hk_ => ((Kd.R_mono (ok' := fun k_ => ((fun _ => True)) k_ ∧ some k_ ≠ (u8 : Value).ownBlock) (Kd.R_apart' (HO359.out) (Kd.S_typed HO_8.out) (by decide)) (fun k_ hk => ⟨trivial, hk.2⟩))).1 k_ hk_.symm) ?aF ?aO ?aB ?aS ?aL ?_; (case aP => exact Kd.M_row (Kd.R_mono (Kd.R_tight rfl (Kd.R_mono (ok' := fun k_ => ((fun _ => True)) k_ ∧ some k_ ≠ (u8 : Value).ownBlock) (Kd.R_apart' (HO359.out) (Kd.S_typed HO_8.out) (by decide)) (fun k_ hk => ⟨trivial, hk.2⟩))) (fun _ h_ => h_))); (case aB => exact (by repeat ((with_reducible (exact HB.out))))); (case aF => exact (fun _ _ => trivial)); (case aO => exact (by (with_reducible repeat (fail)); exact Kd.S_mono HO_8.out (fun k_ hk => ⟨trivial, fun e_ => hk.2 e_⟩))); (case aS => exact (Qq (by repeat ((with_reducible (exact HB.out)))))); (case aL => have := LMc32.out; omega); intro v361 w34 ho hb hg hat; rw [← Ny360.out] at ho; have n0_ := Qa.mk (hb); have n1_ := Qa.mk (ho); clear HB; clear HO_8; clear HO359; have HB := n0_; have HO362 := n1_; clear n0_ n1_; clear ho hb hg hat))
     (go_roundg k2)
     case measure => have := HJ3.out; have := HK2.out; omega
     case rel => exact ⟨(y360), (wrap64 (x36_2 + 1)), (by rfl), H', ⟨by have := HJ3.out; have := HK2.out; omega⟩, ⟨by (with_reducible repeat (fail)); exact HO362.out⟩, ⟨by repeat ((with_reducible (exact HB.out)))⟩⟩
-- given: function 19 (Qs1)
end Go.Proofs.YtohhlkehglahhaaGreatDoor.A
