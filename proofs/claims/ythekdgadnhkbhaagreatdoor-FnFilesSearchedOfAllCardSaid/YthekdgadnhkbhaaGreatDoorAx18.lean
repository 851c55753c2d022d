-- WRITTEN BY printx.py, a program of this session over the kit's print: not typed by hand. Lean checks it.
import Derived.Test.YthekdgadnhkbhaaGreatDoorAx0
import Derived.Test.YthekdgadnhkbhaaGreatDoorAx4
import Derived.Test.YthekdgadnhkbhaaGreatDoorAx15
import Derived.Test.YthekdgadnhkbhaaGreatDoorAx17
import Derived.Test.YthekdgadnhkbhaaGreatDoorGiv
namespace Go.Proofs.YthekdgadnhkbhaaGreatDoor.A
open Go.RowKit Go.Proofs.YthekdgadnhkbhaaGreatDoorW.PrintWords Go.Proofs.YthekdgadnhkbhaaGreatDoorW.PrintLast Go.Proofs.YthekdgadnhkbhaaGreatDoorW.PrintMore Go.Proofs.YthekdgadnhkbhaaGreatDoor.X
attribute [local go_sem] max2_int min2_int max_two min_two max_three min_three max_four min_four   -- for this text's walks alone
set_option linter.unusedVariables false
set_option linter.unusedSimpArgs false

/-! ### spec_ParseFiles: function 22 -/
mutual
def spec_ParseFiles.l0 : Nat → ByteArray → List (List Int) → List ByteArray → Int → Int → Option ((List (List Int)) × Bool)
  | 0, _, _, _, _, _ => none
  | k + 1, x0, x4, x14, x15, x16 => if x16 < x15 then (if 0 ≤ x16 then (if x16 < (x14.length : Int) then ((spec_l1Split.f k (rdOf ByteArray.empty x14 x16) 44).bind fun t408 => (spec_ParseFiles.l1 k x0 x4 ([] : List Int) x14 x15 x16 t408 (t408.length : Int) 0)) else (none)) else (none)) else ((spec_fiGood.f k x4).bind fun t419 => (if t419 = true then ((spec_fiText.f k x4).bind fun t420 => (if t420.toList = x0.toList then (some (x4, true)) else (some (([] : List (List Int)), false)))) else (some (([] : List (List Int)), false))))
def spec_ParseFiles.l1 : Nat → ByteArray → List (List Int) → List Int → List ByteArray → Int → Int → List ByteArray → Int → Int → Option ((List (List Int)) × Bool)
  | 0, _, _, _, _, _, _, _, _, _ => none
  | k + 1, x0, x4, x7, x14, x15, x16, x21, x22, x23 => if x23 < x22 then (if 0 ≤ x23 then (if x23 < (x21.length : Int) then ((spec_l1Read.f k (rdOf ByteArray.empty x21 x23)).bind fun t412 => (if x7.length < 17592186044416 then (spec_ParseFiles.l1 k x0 x4 (x7 ++ [t412]) x14 x15 x16 x21 x22 (wrap64 (x23 + 1))) else (none))) else (none)) else (none)) else (if x4.length < 5864062014805 then (spec_ParseFiles.l0 k x0 (x4 ++ [x7]) x14 x15 (wrap64 (x16 + 1))) else (none))
end
def spec_ParseFiles.f (k : Nat) (a0 : ByteArray) : Option ((List (List Int)) × Bool) := if (a0.size : Int) > 300 then (some (([] : List (List Int)), false)) else ((spec_l1Split.f k a0 47).bind fun t404 => (spec_ParseFiles.l0 k a0 ([] : List (List Int)) t404 (t404.length : Int) 0))
set_option maxHeartbeats 8000000 in
set_option maxRecDepth 100000 in
theorem spec_ParseFiles.calls (k : Nat) (a0 : ByteArray) (r1 : List (List Int)) (r2 : Bool) (w : World) (h : spec_ParseFiles.f k a0 = some (r1, r2)) :
    Calls Tryz.prog 22 #[.string a0] w fun e w' => ∃ v0_ : Value, e = .returned (.tuple #[v0_, .bool r2]) ∧ Kd.S (Kd.slice 3 (Kd.int .i64)) 28 w' w.heap.size (fun _ => True) v0_ r1 ∧ Below w.heap.size w w' := by
  have HB := Aside0.mk (Below.refl w.heap.size w)
  have H : (if (a0.size : Int) > 300 then (some (([] : List (List Int)), false)) else ((spec_l1Split.f k a0 47).bind fun t404 => (spec_ParseFiles.l0 k a0 ([] : List (List Int)) t404 (t404.length : Int) 0))) = some (r1, r2) := h
  clear h
  by_cases c2 : (a0.size : Int) > 300
  · rw [if_pos c2] at H
    have c2b0 : decide (300 < (a0.size : Int)) = true := decide_eq_true c2
    have c2b1 : decide (300 < a0.size) = true := decide_eq_true (by omega)
    clear c2
    simp only [Option.some.injEq, Prod.mk.injEq] at H
    obtain ⟨rfl, rfl⟩ := H
    go_enter Tryz.func22, Tryz.ntmps22
    go_wp2
    go_ret2
    exact ⟨_, by rfl, by (exact Kd.S_nil _ _ _ _ _), by repeat ((with_reducible (exact HB.out)))⟩
  rw [if_neg c2] at H
  have c2b0 : decide (300 < (a0.size : Int)) = false := decide_eq_false c2
  have c2b1 : decide (300 < a0.size) = false := decide_eq_false (by omega)
  clear c2
  replace H := Option.bind_eq_some_iff.mp H
  obtain ⟨t404, A30, H⟩ := H
  replace H : (spec_ParseFiles.l0 k a0 ([] : List (List Int)) t404 (t404.length : Int) 0) = some (r1, r2) := H
  have A3 := Aside0.mk A30
  clear A30
  have H' := Aside0.mk H
  clear H
  go_enter Tryz.func22, Tryz.ntmps22
  go_wp2_with (((with_reducible refine gate_callee (f := 48) rfl ?_); refine goesL_ (some 14) rfl rfl Tryz.func48 (by kernel_rfl) rfl #[.string a0, .int .u8 47] rfl (by (try simp only [List.map_toArray, List.map_cons, List.map_nil]); rfl) ?_; (with_reducible refine (spec_l1Split.calls k a0 47 t404 _ A3.out).mono ?_); rintro e w4 ⟨v405, rfl, ho0, hb⟩; refine ⟨_, rfl, ?_⟩; have n0_ := Aside0.mk (Kd.R_lower ho0 (below_size (by repeat ((with_reducible (exact HB.out)))))); have n1_ := Aside0.mk (below_step (by repeat ((with_reducible (exact HB.out)))) hb); clear HB; have HO406 := n0_; have HB := n1_; clear n0_ n1_; (try clear hb); (try clear hb2); (try clear hk); (try clear hi); (try clear ho0); obtain ⟨Ao5, co5, eo5⟩ := Kd.R_slice HO406.out; subst eo5))
  go_loopg [4, 16] k (fun kq v4 v16 w' => ∃ (x4_1 : List (List Int)) (x16_1 : Int), v16 = .int .i64 x16_1 ∧ Aside0 (spec_ParseFiles.l0 kq a0 x4_1 t404 (t404.length : Int) x16_1 = some (r1, r2)) ∧ Aside0 (kq ≤ k) ∧ Aside0 (Kd.S (Kd.slice 3 (Kd.int .i64)) 28 w' w.heap.size (fun _ => True) v4 x4_1) ∧ Aside0 (Kd.R Kd.string 9 w' w.heap.size (fun _ => True) (.slice Ao5 t404.length co5) t404) ∧ Aside0 (Below w.heap.size w w'))
  case atStart => exact ⟨(([] : List (List Int))), (0), (by rfl), H', ⟨Nat.le_refl _⟩, ⟨by (exact Kd.S_nil _ _ _ _ _)⟩, ⟨by (with_reducible repeat (fail)); exact HO406.out⟩, ⟨by repeat ((with_reducible (exact HB.out)))⟩⟩
  case round =>
    clear H' c2b0 c2b1
    obtain ⟨x4_1, x16_1, rfl, HA, HK1, HO_4, HO_14, HB⟩ := hrel
    cases gk with
    | zero => exact absurd HA.out (by simp [spec_ParseFiles.l0])
    | succ k1 =>
      have H := HA.out
      clear HA
      simp only [spec_ParseFiles.l0] at H
      by_cases c6 : x16_1 < (t404.length : Int)
      rotate_left
      · rw [if_neg c6] at H
        have c6b0 : decide (x16_1 < (t404.length : Int)) = false := decide_eq_false c6
        clear c6
        replace H := Option.bind_eq_some_iff.mp H
        obtain ⟨t419, A210, H⟩ := H
        replace H : (if t419 = true then ((spec_fiText.f k1 x4_1).bind fun t420 => (if t420.toList = a0.toList then (some (x4_1, true)) else (some (([] : List (List Int)), false)))) else (some (([] : List (List Int)), false))) = some (r1, r2) := H
        have A21 := Aside0.mk A210
        clear A210
        by_cases c22 : t419 = true
        rotate_left
        · replace c22 := Bool.eq_false_iff.mpr c22
          subst c22
          have H1 : (some (([] : List (List Int)), false)) = some (r1, r2) := by rw [if_neg (show ¬ (false = true) by decide)] at H; exact H
          clear H
          have H := H1
          clear H1
          simp only [Option.some.injEq, Prod.mk.injEq] at H
          obtain ⟨rfl, rfl⟩ := H
          obtain ⟨Ao29, co29, eo29⟩ := Kd.S_slice HO_4.out
          subst eo29
          go_wp2_with (((with_reducible refine gate_callee (f := 28) rfl ?_); refine goesL_ (some 39) rfl rfl Tryz.func28 (by kernel_rfl) rfl #[.slice Ao29 x4_1.length co29] rfl (by (try simp only [List.map_toArray, List.map_cons, List.map_nil]); rfl) ?_; (with_reducible refine (spec_fiGood.calls k1 _ _ x4_1 false _ ?side1 ?side2 A21.out).mono ?_); (case side1 => repeat ((exact (Kd.S_reads' HO_4.out).2.2))); (case side2 => exact (Kd.S_reads' HO_4.out).2.1); rintro e w' ⟨rfl, ⟨nd, rfl⟩⟩; refine ⟨_, rfl, ?_⟩))
          go_ret2
          exact ⟨_, by rfl, by (exact Kd.S_nil _ _ _ _ _), by repeat ((with_reducible first | exact HB.out | apply pw_below_drewN))⟩
        subst c22
        have H1 : ((spec_fiText.f k1 x4_1).bind fun t420 => (if t420.toList = a0.toList then (some (x4_1, true)) else (some (([] : List (List Int)), false)))) = some (r1, r2) := by rw [if_pos rfl] at H; exact H
        clear H
        have H := H1
        clear H1
        replace H := Option.bind_eq_some_iff.mp H
        obtain ⟨t420, A230, H⟩ := H
        replace H : (if t420.toList = a0.toList then (some (x4_1, true)) else (some (([] : List (List Int)), false))) = some (r1, r2) := H
        have A23 := Aside0.mk A230
        clear A230
        by_cases c24 : t420.toList = a0.toList
        rotate_left
        · rw [if_neg c24] at H
          have c24b0 : (t420.toList == a0.toList) = false := beq_eq_false_iff_ne.mpr c24
          have c24b1 : (t420.toList != a0.toList) = true := bne_iff_ne.mpr c24
          simp only [Option.some.injEq, Prod.mk.injEq] at H
          obtain ⟨rfl, rfl⟩ := H
          obtain ⟨Ao27, co27, eo27⟩ := Kd.S_slice HO_4.out
          subst eo27
          go_wp2_with (first | ((with_reducible refine gate_callee (f := 28) rfl ?_); refine goesL_ (some 39) rfl rfl Tryz.func28 (by kernel_rfl) rfl #[.slice Ao27 x4_1.length co27] rfl (by (try simp only [List.map_toArray, List.map_cons, List.map_nil]); rfl) ?_; (with_reducible refine (spec_fiGood.calls k1 _ _ x4_1 true _ ?side1 ?side2 A21.out).mono ?_); (case side1 => repeat ((exact (Kd.S_reads' HO_4.out).2.2))); (case side2 => exact (Kd.S_reads' HO_4.out).2.1); rintro e w' ⟨rfl, ⟨nd, rfl⟩⟩; refine ⟨_, rfl, ?_⟩) | (go_at_call 45; (with_reducible refine (spec_fiText.calls k1 _ _ x4_1 t420 _ ?side1 ?side2 A23.out).mono ?_); (case side1 => repeat ((exact (Kd.S_reads' HO_4.out).2.2))); (case side2 => exact (Kd.S_reads' HO_4.out).2.1); rintro e w28 ⟨rfl, hb⟩; have n0_ := Aside0.mk (Kd.S_below (by (with_reducible repeat ((apply Kd.S_drewN))); exact HO_4.out) hb); have n1_ := Aside0.mk (Kd.R_below (by (with_reducible repeat ((apply Kd.R_drewN))); exact HO_14.out) hb); have n2_ := Aside0.mk (below_step (by repeat ((with_reducible first | exact HB.out | apply pw_below_drewN))) hb); clear HO_4; clear HO_14; clear HB; have HO_4 := n0_; have HO_14 := n1_; have HB := n2_; clear n0_ n1_ n2_; (try clear hb); (try clear hb2); (try clear hk); (try clear hi)))
          go_ret2
          exact ⟨_, by rfl, by (exact Kd.S_nil _ _ _ _ _), by repeat ((with_reducible (exact HB.out)))⟩
        rw [if_pos c24] at H
        have c24b0 : (t420.toList == a0.toList) = true := beq_iff_eq.mpr c24
        have c24b1 : (t420.toList != a0.toList) = false := bne_eq_false_iff_eq.mpr c24
        clear c24
        simp only [Option.some.injEq, Prod.mk.injEq] at H
        obtain ⟨rfl, rfl⟩ := H
        obtain ⟨Ao25, co25, eo25⟩ := Kd.S_slice HO_4.out
        subst eo25
        go_wp2_with (first | ((with_reducible refine gate_callee (f := 28) rfl ?_); refine goesL_ (some 39) rfl rfl Tryz.func28 (by kernel_rfl) rfl #[.slice Ao25 x4_1.length co25] rfl (by (try simp only [List.map_toArray, List.map_cons, List.map_nil]); rfl) ?_; (with_reducible refine (spec_fiGood.calls k1 _ _ x4_1 true _ ?side1 ?side2 A21.out).mono ?_); (case side1 => repeat ((exact (Kd.S_reads' HO_4.out).2.2))); (case side2 => exact (Kd.S_reads' HO_4.out).2.1); rintro e w' ⟨rfl, ⟨nd, rfl⟩⟩; refine ⟨_, rfl, ?_⟩) | (go_at_call 45; (with_reducible refine (spec_fiText.calls k1 _ _ x4_1 t420 _ ?side1 ?side2 A23.out).mono ?_); (case side1 => repeat ((exact (Kd.S_reads' HO_4.out).2.2))); (case side2 => exact (Kd.S_reads' HO_4.out).2.1); rintro e w26 ⟨rfl, hb⟩; have n0_ := Aside0.mk (Kd.S_below (by (with_reducible repeat ((apply Kd.S_drewN))); exact HO_4.out) hb); have n1_ := Aside0.mk (Kd.R_below (by (with_reducible repeat ((apply Kd.R_drewN))); exact HO_14.out) hb); have n2_ := Aside0.mk (below_step (by repeat ((with_reducible first | exact HB.out | apply pw_below_drewN))) hb); clear HO_4; clear HO_14; clear HB; have HO_4 := n0_; have HO_14 := n1_; have HB := n2_; clear n0_ n1_ n2_; (try clear hb); (try clear hb2); (try clear hk); (try clear hi)))
        go_ret2
        exact ⟨_, by rfl, by (with_reducible repeat (fail)); exact HO_4.out, by repeat ((with_reducible (exact HB.out)))⟩
      rw [if_pos c6] at H
      have c6b0 : decide (x16_1 < (t404.length : Int)) = true := decide_eq_true c6
      clear c6
      by_cases c7 : 0 ≤ x16_1
      rotate_left
      · rw [if_neg c7] at H
        exact absurd H (by simp)
      rw [if_pos c7] at H
      have c7b0 : decide (0 ≤ x16_1) = true := decide_eq_true c7
      clear c7
      by_cases c8 : x16_1 < (t404.length : Int)
      rotate_left
      · rw [if_neg c8] at H
        exact absurd H (by simp)
      rw [if_pos c8] at H
      have c8b0 : decide (x16_1 < (t404.length : Int)) = true := decide_eq_true c8
      clear c8
      replace H := Option.bind_eq_some_iff.mp H
      obtain ⟨t408, A90, H⟩ := H
      replace H : (spec_ParseFiles.l1 k1 a0 x4_1 ([] : List Int) t404 (t404.length : Int) x16_1 t408 (t408.length : Int) 0) = some (r1, r2) := H
      have A9 := Aside0.mk A90
      clear A90
      have H' := Aside0.mk H
      clear H
      have p407 : 0 ≤ (x16_1 : Int) := of_decide_eq_true (by (with_reducible assumption))
      have q407 : x16_1 < (t404.length : Int) := of_decide_eq_true (by (with_reducible assumption))
      obtain ⟨ad407, e407, hx407_0⟩ := Kd.at_string (Kd.R_reads' HO_14.out).2.2 x16_1 p407 q407
      cases e407
      replace p407 := eq_true p407
      replace q407 := eq_true q407
      go_wp2_with (((with_reducible refine gate_callee (f := 48) rfl ?_); refine goesL_ (some 21) rfl rfl Tryz.func48 (by kernel_rfl) rfl #[.string (rdOf ByteArray.empty t404 x16_1), .int .u8 44] rfl (by (try simp only [List.map_toArray, List.map_cons, List.map_nil]); rfl) ?_; (with_reducible refine (spec_l1Split.calls k1 (rdOf ByteArray.empty t404 x16_1) 44 t408 _ A9.out).mono ?_); rintro e w10 ⟨v409, rfl, ho0, hb⟩; refine ⟨_, rfl, ?_⟩; have n0_ := Aside0.mk (Kd.S_below (by (with_reducible repeat (fail)); exact HO_4.out) hb); have n1_ := Aside0.mk (Kd.R_elder' (by (with_reducible repeat (fail)); exact HO_14.out) (Kd.R_base ho0) hb); have n2_ := Aside0.mk (Kd.R_lower (Kd.R_new' ho0 (Kd.R_lt (by (with_reducible repeat (fail)); exact HO_14.out))) (below_size (by repeat ((with_reducible (exact HB.out)))))); have n3_ := Aside0.mk (below_step (by repeat ((with_reducible (exact HB.out)))) hb); clear HO_4; clear HO_14; clear HB; have HO_4 := n0_; have HO_14 := n1_; have HO410 := n2_; have HB := n3_; clear n0_ n1_ n2_ n3_; (try clear hb); (try clear hb2); (try clear hk); (try clear hi); (try clear ho0); obtain ⟨Ao11, co11, eo11⟩ := Kd.R_slice HO410.out; subst eo11))
      go_loopg [7, 23] k1 (fun kq v7 v23 w' => ∃ (x7_2 : List Int) (x23_2 : Int), v23 = .int .i64 x23_2 ∧ Aside0 (spec_ParseFiles.l1 kq a0 x4_1 x7_2 t404 (t404.length : Int) x16_1 t408 (t408.length : Int) x23_2 = some (r1, r2)) ∧ Aside0 (kq ≤ k1) ∧ Aside0 (Kd.S (Kd.slice 3 (Kd.int .i64)) 28 w' w.heap.size (fun k_ => some k_ ≠ (v7 : Value).ownBlock) u4 x4_1) ∧ Aside0 (Kd.R (Kd.int .i64) 3 w' w.heap.size (fun _ => True) v7 x7_2) ∧ Aside0 (Kd.R Kd.string 9 w' w.heap.size (fun k_ => some k_ ≠ ((.slice Ao11 t408.length co11) : Value).ownBlock) (.slice (some ad407) t404.length co5) t404) ∧ Aside0 (Kd.R Kd.string 9 w' w.heap.size (fun k_ => some k_ ≠ ((.slice (some ad407) t404.length co5) : Value).ownBlock) (.slice Ao11 t408.length co11) t408) ∧ Aside0 (Below w.heap.size w w'))
      case atStart => exact ⟨(([] : List Int)), (0), (by rfl), H', ⟨Nat.le_refl _⟩, ⟨by (with_reducible repeat (fail)); exact Kd.S_mono HO_4.out (fun _ hk => (by simp [Value.ownBlock]))⟩, ⟨by (exact Kd.R_nil _ _ _ _ _)⟩, ⟨by (with_reducible repeat (fail)); exact Kd.R_mono HO_14.out (fun _ hk => hk.2)⟩, ⟨by (with_reducible repeat (fail)); exact Kd.R_mono HO410.out (fun _ hk => hk.2)⟩, ⟨by repeat ((with_reducible (exact HB.out)))⟩⟩
      case round =>
        clear H' c6b0 c7b0 c8b0 hx407_0 p407 q407
        obtain ⟨x7_2, x23_2, rfl, HA, HK2, HO_4, HO_7, HO_14, HO_21, HB⟩ := hrel
        cases gk with
        | zero => exact absurd HA.out (by simp [spec_ParseFiles.l1])
        | succ k2 =>
          have H := HA.out
          clear HA
          simp only [spec_ParseFiles.l1] at H
          by_cases c12 : x23_2 < (t408.length : Int)
          rotate_left
          · rw [if_neg c12] at H
            have c12b0 : decide (x23_2 < (t408.length : Int)) = false := decide_eq_false c12
            clear c12
            by_cases c18 : x4_1.length < 5864062014805
            rotate_left
            · rw [if_neg c18] at H
              exact absurd H (by simp)
            rw [if_pos c18] at H
            have LMc18 := Aside0.mk c18
            clear c18
            obtain ⟨y416, hy416⟩ : ∃ y_ : List (List Int), y_ = (x4_1 ++ [x7_2]) := ⟨_, rfl⟩
            replace H : (spec_ParseFiles.l0 k2 a0 y416 t404 (t404.length : Int) (wrap64 (x16_1 + 1))) = some (r1, r2) := by (rw [hy416]; with_reducible exact H)
            have Ny416 := Aside0.mk hy416
            clear hy416
            have H' := Aside0.mk H
            clear H
            obtain ⟨Ao20, co20, eo20⟩ := Kd.R_slice HO_7.out
            subst eo20
            go_wp2_with (((with_reducible refine gate_builtin (b := .append) (xs := #[.tmp 33, .tmp 35]) rfl ?_); at_builtin; refine Kd.S_append (Kd.slice 3 (Kd.int .i64)) (w0 := w) w.heap.size rfl (.tmp 33) (.tmp 35) 22 28 (.slice none 0 0) 24 rfl Tryz.underlying22 info28 rfl (by decide) (by omega) u4 x4_1 x7_2 [.slice Ao20 x7_2.length co20] (fun _ => True) (fun k_ => some k_ = (.slice Ao20 x7_2.length co20 : Value).ownBlock) rfl rfl ?aP (fun k_ hk_ => ((Kd.R_mono (ok' := fun k_ => ((fun _ => True)) k_ ∧ some k_ ≠ (u4 : Value).ownBlock) (Kd.R_apart' (HO_7.out) (Kd.S_typed HO_4.out) (by decide)) (fun k_ hk => ⟨trivial, hk.2⟩))).1 k_ hk_.symm) ?aF ?aO ?aB ?aS ?aL ?_; (case aP => exact Kd.M_row (Kd.R_mono (Kd.R_tight rfl (Kd.R_mono (ok' := fun k_ => ((fun _ => True)) k_ ∧ some k_ ≠ (u4 : Value).ownBlock) (Kd.R_apart' (HO_7.out) (Kd.S_typed HO_4.out) (by decide)) (fun k_ hk => ⟨trivial, hk.2⟩))) (fun _ h_ => h_))); (case aB => exact (by repeat ((with_reducible (exact HB.out))))); (case aF => exact (fun _ _ => trivial)); (case aO => exact (by (with_reducible repeat (fail)); exact Kd.S_mono HO_4.out (fun k_ hk => ⟨trivial, fun e_ => hk e_⟩))); (case aS => exact (below_size (by repeat ((with_reducible (exact HB.out)))))); (case aL => have := LMc18.out; omega); intro v417 w19 ho hb hg hat; rw [← Ny416.out] at ho; have n0_ := Aside0.mk (Kd.R_over' (by (with_reducible repeat (fail)); exact HO_14.out) (Kd.S_typed (by (with_reducible repeat (fail)); exact HO_4.out)) (by decide) hg); have n1_ := Aside0.mk (Kd.R_over' (by (with_reducible repeat (fail)); exact HO_21.out) (Kd.S_typed (by (with_reducible repeat (fail)); exact HO_4.out)) (by decide) hg); have n2_ := Aside0.mk (hb); have n3_ := Aside0.mk (ho); clear HO_14; clear HO_21; clear HB; clear HO_4; clear HO_7; have HO_14 := n0_; have HO_21 := n1_; have HB := n2_; have HO418 := n3_; clear n0_ n1_ n2_ n3_; clear ho hb hg hat))
            (go_roundg k2)
            case measure => have := HK1.out; have := HK2.out; omega
            case rel => exact ⟨(y416), (wrap64 (x16_1 + 1)), (by rfl), H', ⟨by have := HK1.out; have := HK2.out; omega⟩, ⟨by (with_reducible repeat (fail)); exact HO418.out⟩, ⟨by (with_reducible repeat (fail)); exact Kd.R_mono HO_14.out (fun _ hk => trivial)⟩, ⟨by repeat ((with_reducible (exact HB.out)))⟩⟩
          rw [if_pos c12] at H
          have c12b0 : decide (x23_2 < (t408.length : Int)) = true := decide_eq_true c12
          clear c12
          by_cases c13 : 0 ≤ x23_2
          rotate_left
          · rw [if_neg c13] at H
            exact absurd H (by simp)
          rw [if_pos c13] at H
          have c13b0 : decide (0 ≤ x23_2) = true := decide_eq_true c13
          clear c13
          by_cases c14 : x23_2 < (t408.length : Int)
          rotate_left
          · rw [if_neg c14] at H
            exact absurd H (by simp)
          rw [if_pos c14] at H
          have c14b0 : decide (x23_2 < (t408.length : Int)) = true := decide_eq_true c14
          clear c14
          replace H := Option.bind_eq_some_iff.mp H
          obtain ⟨t412, A150, H⟩ := H
          replace H : (if x7_2.length < 17592186044416 then (spec_ParseFiles.l1 k2 a0 x4_1 (x7_2 ++ [t412]) t404 (t404.length : Int) x16_1 t408 (t408.length : Int) (wrap64 (x23_2 + 1))) else (none)) = some (r1, r2) := H
          have A15 := Aside0.mk A150
          clear A150
          by_cases c16 : x7_2.length < 17592186044416
          rotate_left
          · rw [if_neg c16] at H
            exact absurd H (by simp)
          rw [if_pos c16] at H
          have LMc16 := Aside0.mk c16
          clear c16
          obtain ⟨y413, hy413⟩ : ∃ y_ : List Int, y_ = (x7_2 ++ [t412]) := ⟨_, rfl⟩
          replace H : (spec_ParseFiles.l1 k2 a0 x4_1 y413 t404 (t404.length : Int) x16_1 t408 (t408.length : Int) (wrap64 (x23_2 + 1))) = some (r1, r2) := by (rw [hy413]; with_reducible exact H)
          have Ny413 := Aside0.mk hy413
          clear hy413
          have H' := Aside0.mk H
          clear H
          have p411 : 0 ≤ (x23_2 : Int) := of_decide_eq_true (by (with_reducible assumption))
          have q411 : x23_2 < (t408.length : Int) := of_decide_eq_true (by (with_reducible assumption))
          obtain ⟨ad411, e411, hx411_0⟩ := Kd.at_string (Kd.R_reads' HO_21.out).2.2 x23_2 p411 q411
          cases e411
          replace p411 := eq_true p411
          replace q411 := eq_true q411
          go_wp2_with (first | ((with_reducible refine gate_callee (f := 49) rfl ?_); refine goesL_ (some 29) rfl rfl Tryz.func49 (by kernel_rfl) rfl #[.string (rdOf ByteArray.empty t408 x23_2)] rfl (by (try simp only [List.map_toArray, List.map_cons, List.map_nil]); rfl) ?_; (with_reducible refine (spec_l1Read.calls k2 (rdOf ByteArray.empty t408 x23_2) t412 _ A15.out).mono ?_); rintro e w' ⟨rfl, ⟨nd, rfl⟩⟩; refine ⟨_, rfl, ?_⟩) | ((with_reducible refine gate_builtin (b := .append) (xs := #[.tmp 27, .tmp 30]) rfl ?_); at_builtin; refine Kd.R_append (Kd.int .i64) (w0 := w) w.heap.size rfl (.tmp 27) (.tmp 30) 28 3 (.int .i64 0) 8 rfl Tryz.underlying28 info3 rfl (by decide) (by omega) u7 x7_2 t412 [.int .i64 t412] (fun _ => True) (fun _ => False) rfl rfl ?aP (fun _ hk => hk.elim) ?aF ?aO ?aB ?aS ?aL ?_; (case aP => exact rfl); (case aB => exact (by repeat ((with_reducible first | exact HB.out | apply pw_below_drewN)))); (case aF => exact (fun _ _ => trivial)); (case aO => exact (by (with_reducible repeat ((apply Kd.R_drewN))); exact HO_7.out)); (case aS => exact (below_size (by repeat ((with_reducible first | exact HB.out | apply pw_below_drewN))))); (case aL => have := LMc16.out; omega); intro v414 w17 ho hb hg hat; rw [← Ny413.out] at ho; have n0_ := Aside0.mk (Kd.S_after (ok := (fun _ => True)) (by (with_reducible repeat ((apply Kd.S_drewN))); exact Kd.S_mono HO_4.out (fun _ hk => ⟨trivial, hk⟩)) hg hat); have n1_ := Aside0.mk (Kd.R_over' (by (with_reducible repeat ((apply Kd.R_drewN))); exact HO_14.out) (Kd.R_typed (by (with_reducible repeat ((apply Kd.R_drewN))); exact HO_7.out)) (by decide) hg); have n2_ := Aside0.mk (Kd.R_over' (by (with_reducible repeat ((apply Kd.R_drewN))); exact HO_21.out) (Kd.R_typed (by (with_reducible repeat ((apply Kd.R_drewN))); exact HO_7.out)) (by decide) hg); have n3_ := Aside0.mk (hb); have n4_ := Aside0.mk (ho); clear HO_4; clear HO_14; clear HO_21; clear HB; clear HO_7; have HO_4 := n0_; have HO_14 := n1_; have HO_21 := n2_; have HB := n3_; have HO415 := n4_; clear n0_ n1_ n2_ n3_ n4_; clear ho hb hg hat))
          (go_roundg k2)
          case measure => have := HK1.out; have := HK2.out; omega
          case rel => exact ⟨(y413), (wrap64 (x23_2 + 1)), (by rfl), H', ⟨by have := HK1.out; have := HK2.out; omega⟩, ⟨by (with_reducible repeat (fail)); exact Kd.S_mono HO_4.out (fun _ hk => hk.2)⟩, ⟨by (with_reducible repeat (fail)); exact HO415.out⟩, ⟨by (with_reducible repeat (fail)); exact HO_14.out⟩, ⟨by (with_reducible repeat (fail)); exact HO_21.out⟩, ⟨by repeat ((with_reducible (exact HB.out)))⟩⟩

/-! ### impl_AreFiles: function 23 -/
def impl_AreFiles.f (l0 : List (List Int)) : Option (Bool) := (impl_areFiles.f l0).bind fun t421 => (some t421)
set_option maxHeartbeats 8000000 in
set_option maxRecDepth 100000 in
theorem impl_AreFiles.calls (A0 : Option Addr) (c0 : Nat) (l0 : List (List Int)) (r : Bool) (w : World) (hr0 : Kd.C (Kd.slice 3 (Kd.int .i64)) w A0 l0.length l0) (hc0 : l0.length ≤ c0) (h : impl_AreFiles.f l0 = some r) :
    Calls Tryz.prog 23 #[.slice A0 l0.length c0] w fun e w' => e = .returned (.bool r) ∧ Below w.heap.size w w' := by
  have HR0 := Aside0.mk hr0
  have HC0 := Aside0.mk hc0
  clear hr0 hc0
  have HB := Aside0.mk (Below.refl w.heap.size w)
  have H : ((impl_areFiles.f l0).bind fun t421 => (some t421)) = some r := h
  clear h
  replace H := Option.bind_eq_some_iff.mp H
  obtain ⟨t421, A20, H⟩ := H
  replace H : (some t421) = some r := H
  have A2 := Aside0.mk A20
  clear A20
  obtain rfl := Option.some.inj H
  go_enter Tryz.func23, Tryz.ntmps23
  go_wp2_with (((with_reducible refine gate_callee (f := 24) rfl ?_); refine goesL_ (some 4) rfl rfl Tryz.func24 (by kernel_rfl) rfl #[.slice A0 l0.length c0] rfl (by (try simp only [List.map_toArray, List.map_cons, List.map_nil]); rfl) ?_; (with_reducible refine (impl_areFiles.calls _ _ l0 t421 _ ?side1 ?side2 A2.out).mono ?_); (case side1 => repeat ((exact HR0.out))); (case side2 => exact HC0.out); rintro e w3 ⟨rfl, hb⟩; refine ⟨_, rfl, ?_⟩; have n0_ := Aside0.mk (below_step (by repeat ((with_reducible (exact HB.out)))) hb); clear HB; have HB := n0_; clear n0_; (try clear hb); (try clear hb2); (try clear hk); (try clear hi)))
  go_ret
  exact ⟨by rfl, by repeat ((with_reducible (exact HB.out)))⟩

end Go.Proofs.YthekdgadnhkbhaaGreatDoor.A
