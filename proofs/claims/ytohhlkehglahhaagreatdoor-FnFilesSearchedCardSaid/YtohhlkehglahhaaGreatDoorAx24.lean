-- Printed: Lean checks it.
import Derived.Test.YtohhlkehglahhaaGreatDoorAx0
import Derived.Test.YtohhlkehglahhaaGreatDoorAx3
import Derived.Test.YtohhlkehglahhaaGreatDoorAx20
import Derived.Test.YtohhlkehglahhaaGreatDoorAx23
import Derived.Test.YtohhlkehglahhaaGreatDoorGiv
namespace Go.Proofs.YtohhlkehglahhaaGreatDoor.A
open Go.RowKit Go.Proofs.YtohhlkehglahhaaGreatDoorW.PrintWords Go.Proofs.YtohhlkehglahhaaGreatDoorW.PrintLast Go.Proofs.YtohhlkehglahhaaGreatDoorW.PrintMore Go.Proofs.YtohhlkehglahhaaGreatDoor.X
attribute [local go_sem] max2_int min2_int max_two min_two max_three min_three max_four min_four
set_option linter.unusedVariables false
set_option linter.unusedSimpArgs false
mutual
def Qd1.l0 : Nat → ByteArray → List (List Int) → List ByteArray → Int → Int → Option ((List (List Int)) × Bool)
 | 0, _, _, _, _, _ => none
 | k + 1, x0, x4, x14, x15, x16 => if x16 < x15 then (if 0 ≤ x16 then (if x16 < (x14.length : Int) then ((Qy1.f k (rdOf ByteArray.empty x14 x16) 44).bind fun t483 => (Qd1.l1 k x0 x4 ([] : List Int) x14 x15 x16 t483 (t483.length : Int) 0)) else (none)) else (none)) else ((Qr.f k x4).bind fun t494 => (if t494 = true then ((Qy.f k x4).bind fun t495 => (if t495.toList = x0.toList then (some (x4, true)) else (some (([] : List (List Int)), false)))) else (some (([] : List (List Int)), false))))
def Qd1.l1 : Nat → ByteArray → List (List Int) → List Int → List ByteArray → Int → Int → List ByteArray → Int → Int → Option ((List (List Int)) × Bool)
 | 0, _, _, _, _, _, _, _, _, _ => none
 | k + 1, x0, x4, x7, x14, x15, x16, x21, x22, x23 => if x23 < x22 then (if 0 ≤ x23 then (if x23 < (x21.length : Int) then ((Qk1.f k (rdOf ByteArray.empty x21 x23)).bind fun t487 => (if x7.length < 17592186044416 then (Qd1.l1 k x0 x4 (x7 ++ [t487]) x14 x15 x16 x21 x22 (wrap64 (x23 + 1))) else (none))) else (none)) else (none)) else (if x4.length < 5864062014805 then (Qd1.l0 k x0 (x4 ++ [x7]) x14 x15 (wrap64 (x16 + 1))) else (none))
end
def Qd1.f (k : Nat) (a0 : ByteArray) : Option ((List (List Int)) × Bool) := if (a0.size : Int) > 300 then (some (([] : List (List Int)), false)) else ((Qy1.f k a0 47).bind fun t479 => (Qd1.l0 k a0 ([] : List (List Int)) t479 (t479.length : Int) 0))
set_option maxHeartbeats 8000000 in
set_option maxRecDepth 100000 in
theorem Qd1.calls (k : Nat) (a0 : ByteArray) (r1 : List (List Int)) (r2 : Bool) (w : World) (h : Qd1.f k a0 = some (r1, r2)) :
  Calls Tryz.prog 28 #[.string a0] w fun e w' => ∃ v0_ : Value, e = .returned (.tuple #[v0_, .bool r2]) ∧ Kd.S (Kd.slice 3 (Kd.int .i64)) 32 w' w.heap.size (fun _ => True) v0_ r1 ∧ Below w.heap.size w w' := by
 have HB := Qa.mk (Below.refl w.heap.size w)
 have H : (if (a0.size : Int) > 300 then (some (([] : List (List Int)), false)) else ((Qy1.f k a0 47).bind fun t479 => (Qd1.l0 k a0 ([] : List (List Int)) t479 (t479.length : Int) 0))) = some (r1, r2) := h
 clear h
 by_cases c2 : (a0.size : Int) > 300
 ·rw [if_pos c2] at H
  have c2b0 : decide (300 < (a0.size : Int)) = true := decide_eq_true c2
  have c2b1 : decide (300 < a0.size) = true := decide_eq_true (by omega)
  clear c2
  simp only [Option.some.injEq, Prod.mk.injEq] at H
  obtain ⟨rfl, rfl⟩ := H
  go_enter Tryz.func28, Tryz.ntmps28
  go_wp2
  go_ret2
  exact ⟨_, by rfl, by (exact Kd.S_nil _ _ _ _ _), by repeat ((with_reducible (exact HB.out)))⟩
 rw [if_neg c2] at H
 have c2b0 : decide (300 < (a0.size : Int)) = false := decide_eq_false c2
 have c2b1 : decide (300 < a0.size) = false := decide_eq_false (by omega)
 clear c2
 replace H := Option.bind_eq_some_iff.mp H
 obtain ⟨t479, A30, H⟩ := H
 replace H : (Qd1.l0 k a0 ([] : List (List Int)) t479 (t479.length : Int) 0) = some (r1, r2) := H
 have A3 := Qa.mk A30
 clear A30
 have H' := Qa.mk H
 clear H
 go_enter Tryz.func28, Tryz.ntmps28
 go_wp2_with (((with_reducible refine Qg (f := 62) rfl ?_); refine goesL_ (some 14) rfl rfl Tryz.func62 (by kernel_rfl) rfl #[.string a0, .int .u8 47] rfl (by (try simp only [List.map_toArray, List.map_cons, List.map_nil]); rfl) ?_; (with_reducible refine (Qy1.calls k a0 47 t479 _ A3.out).mono ?_); rintro e w4 ⟨v480, rfl, ho0, hb⟩; refine ⟨_, rfl, ?_⟩; have n0_ := Qa.mk (Kd.R_lower ho0 (Qq (by repeat ((with_reducible (exact HB.out)))))); have n1_ := Qa.mk (Qh (by repeat ((with_reducible (exact HB.out)))) hb); clear HB; have HO481 := n0_; have HB := n1_; clear n0_ n1_; (try clear hb); (try clear hb2); (try clear hk); (try clear hi); (try clear ho0); obtain ⟨Ao5, co5, eo5⟩ := Kd.R_slice HO481.out; subst eo5))
 go_loopg [4, 16] k (fun kq v4 v16 w' => ∃ (x4_1 : List (List Int)) (x16_1 : Int), v16 = .int .i64 x16_1 ∧ Qa (Qd1.l0 kq a0 x4_1 t479 (t479.length : Int) x16_1 = some (r1, r2)) ∧ Qa (kq ≤ k) ∧ Qa (Kd.S (Kd.slice 3 (Kd.int .i64)) 32 w' w.heap.size (fun _ => True) v4 x4_1) ∧ Qa (Kd.R Kd.string 9 w' w.heap.size (fun _ => True) (.slice Ao5 t479.length co5) t479) ∧ Qa (Below w.heap.size w w'))
 case atStart => exact ⟨(([] : List (List Int))), (0), (by rfl), H', ⟨Nat.le_refl _⟩, ⟨by (exact Kd.S_nil _ _ _ _ _)⟩, ⟨by (with_reducible repeat (fail)); exact HO481.out⟩, ⟨by repeat ((with_reducible (exact HB.out)))⟩⟩
 case round =>
  clear H' c2b0 c2b1
  obtain ⟨x4_1, x16_1, rfl, HA, HK1, HO_4, HO_14, HB⟩ := hrel
  cases gk with
  | zero => exact absurd HA.out (by simp [Qd1.l0])
  | succ k1 =>
   have H := HA.out
   clear HA
   simp only [Qd1.l0] at H
   by_cases c6 : x16_1 < (t479.length : Int)
   rotate_left
   ·rw [if_neg c6] at H
    have c6b0 : decide (x16_1 < (t479.length : Int)) = false := decide_eq_false c6
    clear c6
    replace H := Option.bind_eq_some_iff.mp H
    obtain ⟨t494, A210, H⟩ := H
    replace H : (if t494 = true then ((Qy.f k1 x4_1).bind fun t495 => (if t495.toList = a0.toList then (some (x4_1, true)) else (some (([] : List (List Int)), false)))) else (some (([] : List (List Int)), false))) = some (r1, r2) := H
    have A21 := Qa.mk A210
    clear A210
    by_cases c22 : t494 = true
    rotate_left
    ·replace c22 := Bool.eq_false_iff.mpr c22
     subst c22
     have H1 : (some (([] : List (List Int)), false)) = some (r1, r2) := by rw [if_neg (show ¬ (false = true) by decide)] at H; exact H
     clear H
     have H := H1
     clear H1
     simp only [Option.some.injEq, Prod.mk.injEq] at H
     obtain ⟨rfl, rfl⟩ := H
     obtain ⟨Ao29, co29, eo29⟩ := Kd.S_slice HO_4.out
     subst eo29
     go_wp2_with (((with_reducible refine Qg (f := 31) rfl ?_); refine goesL_ (some 39) rfl rfl Tryz.func31 (by kernel_rfl) rfl #[.slice Ao29 x4_1.length co29] rfl (by (try simp only [List.map_toArray, List.map_cons, List.map_nil]); rfl) ?_; (with_reducible refine (Qr.calls k1 _ _ x4_1 false _ ?side1 ?side2 A21.out).mono ?_); (case side1 => repeat ((exact (Kd.S_reads' HO_4.out).2.2))); (case side2 => exact (Kd.S_reads' HO_4.out).2.1); rintro e w' ⟨rfl, ⟨nd, rfl⟩⟩; refine ⟨_, rfl, ?_⟩))
     go_ret2
     exact ⟨_, by rfl, by (exact Kd.S_nil _ _ _ _ _), by repeat ((with_reducible first | exact HB.out | apply Qi))⟩
    subst c22
    have H1 : ((Qy.f k1 x4_1).bind fun t495 => (if t495.toList = a0.toList then (some (x4_1, true)) else (some (([] : List (List Int)), false)))) = some (r1, r2) := by rw [if_pos rfl] at H; exact H
    clear H
    have H := H1
    clear H1
    replace H := Option.bind_eq_some_iff.mp H
    obtain ⟨t495, A230, H⟩ := H
    replace H : (if t495.toList = a0.toList then (some (x4_1, true)) else (some (([] : List (List Int)), false))) = some (r1, r2) := H
    have A23 := Qa.mk A230
    clear A230
    by_cases c24 : t495.toList = a0.toList
    rotate_left
    ·rw [if_neg c24] at H
     have c24b0 : (t495.toList == a0.toList) = false := beq_eq_false_iff_ne.mpr c24
     have c24b1 : (t495.toList != a0.toList) = true := bne_iff_ne.mpr c24
     simp only [Option.some.injEq, Prod.mk.injEq] at H
     obtain ⟨rfl, rfl⟩ := H
     obtain ⟨Ao27, co27, eo27⟩ := Kd.S_slice HO_4.out
     subst eo27
     go_wp2_with (first | ((with_reducible refine Qg (f := 31) rfl ?_); refine goesL_ (some 39) rfl rfl Tryz.func31 (by kernel_rfl) rfl #[.slice Ao27 x4_1.length co27] rfl (by (try simp only [List.map_toArray, List.map_cons, List.map_nil]); rfl) ?_; (with_reducible refine (Qr.calls k1 _ _ x4_1 true _ ?side1 ?side2 A21.out).mono ?_); (case side1 => repeat ((exact (Kd.S_reads' HO_4.out).2.2))); (case side2 => exact (Kd.S_reads' HO_4.out).2.1); rintro e w' ⟨rfl, ⟨nd, rfl⟩⟩; refine ⟨_, rfl, ?_⟩) | (go_at_call 57; (with_reducible refine (Qy.calls k1 _ _ x4_1 t495 _ ?side1 ?side2 A23.out).mono ?_); (case side1 => repeat ((exact (Kd.S_reads' HO_4.out).2.2))); (case side2 => exact (Kd.S_reads' HO_4.out).2.1); rintro e w28 ⟨rfl, hb⟩; have n0_ := Qa.mk (Kd.S_below (by (with_reducible repeat ((apply Kd.S_drewN))); exact HO_4.out) hb); have n1_ := Qa.mk (Kd.R_below (by (with_reducible repeat ((apply Kd.R_drewN))); exact HO_14.out) hb); have n2_ := Qa.mk (Qh (by repeat ((with_reducible first | exact HB.out | apply Qi))) hb); clear HO_4; clear HO_14; clear HB; have HO_4 := n0_; have HO_14 := n1_; have HB := n2_; clear n0_ n1_ n2_; (try clear hb); (try clear hb2); (try clear hk); (try clear hi)))
     go_ret2
     exact ⟨_, by rfl, by (exact Kd.S_nil _ _ _ _ _), by repeat ((with_reducible (exact HB.out)))⟩
    rw [if_pos c24] at H
    have c24b0 : (t495.toList == a0.toList) = true := beq_iff_eq.mpr c24
    have c24b1 : (t495.toList != a0.toList) = false := bne_eq_false_iff_eq.mpr c24
    clear c24
    simp only [Option.some.injEq, Prod.mk.injEq] at H
    obtain ⟨rfl, rfl⟩ := H
    obtain ⟨Ao25, co25, eo25⟩ := Kd.S_slice HO_4.out
    subst eo25
    go_wp2_with (first | ((with_reducible refine Qg (f := 31) rfl ?_); refine goesL_ (some 39) rfl rfl Tryz.func31 (by kernel_rfl) rfl #[.slice Ao25 x4_1.length co25] rfl (by (try simp only [List.map_toArray, List.map_cons, List.map_nil]); rfl) ?_; (with_reducible refine (Qr.calls k1 _ _ x4_1 true _ ?side1 ?side2 A21.out).mono ?_); (case side1 => repeat ((exact (Kd.S_reads' HO_4.out).2.2))); (case side2 => exact (Kd.S_reads' HO_4.out).2.1); rintro e w' ⟨rfl, ⟨nd, rfl⟩⟩; refine ⟨_, rfl, ?_⟩) | (go_at_call 57; (with_reducible refine (Qy.calls k1 _ _ x4_1 t495 _ ?side1 ?side2 A23.out).mono ?_); (case side1 => repeat ((exact (Kd.S_reads' HO_4.out).2.2))); (case side2 => exact (Kd.S_reads' HO_4.out).2.1); rintro e w26 ⟨rfl, hb⟩; have n0_ := Qa.mk (Kd.S_below (by (with_reducible repeat ((apply Kd.S_drewN))); exact HO_4.out) hb); have n1_ := Qa.mk (Kd.R_below (by (with_reducible repeat ((apply Kd.R_drewN))); exact HO_14.out) hb); have n2_ := Qa.mk (Qh (by repeat ((with_reducible first | exact HB.out | apply Qi))) hb); clear HO_4; clear HO_14; clear HB; have HO_4 := n0_; have HO_14 := n1_; have HB := n2_; clear n0_ n1_ n2_; (try clear hb); (try clear hb2); (try clear hk); (try clear hi)))
    go_ret2
    exact ⟨_, by rfl, by (with_reducible repeat (fail)); exact HO_4.out, by repeat ((with_reducible (exact HB.out)))⟩
   rw [if_pos c6] at H
   have c6b0 : decide (x16_1 < (t479.length : Int)) = true := decide_eq_true c6
   clear c6
   by_cases c7 : 0 ≤ x16_1
   rotate_left
   ·rw [if_neg c7] at H
    exact absurd H (by simp)
   rw [if_pos c7] at H
   have c7b0 : decide (0 ≤ x16_1) = true := decide_eq_true c7
   clear c7
   by_cases c8 : x16_1 < (t479.length : Int)
   rotate_left
   ·rw [if_neg c8] at H
    exact absurd H (by simp)
   rw [if_pos c8] at H
   have c8b0 : decide (x16_1 < (t479.length : Int)) = true := decide_eq_true c8
   clear c8
   replace H := Option.bind_eq_some_iff.mp H
   obtain ⟨t483, A90, H⟩ := H
   replace H : (Qd1.l1 k1 a0 x4_1 ([] : List Int) t479 (t479.length : Int) x16_1 t483 (t483.length : Int) 0) = some (r1, r2) := H
   have A9 := Qa.mk A90
   clear A90
   have H' := Qa.mk H
   clear H
   have p482 : 0 ≤ (x16_1 : Int) := of_decide_eq_true (by (with_reducible assumption))
   have q482 : x16_1 < (t479.length : Int) := of_decide_eq_true (by (with_reducible assumption))
   obtain ⟨ad482, e482, hx482_0⟩ := Kd.at_string (Kd.R_reads' HO_14.out).2.2 x16_1 p482 q482
   cases e482
   replace p482 := eq_true p482
   replace q482 := eq_true q482
   go_wp2_with (((with_reducible refine Qg (f := 62) rfl ?_); refine goesL_ (some 21) rfl rfl Tryz.func62 (by kernel_rfl) rfl #[.string (rdOf ByteArray.empty t479 x16_1), .int .u8 44] rfl (by (try simp only [List.map_toArray, List.map_cons, List.map_nil]); rfl) ?_; (with_reducible refine (Qy1.calls k1 (rdOf ByteArray.empty t479 x16_1) 44 t483 _ A9.out).mono ?_); rintro e w10 ⟨v484, rfl, ho0, hb⟩; refine ⟨_, rfl, ?_⟩; have n0_ := Qa.mk (Kd.S_below (by (with_reducible repeat (fail)); exact HO_4.out) hb); have n1_ := Qa.mk (Kd.R_elder' (by (with_reducible repeat (fail)); exact HO_14.out) (Kd.R_base ho0) hb); have n2_ := Qa.mk (Kd.R_lower (Kd.R_new' ho0 (Kd.R_lt (by (with_reducible repeat (fail)); exact HO_14.out))) (Qq (by repeat ((with_reducible (exact HB.out)))))); have n3_ := Qa.mk (Qh (by repeat ((with_reducible (exact HB.out)))) hb); clear HO_4; clear HO_14; clear HB; have HO_4 := n0_; have HO_14 := n1_; have HO485 := n2_; have HB := n3_; clear n0_ n1_ n2_ n3_; (try clear hb); (try clear hb2); (try clear hk); (try clear hi); (try clear ho0); obtain ⟨Ao11, co11, eo11⟩ := Kd.R_slice HO485.out; subst eo11))
   go_loopg [7, 23] k1 (fun kq v7 v23 w' => ∃ (x7_2 : List Int) (x23_2 : Int), v23 = .int .i64 x23_2 ∧ Qa (Qd1.l1 kq a0 x4_1 x7_2 t479 (t479.length : Int) x16_1 t483 (t483.length : Int) x23_2 = some (r1, r2)) ∧ Qa (kq ≤ k1) ∧ Qa (Kd.S (Kd.slice 3 (Kd.int .i64)) 32 w' w.heap.size (fun k_ => some k_ ≠ (v7 : Value).ownBlock) u4 x4_1) ∧ Qa (Kd.R (Kd.int .i64) 3 w' w.heap.size (fun _ => True) v7 x7_2) ∧ Qa (Kd.R Kd.string 9 w' w.heap.size (fun k_ => some k_ ≠ ((.slice Ao11 t483.length co11) : Value).ownBlock) (.slice (some ad482) t479.length co5) t479) ∧ Qa (Kd.R Kd.string 9 w' w.heap.size (fun k_ => some k_ ≠ ((.slice (some ad482) t479.length co5) : Value).ownBlock) (.slice Ao11 t483.length co11) t483) ∧ Qa (Below w.heap.size w w'))
   case atStart => exact ⟨(([] : List Int)), (0), (by rfl), H', ⟨Nat.le_refl _⟩, ⟨by (with_reducible repeat (fail)); exact Kd.S_mono HO_4.out (fun _ hk => (by simp [Value.ownBlock]))⟩, ⟨by (exact Kd.R_nil _ _ _ _ _)⟩, ⟨by (with_reducible repeat (fail)); exact Kd.R_mono HO_14.out (fun _ hk => hk.2)⟩, ⟨by (with_reducible repeat (fail)); exact Kd.R_mono HO485.out (fun _ hk => hk.2)⟩, ⟨by repeat ((with_reducible (exact HB.out)))⟩⟩
   case round =>
    clear H' c6b0 c7b0 c8b0 hx482_0 p482 q482
    obtain ⟨x7_2, x23_2, rfl, HA, HK2, HO_4, HO_7, HO_14, HO_21, HB⟩ := hrel
    cases gk with
    | zero => exact absurd HA.out (by simp [Qd1.l1])
    | succ k2 =>
     have H := HA.out
     clear HA
     simp only [Qd1.l1] at H
     by_cases c12 : x23_2 < (t483.length : Int)
     rotate_left
     ·rw [if_neg c12] at H
      have c12b0 : decide (x23_2 < (t483.length : Int)) = false := decide_eq_false c12
      clear c12
      by_cases c18 : x4_1.length < 5864062014805
      rotate_left
      ·rw [if_neg c18] at H
       exact absurd H (by simp)
      rw [if_pos c18] at H
      have LMc18 := Qa.mk c18
      clear c18
      obtain ⟨y491, hy491⟩ : ∃ y_ : List (List Int), y_ = (x4_1 ++ [x7_2]) := ⟨_, rfl⟩
      replace H : (Qd1.l0 k2 a0 y491 t479 (t479.length : Int) (wrap64 (x16_1 + 1))) = some (r1, r2) := by (rw [hy491]; with_reducible exact H)
      have Ny491 := Qa.mk hy491
      clear hy491
      have H' := Qa.mk H
      clear H
      obtain ⟨Ao20, co20, eo20⟩ := Kd.R_slice HO_7.out
      subst eo20
      go_wp2_with (((with_reducible refine gate_builtin (b := .append) (xs := #[.tmp 33, .tmp 35]) rfl ?_); at_builtin; refine Kd.S_append (Kd.slice 3 (Kd.int .i64)) (w0 := w) w.heap.size rfl (.tmp 33) (.tmp 35) 24 32 (.slice none 0 0) 24 rfl Tryz.underlying24 info32 rfl (by decide) (by omega) u4 x4_1 x7_2 [.slice Ao20 x7_2.length co20] (fun _ => True) (fun k_ => some k_ = (.slice Ao20 x7_2.length co20 : Value).ownBlock) rfl rfl ?aP (fun k_ hk_ => ((Kd.R_mono (ok' := fun k_ => ((fun _ => True)) k_ ∧ some k_ ≠ (u4 : Value).ownBlock) (Kd.R_apart' (HO_7.out) (Kd.S_typed HO_4.out) (by decide)) (fun k_ hk => ⟨trivial, hk.2⟩))).1 k_ hk_.symm) ?aF ?aO ?aB ?aS ?aL ?_; (case aP => exact Kd.M_row (Kd.R_mono (Kd.R_tight rfl (Kd.R_mono (ok' := fun k_ => ((fun _ => True)) k_ ∧ some k_ ≠ (u4 : Value).ownBlock) (Kd.R_apart' (HO_7.out) (Kd.S_typed HO_4.out) (by decide)) (fun k_ hk => ⟨trivial, hk.2⟩))) (fun _ h_ => h_))); (case aB => exact (by repeat ((with_reducible (exact HB.out))))); (case aF => exact (fun _ _ => trivial)); (case aO => exact (by (with_reducible repeat (fail)); exact Kd.S_mono HO_4.out (fun k_ hk => ⟨trivial, fun e_ => hk e_⟩))); (case aS => exact (Qq (by repeat ((with_reducible (exact HB.out)))))); (case aL => have := LMc18.out; omega); intro v492 w19 ho hb hg hat; rw [← Ny491.out] at ho; have n0_ := Qa.mk (Kd.R_over' (by (with_reducible repeat (fail)); exact HO_14.out) (Kd.S_typed (by (with_reducible repeat (fail)); exact HO_4.out)) (by decide) hg); have n1_ := Qa.mk (Kd.R_over' (by (with_reducible repeat (fail)); exact HO_21.out) (Kd.S_typed (by (with_reducible repeat (fail)); exact HO_4.out)) (by decide) hg); have n2_ := Qa.mk (hb); have n3_ := Qa.mk (ho); clear HO_14; clear HO_21; clear HB; clear HO_4; clear HO_7; have HO_14 := n0_; have HO_21 := n1_; have HB := n2_; have HO493 := n3_; clear n0_ n1_ n2_ n3_; clear ho hb hg hat))
      (go_roundg k2)
      case measure => have := HK1.out; have := HK2.out; omega
      case rel => exact ⟨(y491), (wrap64 (x16_1 + 1)), (by rfl), H', ⟨by have := HK1.out; have := HK2.out; omega⟩, ⟨by (with_reducible repeat (fail)); exact HO493.out⟩, ⟨by (with_reducible repeat (fail)); exact Kd.R_mono HO_14.out (fun _ hk => trivial)⟩, ⟨by repeat ((with_reducible (exact HB.out)))⟩⟩
     rw [if_pos c12] at H
     have c12b0 : decide (x23_2 < (t483.length : Int)) = true := decide_eq_true c12
     clear c12
     by_cases c13 : 0 ≤ x23_2
     rotate_left
     ·rw [if_neg c13] at H
      exact absurd H (by simp)
     rw [if_pos c13] at H
     have c13b0 : decide (0 ≤ x23_2) = true := decide_eq_true c13
     clear c13
     by_cases c14 : x23_2 < (t483.length : Int)
     rotate_left
     ·rw [if_neg c14] at H
      exact absurd H (by simp)
     rw [if_pos c14] at H
     have c14b0 : decide (x23_2 < (t483.length : Int)) = true := decide_eq_true c14
     clear c14
     replace H := Option.bind_eq_some_iff.mp H
     obtain ⟨t487, A150, H⟩ := H
     replace H : (if x7_2.length < 17592186044416 then (Qd1.l1 k2 a0 x4_1 (x7_2 ++ [t487]) t479 (t479.length : Int) x16_1 t483 (t483.length : Int) (wrap64 (x23_2 + 1))) else (none)) = some (r1, r2) := H
     have A15 := Qa.mk A150
     clear A150
     by_cases c16 : x7_2.length < 17592186044416
     rotate_left
     ·rw [if_neg c16] at H
      exact absurd H (by simp)
     rw [if_pos c16] at H
     have LMc16 := Qa.mk c16
     clear c16
     obtain ⟨y488, hy488⟩ : ∃ y_ : List Int, y_ = (x7_2 ++ [t487]) := ⟨_, rfl⟩
     replace H : (Qd1.l1 k2 a0 x4_1 y488 t479 (t479.length : Int) x16_1 t483 (t483.length : Int) (wrap64 (x23_2 + 1))) = some (r1, r2) := by (rw [hy488]; with_reducible exact H)
     have Ny488 := Qa.mk hy488
     clear hy488
     have H' := Qa.mk H
     clear H
     have p486 : 0 ≤ (x23_2 : Int) := of_decide_eq_true (by (with_reducible assumption))
     have q486 : x23_2 < (t483.length : Int) := of_decide_eq_true (by (with_reducible assumption))
     obtain ⟨ad486, e486, hx486_0⟩ := Kd.at_string (Kd.R_reads' HO_21.out).2.2 x23_2 p486 q486
     cases e486
     replace p486 := eq_true p486
     replace q486 := eq_true q486
     go_wp2_with (first | ((with_reducible refine Qg (f := 63) rfl ?_); refine goesL_ (some 29) rfl rfl Tryz.func63 (by kernel_rfl) rfl #[.string (rdOf ByteArray.empty t483 x23_2)] rfl (by (try simp only [List.map_toArray, List.map_cons, List.map_nil]); rfl) ?_; (with_reducible refine (Qk1.calls k2 (rdOf ByteArray.empty t483 x23_2) t487 _ A15.out).mono ?_); rintro e w' ⟨rfl, ⟨nd, rfl⟩⟩; refine ⟨_, rfl, ?_⟩) | ((with_reducible refine gate_builtin (b := .append) (xs := #[.tmp 27, .tmp 30]) rfl ?_); at_builtin; refine Kd.R_append (Kd.int .i64) (w0 := w) w.heap.size rfl (.tmp 27) (.tmp 30) 32 3 (.int .i64 0) 8 rfl Tryz.underlying32 info3 rfl (by decide) (by omega) u7 x7_2 t487 [.int .i64 t487] (fun _ => True) (fun _ => False) rfl rfl ?aP (fun _ hk => hk.elim) ?aF ?aO ?aB ?aS ?aL ?_; (case aP => exact rfl); (case aB => exact (by repeat ((with_reducible first | exact HB.out | apply Qi)))); (case aF => exact (fun _ _ => trivial)); (case aO => exact (by (with_reducible repeat ((apply Kd.R_drewN))); exact HO_7.out)); (case aS => exact (Qq (by repeat ((with_reducible first | exact HB.out | apply Qi))))); (case aL => have := LMc16.out; omega); intro v489 w17 ho hb hg hat; rw [← Ny488.out] at ho; have n0_ := Qa.mk (Kd.S_after (ok := (fun _ => True)) (by (with_reducible repeat ((apply Kd.S_drewN))); exact Kd.S_mono HO_4.out (fun _ hk => ⟨trivial, hk⟩)) hg hat); have n1_ := Qa.mk (Kd.R_over' (by (with_reducible repeat ((apply Kd.R_drewN))); exact HO_14.out) (Kd.R_typed (by (with_reducible repeat ((apply Kd.R_drewN))); exact HO_7.out)) (by decide) hg); have n2_ := Qa.mk (Kd.R_over' (by (with_reducible repeat ((apply Kd.R_drewN))); exact HO_21.out) (Kd.R_typed (by (with_reducible repeat ((apply Kd.R_drewN))); exact HO_7.out)) (by decide) hg); have n3_ := Qa.mk (hb); have n4_ := Qa.mk (ho); clear HO_4; clear HO_14; clear HO_21; clear HB; clear HO_7; have HO_4 := n0_; have HO_14 := n1_; have HO_21 := n2_; have HB := n3_; have HO490 := n4_; clear n0_ n1_ n2_ n3_ n4_; clear ho hb hg hat))
     (go_roundg k2)
     case measure => have := HK1.out; have := HK2.out; omega
     case rel => exact ⟨(y488), (wrap64 (x23_2 + 1)), (by rfl), H', ⟨by have := HK1.out; have := HK2.out; omega⟩, ⟨by (with_reducible repeat (fail)); exact Kd.S_mono HO_4.out (fun _ hk => hk.2)⟩, ⟨by (with_reducible repeat (fail)); exact HO490.out⟩, ⟨by (with_reducible repeat (fail)); exact HO_14.out⟩, ⟨by (with_reducible repeat (fail)); exact HO_21.out⟩, ⟨by repeat ((with_reducible (exact HB.out)))⟩⟩
def Qs2.f (l0 : List (List Int)) : Option (Bool) := (Qz.f l0).bind fun t496 => (some t496)
set_option maxHeartbeats 8000000 in
set_option maxRecDepth 100000 in
theorem Qs2.calls (A0 : Option Addr) (c0 : Nat) (l0 : List (List Int)) (r : Bool) (w : World) (hr0 : Kd.C (Kd.slice 3 (Kd.int .i64)) w A0 l0.length l0) (hc0 : l0.length ≤ c0) (h : Qs2.f l0 = some r) :
  Calls Tryz.prog 29 #[.slice A0 l0.length c0] w fun e w' => e = .returned (.bool r) ∧ Below w.heap.size w w' := by
 have HR0 := Qa.mk hr0
 have HC0 := Qa.mk hc0
 clear hr0 hc0
 have HB := Qa.mk (Below.refl w.heap.size w)
 have H : ((Qz.f l0).bind fun t496 => (some t496)) = some r := h
 clear h
 replace H := Option.bind_eq_some_iff.mp H
 obtain ⟨t496, A20, H⟩ := H
 replace H : (some t496) = some r := H
 have A2 := Qa.mk A20
 clear A20
 obtain rfl := Option.some.inj H
 go_enter Tryz.func29, Tryz.ntmps29
 go_wp2_with (((with_reducible refine Qg (f := 38) rfl ?_); refine goesL_ (some 4) rfl rfl Tryz.func38 (by kernel_rfl) rfl #[.slice A0 l0.length c0] rfl (by (try simp only [List.map_toArray, List.map_cons, List.map_nil]); rfl) ?_; (with_reducible refine (Qz.calls _ _ l0 t496 _ ?side1 ?side2 A2.out).mono ?_); (case side1 => repeat ((exact HR0.out))); (case side2 => exact HC0.out); rintro e w3 ⟨rfl, hb⟩; refine ⟨_, rfl, ?_⟩; have n0_ := Qa.mk (Qh (by repeat ((with_reducible (exact HB.out)))) hb); clear HB; have HB := n0_; clear n0_; (try clear hb); (try clear hb2); (try clear hk); (try clear hi)))
 go_ret
 exact ⟨by rfl, by repeat ((with_reducible (exact HB.out)))⟩
end Go.Proofs.YtohhlkehglahhaaGreatDoor.A
