-- Printed: Lean checks it.
import Derived.Test.YtohhlkehglahhaaGreatDoorAx0
import Derived.Test.YtohhlkehglahhaaGreatDoorAx3
import Derived.Test.YtohhlkehglahhaaGreatDoorAx5
import Derived.Test.YtohhlkehglahhaaGreatDoorAx6
import Derived.Test.YtohhlkehglahhaaGreatDoorGiv
import Derived.Test.YtohhlkehglahhaaGreatDoorGivC
namespace Go.Proofs.YtohhlkehglahhaaGreatDoor.A
open Go.RowKit Go.Proofs.YtohhlkehglahhaaGreatDoorW.PrintWords Go.Proofs.YtohhlkehglahhaaGreatDoorW.PrintLast Go.Proofs.YtohhlkehglahhaaGreatDoorW.PrintMore Go.Proofs.YtohhlkehglahhaaGreatDoor.X
attribute [local go_sem] max2_int min2_int max_two min_two max_three min_three max_four min_four
set_option linter.unusedVariables false
set_option linter.unusedSimpArgs false
mutual
def slices_Concat_int_int.l0 : Nat → List (List Int) → Int → List (List Int) → Int → Int → Option (List Int)
 | 0, _, _, _, _, _ => none
 | k + 1, x0, x3, x9, x10, x11 => if x11 < x10 then (if 0 ≤ x11 then (if x11 < (x9.length : Int) then (if (wrap64 (x3 + ((rd_L2 x9 x11).length : Int))) < 0 then (none) else (slices_Concat_int_int.l0 k x0 (wrap64 (x3 + ((rd_L2 x9 x11).length : Int))) x9 x10 (wrap64 (x11 + 1)))) else (none)) else (none)) else ((slices_Grow_int_int.f ([] : List Int) x3).bind fun t297 => (slices_Concat_int_int.l1 k t297 x0 (x0.length : Int) 0))
def slices_Concat_int_int.l1 : Nat → List Int → List (List Int) → Int → Int → Option (List Int)
 | 0, _, _, _, _ => none
 | k + 1, x6, x25, x26, x27 => if x27 < x26 then (if 0 ≤ x27 then (if x27 < (x25.length : Int) then (if x6.length + (rd_L2 x25 x27).length < 17592186044416 then (slices_Concat_int_int.l1 k (x6 ++ (rd_L2 x25 x27)) x25 x26 (wrap64 (x27 + 1))) else (none)) else (none)) else (none)) else (some x6)
end
def slices_Concat_int_int.f (k : Nat) (l0 : List (List Int)) : Option (List Int) := slices_Concat_int_int.l0 k l0 0 l0 (l0.length : Int) 0
set_option maxHeartbeats 8000000 in
set_option maxRecDepth 100000 in
theorem slices_Concat_int_int.calls (k : Nat) (A0 : Option Addr) (c0 : Nat) (l0 : List (List Int)) (r : List Int) (w : World) (hr0 : Kd.C (Kd.slice 3 (Kd.int .i64)) w A0 l0.length l0) (hc0 : l0.length ≤ c0) (h : slices_Concat_int_int.f k l0 = some r) :
  Calls Tryz.prog 45 #[.slice A0 l0.length c0] w fun e w' => ∃ v0_ : Value, e = .returned (v0_) ∧ Kd.R (Kd.int .i64) 3 w' w.heap.size (fun _ => True) v0_ r ∧ Below w.heap.size w w' := by
 have HR0 := Qa.mk hr0
 have HC0 := Qa.mk hc0
 clear hr0 hc0
 have HB := Qa.mk (Below.refl w.heap.size w)
 have H : (slices_Concat_int_int.l0 k l0 0 l0 (l0.length : Int) 0) = some r := h
 clear h
 have H' := Qa.mk H
 clear H
 go_enter Tryz.func45, Tryz.ntmps45
 go_wp2
 go_loopg [3, 11] k (fun kq v3 v11 w' => ∃ (x3_1 : Int) (x11_1 : Int), v3 = .int .i64 x3_1 ∧ v11 = .int .i64 x11_1 ∧ Qa (slices_Concat_int_int.l0 kq l0 x3_1 l0 (l0.length : Int) x11_1 = some r) ∧ Qa (kq ≤ k) ∧ Qa (Below w.heap.size w w'))
 case atStart => exact ⟨(0), (0), (by rfl), (by rfl), H', ⟨Nat.le_refl _⟩, ⟨by repeat ((with_reducible (exact HB.out)))⟩⟩
 case round =>
  clear H'
  obtain ⟨x3_1, x11_1, rfl, rfl, HA, HK1, HB⟩ := hrel
  cases gk with
  | zero => exact absurd HA.out (by simp [slices_Concat_int_int.l0])
  | succ k1 =>
   have H := HA.out
   clear HA
   simp only [slices_Concat_int_int.l0] at H
   by_cases c2 : x11_1 < (l0.length : Int)
   ·rw [if_pos c2] at H
    have c2b0 : decide (x11_1 < (l0.length : Int)) = true := decide_eq_true c2
    clear c2
    by_cases c3 : 0 ≤ x11_1
    rotate_left
    ·rw [if_neg c3] at H
     exact absurd H (by simp)
    rw [if_pos c3] at H
    have c3b0 : decide (0 ≤ x11_1) = true := decide_eq_true c3
    clear c3
    by_cases c4 : x11_1 < (l0.length : Int)
    rotate_left
    ·rw [if_neg c4] at H
     exact absurd H (by simp)
    rw [if_pos c4] at H
    have c4b0 : decide (x11_1 < (l0.length : Int)) = true := decide_eq_true c4
    clear c4
    by_cases c5 : (wrap64 (x3_1 + ((rd_L2 l0 x11_1).length : Int))) < 0
    ·rw [if_pos c5] at H
     exact absurd H (by simp)
    rw [if_neg c5] at H
    have c5b0 : decide ((wrap64 (x3_1 + ((rd_L2 l0 x11_1).length : Int))) < 0) = false := decide_eq_false c5
    clear c5
    have H' := Qa.mk H
    clear H
    have p296 : 0 ≤ (x11_1 : Int) := of_decide_eq_true (by (with_reducible assumption))
    have q296 : x11_1 < (l0.length : Int) := of_decide_eq_true (by (with_reducible assumption))
    obtain ⟨ad296, A296_0, c296_0, e296, hx296_0, hl296_0, hi296_0⟩ := at_L2 HR0.out x11_1 p296 q296
    cases e296
    replace hx296_0 := (HB.out.cell (World.block_lt_of_cell? w _ hx296_0)).trans hx296_0
    have HR296_0 := Qa.mk hi296_0
    have HC296_0 := Qa.mk hl296_0
    clear hi296_0 hl296_0
    replace p296 := eq_true p296
    replace q296 := eq_true q296
    go_wp2
    (go_roundg k1)
    case measure => have := HK1.out; omega
    case rel => exact ⟨(wrap64 (x3_1 + ((rd_L2 l0 x11_1).length : Int))), (wrap64 (x11_1 + 1)), (by rfl), (by rfl), H', ⟨by have := HK1.out; omega⟩, ⟨by repeat ((with_reducible (exact HB.out)))⟩⟩
   rw [if_neg c2] at H
   have c2b0 : decide (x11_1 < (l0.length : Int)) = false := decide_eq_false c2
   clear c2
   replace H := Option.bind_eq_some_iff.mp H
   obtain ⟨t297, A60, H⟩ := H
   replace H : (slices_Concat_int_int.l1 k1 t297 l0 (l0.length : Int) 0) = some r := H
   have A6 := Qa.mk A60
   clear A60
   have H' := Qa.mk H
   clear H
   go_wp2_with (((with_reducible refine Qg (f := 73) rfl ?_); refine goesL_ (some 24) rfl rfl Tryz.func73 (by kernel_rfl) rfl #[.slice none 0 0, .int .i64 x3_1] rfl (by (try simp only [List.map_toArray, List.map_cons, List.map_nil]); rfl) ?_; (refine (slices_Grow_int_int.calls _ _ ([] : List Int) x3_1 t297 _ ?side1 ?side2 A6.out).mono ?_); (case side1 => rfl); (case side2 => rfl); rintro e w7 ⟨v298, rfl, ho0, hb⟩; refine ⟨_, rfl, ?_⟩; have n0_ := Qa.mk (Kd.R_lower ho0 (Qq (by repeat ((with_reducible (exact HB.out)))))); have n1_ := Qa.mk (Qh (by repeat ((with_reducible (exact HB.out)))) hb); clear HB; have HO299 := n0_; have HB := n1_; clear n0_ n1_; (try clear hb); (try clear hb2); (try clear hk); (try clear hi); (try clear ho0)))
   go_loopg [6, 27] k1 (fun kq v6 v27 w' => ∃ (x6_2 : List Int) (x27_2 : Int), v27 = .int .i64 x27_2 ∧ Qa (slices_Concat_int_int.l1 kq x6_2 l0 (l0.length : Int) x27_2 = some r) ∧ Qa (kq ≤ k1) ∧ Qa (Kd.R (Kd.int .i64) 3 w' w.heap.size (fun _ => True) v6 x6_2) ∧ Qa (Below w.heap.size w w'))
   case atStart => exact ⟨(t297), (0), (by rfl), H', ⟨Nat.le_refl _⟩, ⟨by (with_reducible repeat (fail)); exact HO299.out⟩, ⟨by repeat ((with_reducible (exact HB.out)))⟩⟩
   case round =>
    clear H' c2b0
    obtain ⟨x6_2, x27_2, rfl, HA, HK2, HO_6, HB⟩ := hrel
    cases gk with
    | zero => exact absurd HA.out (by simp [slices_Concat_int_int.l1])
    | succ k2 =>
     have H := HA.out
     clear HA
     simp only [slices_Concat_int_int.l1] at H
     by_cases c8 : x27_2 < (l0.length : Int)
     rotate_left
     ·rw [if_neg c8] at H
      have c8b0 : decide (x27_2 < (l0.length : Int)) = false := decide_eq_false c8
      clear c8
      obtain rfl := Option.some.inj H
      go_wp2
      go_ret
      exact ⟨_, by rfl, by (with_reducible repeat (fail)); exact HO_6.out, by repeat ((with_reducible (exact HB.out)))⟩
     rw [if_pos c8] at H
     have c8b0 : decide (x27_2 < (l0.length : Int)) = true := decide_eq_true c8
     clear c8
     by_cases c9 : 0 ≤ x27_2
     rotate_left
     ·rw [if_neg c9] at H
      exact absurd H (by simp)
     rw [if_pos c9] at H
     have c9b0 : decide (0 ≤ x27_2) = true := decide_eq_true c9
     clear c9
     by_cases c10 : x27_2 < (l0.length : Int)
     rotate_left
     ·rw [if_neg c10] at H
      exact absurd H (by simp)
     rw [if_pos c10] at H
     have c10b0 : decide (x27_2 < (l0.length : Int)) = true := decide_eq_true c10
     clear c10
     by_cases c11 : x6_2.length + (rd_L2 l0 x27_2).length < 17592186044416
     rotate_left
     ·rw [if_neg c11] at H
      exact absurd H (by simp)
     rw [if_pos c11] at H
     have LMc11 := Qa.mk c11
     clear c11
     obtain ⟨y301, hy301⟩ : ∃ y_ : List Int, y_ = (x6_2 ++ (rd_L2 l0 x27_2)) := ⟨_, rfl⟩
     replace H : (slices_Concat_int_int.l1 k2 y301 l0 (l0.length : Int) (wrap64 (x27_2 + 1))) = some r := by (rw [hy301]; with_reducible exact H)
     have Ny301 := Qa.mk hy301
     clear hy301
     have H' := Qa.mk H
     clear H
     have p300 : 0 ≤ (x27_2 : Int) := of_decide_eq_true (by (with_reducible assumption))
     have q300 : x27_2 < (l0.length : Int) := of_decide_eq_true (by (with_reducible assumption))
     obtain ⟨ad300, A300_0, c300_0, e300, hx300_0, hl300_0, hi300_0⟩ := at_L2 HR0.out x27_2 p300 q300
     cases e300
     replace hx300_0 := (HB.out.cell (World.block_lt_of_cell? w _ hx300_0)).trans hx300_0
     have HR300_0 := Qa.mk hi300_0
     have HC300_0 := Qa.mk hl300_0
     clear hi300_0 hl300_0
     replace p300 := eq_true p300
     replace q300 := eq_true q300
     go_wp2_with (((with_reducible refine gate_builtin (b := .append) (xs := #[.tmp 31, .tmp 32]) rfl ?_); at_builtin; refine Kd.R_append_rows (Kd.int .i64) (w0 := w) w.heap.size rfl (.tmp 31) (.tmp 32) 32 3 (.int .i64 0) 8 rfl Tryz.underlying32 info3 rfl (by decide) (by omega) u6 x6_2 (rd_L2 l0 x27_2) _ _ _ (fun _ => True) (fun _ => False) rfl rfl ?aO ?aR (fun _ _ h => h) (fun _ h => h.elim) ?aF ?aB ?aS ?aL ?_; (case aR => repeat ((exact (Kd.C_below HR300_0.out HB.out)))); (case aB => exact (by repeat ((with_reducible (exact HB.out))))); (case aF => exact (fun _ _ => trivial)); (case aO => exact (by (with_reducible repeat (fail)); exact HO_6.out)); (case aS => exact (Qq (by repeat ((with_reducible (exact HB.out)))))); (case aL => have := LMc11.out; omega); intro v302 w12 ho hb hg hat; rw [← Ny301.out] at ho; have n0_ := Qa.mk (hb); have n1_ := Qa.mk (ho); clear HB; clear HO_6; have HB := n0_; have HO303 := n1_; clear n0_ n1_; clear ho hb hg hat))
     (go_roundg k2)
     case measure => have := HK1.out; have := HK2.out; omega
     case rel => exact ⟨(y301), (wrap64 (x27_2 + 1)), (by rfl), H', ⟨by have := HK1.out; have := HK2.out; omega⟩, ⟨by (with_reducible repeat (fail)); exact HO303.out⟩, ⟨by repeat ((with_reducible (exact HB.out)))⟩⟩
mutual
def Qe1.j0 : Nat → List (List Int) → Int → Bool → Option (Int × Bool)
 | 0, _, _, _ => none
 | k + 1, x0, x1, x16 => if x16 = true then (some (0, false)) else ((slices_Concat_int_int.f k x0).bind fun t306 => (Qe1.l0 k x1 0 t306 (t306.length : Int) 0))
def Qe1.l0 : Nat → Int → Int → List Int → Int → Int → Option (Int × Bool)
 | 0, _, _, _, _, _ => none
 | k + 1, x1, x6, x18, x19, x20 => if x20 < x19 then (if 0 ≤ x20 then (if x20 < (x18.length : Int) then (if (rd x18 x20) ≤ x1 then (Qe1.l0 k x1 (wrap64 (x6 + 1)) x18 x19 (wrap64 (x20 + 1))) else (Qe1.l0 k x1 x6 x18 x19 (wrap64 (x20 + 1)))) else (none)) else (none)) else (some (x6, true))
end
def Qe1.f (k : Nat) (l0 : List (List Int)) (a1 : Int) : Option (Int × Bool) := (Qz.f l0).bind fun t304 => (if t304 = true then ((Qw1.f a1).bind fun t305 => (Qe1.j0 k l0 a1 (!t305))) else (Qe1.j0 k l0 a1 true))
set_option maxHeartbeats 8000000 in
set_option maxRecDepth 100000 in
theorem Qe1.calls (k : Nat) (A0 : Option Addr) (c0 : Nat) (l0 : List (List Int)) (a1 : Int) (r1 : Int) (r2 : Bool) (w : World) (hr0 : Kd.C (Kd.slice 3 (Kd.int .i64)) w A0 l0.length l0) (hc0 : l0.length ≤ c0) (h : Qe1.f k l0 a1 = some (r1, r2)) :
  Calls Tryz.prog 8 #[.slice A0 l0.length c0, .int .i64 a1] w fun e w' => e = .returned (.tuple #[.int .i64 r1, .bool r2]) ∧ Below w.heap.size w w' := by
 have HR0 := Qa.mk hr0
 have HC0 := Qa.mk hc0
 clear hr0 hc0
 have HB := Qa.mk (Below.refl w.heap.size w)
 have H : ((Qz.f l0).bind fun t304 => (if t304 = true then ((Qw1.f a1).bind fun t305 => (Qe1.j0 k l0 a1 (!t305))) else (Qe1.j0 k l0 a1 true))) = some (r1, r2) := h
 clear h
 have HC3 := Qa.mk H
 clear H
 go_enter Tryz.func8, Tryz.ntmps8
 go_upto_region 1 with (fail)
 go_cut [16] (fun v16 wc => ∃ (kq : Nat) (x16_2 : Bool), v16 = .bool x16_2 ∧ Qa (Qe1.j0 kq l0 a1 x16_2 = some (r1, r2)) ∧ Qa (kq ≤ k) ∧ Qa (Below w.heap.size w wc))
 case first =>
  have H := HC3.out
  clear HC3
  replace H := Option.bind_eq_some_iff.mp H
  obtain ⟨t304, A40, H⟩ := H
  replace H : (if t304 = true then ((Qw1.f a1).bind fun t305 => (Qe1.j0 k l0 a1 (!t305))) else (Qe1.j0 k l0 a1 true)) = some (r1, r2) := H
  have A4 := Qa.mk A40
  clear A40
  by_cases c5 : t304 = true
  rotate_left
  ·replace c5 := Bool.eq_false_iff.mpr c5
   subst c5
   have H1 : (Qe1.j0 k l0 a1 true) = some (r1, r2) := by rw [if_neg (show ¬ (false = true) by decide)] at H; exact H
   clear H
   have H := H1
   clear H1
   have H' := Qa.mk H
   clear H
   go_wp2_with (((with_reducible refine Qg (f := 38) rfl ?_); refine goesL_ (some 10) rfl rfl Tryz.func38 (by kernel_rfl) rfl #[.slice A0 l0.length c0] rfl (by (try simp only [List.map_toArray, List.map_cons, List.map_nil]); rfl) ?_; (with_reducible refine (Qz.calls _ _ l0 false _ ?side1 ?side2 A4.out).mono ?_); (case side1 => repeat ((exact (Kd.C_below HR0.out HB.out)))); (case side2 => exact HC0.out); rintro e w8 ⟨rfl, hb⟩; refine ⟨_, rfl, ?_⟩; have n0_ := Qa.mk (Qh (by repeat ((with_reducible (exact HB.out)))) hb); clear HB; have HB := n0_; clear n0_; (try clear hb); (try clear hb2); (try clear hk); (try clear hi)))
   go_meet
   case rel => exact ⟨_, (true), (by rfl), H', ⟨by omega⟩, ⟨by repeat ((with_reducible (exact HB.out)))⟩⟩
  subst c5
  have H1 : ((Qw1.f a1).bind fun t305 => (Qe1.j0 k l0 a1 (!t305))) = some (r1, r2) := by rw [if_pos rfl] at H; exact H
  clear H
  have H := H1
  clear H1
  replace H := Option.bind_eq_some_iff.mp H
  obtain ⟨t305, A60, H⟩ := H
  replace H : (Qe1.j0 k l0 a1 (!t305)) = some (r1, r2) := H
  have A6 := Qa.mk A60
  clear A60
  have H' := Qa.mk H
  clear H
  go_wp2_with (first | ((with_reducible refine Qg (f := 38) rfl ?_); refine goesL_ (some 10) rfl rfl Tryz.func38 (by kernel_rfl) rfl #[.slice A0 l0.length c0] rfl (by (try simp only [List.map_toArray, List.map_cons, List.map_nil]); rfl) ?_; (with_reducible refine (Qz.calls _ _ l0 true _ ?side1 ?side2 A4.out).mono ?_); (case side1 => repeat ((exact (Kd.C_below HR0.out HB.out)))); (case side2 => exact HC0.out); rintro e w7 ⟨rfl, hb⟩; refine ⟨_, rfl, ?_⟩; have n0_ := Qa.mk (Qh (by repeat ((with_reducible (exact HB.out)))) hb); clear HB; have HB := n0_; clear n0_; (try clear hb); (try clear hb2); (try clear hk); (try clear hi)) | (go_at_call 39; (with_reducible refine (Qw1.calls a1 t305 _ A6.out).mono ?_); rintro e w' ⟨rfl, ⟨nd, rfl⟩⟩))
  go_meet
  case rel => exact ⟨_, (!t305), (by rfl), H', ⟨by omega⟩, ⟨by repeat ((with_reducible first | exact HB.out | apply Qi))⟩⟩
 case rest =>
  clear HC3
  obtain ⟨kq, x16_2, rfl, HA, HJ2, HB⟩ := hcut
  cases kq with
  | zero => exact absurd HA.out (by simp [Qe1.j0])
  | succ kj2 =>
   have H := HA.out
   clear HA
   simp only [Qe1.j0] at H
   by_cases c9 : x16_2 = true
   ·subst c9
    have H1 : (some (0, false)) = some (r1, r2) := by rw [if_pos rfl] at H; exact H
    clear H
    have H := H1
    clear H1
    simp only [Option.some.injEq, Prod.mk.injEq] at H
    obtain ⟨rfl, rfl⟩ := H
    go_wp2
    go_ret2
    exact ⟨by rfl, by repeat ((with_reducible (exact HB.out)))⟩
   replace c9 := Bool.eq_false_iff.mpr c9
   subst c9
   have H1 : ((slices_Concat_int_int.f kj2 l0).bind fun t306 => (Qe1.l0 kj2 a1 0 t306 (t306.length : Int) 0)) = some (r1, r2) := by rw [if_neg (show ¬ (false = true) by decide)] at H; exact H
   clear H
   have H := H1
   clear H1
   replace H := Option.bind_eq_some_iff.mp H
   obtain ⟨t306, A100, H⟩ := H
   replace H : (Qe1.l0 kj2 a1 0 t306 (t306.length : Int) 0) = some (r1, r2) := H
   have A10 := Qa.mk A100
   clear A100
   have H' := Qa.mk H
   clear H
   go_wp2_with (((with_reducible refine Qg (f := 45) rfl ?_); refine goesL_ (some 18) rfl rfl Tryz.func45 (by kernel_rfl) rfl #[.slice A0 l0.length c0] rfl (by (try simp only [List.map_toArray, List.map_cons, List.map_nil]); rfl) ?_; (with_reducible refine (slices_Concat_int_int.calls kj2 _ _ l0 t306 _ ?side1 ?side2 A10.out).mono ?_); (case side1 => repeat ((exact (Kd.C_below HR0.out HB.out)))); (case side2 => exact HC0.out); rintro e w11 ⟨v307, rfl, ho0, hb⟩; refine ⟨_, rfl, ?_⟩; have n0_ := Qa.mk (Kd.R_lower ho0 (Qq (by repeat ((with_reducible (exact HB.out)))))); have n1_ := Qa.mk (Qh (by repeat ((with_reducible (exact HB.out)))) hb); clear HB; have HO308 := n0_; have HB := n1_; clear n0_ n1_; (try clear hb); (try clear hb2); (try clear hk); (try clear hi); (try clear ho0); obtain ⟨Ao12, co12, eo12⟩ := Kd.R_slice HO308.out; subst eo12))
   go_loopg [6, 20] kj2 (fun kq v6 v20 w' => ∃ (x6_2 : Int) (x20_2 : Int), v6 = .int .i64 x6_2 ∧ v20 = .int .i64 x20_2 ∧ Qa (Qe1.l0 kq a1 x6_2 t306 (t306.length : Int) x20_2 = some (r1, r2)) ∧ Qa (kq ≤ kj2) ∧ Qa (Kd.R (Kd.int .i64) 3 w' w.heap.size (fun _ => True) (.slice Ao12 t306.length co12) t306) ∧ Qa (Below w.heap.size w w'))
   case atStart => exact ⟨(0), (0), (by rfl), (by rfl), H', ⟨Nat.le_refl _⟩, ⟨by (with_reducible repeat (fail)); exact HO308.out⟩, ⟨by repeat ((with_reducible (exact HB.out)))⟩⟩
   case round =>
    clear H'
    obtain ⟨x6_2, x20_2, rfl, rfl, HA, HK2, HO_18, HB⟩ := hrel
    cases gk with
    | zero => exact absurd HA.out (by simp [Qe1.l0])
    | succ k2 =>
     have H := HA.out
     clear HA
     simp only [Qe1.l0] at H
     by_cases c13 : x20_2 < (t306.length : Int)
     rotate_left
     ·rw [if_neg c13] at H
      have c13b0 : decide (x20_2 < (t306.length : Int)) = false := decide_eq_false c13
      clear c13
      simp only [Option.some.injEq, Prod.mk.injEq] at H
      obtain ⟨rfl, rfl⟩ := H
      go_wp2
      go_ret2
      exact ⟨by rfl, by repeat ((with_reducible (exact HB.out)))⟩
     rw [if_pos c13] at H
     have c13b0 : decide (x20_2 < (t306.length : Int)) = true := decide_eq_true c13
     clear c13
     by_cases c14 : 0 ≤ x20_2
     rotate_left
     ·rw [if_neg c14] at H
      exact absurd H (by simp)
     rw [if_pos c14] at H
     have c14b0 : decide (0 ≤ x20_2) = true := decide_eq_true c14
     clear c14
     by_cases c15 : x20_2 < (t306.length : Int)
     rotate_left
     ·rw [if_neg c15] at H
      exact absurd H (by simp)
     rw [if_pos c15] at H
     have c15b0 : decide (x20_2 < (t306.length : Int)) = true := decide_eq_true c15
     clear c15
     by_cases c16 : (rd t306 x20_2) ≤ a1
     ·rw [if_pos c16] at H
      have c16b0 : decide ((rd t306 x20_2) ≤ a1) = true := decide_eq_true c16
      clear c16
      have H' := Qa.mk H
      clear H
      have p309 : 0 ≤ (x20_2 : Int) := of_decide_eq_true (by (with_reducible assumption))
      have q309 : x20_2 < (t306.length : Int) := of_decide_eq_true (by (with_reducible assumption))
      obtain ⟨ad309, e309, hx309_0⟩ := Kd.at_int (Kd.R_reads' HO_18.out).2.2 x20_2 p309 q309
      cases e309
      replace p309 := eq_true p309
      replace q309 := eq_true q309
      go_wp2
      (go_roundg k2)
      case measure => have := HJ2.out; have := HK2.out; omega
      case rel => exact ⟨(wrap64 (x6_2 + 1)), (wrap64 (x20_2 + 1)), (by rfl), (by rfl), H', ⟨by have := HJ2.out; have := HK2.out; omega⟩, ⟨by (with_reducible repeat (fail)); exact HO_18.out⟩, ⟨by repeat ((with_reducible (exact HB.out)))⟩⟩
     rw [if_neg c16] at H
     have c16b0 : decide ((rd t306 x20_2) ≤ a1) = false := decide_eq_false c16
     clear c16
     have H' := Qa.mk H
     clear H
     have p309 : 0 ≤ (x20_2 : Int) := of_decide_eq_true (by (with_reducible assumption))
     have q309 : x20_2 < (t306.length : Int) := of_decide_eq_true (by (with_reducible assumption))
     obtain ⟨ad309, e309, hx309_0⟩ := Kd.at_int (Kd.R_reads' HO_18.out).2.2 x20_2 p309 q309
     cases e309
     replace p309 := eq_true p309
     replace q309 := eq_true q309
     go_wp2
     (go_roundg k2)
     case measure => have := HJ2.out; have := HK2.out; omega
     case rel => exact ⟨(x6_2), (wrap64 (x20_2 + 1)), (by rfl), (by rfl), H', ⟨by have := HJ2.out; have := HK2.out; omega⟩, ⟨by (with_reducible repeat (fail)); exact HO_18.out⟩, ⟨by repeat ((with_reducible (exact HB.out)))⟩⟩
mutual
def Qb1.j0 : Nat → List (List Int) → Int → Bool → Option (Int × Bool)
 | 0, _, _, _ => none
 | k + 1, x0, x1, x16 => if x16 = true then (some (0, false)) else ((Qp1.f k x0).bind fun t312 => (Qb1.l0 k x1 0 t312 (t312.length : Int) 0))
def Qb1.l0 : Nat → Int → Int → List Int → Int → Int → Option (Int × Bool)
 | 0, _, _, _, _, _ => none
 | k + 1, x1, x6, x18, x19, x20 => if x20 < x19 then (if 0 ≤ x20 then (if x20 < (x18.length : Int) then (if (rd x18 x20) ≤ x1 then (Qb1.l0 k x1 (wrap64 (x6 + 1)) x18 x19 (wrap64 (x20 + 1))) else (Qb1.l0 k x1 x6 x18 x19 (wrap64 (x20 + 1)))) else (none)) else (none)) else (some (x6, true))
end
def Qb1.f (k : Nat) (l0 : List (List Int)) (a1 : Int) : Option (Int × Bool) := (Qr.f k l0).bind fun t310 => (if t310 = true then ((Qx1.f a1).bind fun t311 => (Qb1.j0 k l0 a1 (!t311))) else (Qb1.j0 k l0 a1 true))
set_option maxHeartbeats 8000000 in
set_option maxRecDepth 100000 in
theorem Qb1.calls (k : Nat) (A0 : Option Addr) (c0 : Nat) (l0 : List (List Int)) (a1 : Int) (r1 : Int) (r2 : Bool) (w : World) (hr0 : Kd.C (Kd.slice 3 (Kd.int .i64)) w A0 l0.length l0) (hc0 : l0.length ≤ c0) (h : Qb1.f k l0 a1 = some (r1, r2)) :
  Calls Tryz.prog 9 #[.slice A0 l0.length c0, .int .i64 a1] w fun e w' => e = .returned (.tuple #[.int .i64 r1, .bool r2]) ∧ Below w.heap.size w w' := by
 have HR0 := Qa.mk hr0
 have HC0 := Qa.mk hc0
 clear hr0 hc0
 have HB := Qa.mk (Below.refl w.heap.size w)
 have H : ((Qr.f k l0).bind fun t310 => (if t310 = true then ((Qx1.f a1).bind fun t311 => (Qb1.j0 k l0 a1 (!t311))) else (Qb1.j0 k l0 a1 true))) = some (r1, r2) := h
 clear h
 have HC3 := Qa.mk H
 clear H
 go_enter Tryz.func9, Tryz.ntmps9
 go_upto_region 1 with (fail)
 go_cut [16] (fun v16 wc => ∃ (kq : Nat) (x16_2 : Bool), v16 = .bool x16_2 ∧ Qa (Qb1.j0 kq l0 a1 x16_2 = some (r1, r2)) ∧ Qa (kq ≤ k) ∧ Qa (Below w.heap.size w wc))
 case first =>
  have H := HC3.out
  clear HC3
  replace H := Option.bind_eq_some_iff.mp H
  obtain ⟨t310, A40, H⟩ := H
  replace H : (if t310 = true then ((Qx1.f a1).bind fun t311 => (Qb1.j0 k l0 a1 (!t311))) else (Qb1.j0 k l0 a1 true)) = some (r1, r2) := H
  have A4 := Qa.mk A40
  clear A40
  by_cases c5 : t310 = true
  rotate_left
  ·replace c5 := Bool.eq_false_iff.mpr c5
   subst c5
   have H1 : (Qb1.j0 k l0 a1 true) = some (r1, r2) := by rw [if_neg (show ¬ (false = true) by decide)] at H; exact H
   clear H
   have H := H1
   clear H1
   have H' := Qa.mk H
   clear H
   go_wp2_with (((with_reducible refine Qg (f := 31) rfl ?_); refine goesL_ (some 10) rfl rfl Tryz.func31 (by kernel_rfl) rfl #[.slice A0 l0.length c0] rfl (by (try simp only [List.map_toArray, List.map_cons, List.map_nil]); rfl) ?_; (with_reducible refine (Qr.calls k _ _ l0 false _ ?side1 ?side2 A4.out).mono ?_); (case side1 => repeat ((exact (Kd.C_below HR0.out HB.out)))); (case side2 => exact HC0.out); rintro e w' ⟨rfl, ⟨nd, rfl⟩⟩; refine ⟨_, rfl, ?_⟩))
   go_meet
   case rel => exact ⟨_, (true), (by rfl), H', ⟨by omega⟩, ⟨by repeat ((with_reducible first | exact HB.out | apply Qi))⟩⟩
  subst c5
  have H1 : ((Qx1.f a1).bind fun t311 => (Qb1.j0 k l0 a1 (!t311))) = some (r1, r2) := by rw [if_pos rfl] at H; exact H
  clear H
  have H := H1
  clear H1
  replace H := Option.bind_eq_some_iff.mp H
  obtain ⟨t311, A60, H⟩ := H
  replace H : (Qb1.j0 k l0 a1 (!t311)) = some (r1, r2) := H
  have A6 := Qa.mk A60
  clear A60
  have H' := Qa.mk H
  clear H
  go_wp2_with (first | ((with_reducible refine Qg (f := 31) rfl ?_); refine goesL_ (some 10) rfl rfl Tryz.func31 (by kernel_rfl) rfl #[.slice A0 l0.length c0] rfl (by (try simp only [List.map_toArray, List.map_cons, List.map_nil]); rfl) ?_; (with_reducible refine (Qr.calls k _ _ l0 true _ ?side1 ?side2 A4.out).mono ?_); (case side1 => repeat ((exact (Kd.C_below HR0.out HB.out)))); (case side2 => exact HC0.out); rintro e w' ⟨rfl, ⟨nd, rfl⟩⟩; refine ⟨_, rfl, ?_⟩) | (go_at_call 42; (with_reducible refine (Qx1.calls a1 t311 _ A6.out).mono ?_); rintro e w' ⟨rfl, ⟨nd, rfl⟩⟩))
  go_meet
  case rel => exact ⟨_, (!t311), (by rfl), H', ⟨by omega⟩, ⟨by repeat ((with_reducible first | exact HB.out | apply Qi))⟩⟩
 case rest =>
  clear HC3
  obtain ⟨kq, x16_2, rfl, HA, HJ2, HB⟩ := hcut
  cases kq with
  | zero => exact absurd HA.out (by simp [Qb1.j0])
  | succ kj2 =>
   have H := HA.out
   clear HA
   simp only [Qb1.j0] at H
   by_cases c7 : x16_2 = true
   ·subst c7
    have H1 : (some (0, false)) = some (r1, r2) := by rw [if_pos rfl] at H; exact H
    clear H
    have H := H1
    clear H1
    simp only [Option.some.injEq, Prod.mk.injEq] at H
    obtain ⟨rfl, rfl⟩ := H
    go_wp2
    go_ret2
    exact ⟨by rfl, by repeat ((with_reducible (exact HB.out)))⟩
   replace c7 := Bool.eq_false_iff.mpr c7
   subst c7
   have H1 : ((Qp1.f kj2 l0).bind fun t312 => (Qb1.l0 kj2 a1 0 t312 (t312.length : Int) 0)) = some (r1, r2) := by rw [if_neg (show ¬ (false = true) by decide)] at H; exact H
   clear H
   have H := H1
   clear H1
   replace H := Option.bind_eq_some_iff.mp H
   obtain ⟨t312, A80, H⟩ := H
   replace H : (Qb1.l0 kj2 a1 0 t312 (t312.length : Int) 0) = some (r1, r2) := H
   have A8 := Qa.mk A80
   clear A80
   have H' := Qa.mk H
   clear H
   go_wp2_with (((with_reducible refine Qg (f := 35) rfl ?_); refine goesL_ (some 18) rfl rfl Tryz.func35 (by kernel_rfl) rfl #[.slice A0 l0.length c0] rfl (by (try simp only [List.map_toArray, List.map_cons, List.map_nil]); rfl) ?_; (with_reducible refine (Qp1.calls kj2 _ _ l0 t312 _ ?side1 ?side2 A8.out).mono ?_); (case side1 => repeat ((exact (Kd.C_below HR0.out HB.out)))); (case side2 => exact HC0.out); rintro e w9 ⟨v313, rfl, ho0, hb⟩; refine ⟨_, rfl, ?_⟩; have n0_ := Qa.mk (Kd.R_lower ho0 (Qq (by repeat ((with_reducible (exact HB.out)))))); have n1_ := Qa.mk (Qh (by repeat ((with_reducible (exact HB.out)))) hb); clear HB; have HO314 := n0_; have HB := n1_; clear n0_ n1_; (try clear hb); (try clear hb2); (try clear hk); (try clear hi); (try clear ho0); obtain ⟨Ao10, co10, eo10⟩ := Kd.R_slice HO314.out; subst eo10))
   go_loopg [6, 20] kj2 (fun kq v6 v20 w' => ∃ (x6_2 : Int) (x20_2 : Int), v6 = .int .i64 x6_2 ∧ v20 = .int .i64 x20_2 ∧ Qa (Qb1.l0 kq a1 x6_2 t312 (t312.length : Int) x20_2 = some (r1, r2)) ∧ Qa (kq ≤ kj2) ∧ Qa (Kd.R (Kd.int .i64) 3 w' w.heap.size (fun _ => True) (.slice Ao10 t312.length co10) t312) ∧ Qa (Below w.heap.size w w'))
   case atStart => exact ⟨(0), (0), (by rfl), (by rfl), H', ⟨Nat.le_refl _⟩, ⟨by (with_reducible repeat (fail)); exact HO314.out⟩, ⟨by repeat ((with_reducible (exact HB.out)))⟩⟩
   case round =>
    clear H'
    obtain ⟨x6_2, x20_2, rfl, rfl, HA, HK2, HO_18, HB⟩ := hrel
    cases gk with
    | zero => exact absurd HA.out (by simp [Qb1.l0])
    | succ k2 =>
     have H := HA.out
     clear HA
     simp only [Qb1.l0] at H
     by_cases c11 : x20_2 < (t312.length : Int)
     rotate_left
     ·rw [if_neg c11] at H
      have c11b0 : decide (x20_2 < (t312.length : Int)) = false := decide_eq_false c11
      clear c11
      simp only [Option.some.injEq, Prod.mk.injEq] at H
      obtain ⟨rfl, rfl⟩ := H
      go_wp2
      go_ret2
      exact ⟨by rfl, by repeat ((with_reducible (exact HB.out)))⟩
     rw [if_pos c11] at H
     have c11b0 : decide (x20_2 < (t312.length : Int)) = true := decide_eq_true c11
     clear c11
     by_cases c12 : 0 ≤ x20_2
     rotate_left
     ·rw [if_neg c12] at H
      exact absurd H (by simp)
     rw [if_pos c12] at H
     have c12b0 : decide (0 ≤ x20_2) = true := decide_eq_true c12
     clear c12
     by_cases c13 : x20_2 < (t312.length : Int)
     rotate_left
     ·rw [if_neg c13] at H
      exact absurd H (by simp)
     rw [if_pos c13] at H
     have c13b0 : decide (x20_2 < (t312.length : Int)) = true := decide_eq_true c13
     clear c13
     by_cases c14 : (rd t312 x20_2) ≤ a1
     ·rw [if_pos c14] at H
      have c14b0 : decide ((rd t312 x20_2) ≤ a1) = true := decide_eq_true c14
      clear c14
      have H' := Qa.mk H
      clear H
      have p315 : 0 ≤ (x20_2 : Int) := of_decide_eq_true (by (with_reducible assumption))
      have q315 : x20_2 < (t312.length : Int) := of_decide_eq_true (by (with_reducible assumption))
      obtain ⟨ad315, e315, hx315_0⟩ := Kd.at_int (Kd.R_reads' HO_18.out).2.2 x20_2 p315 q315
      cases e315
      replace p315 := eq_true p315
      replace q315 := eq_true q315
      go_wp2
      (go_roundg k2)
      case measure => have := HJ2.out; have := HK2.out; omega
      case rel => exact ⟨(wrap64 (x6_2 + 1)), (wrap64 (x20_2 + 1)), (by rfl), (by rfl), H', ⟨by have := HJ2.out; have := HK2.out; omega⟩, ⟨by (with_reducible repeat (fail)); exact HO_18.out⟩, ⟨by repeat ((with_reducible (exact HB.out)))⟩⟩
     rw [if_neg c14] at H
     have c14b0 : decide ((rd t312 x20_2) ≤ a1) = false := decide_eq_false c14
     clear c14
     have H' := Qa.mk H
     clear H
     have p315 : 0 ≤ (x20_2 : Int) := of_decide_eq_true (by (with_reducible assumption))
     have q315 : x20_2 < (t312.length : Int) := of_decide_eq_true (by (with_reducible assumption))
     obtain ⟨ad315, e315, hx315_0⟩ := Kd.at_int (Kd.R_reads' HO_18.out).2.2 x20_2 p315 q315
     cases e315
     replace p315 := eq_true p315
     replace q315 := eq_true q315
     go_wp2
     (go_roundg k2)
     case measure => have := HJ2.out; have := HK2.out; omega
     case rel => exact ⟨(x6_2), (wrap64 (x20_2 + 1)), (by rfl), (by rfl), H', ⟨by have := HJ2.out; have := HK2.out; omega⟩, ⟨by (with_reducible repeat (fail)); exact HO_18.out⟩, ⟨by repeat ((with_reducible (exact HB.out)))⟩⟩
def Qf2.l0 : Nat → List Int → List Int → Int → Int → Option (Bool)
 | 0, _, _, _, _ => none
 | k + 1, x0, x1, x12, x13 => if x13 < x12 then (if 0 ≤ x13 then (if x13 < (x0.length : Int) then (if x13 < (x1.length : Int) then (if (rd x0 x13) = (rd x1 x13) then (Qf2.l0 k x0 x1 x12 (wrap64 (x13 + 1))) else (some false)) else (none)) else (none)) else (none)) else (some true)
def Qf2.f (k : Nat) (l0 : List Int) (l1 : List Int) : Option (Bool) := if (l0.length : Int) = (l1.length : Int) then (Qf2.l0 k l0 l1 (l0.length : Int) 0) else (some false)
set_option maxHeartbeats 8000000 in
set_option maxRecDepth 100000 in
theorem Qf2.calls (k : Nat) (A0 : Option Addr) (c0 : Nat) (l0 : List Int) (A1 : Option Addr) (c1 : Nat) (l1 : List Int) (r : Bool) (w : World) (hr0 : Kd.C (Kd.int .i64) w A0 l0.length l0) (hc0 : l0.length ≤ c0) (hr1 : Kd.C (Kd.int .i64) w A1 l1.length l1) (hc1 : l1.length ≤ c1) (h : Qf2.f k l0 l1 = some r) :
  Calls Tryz.prog 11 #[.slice A0 l0.length c0, .slice A1 l1.length c1] w fun e w' => e = .returned (.bool r) ∧ Drawn0 w w' := by
 have HR0 := Qa.mk hr0
 have HC0 := Qa.mk hc0
 clear hr0 hc0
 have HR1 := Qa.mk hr1
 have HC1 := Qa.mk hc1
 clear hr1 hc1
 have H : (if (l0.length : Int) = (l1.length : Int) then (Qf2.l0 k l0 l1 (l0.length : Int) 0) else (some false)) = some r := h
 clear h
 by_cases c3 : (l0.length : Int) = (l1.length : Int)
 rotate_left
 ·rw [if_neg c3] at H
  have c3b0 : ((l0.length : Int) == (l1.length : Int)) = false := beq_eq_false_iff_ne.mpr c3
  have c3b1 : ((l0.length : Int) != (l1.length : Int)) = true := bne_iff_ne.mpr c3
  have c3b2 : (l0.length == l1.length) = false := by (simp at c3 ⊢; omega)
  obtain rfl := Option.some.inj H
  go_enter Tryz.func11, Tryz.ntmps11
  go_wp2
  repeat (go_quiet (fail); try go_wp2)
  go_ret
  exact ⟨by rfl, by repeat ((exact Drawn0.refl _))⟩
 rw [if_pos c3] at H
 have c3b0 : ((l0.length : Int) == (l1.length : Int)) = true := beq_iff_eq.mpr c3
 have c3b1 : ((l0.length : Int) != (l1.length : Int)) = false := bne_eq_false_iff_eq.mpr c3
 have c3b2 : (l0.length == l1.length) = true := by (simp at c3 ⊢; omega)
 clear c3
 have H' := Qa.mk H
 clear H
 go_enter Tryz.func11, Tryz.ntmps11
 go_wp2
 repeat (go_quiet (fail); try go_wp2)
 go_loopg [13] k (fun kq v13 w' => ∃ (x13_1 : Int), v13 = .int .i64 x13_1 ∧ Qa (Qf2.l0 kq l0 l1 (l0.length : Int) x13_1 = some r) ∧ Qa (kq ≤ k) ∧ Drawn0 w w')
 case atStart => exact ⟨(0), (by rfl), H', ⟨Nat.le_refl _⟩, by repeat ((exact Drawn0.refl _))⟩
 case round =>
  clear H' c3b0 c3b1 c3b2
  obtain ⟨x13_1, rfl, HA, HK1, ⟨m1, rfl⟩⟩ := hrel
  cases gk with
  | zero => exact absurd HA.out (by simp [Qf2.l0])
  | succ k1 =>
   have H := HA.out
   clear HA
   simp only [Qf2.l0] at H
   by_cases c4 : x13_1 < (l0.length : Int)
   rotate_left
   ·rw [if_neg c4] at H
    have c4b0 : decide (x13_1 < (l0.length : Int)) = false := decide_eq_false c4
    clear c4
    obtain rfl := Option.some.inj H
    go_wp2
    repeat (go_quiet (fail); try go_wp2)
    go_ret
    exact ⟨by rfl, by repeat (first | exact Drawn0.refl _ | apply Drawn0.step)⟩
   rw [if_pos c4] at H
   have c4b0 : decide (x13_1 < (l0.length : Int)) = true := decide_eq_true c4
   clear c4
   by_cases c5 : 0 ≤ x13_1
   rotate_left
   ·rw [if_neg c5] at H
    exact absurd H (by simp)
   rw [if_pos c5] at H
   have c5b0 : decide (0 ≤ x13_1) = true := decide_eq_true c5
   clear c5
   by_cases c6 : x13_1 < (l0.length : Int)
   rotate_left
   ·rw [if_neg c6] at H
    exact absurd H (by simp)
   rw [if_pos c6] at H
   have c6b0 : decide (x13_1 < (l0.length : Int)) = true := decide_eq_true c6
   clear c6
   by_cases c7 : x13_1 < (l1.length : Int)
   rotate_left
   ·rw [if_neg c7] at H
    exact absurd H (by simp)
   rw [if_pos c7] at H
   have c7b0 : decide (x13_1 < (l1.length : Int)) = true := decide_eq_true c7
   clear c7
   by_cases c8 : (rd l0 x13_1) = (rd l1 x13_1)
   rotate_left
   ·rw [if_neg c8] at H
    have c8b0 : ((rd l0 x13_1) == (rd l1 x13_1)) = false := beq_eq_false_iff_ne.mpr c8
    have c8b1 : ((rd l0 x13_1) != (rd l1 x13_1)) = true := bne_iff_ne.mpr c8
    obtain rfl := Option.some.inj H
    have p316 : 0 ≤ (x13_1 : Int) := of_decide_eq_true (by (with_reducible assumption))
    have q316 : x13_1 < (l0.length : Int) := of_decide_eq_true (by (with_reducible assumption))
    obtain ⟨ad316, e316, hx316_0⟩ := Kd.at_int HR0.out x13_1 p316 q316
    cases e316
    replace p316 := eq_true p316
    replace q316 := eq_true q316
    have p317 : 0 ≤ (x13_1 : Int) := of_decide_eq_true (by (with_reducible assumption))
    have q317 : x13_1 < (l1.length : Int) := of_decide_eq_true (by (with_reducible assumption))
    obtain ⟨ad317, e317, hx317_0⟩ := Kd.at_int HR1.out x13_1 p317 q317
    cases e317
    replace p317 := eq_true p317
    replace q317 := eq_true q317
    go_wp2
    repeat (go_quiet (fail); try go_wp2)
    go_ret
    exact ⟨by rfl, by repeat (first | exact Drawn0.refl _ | apply Drawn0.step)⟩
   rw [if_pos c8] at H
   have c8b0 : ((rd l0 x13_1) == (rd l1 x13_1)) = true := beq_iff_eq.mpr c8
   have c8b1 : ((rd l0 x13_1) != (rd l1 x13_1)) = false := bne_eq_false_iff_eq.mpr c8
   clear c8
   have H' := Qa.mk H
   clear H
   have p316 : 0 ≤ (x13_1 : Int) := of_decide_eq_true (by (with_reducible assumption))
   have q316 : x13_1 < (l0.length : Int) := of_decide_eq_true (by (with_reducible assumption))
   obtain ⟨ad316, e316, hx316_0⟩ := Kd.at_int HR0.out x13_1 p316 q316
   cases e316
   replace p316 := eq_true p316
   replace q316 := eq_true q316
   have p317 : 0 ≤ (x13_1 : Int) := of_decide_eq_true (by (with_reducible assumption))
   have q317 : x13_1 < (l1.length : Int) := of_decide_eq_true (by (with_reducible assumption))
   obtain ⟨ad317, e317, hx317_0⟩ := Kd.at_int HR1.out x13_1 p317 q317
   cases e317
   replace p317 := eq_true p317
   replace q317 := eq_true q317
   go_wp2
   repeat (go_quiet (fail); try go_wp2)
   (go_roundg k1)
   case measure => have := HK1.out; omega
   case rel => exact ⟨(wrap64 (x13_1 + 1)), (by rfl), H', ⟨by have := HK1.out; omega⟩, by repeat (first | exact Drawn0.refl _ | apply Drawn0.step)⟩
end Go.Proofs.YtohhlkehglahhaaGreatDoor.A
