-- Printed: Lean checks it.
import Derived.Test.YtohhlkehglahhaaGreatDoorAx0
import Derived.Test.YtohhlkehglahhaaGreatDoorAx2
import Derived.Test.YtohhlkehglahhaaGreatDoorAx5
import Derived.Test.YtohhlkehglahhaaGreatDoorGiv
namespace Go.Proofs.YtohhlkehglahhaaGreatDoor.A
open Go.RowKit Go.Proofs.YtohhlkehglahhaaGreatDoorW.PrintWords Go.Proofs.YtohhlkehglahhaaGreatDoorW.PrintLast Go.Proofs.YtohhlkehglahhaaGreatDoorW.PrintMore Go.Proofs.YtohhlkehglahhaaGreatDoor.X
attribute [local go_sem] max2_int min2_int max_two min_two max_three min_three max_four min_four
set_option linter.unusedVariables false
set_option linter.unusedSimpArgs false
mutual
def Qf.j0 : Nat → List (List Int) → Int → Bool → Option ((List (List Int)) × Bool)
 | 0, _, _, _ => none
 | k + 1, x0, x1, x28 => if x28 = true then (some (([] : List (List Int)), false)) else (if 0 < (x0.length : Int) then (Qf.l0 k x0 x1 (([] : List (List Int))) 0 (wrap64 (((rd_L2 x0 0).length : Int) - 1))) else (none))
def Qf.l0 : Nat → List (List Int) → Int → List (List Int) → Int → Int → Option ((List (List Int)) × Bool)
 | 0, _, _, _, _, _ => none
 | k + 1, x0, x1, x6, x7, x8 => if x7 < (x0.length : Int) then (Qf.j2 k x0 x1 x6 x7 x8 (decide (x8 ≥ 0))) else (Qf.j2 k x0 x1 x6 x7 x8 false)
def Qf.j2 : Nat → List (List Int) → Int → List (List Int) → Int → Int → Bool → Option ((List (List Int)) × Bool)
 | 0, _, _, _, _, _, _ => none
 | k + 1, x0, x1, x6, x7, x8, x42 => if x42 = true then (if x6.length < 5864062014805 then ((some (x6 ++ [(([x7, x8] : List Int))] : List (List Int))).bind fun y271 => (if 0 ≤ x7 then (if x7 < (x0.length : Int) then (if 0 ≤ x8 then (if x8 < ((rd_L2 x0 x7).length : Int) then (if (rd (rd_L2 x0 x7) x8) = x1 then (some (y271, true)) else (if (rd (rd_L2 x0 x7) x8) > x1 then (Qf.l0 k x0 x1 y271 x7 (wrap64 (x8 - 1))) else (Qf.l0 k x0 x1 y271 (wrap64 (x7 + 1)) x8))) else (none)) else (none)) else (none)) else (none))) else (none)) else (some (x6, true))
end
def Qf.f (k : Nat) (l0 : List (List Int)) (a1 : Int) : Option ((List (List Int)) × Bool) := (Qz.f l0).bind fun t257 => (if t257 = true then ((Qw1.f a1).bind fun t258 => (if t258 = true then ((Qn1.f k l0).bind fun t259 => (if t259 = true then ((Qv.f k l0).bind fun t260 => ((Qn1.f k t260).bind fun t263 => (Qf.j0 k l0 a1 (!t263)))) else (Qf.j0 k l0 a1 true))) else (Qf.j0 k l0 a1 true))) else (Qf.j0 k l0 a1 true))
set_option maxHeartbeats 8000000 in
set_option maxRecDepth 100000 in
theorem Qf.calls (k : Nat) (A0 : Option Addr) (c0 : Nat) (l0 : List (List Int)) (a1 : Int) (r1 : List (List Int)) (r2 : Bool) (w : World) (hr0 : Kd.C (Kd.slice 3 (Kd.int .i64)) w A0 l0.length l0) (hc0 : l0.length ≤ c0) (h : Qf.f k l0 a1 = some (r1, r2)) :
  Calls Tryz.prog 6 #[.slice A0 l0.length c0, .int .i64 a1] w fun e w' => ∃ v0_ : Value, e = .returned (.tuple #[v0_, .bool r2]) ∧ Kd.S (Kd.slice 3 (Kd.int .i64)) 32 w' w.heap.size (fun _ => True) v0_ r1 ∧ Below w.heap.size w w' := by
 have HR0 := Qa.mk hr0
 have HC0 := Qa.mk hc0
 clear hr0 hc0
 have HB := Qa.mk (Below.refl w.heap.size w)
 have H : ((Qz.f l0).bind fun t257 => (if t257 = true then ((Qw1.f a1).bind fun t258 => (if t258 = true then ((Qn1.f k l0).bind fun t259 => (if t259 = true then ((Qv.f k l0).bind fun t260 => ((Qn1.f k t260).bind fun t263 => (Qf.j0 k l0 a1 (!t263)))) else (Qf.j0 k l0 a1 true))) else (Qf.j0 k l0 a1 true))) else (Qf.j0 k l0 a1 true))) = some (r1, r2) := h
 clear h
 have HC3 := Qa.mk H
 clear H
 go_enter Tryz.func6, Tryz.ntmps6
 go_upto_region 1 with (fail)
 repeat (go_quiet (fail); go_upto_region 1 with (fail))
 go_cut [28] (fun v28 wc => ∃ (kq : Nat) (x28_2 : Bool), v28 = .bool x28_2 ∧ Qa (Qf.j0 kq l0 a1 x28_2 = some (r1, r2)) ∧ Qa (kq ≤ k) ∧ Qa (Below w.heap.size w wc))
 case first =>
  have H := HC3.out
  clear HC3
  replace H := Option.bind_eq_some_iff.mp H
  obtain ⟨t257, A40, H⟩ := H
  replace H : (if t257 = true then ((Qw1.f a1).bind fun t258 => (if t258 = true then ((Qn1.f k l0).bind fun t259 => (if t259 = true then ((Qv.f k l0).bind fun t260 => ((Qn1.f k t260).bind fun t263 => (Qf.j0 k l0 a1 (!t263)))) else (Qf.j0 k l0 a1 true))) else (Qf.j0 k l0 a1 true))) else (Qf.j0 k l0 a1 true)) = some (r1, r2) := H
  have A4 := Qa.mk A40
  clear A40
  by_cases c5 : t257 = true
  rotate_left
  ·replace c5 := Bool.eq_false_iff.mpr c5
   subst c5
   have H1 : (Qf.j0 k l0 a1 true) = some (r1, r2) := by rw [if_neg (show ¬ (false = true) by decide)] at H; exact H
   clear H
   have H := H1
   clear H1
   have H' := Qa.mk H
   clear H
   go_wp2_with ((go_at_call 38; (with_reducible refine (Qz.calls _ _ l0 false _ ?side1 ?side2 A4.out).mono ?_); (case side1 => repeat ((exact (Kd.C_below HR0.out HB.out)))); (case side2 => exact HC0.out); rintro e w17 ⟨rfl, hb⟩; have n0_ := Qa.mk (Qh (by repeat ((with_reducible (exact HB.out)))) hb); clear HB; have HB := n0_; clear n0_; (try clear hb); (try clear hb2); (try clear hk); (try clear hi)))
   repeat (go_quiet (fail); try go_wp2_with (fail))
   go_meet
   case rel => exact ⟨_, (true), (by rfl), H', ⟨by omega⟩, ⟨by repeat ((with_reducible (exact HB.out)))⟩⟩
  subst c5
  have H1 : ((Qw1.f a1).bind fun t258 => (if t258 = true then ((Qn1.f k l0).bind fun t259 => (if t259 = true then ((Qv.f k l0).bind fun t260 => ((Qn1.f k t260).bind fun t263 => (Qf.j0 k l0 a1 (!t263)))) else (Qf.j0 k l0 a1 true))) else (Qf.j0 k l0 a1 true))) = some (r1, r2) := by rw [if_pos rfl] at H; exact H
  clear H
  have H := H1
  clear H1
  replace H := Option.bind_eq_some_iff.mp H
  obtain ⟨t258, A60, H⟩ := H
  replace H : (if t258 = true then ((Qn1.f k l0).bind fun t259 => (if t259 = true then ((Qv.f k l0).bind fun t260 => ((Qn1.f k t260).bind fun t263 => (Qf.j0 k l0 a1 (!t263)))) else (Qf.j0 k l0 a1 true))) else (Qf.j0 k l0 a1 true)) = some (r1, r2) := H
  have A6 := Qa.mk A60
  clear A60
  by_cases c7 : t258 = true
  rotate_left
  ·replace c7 := Bool.eq_false_iff.mpr c7
   subst c7
   have H1 : (Qf.j0 k l0 a1 true) = some (r1, r2) := by rw [if_neg (show ¬ (false = true) by decide)] at H; exact H
   clear H
   have H := H1
   clear H1
   have H' := Qa.mk H
   clear H
   go_wp2_with (first | (go_at_call 38; (with_reducible refine (Qz.calls _ _ l0 true _ ?side1 ?side2 A4.out).mono ?_); (case side1 => repeat ((exact (Kd.C_below HR0.out HB.out)))); (case side2 => exact HC0.out); rintro e w16 ⟨rfl, hb⟩; have n0_ := Qa.mk (Qh (by repeat ((with_reducible (exact HB.out)))) hb); clear HB; have HB := n0_; clear n0_; (try clear hb); (try clear hb2); (try clear hk); (try clear hi)) | (go_at_call 39; (with_reducible refine (Qw1.calls a1 false _ A6.out).mono ?_); rintro e w' ⟨rfl, ⟨nd, rfl⟩⟩; (try fail)))
   repeat (go_quiet (fail); try go_wp2_with (fail))
   go_meet
   case rel => exact ⟨_, (true), (by rfl), H', ⟨by omega⟩, ⟨by repeat ((with_reducible first | exact HB.out | apply Qi))⟩⟩
  subst c7
  have H1 : ((Qn1.f k l0).bind fun t259 => (if t259 = true then ((Qv.f k l0).bind fun t260 => ((Qn1.f k t260).bind fun t263 => (Qf.j0 k l0 a1 (!t263)))) else (Qf.j0 k l0 a1 true))) = some (r1, r2) := by rw [if_pos rfl] at H; exact H
  clear H
  have H := H1
  clear H1
  replace H := Option.bind_eq_some_iff.mp H
  obtain ⟨t259, A80, H⟩ := H
  replace H : (if t259 = true then ((Qv.f k l0).bind fun t260 => ((Qn1.f k t260).bind fun t263 => (Qf.j0 k l0 a1 (!t263)))) else (Qf.j0 k l0 a1 true)) = some (r1, r2) := H
  have A8 := Qa.mk A80
  clear A80
  by_cases c9 : t259 = true
  rotate_left
  ·replace c9 := Bool.eq_false_iff.mpr c9
   subst c9
   have H1 : (Qf.j0 k l0 a1 true) = some (r1, r2) := by rw [if_neg (show ¬ (false = true) by decide)] at H; exact H
   clear H
   have H := H1
   clear H1
   have H' := Qa.mk H
   clear H
   go_wp2_with (first | (go_at_call 38; (with_reducible refine (Qz.calls _ _ l0 true _ ?side1 ?side2 A4.out).mono ?_); (case side1 => repeat ((exact (Kd.C_below HR0.out HB.out)))); (case side2 => exact HC0.out); rintro e w15 ⟨rfl, hb⟩; have n0_ := Qa.mk (Qh (by repeat ((with_reducible (exact HB.out)))) hb); clear HB; have HB := n0_; clear n0_; (try clear hb); (try clear hb2); (try clear hk); (try clear hi)) | (go_at_call 39; (with_reducible refine (Qw1.calls a1 true _ A6.out).mono ?_); rintro e w' ⟨rfl, ⟨nd, rfl⟩⟩; (try fail)) | (go_at_call 40; (with_reducible refine (Qn1.calls k _ _ l0 false _ ?side1 ?side2 A8.out).mono ?_); (case side1 => repeat ((exact (Kd.C_below HR0.out (by repeat ((with_reducible first | exact HB.out | apply Qi))))))); (case side2 => exact HC0.out); rintro e w' ⟨rfl, ⟨nd, rfl⟩⟩; (try fail)))
   repeat (go_quiet (fail); try go_wp2_with (fail))
   go_meet
   case rel => exact ⟨_, (true), (by rfl), H', ⟨by omega⟩, ⟨by repeat ((with_reducible first | exact HB.out | apply Qi))⟩⟩
  subst c9
  have H1 : ((Qv.f k l0).bind fun t260 => ((Qn1.f k t260).bind fun t263 => (Qf.j0 k l0 a1 (!t263)))) = some (r1, r2) := by rw [if_pos rfl] at H; exact H
  clear H
  have H := H1
  clear H1
  replace H := Option.bind_eq_some_iff.mp H
  obtain ⟨t260, A100, H⟩ := H
  replace H : ((Qn1.f k t260).bind fun t263 => (Qf.j0 k l0 a1 (!t263))) = some (r1, r2) := H
  have A10 := Qa.mk A100
  clear A100
  replace H := Option.bind_eq_some_iff.mp H
  obtain ⟨t263, A110, H⟩ := H
  replace H : (Qf.j0 k l0 a1 (!t263)) = some (r1, r2) := H
  have A11 := Qa.mk A110
  clear A110
  have H' := Qa.mk H
  clear H
  go_wp2_with (first | (go_at_call 38; (with_reducible refine (Qz.calls _ _ l0 true _ ?side1 ?side2 A4.out).mono ?_); (case side1 => repeat ((exact (Kd.C_below HR0.out HB.out)))); (case side2 => exact HC0.out); rintro e w12 ⟨rfl, hb⟩; have n0_ := Qa.mk (Qh (by repeat ((with_reducible (exact HB.out)))) hb); clear HB; have HB := n0_; clear n0_; (try clear hb); (try clear hb2); (try clear hk); (try clear hi)) | (go_at_call 39; (with_reducible refine (Qw1.calls a1 true _ A6.out).mono ?_); rintro e w' ⟨rfl, ⟨nd, rfl⟩⟩; (try fail)) | (go_at_call 40; (with_reducible refine (Qn1.calls k _ _ l0 true _ ?side1 ?side2 A8.out).mono ?_); (case side1 => repeat ((exact (Kd.C_below HR0.out (by repeat ((with_reducible first | exact HB.out | apply Qi))))))); (case side2 => exact HC0.out); rintro e w' ⟨rfl, ⟨nd, rfl⟩⟩; (try fail)) | (go_at_call 41; (with_reducible refine (Qv.calls k _ _ l0 t260 _ ?side1 ?side2 A10.out).mono ?_); (case side1 => repeat ((exact (Kd.C_below HR0.out (by repeat ((with_reducible first | exact HB.out | apply Qi))))))); (case side2 => exact HC0.out); rintro e w13 ⟨v261, rfl, ho0, hb⟩; have n0_ := Qa.mk (Kd.S_lower ho0 (Qq (by repeat ((with_reducible first | exact HB.out | apply Qi))))); have n1_ := Qa.mk (Qh (by repeat ((with_reducible first | exact HB.out | apply Qi))) hb); clear HB; have HO262 := n0_; have HB := n1_; clear n0_ n1_; (try clear hb); (try clear hb2); (try clear hk); (try clear hi); (try clear ho0); obtain ⟨Ao14, co14, eo14⟩ := Kd.S_slice HO262.out; subst eo14) | (go_at_call 40; (with_reducible refine (Qn1.calls k _ _ t260 t263 _ ?side1 ?side2 A11.out).mono ?_); (case side1 => repeat ((exact (Kd.S_reads' HO262.out).2.2))); (case side2 => exact (Kd.S_reads' HO262.out).2.1); rintro e w' ⟨rfl, ⟨nd, rfl⟩⟩; (try fail)))
  repeat (go_quiet (fail); try go_wp2_with (fail))
  go_meet
  case rel => exact ⟨_, (!t263), (by rfl), H', ⟨by omega⟩, ⟨by repeat ((with_reducible first | exact HB.out | apply Qi))⟩⟩
 case rest =>
  clear HC3
  obtain ⟨kq, x28_2, rfl, HA, HJ2, HB⟩ := hcut
  cases kq with
  | zero => exact absurd HA.out (by simp [Qf.j0])
  | succ kj2 =>
   have H := HA.out
   clear HA
   simp only [Qf.j0] at H
   by_cases c18 : x28_2 = true
   ·subst c18
    have H1 : (some (([] : List (List Int)), false)) = some (r1, r2) := by rw [if_pos rfl] at H; exact H
    clear H
    have H := H1
    clear H1
    simp only [Option.some.injEq, Prod.mk.injEq] at H
    obtain ⟨rfl, rfl⟩ := H
    go_wp2
    repeat (go_quiet (fail); try go_wp2)
    go_ret2
    exact ⟨_, by rfl, by (exact Kd.S_nil _ _ _ _ _), by repeat ((with_reducible (exact HB.out)))⟩
   replace c18 := Bool.eq_false_iff.mpr c18
   subst c18
   have H1 : (if 0 < (l0.length : Int) then (Qf.l0 kj2 l0 a1 (([] : List (List Int))) 0 (wrap64 (((rd_L2 l0 0).length : Int) - 1))) else (none)) = some (r1, r2) := by rw [if_neg (show ¬ (false = true) by decide)] at H; exact H
   clear H
   have H := H1
   clear H1
   obtain ⟨y264, hy264⟩ : ∃ y_ : List (List Int), y_ = (([] : List (List Int))) := ⟨_, rfl⟩
   replace H : (if 0 < (l0.length : Int) then (Qf.l0 kj2 l0 a1 y264 0 (wrap64 (((rd_L2 l0 0).length : Int) - 1))) else (none)) = some (r1, r2) := by (rw [hy264]; with_reducible exact H)
   have Ny264 := Qa.mk hy264
   clear hy264
   by_cases c19 : 0 < (l0.length : Int)
   rotate_left
   ·rw [if_neg c19] at H
    exact absurd H (by simp)
   rw [if_pos c19] at H
   have c19b0 : decide (0 < (l0.length : Int)) = true := decide_eq_true c19
   have c19b1 : decide (0 < l0.length) = true := decide_eq_true (by omega)
   clear c19
   have H' := Qa.mk H
   clear H
   go_wp2_with (((with_reducible refine gate_dst (N := 29) rfl ?_); refine Kd.S_lit (Kd.slice 3 (Kd.int .i64)) _ 32 ?hg (N := 29) ?hd (xs := ([] : List (List Int))) (inner := []) (ok := fun _ => True) (okp := fun _ => True) ?hr ?hp (fun _ hk => hk) trivial (Below.refl _ _) (Nat.le_refl _) (by simp) ?_; (case hd => rfl); (case hg => rfl); (case hr => (go_simp; done)); (case hp => exact (Reps.none _ _)); intro v265 w20 ho21 hb hg_ hnew_; clear hg_ hnew_; ((rw [← Ny264.out] at ho21)); have n0_ := Qa.mk (Kd.S_lower ho21 (Qq (by repeat ((with_reducible (exact HB.out)))))); have n1_ := Qa.mk (Qh (by repeat ((with_reducible (exact HB.out)))) hb); clear HB; have HO266 := n0_; have HB := n1_; clear n0_ n1_; clear hb ho21; have p267 : 0 ≤ (0 : Int) := (by omega); have q267 : 0 < (l0.length : Int) := of_decide_eq_true (by (with_reducible assumption)); obtain ⟨ad267, A267_0, c267_0, e267, hx267_0, hl267_0, hi267_0⟩ := at_L2 HR0.out 0 p267 q267; cases e267; have qi267 : (0 < l0.length) = True := eq_true (by omega); (try rw [show ((0 : Int)).toNat = 0 from rfl] at hx267_0); (try rw [Addr.add_zero'] at hx267_0); replace hx267_0 := (HB.out.cell (World.block_lt_of_cell? w _ hx267_0)).trans hx267_0; have HR267_0 := Qa.mk hi267_0; have HC267_0 := Qa.mk hl267_0; clear hi267_0 hl267_0; replace p267 := eq_true p267; replace q267 := eq_true q267))
   repeat (go_quiet (fail); try go_wp2_with (fail))
   go_loopg [6, 7, 8] kj2 (fun kq v6 v7 v8 w' => ∃ (x6_2 : List (List Int)) (x7_2 : Int) (x8_2 : Int), v7 = .int .i64 x7_2 ∧ v8 = .int .i64 x8_2 ∧ Qa (Qf.l0 kq l0 a1 x6_2 x7_2 x8_2 = some (r1, r2)) ∧ Qa (kq ≤ kj2) ∧ Qa (Kd.S (Kd.slice 3 (Kd.int .i64)) 32 w' w.heap.size (fun _ => True) v6 x6_2) ∧ Qa (Below w.heap.size w w'))
   case atStart => exact ⟨(y264), (0), (wrap64 (((rd_L2 l0 0).length : Int) - 1)), (by rfl), (by rfl), H', ⟨Nat.le_refl _⟩, ⟨by (with_reducible repeat ((apply Kd.S_drewN))); exact HO266.out⟩, ⟨by repeat ((with_reducible first | exact HB.out | apply Qi))⟩⟩
   case round =>
    clear H' c19b0 c19b1 hx267_0 p267 q267
    obtain ⟨x6_2, x7_2, x8_2, rfl, rfl, HA, HK2, HO_6, HB⟩ := hrel
    cases gk with
    | zero => exact absurd HA.out (by simp [Qf.l0])
    | succ k2 =>
     have H := HA.out
     clear HA
     simp only [Qf.l0] at H
     have HC22 := Qa.mk H
     clear H
     go_upto_region 5 with (fail)
     repeat (go_quiet (fail); go_upto_region 5 with (fail))
     go_cut [42] (fun v42 wc => ∃ (kq : Nat) (x42_21 : Bool), v42 = .bool x42_21 ∧ Qa (Qf.j2 kq l0 a1 x6_2 x7_2 x8_2 x42_21 = some (r1, r2)) ∧ Qa (kq ≤ k2) ∧ Qa (Kd.S (Kd.slice 3 (Kd.int .i64)) 32 wc w.heap.size (fun _ => True) u6 x6_2) ∧ Qa (Below w.heap.size w wc))
     case first =>
      have H := HC22.out
      clear HC22
      by_cases c23 : x7_2 < (l0.length : Int)
      ·rw [if_pos c23] at H
       have c23b0 : decide (x7_2 < (l0.length : Int)) = true := decide_eq_true c23
       clear c23
       (skip)
       have H' := Qa.mk H
       clear H
       go_wp2
       repeat (go_quiet (fail); try go_wp2)
       go_meet
       case rel => exact ⟨_, (decide (x8_2 ≥ 0)), (by rfl), H', ⟨by have := HJ2.out; have := HK2.out; omega⟩, ⟨by (with_reducible repeat (fail)); exact HO_6.out⟩, ⟨by repeat ((with_reducible (exact HB.out)))⟩⟩
      rw [if_neg c23] at H
      have c23b0 : decide (x7_2 < (l0.length : Int)) = false := decide_eq_false c23
      clear c23
      (skip)
      have H' := Qa.mk H
      clear H
      go_wp2
      repeat (go_quiet (fail); try go_wp2)
      go_meet
      case rel => exact ⟨_, (false), (by rfl), H', ⟨by have := HJ2.out; have := HK2.out; omega⟩, ⟨by (with_reducible repeat (fail)); exact HO_6.out⟩, ⟨by repeat ((with_reducible (exact HB.out)))⟩⟩
     case rest =>
      clear HC22
      obtain ⟨kq, x42_21, rfl, HA, HJ21, HO_6, HB⟩ := hcut
      cases kq with
      | zero => exact absurd HA.out (by simp [Qf.j2])
      | succ kj21 =>
       have H := HA.out
       clear HA
       simp only [Qf.j2] at H
       by_cases c24 : x42_21 = true
       rotate_left
       ·replace c24 := Bool.eq_false_iff.mpr c24
        subst c24
        have H1 : (some (x6_2, true)) = some (r1, r2) := by rw [if_neg (show ¬ (false = true) by decide)] at H; exact H
        clear H
        have H := H1
        clear H1
        simp only [Option.some.injEq, Prod.mk.injEq] at H
        obtain ⟨rfl, rfl⟩ := H
        go_wp2
        repeat (go_quiet (fail); try go_wp2)
        go_ret2
        exact ⟨_, by rfl, by (with_reducible repeat (fail)); exact HO_6.out, by repeat ((with_reducible (exact HB.out)))⟩
       subst c24
       have H1 : (if x6_2.length < 5864062014805 then ((some (x6_2 ++ [(([x7_2, x8_2] : List Int))] : List (List Int))).bind fun y271 => (if 0 ≤ x7_2 then (if x7_2 < (l0.length : Int) then (if 0 ≤ x8_2 then (if x8_2 < ((rd_L2 l0 x7_2).length : Int) then (if (rd (rd_L2 l0 x7_2) x8_2) = a1 then (some (y271, true)) else (if (rd (rd_L2 l0 x7_2) x8_2) > a1 then (Qf.l0 kj21 l0 a1 y271 x7_2 (wrap64 (x8_2 - 1))) else (Qf.l0 kj21 l0 a1 y271 (wrap64 (x7_2 + 1)) x8_2))) else (none)) else (none)) else (none)) else (none))) else (none)) = some (r1, r2) := by rw [if_pos rfl] at H; exact H
       clear H
       have H := H1
       clear H1
       obtain ⟨y268, hy268⟩ : ∃ y_ : List Int, y_ = (([x7_2, x8_2] : List Int)) := ⟨_, rfl⟩
       replace H : (if x6_2.length < 5864062014805 then ((some (x6_2 ++ [y268] : List (List Int))).bind fun y271 => (if 0 ≤ x7_2 then (if x7_2 < (l0.length : Int) then (if 0 ≤ x8_2 then (if x8_2 < ((rd_L2 l0 x7_2).length : Int) then (if (rd (rd_L2 l0 x7_2) x8_2) = a1 then (some (y271, true)) else (if (rd (rd_L2 l0 x7_2) x8_2) > a1 then (Qf.l0 kj21 l0 a1 y271 x7_2 (wrap64 (x8_2 - 1))) else (Qf.l0 kj21 l0 a1 y271 (wrap64 (x7_2 + 1)) x8_2))) else (none)) else (none)) else (none)) else (none))) else (none)) = some (r1, r2) := by (rw [hy268]; with_reducible exact H)
       have Ny268 := Qa.mk hy268
       clear hy268
       by_cases c25 : x6_2.length < 5864062014805
       rotate_left
       ·rw [if_neg c25] at H
        exact absurd H (by simp)
       rw [if_pos c25] at H
       have LMc25 := Qa.mk c25
       clear c25
       obtain ⟨y271, hy271⟩ : ∃ y_ : List (List Int), y_ = (x6_2 ++ [y268]) := ⟨_, rfl⟩
       replace H : (if 0 ≤ x7_2 then (if x7_2 < (l0.length : Int) then (if 0 ≤ x8_2 then (if x8_2 < ((rd_L2 l0 x7_2).length : Int) then (if (rd (rd_L2 l0 x7_2) x8_2) = a1 then (some (y271, true)) else (if (rd (rd_L2 l0 x7_2) x8_2) > a1 then (Qf.l0 kj21 l0 a1 y271 x7_2 (wrap64 (x8_2 - 1))) else (Qf.l0 kj21 l0 a1 y271 (wrap64 (x7_2 + 1)) x8_2))) else (none)) else (none)) else (none)) else (none)) = some (r1, r2) := by (have H2_ := (Option.bind_some _ _).symm.trans H; rw [hy271]; with_reducible exact H2_)
       have Ny271 := Qa.mk hy271
       clear hy271
       by_cases c26 : 0 ≤ x7_2
       rotate_left
       ·rw [if_neg c26] at H
        exact absurd H (by simp)
       rw [if_pos c26] at H
       have c26b0 : decide (0 ≤ x7_2) = true := decide_eq_true c26
       clear c26
       by_cases c27 : x7_2 < (l0.length : Int)
       rotate_left
       ·rw [if_neg c27] at H
        exact absurd H (by simp)
       rw [if_pos c27] at H
       have c27b0 : decide (x7_2 < (l0.length : Int)) = true := decide_eq_true c27
       clear c27
       by_cases c28 : 0 ≤ x8_2
       rotate_left
       ·rw [if_neg c28] at H
        exact absurd H (by simp)
       rw [if_pos c28] at H
       have c28b0 : decide (0 ≤ x8_2) = true := decide_eq_true c28
       clear c28
       by_cases c29 : x8_2 < ((rd_L2 l0 x7_2).length : Int)
       rotate_left
       ·rw [if_neg c29] at H
        exact absurd H (by simp)
       rw [if_pos c29] at H
       have c29b0 : decide (x8_2 < ((rd_L2 l0 x7_2).length : Int)) = true := decide_eq_true c29
       clear c29
       by_cases c30 : (rd (rd_L2 l0 x7_2) x8_2) = a1
       ·rw [if_pos c30] at H
        have c30b0 : ((rd (rd_L2 l0 x7_2) x8_2) == a1) = true := beq_iff_eq.mpr c30
        have c30b1 : ((rd (rd_L2 l0 x7_2) x8_2) != a1) = false := bne_eq_false_iff_eq.mpr c30
        clear c30
        simp only [Option.some.injEq, Prod.mk.injEq] at H
        obtain ⟨rfl, rfl⟩ := H
        go_wp2_with (first | ((with_reducible refine gate_dst (N := 46) rfl ?_); refine Kd.R_lit (Kd.int .i64) _ 3 ?hg (N := 46) ?hd (xs := ([x7_2, x8_2] : List Int)) (inner := [.int .i64 x7_2, .int .i64 x8_2]) (ok := fun _ => True) (okp := fun _ => True) ?hr ?hp (fun _ hk => hk) trivial (Below.refl _ _) (Nat.le_refl _) (by simp) ?_; (case hd => rfl); (case hg => rfl); (case hr => (go_simp; done)); (case hp => exact (Reps.one (show Kd.M (Kd.int .i64) _ _ _ x7_2 [.int .i64 x7_2] from rfl) (Reps.one (show Kd.M (Kd.int .i64) _ _ _ x8_2 [.int .i64 x8_2] from rfl) (Reps.none _ _)))); intro v269 w31 ho32 hb hg_ hnew_; clear hg_ hnew_; ((rw [← Ny268.out] at ho32)); have n0_ := Qa.mk (Kd.S_elder' (by (with_reducible repeat (fail)); exact HO_6.out) (Kd.R_base ho32) hb); have n1_ := Qa.mk (Kd.R_lower ho32 (Qq (by repeat ((with_reducible (exact HB.out)))))); have n2_ := Qa.mk (Qh (by repeat ((with_reducible (exact HB.out)))) hb); clear HO_6; clear HB; have HO_6 := n0_; have HO270 := n1_; have HB := n2_; clear n0_ n1_ n2_; clear hb ho32; obtain ⟨Ao34, co34, eo34⟩ := Kd.R_slice HO270.out; subst eo34) | ((with_reducible refine gate_builtin (b := .append) (xs := #[.tmp 43, .tmp 47]) rfl ?_); at_builtin; refine Kd.S_append (Kd.slice 3 (Kd.int .i64)) (w0 := w) w.heap.size rfl (.tmp 43) (.tmp 47) 24 32 (.slice none 0 0) 24 rfl Tryz.underlying24 info32 rfl (by decide) (by omega) u6 x6_2 y268 [.slice Ao34 y268.length co34] (fun _ => True) (fun k_ => some k_ = (.slice Ao34 y268.length co34 : Value).ownBlock) rfl rfl ?aP (fun k_ hk_ => ((Kd.R_mono (ok' := fun k_ => ((fun _ => True)) k_ ∧ some k_ ≠ (u6 : Value).ownBlock) (Kd.R_apart' (HO270.out) (Kd.S_typed HO_6.out) (by decide)) (fun k_ hk => ⟨trivial, hk.2⟩))).1 k_ hk_.symm) ?aF ?aO ?aB ?aS ?aL ?_; (case aP => exact Kd.M_row (Kd.R_mono (Kd.R_tight rfl (Kd.R_mono (ok' := fun k_ => ((fun _ => True)) k_ ∧ some k_ ≠ (u6 : Value).ownBlock) (Kd.R_apart' (HO270.out) (Kd.S_typed HO_6.out) (by decide)) (fun k_ hk => ⟨trivial, hk.2⟩))) (fun _ h_ => h_))); (case aB => exact (by repeat ((with_reducible (exact HB.out))))); (case aF => exact (fun _ _ => trivial)); (case aO => exact (by (with_reducible repeat (fail)); exact Kd.S_mono HO_6.out (fun k_ hk => ⟨trivial, fun e_ => hk.2 e_⟩))); (case aS => exact (Qq (by repeat ((with_reducible (exact HB.out)))))); (case aL => have := LMc25.out; omega); intro v272 w33 ho hb hg hat; rw [← Ny271.out] at ho; have n0_ := Qa.mk (hb); have n1_ := Qa.mk (ho); clear HB; clear HO_6; clear HO270; have HB := n0_; have HO273 := n1_; clear n0_ n1_; clear ho hb hg hat; have p274 : 0 ≤ (x7_2 : Int) := of_decide_eq_true (by (with_reducible assumption)); have q274 : x7_2 < (l0.length : Int) := of_decide_eq_true (by (with_reducible assumption)); obtain ⟨ad274, A274_0, c274_0, e274, hx274_0, hl274_0, hi274_0⟩ := at_L2 HR0.out x7_2 p274 q274; obtain rfl : ad267 = ad274 := (by injection e274); replace hx274_0 := (HB.out.cell (World.block_lt_of_cell? w _ hx274_0)).trans hx274_0; have HR274_0 := Qa.mk hi274_0; have HC274_0 := Qa.mk hl274_0; clear hi274_0 hl274_0; replace p274 := eq_true p274; replace q274 := eq_true q274; have p275 : 0 ≤ (x8_2 : Int) := of_decide_eq_true (by (with_reducible assumption)); have q275 : x8_2 < ((rd_L2 l0 x7_2).length : Int) := of_decide_eq_true (by (with_reducible assumption)); obtain ⟨ad275, e275, hx275_0⟩ := Kd.at_int HR274_0.out x8_2 p275 q275; cases e275; replace hx275_0 := (HB.out.cell (World.block_lt_of_cell? w _ hx275_0)).trans hx275_0; replace p275 := eq_true p275; replace q275 := eq_true q275))
        repeat (go_quiet (fail); try go_wp2_with (fail))
        go_ret2
        exact ⟨_, by rfl, by (with_reducible repeat (fail)); exact HO273.out, by repeat ((with_reducible (exact HB.out)))⟩
       rw [if_neg c30] at H
       have c30b0 : ((rd (rd_L2 l0 x7_2) x8_2) == a1) = false := beq_eq_false_iff_ne.mpr c30
       have c30b1 : ((rd (rd_L2 l0 x7_2) x8_2) != a1) = true := bne_iff_ne.mpr c30
       by_cases c35 : (rd (rd_L2 l0 x7_2) x8_2) > a1
       ·rw [if_pos c35] at H
        have c35b0 : decide (a1 < (rd (rd_L2 l0 x7_2) x8_2)) = true := decide_eq_true c35
        clear c35
        have H' := Qa.mk H
        clear H
        go_wp2_with (first | ((with_reducible refine gate_dst (N := 46) rfl ?_); refine Kd.R_lit (Kd.int .i64) _ 3 ?hg (N := 46) ?hd (xs := ([x7_2, x8_2] : List Int)) (inner := [.int .i64 x7_2, .int .i64 x8_2]) (ok := fun _ => True) (okp := fun _ => True) ?hr ?hp (fun _ hk => hk) trivial (Below.refl _ _) (Nat.le_refl _) (by simp) ?_; (case hd => rfl); (case hg => rfl); (case hr => (go_simp; done)); (case hp => exact (Reps.one (show Kd.M (Kd.int .i64) _ _ _ x7_2 [.int .i64 x7_2] from rfl) (Reps.one (show Kd.M (Kd.int .i64) _ _ _ x8_2 [.int .i64 x8_2] from rfl) (Reps.none _ _)))); intro v269 w36 ho37 hb hg_ hnew_; clear hg_ hnew_; ((rw [← Ny268.out] at ho37)); have n0_ := Qa.mk (Kd.S_elder' (by (with_reducible repeat (fail)); exact HO_6.out) (Kd.R_base ho37) hb); have n1_ := Qa.mk (Kd.R_lower ho37 (Qq (by repeat ((with_reducible (exact HB.out)))))); have n2_ := Qa.mk (Qh (by repeat ((with_reducible (exact HB.out)))) hb); clear HO_6; clear HB; have HO_6 := n0_; have HO270 := n1_; have HB := n2_; clear n0_ n1_ n2_; clear hb ho37; obtain ⟨Ao39, co39, eo39⟩ := Kd.R_slice HO270.out; subst eo39) | ((with_reducible refine gate_builtin (b := .append) (xs := #[.tmp 43, .tmp 47]) rfl ?_); at_builtin; refine Kd.S_append (Kd.slice 3 (Kd.int .i64)) (w0 := w) w.heap.size rfl (.tmp 43) (.tmp 47) 24 32 (.slice none 0 0) 24 rfl Tryz.underlying24 info32 rfl (by decide) (by omega) u6 x6_2 y268 [.slice Ao39 y268.length co39] (fun _ => True) (fun k_ => some k_ = (.slice Ao39 y268.length co39 : Value).ownBlock) rfl rfl ?aP (fun k_ hk_ => ((Kd.R_mono (ok' := fun k_ => ((fun _ => True)) k_ ∧ some k_ ≠ (u6 : Value).ownBlock) (Kd.R_apart' (HO270.out) (Kd.S_typed HO_6.out) (by decide)) (fun k_ hk => ⟨trivial, hk.2⟩))).1 k_ hk_.symm) ?aF ?aO ?aB ?aS ?aL ?_; (case aP => exact Kd.M_row (Kd.R_mono (Kd.R_tight rfl (Kd.R_mono (ok' := fun k_ => ((fun _ => True)) k_ ∧ some k_ ≠ (u6 : Value).ownBlock) (Kd.R_apart' (HO270.out) (Kd.S_typed HO_6.out) (by decide)) (fun k_ hk => ⟨trivial, hk.2⟩))) (fun _ h_ => h_))); (case aB => exact (by repeat ((with_reducible (exact HB.out))))); (case aF => exact (fun _ _ => trivial)); (case aO => exact (by (with_reducible repeat (fail)); exact Kd.S_mono HO_6.out (fun k_ hk => ⟨trivial, fun e_ => hk.2 e_⟩))); (case aS => exact (Qq (by repeat ((with_reducible (exact HB.out)))))); (case aL => have := LMc25.out; omega); intro v272 w38 ho hb hg hat; rw [← Ny271.out] at ho; have n0_ := Qa.mk (hb); have n1_ := Qa.mk (ho); clear HB; clear HO_6; clear HO270; have HB := n0_; have HO273 := n1_; clear n0_ n1_; clear ho hb hg hat; have p274 : 0 ≤ (x7_2 : Int) := of_decide_eq_true (by (with_reducible assumption)); have q274 : x7_2 < (l0.length : Int) := of_decide_eq_true (by (with_reducible assumption)); obtain ⟨ad274, A274_0, c274_0, e274, hx274_0, hl274_0, hi274_0⟩ := at_L2 HR0.out x7_2 p274 q274; obtain rfl : ad267 = ad274 := (by injection e274); replace hx274_0 := (HB.out.cell (World.block_lt_of_cell? w _ hx274_0)).trans hx274_0; have HR274_0 := Qa.mk hi274_0; have HC274_0 := Qa.mk hl274_0; clear hi274_0 hl274_0; replace p274 := eq_true p274; replace q274 := eq_true q274; have p275 : 0 ≤ (x8_2 : Int) := of_decide_eq_true (by (with_reducible assumption)); have q275 : x8_2 < ((rd_L2 l0 x7_2).length : Int) := of_decide_eq_true (by (with_reducible assumption)); obtain ⟨ad275, e275, hx275_0⟩ := Kd.at_int HR274_0.out x8_2 p275 q275; cases e275; replace hx275_0 := (HB.out.cell (World.block_lt_of_cell? w _ hx275_0)).trans hx275_0; replace p275 := eq_true p275; replace q275 := eq_true q275))
        repeat (go_quiet (fail); try go_wp2_with (fail))
        (go_roundg kj21)
        case measure => have := HJ2.out; have := HK2.out; have := HJ21.out; omega
        case rel => exact ⟨(y271), (x7_2), (wrap64 (x8_2 - 1)), (by rfl), (by rfl), H', ⟨by have := HJ2.out; have := HK2.out; have := HJ21.out; omega⟩, ⟨by (with_reducible repeat (fail)); exact HO273.out⟩, ⟨by repeat ((with_reducible (exact HB.out)))⟩⟩
       rw [if_neg c35] at H
       have c35b0 : decide (a1 < (rd (rd_L2 l0 x7_2) x8_2)) = false := decide_eq_false c35
       clear c35
       have H' := Qa.mk H
       clear H
       go_wp2_with (first | ((with_reducible refine gate_dst (N := 46) rfl ?_); refine Kd.R_lit (Kd.int .i64) _ 3 ?hg (N := 46) ?hd (xs := ([x7_2, x8_2] : List Int)) (inner := [.int .i64 x7_2, .int .i64 x8_2]) (ok := fun _ => True) (okp := fun _ => True) ?hr ?hp (fun _ hk => hk) trivial (Below.refl _ _) (Nat.le_refl _) (by simp) ?_; (case hd => rfl); (case hg => rfl); (case hr => (go_simp; done)); (case hp => exact (Reps.one (show Kd.M (Kd.int .i64) _ _ _ x7_2 [.int .i64 x7_2] from rfl) (Reps.one (show Kd.M (Kd.int .i64) _ _ _ x8_2 [.int .i64 x8_2] from rfl) (Reps.none _ _)))); intro v269 w40 ho41 hb hg_ hnew_; clear hg_ hnew_; ((rw [← Ny268.out] at ho41)); have n0_ := Qa.mk (Kd.S_elder' (by (with_reducible repeat (fail)); exact HO_6.out) (Kd.R_base ho41) hb); have n1_ := Qa.mk (Kd.R_lower ho41 (Qq (by repeat ((with_reducible (exact HB.out)))))); have n2_ := Qa.mk (Qh (by repeat ((with_reducible (exact HB.out)))) hb); clear HO_6; clear HB; have HO_6 := n0_; have HO270 := n1_; have HB := n2_; clear n0_ n1_ n2_; clear hb ho41; obtain ⟨Ao43, co43, eo43⟩ := Kd.R_slice HO270.out; subst eo43) | ((with_reducible refine gate_builtin (b := .append) (xs := #[.tmp 43, .tmp 47]) rfl ?_); at_builtin; refine Kd.S_append (Kd.slice 3 (Kd.int .i64)) (w0 := w) w.heap.size rfl (.tmp 43) (.tmp 47) 24 32 (.slice none 0 0) 24 rfl Tryz.underlying24 info32 rfl (by decide) (by omega) u6 x6_2 y268 [.slice Ao43 y268.length co43] (fun _ => True) (fun k_ => some k_ = (.slice Ao43 y268.length co43 : Value).ownBlock) rfl rfl ?aP (fun k_ hk_ => ((Kd.R_mono (ok' := fun k_ => ((fun _ => True)) k_ ∧ some k_ ≠ (u6 : Value).ownBlock) (Kd.R_apart' (HO270.out) (Kd.S_typed HO_6.out) (by decide)) (fun k_ hk => ⟨trivial, hk.2⟩))).1 k_ hk_.symm) ?aF ?aO ?aB ?aS ?aL ?_; (case aP => exact Kd.M_row (Kd.R_mono (Kd.R_tight rfl (Kd.R_mono (ok' := fun k_ => ((fun _ => True)) k_ ∧ some k_ ≠ (u6 : Value).ownBlock) (Kd.R_apart' (HO270.out) (Kd.S_typed HO_6.out) (by decide)) (fun k_ hk => ⟨trivial, hk.2⟩))) (fun _ h_ => h_))); (case aB => exact (by repeat ((with_reducible (exact HB.out))))); (case aF => exact (fun _ _ => trivial)); (case aO => exact (by (with_reducible repeat (fail)); exact Kd.S_mono HO_6.out (fun k_ hk => ⟨trivial, fun e_ => hk.2 e_⟩))); (case aS => exact (Qq (by repeat ((with_reducible (exact HB.out)))))); (case aL => have := LMc25.out; omega); intro v272 w42 ho hb hg hat; rw [← Ny271.out] at ho; have n0_ := Qa.mk (hb); have n1_ := Qa.mk (ho); clear HB; clear HO_6; clear HO270; have HB := n0_; have HO273 := n1_; clear n0_ n1_; clear ho hb hg hat; have p274 : 0 ≤ (x7_2 : Int) := of_decide_eq_true (by (with_reducible assumption)); have q274 : x7_2 < (l0.length : Int) := of_decide_eq_true (by (with_reducible assumption)); obtain ⟨ad274, A274_0, c274_0, e274, hx274_0, hl274_0, hi274_0⟩ := at_L2 HR0.out x7_2 p274 q274; obtain rfl : ad267 = ad274 := (by injection e274); replace hx274_0 := (HB.out.cell (World.block_lt_of_cell? w _ hx274_0)).trans hx274_0; have HR274_0 := Qa.mk hi274_0; have HC274_0 := Qa.mk hl274_0; clear hi274_0 hl274_0; replace p274 := eq_true p274; replace q274 := eq_true q274; have p275 : 0 ≤ (x8_2 : Int) := of_decide_eq_true (by (with_reducible assumption)); have q275 : x8_2 < ((rd_L2 l0 x7_2).length : Int) := of_decide_eq_true (by (with_reducible assumption)); obtain ⟨ad275, e275, hx275_0⟩ := Kd.at_int HR274_0.out x8_2 p275 q275; cases e275; replace hx275_0 := (HB.out.cell (World.block_lt_of_cell? w _ hx275_0)).trans hx275_0; replace p275 := eq_true p275; replace q275 := eq_true q275))
       repeat (go_quiet (fail); try go_wp2_with (fail))
       (go_roundg kj21)
       case measure => have := HJ2.out; have := HK2.out; have := HJ21.out; omega
       case rel => exact ⟨(y271), (wrap64 (x7_2 + 1)), (x8_2), (by rfl), (by rfl), H', ⟨by have := HJ2.out; have := HK2.out; have := HJ21.out; omega⟩, ⟨by (with_reducible repeat (fail)); exact HO273.out⟩, ⟨by repeat ((with_reducible (exact HB.out)))⟩⟩
def Qx1.f (a0 : Int) : Option (Bool) := (Qj1.f a0 0 1000).bind fun t276 => (some t276)
set_option maxHeartbeats 8000000 in
set_option maxRecDepth 100000 in
theorem Qx1.calls (a0 : Int) (r : Bool) (w : World) (h : Qx1.f a0 = some r) :
  Calls Tryz.prog 42 #[.int .i64 a0] w fun e w' => e = .returned (.bool r) ∧ Drawn0 w w' := by
 have H : ((Qj1.f a0 0 1000).bind fun t276 => (some t276)) = some r := h
 clear h
 replace H := Option.bind_eq_some_iff.mp H
 obtain ⟨t276, A20, H⟩ := H
 replace H : (some t276) = some r := H
 have A2 := Qa.mk A20
 clear A20
 obtain rfl := Option.some.inj H
 go_enter Tryz.func42, Tryz.ntmps42
 go_wp2_with (((with_reducible refine Qg (f := 49) rfl ?_); refine goesL_ (some 4) rfl rfl Tryz.func49 (by kernel_rfl) rfl #[.int .i64 a0, .int .i64 0, .int .i64 1000] rfl (by (try simp only [List.map_toArray, List.map_cons, List.map_nil]); rfl) ?_; (with_reducible refine (Qj1.calls a0 0 1000 t276 _ A2.out).mono ?_); rintro e w' ⟨rfl, ⟨nd, rfl⟩⟩; refine ⟨_, rfl, ?_⟩))
 go_ret
 exact ⟨by rfl, by repeat (first | exact Drawn0.refl _ | apply Drawn0.step)⟩
mutual
def Qa1.l0 : Nat → List (List Int) → Int → Int → Option (Bool)
 | 0, _, _, _ => none
 | k + 1, x6, x7, x8 => if x8 < x7 then (if 0 ≤ x8 then (if x8 < (x6.length : Int) then (Qa1.l1 k (rd_L2 x6 x8) 1 x6 x7 x8) else (none)) else (none)) else (some true)
def Qa1.l1 : Nat → List Int → Int → List (List Int) → Int → Int → Option (Bool)
 | 0, _, _, _, _, _ => none
 | k + 1, x4, x5, x6, x7, x8 => if x5 < (x4.length : Int) then (if 0 ≤ (wrap64 (x5 - 1)) then (if (wrap64 (x5 - 1)) < (x4.length : Int) then (if 0 ≤ x5 then (if (rd x4 (wrap64 (x5 - 1))) > (rd x4 x5) then (some false) else (Qa1.l1 k x4 (wrap64 (x5 + 1)) x6 x7 x8)) else (none)) else (none)) else (none)) else (Qa1.l0 k x6 x7 (wrap64 (x8 + 1)))
end
def Qa1.f (k : Nat) (l0 : List (List Int)) : Option (Bool) := Qa1.l0 k l0 (l0.length : Int) 0
set_option maxHeartbeats 8000000 in
set_option maxRecDepth 100000 in
theorem Qa1.calls (k : Nat) (A0 : Option Addr) (c0 : Nat) (l0 : List (List Int)) (r : Bool) (w : World) (hr0 : Kd.C (Kd.slice 3 (Kd.int .i64)) w A0 l0.length l0) (hc0 : l0.length ≤ c0) (h : Qa1.f k l0 = some r) :
  Calls Tryz.prog 43 #[.slice A0 l0.length c0] w fun e w' => e = .returned (.bool r) ∧ Drawn0 w w' := by
 have HR0 := Qa.mk hr0
 have HC0 := Qa.mk hc0
 clear hr0 hc0
 have H : (Qa1.l0 k l0 (l0.length : Int) 0) = some r := h
 clear h
 have H' := Qa.mk H
 clear H
 go_enter Tryz.func43, Tryz.ntmps43
 go_wp2
 repeat (go_quiet (fail); try go_wp2)
 go_loopg [8] k (fun kq v8 w' => ∃ (x8_1 : Int), v8 = .int .i64 x8_1 ∧ Qa (Qa1.l0 kq l0 (l0.length : Int) x8_1 = some r) ∧ Qa (kq ≤ k) ∧ Drawn0 w w')
 case atStart => exact ⟨(0), (by rfl), H', ⟨Nat.le_refl _⟩, by repeat ((exact Drawn0.refl _))⟩
 case round =>
  clear H'
  obtain ⟨x8_1, rfl, HA, HK1, ⟨m1, rfl⟩⟩ := hrel
  cases gk with
  | zero => exact absurd HA.out (by simp [Qa1.l0])
  | succ k1 =>
   have H := HA.out
   clear HA
   simp only [Qa1.l0] at H
   by_cases c2 : x8_1 < (l0.length : Int)
   rotate_left
   ·rw [if_neg c2] at H
    have c2b0 : decide (x8_1 < (l0.length : Int)) = false := decide_eq_false c2
    clear c2
    obtain rfl := Option.some.inj H
    go_wp2
    repeat (go_quiet (fail); try go_wp2)
    go_ret
    exact ⟨by rfl, by repeat (first | exact Drawn0.refl _ | apply Drawn0.step)⟩
   rw [if_pos c2] at H
   have c2b0 : decide (x8_1 < (l0.length : Int)) = true := decide_eq_true c2
   clear c2
   by_cases c3 : 0 ≤ x8_1
   rotate_left
   ·rw [if_neg c3] at H
    exact absurd H (by simp)
   rw [if_pos c3] at H
   have c3b0 : decide (0 ≤ x8_1) = true := decide_eq_true c3
   clear c3
   by_cases c4 : x8_1 < (l0.length : Int)
   rotate_left
   ·rw [if_neg c4] at H
    exact absurd H (by simp)
   rw [if_pos c4] at H
   have c4b0 : decide (x8_1 < (l0.length : Int)) = true := decide_eq_true c4
   clear c4
   have H' := Qa.mk H
   clear H
   have p277 : 0 ≤ (x8_1 : Int) := of_decide_eq_true (by (with_reducible assumption))
   have q277 : x8_1 < (l0.length : Int) := of_decide_eq_true (by (with_reducible assumption))
   obtain ⟨ad277, A277_0, c277_0, e277, hx277_0, hl277_0, hi277_0⟩ := at_L2 HR0.out x8_1 p277 q277
   cases e277
   have HR277_0 := Qa.mk hi277_0
   have HC277_0 := Qa.mk hl277_0
   clear hi277_0 hl277_0
   replace p277 := eq_true p277
   replace q277 := eq_true q277
   go_wp2
   repeat (go_quiet (fail); try go_wp2)
   go_loopg [5] k1 (fun kq v5 w' => ∃ (x5_2 : Int), v5 = .int .i64 x5_2 ∧ Qa (Qa1.l1 kq (rd_L2 l0 x8_1) x5_2 l0 (l0.length : Int) x8_1 = some r) ∧ Qa (kq ≤ k1) ∧ Drawn0 w w')
   case atStart => exact ⟨(1), (by rfl), H', ⟨Nat.le_refl _⟩, by repeat (first | exact Drawn0.refl _ | apply Drawn0.step)⟩
   case round =>
    clear H' c2b0 c3b0 c4b0 hx277_0 p277 q277
    obtain ⟨x5_2, rfl, HA, HK2, ⟨m2, rfl⟩⟩ := hrel
    cases gk with
    | zero => exact absurd HA.out (by simp [Qa1.l1])
    | succ k2 =>
     have H := HA.out
     clear HA
     simp only [Qa1.l1] at H
     by_cases c5 : x5_2 < ((rd_L2 l0 x8_1).length : Int)
     rotate_left
     ·rw [if_neg c5] at H
      have c5b0 : decide (x5_2 < ((rd_L2 l0 x8_1).length : Int)) = false := decide_eq_false c5
      clear c5
      have H' := Qa.mk H
      clear H
      go_wp2
      repeat (go_quiet (fail); try go_wp2)
      (go_roundg k2)
      case measure => have := HK1.out; have := HK2.out; omega
      case rel => exact ⟨(wrap64 (x8_1 + 1)), (by rfl), H', ⟨by have := HK1.out; have := HK2.out; omega⟩, by repeat (first | exact Drawn0.refl _ | apply Drawn0.step)⟩
     rw [if_pos c5] at H
     have c5b0 : decide (x5_2 < ((rd_L2 l0 x8_1).length : Int)) = true := decide_eq_true c5
     clear c5
     obtain ⟨ji6, hji6⟩ : ∃ j_ : Int, (wrap64 (x5_2 - 1)) = j_ := ⟨_, rfl⟩
     replace H : (if 0 ≤ (ji6) then (if (ji6) < ((rd_L2 l0 x8_1).length : Int) then (if 0 ≤ x5_2 then (if (rd (rd_L2 l0 x8_1) (ji6)) > (rd (rd_L2 l0 x8_1) x5_2) then (some false) else (Qa1.l1 k2 (rd_L2 l0 x8_1) (wrap64 (x5_2 + 1)) l0 (l0.length : Int) x8_1)) else (none)) else (none)) else (none)) = some r := by (rw [hji6] at H; exact H)
     have hji6w : (IntKind.i64.wrap (x5_2 - 1)) = ji6 := (i64_w _).trans hji6
     by_cases c7 : 0 ≤ (ji6)
     rotate_left
     ·rw [if_neg c7] at H
      exact absurd H (by simp)
     rw [if_pos c7] at H
     have c7b0 : decide (0 ≤ (ji6)) = true := decide_eq_true c7
     clear c7
     by_cases c8 : (ji6) < ((rd_L2 l0 x8_1).length : Int)
     rotate_left
     ·rw [if_neg c8] at H
      exact absurd H (by simp)
     rw [if_pos c8] at H
     have c8b0 : decide ((ji6) < ((rd_L2 l0 x8_1).length : Int)) = true := decide_eq_true c8
     clear c8
     by_cases c9 : 0 ≤ x5_2
     rotate_left
     ·rw [if_neg c9] at H
      exact absurd H (by simp)
     rw [if_pos c9] at H
     have c9b0 : decide (0 ≤ x5_2) = true := decide_eq_true c9
     clear c9
     by_cases c10 : (rd (rd_L2 l0 x8_1) (ji6)) > (rd (rd_L2 l0 x8_1) x5_2)
     ·rw [if_pos c10] at H
      have c10b0 : decide ((rd (rd_L2 l0 x8_1) x5_2) < (rd (rd_L2 l0 x8_1) (ji6))) = true := decide_eq_true c10
      clear c10
      obtain rfl := Option.some.inj H
      have p278 : 0 ≤ ((ji6) : Int) := of_decide_eq_true (by (with_reducible assumption))
      have q278 : (ji6) < ((rd_L2 l0 x8_1).length : Int) := of_decide_eq_true (by (with_reducible assumption))
      obtain ⟨ad278, e278, hx278_0⟩ := Kd.at_int HR277_0.out (ji6) p278 q278
      cases e278
      replace p278 := eq_true p278
      replace q278 := eq_true q278
      have p279 : 0 ≤ (x5_2 : Int) := of_decide_eq_true (by (with_reducible assumption))
      have q279 : x5_2 < ((rd_L2 l0 x8_1).length : Int) := of_decide_eq_true (by (with_reducible assumption))
      obtain ⟨ad279, e279, hx279_0⟩ := Kd.at_int HR277_0.out x5_2 p279 q279
      obtain rfl : ad278 = ad279 := (by injection e279)
      replace p279 := eq_true p279
      replace q279 := eq_true q279
      go_wp2
      repeat (go_quiet (fail); try go_wp2)
      go_ret
      exact ⟨by rfl, by repeat (first | exact Drawn0.refl _ | apply Drawn0.step)⟩
     rw [if_neg c10] at H
     have c10b0 : decide ((rd (rd_L2 l0 x8_1) x5_2) < (rd (rd_L2 l0 x8_1) (ji6))) = false := decide_eq_false c10
     clear c10
     have H' := Qa.mk H
     clear H
     have p278 : 0 ≤ ((ji6) : Int) := of_decide_eq_true (by (with_reducible assumption))
     have q278 : (ji6) < ((rd_L2 l0 x8_1).length : Int) := of_decide_eq_true (by (with_reducible assumption))
     obtain ⟨ad278, e278, hx278_0⟩ := Kd.at_int HR277_0.out (ji6) p278 q278
     cases e278
     replace p278 := eq_true p278
     replace q278 := eq_true q278
     have p279 : 0 ≤ (x5_2 : Int) := of_decide_eq_true (by (with_reducible assumption))
     have q279 : x5_2 < ((rd_L2 l0 x8_1).length : Int) := of_decide_eq_true (by (with_reducible assumption))
     obtain ⟨ad279, e279, hx279_0⟩ := Kd.at_int HR277_0.out x5_2 p279 q279
     obtain rfl : ad278 = ad279 := (by injection e279)
     replace p279 := eq_true p279
     replace q279 := eq_true q279
     go_wp2
     repeat (go_quiet (fail); try go_wp2)
     (go_roundg k2)
     case measure => have := HK1.out; have := HK2.out; omega
     case rel => exact ⟨(wrap64 (x5_2 + 1)), (by rfl), H', ⟨by have := HK1.out; have := HK2.out; omega⟩, by repeat (first | exact Drawn0.refl _ | apply Drawn0.step)⟩
end Go.Proofs.YtohhlkehglahhaaGreatDoor.A
