-- Printed: Lean checks it.
import Derived.Test.YtohhlkehglahhaaGreatDoorAx0
import Derived.Test.YtohhlkehglahhaaGreatDoorAx2
import Derived.Test.YtohhlkehglahhaaGreatDoorAx3
import Derived.Test.YtohhlkehglahhaaGreatDoorAx5
import Derived.Test.YtohhlkehglahhaaGreatDoorAx16
import Derived.Test.YtohhlkehglahhaaGreatDoorGiv
namespace Go.Proofs.YtohhlkehglahhaaGreatDoor.A
open Go.RowKit Go.Proofs.YtohhlkehglahhaaGreatDoorW.PrintWords Go.Proofs.YtohhlkehglahhaaGreatDoorW.PrintLast Go.Proofs.YtohhlkehglahhaaGreatDoorW.PrintMore Go.Proofs.YtohhlkehglahhaaGreatDoor.X
attribute [local go_sem] max2_int min2_int max_two min_two max_three min_three max_four min_four
set_option linter.unusedVariables false
set_option linter.unusedSimpArgs false
def Ql2.f (k : Nat) (l0 : List (List Int)) : Option (Int × Bool) := (Qz.f l0).bind fun t385 => (if t385 = true then ((Qh1.f k l0).bind fun t386 => ((Qv.f k l0).bind fun t387 => ((Qh1.f k t387).bind fun t390 => (some (wrap64 (t386 + t390), true))))) else (some (0, false)))
set_option maxHeartbeats 8000000 in
set_option maxRecDepth 100000 in
theorem Ql2.calls (k : Nat) (A0 : Option Addr) (c0 : Nat) (l0 : List (List Int)) (r1 : Int) (r2 : Bool) (w : World) (hr0 : Kd.C (Kd.slice 3 (Kd.int .i64)) w A0 l0.length l0) (hc0 : l0.length ≤ c0) (h : Ql2.f k l0 = some (r1, r2)) :
  Calls Tryz.prog 22 #[.slice A0 l0.length c0] w fun e w' => e = .returned (.tuple #[.int .i64 r1, .bool r2]) ∧ Below w.heap.size w w' := by
 have HR0 := Qa.mk hr0
 have HC0 := Qa.mk hc0
 clear hr0 hc0
 have HB := Qa.mk (Below.refl w.heap.size w)
 have H : ((Qz.f l0).bind fun t385 => (if t385 = true then ((Qh1.f k l0).bind fun t386 => ((Qv.f k l0).bind fun t387 => ((Qh1.f k t387).bind fun t390 => (some (wrap64 (t386 + t390), true))))) else (some (0, false)))) = some (r1, r2) := h
 clear h
 replace H := Option.bind_eq_some_iff.mp H
 obtain ⟨t385, A20, H⟩ := H
 replace H : (if t385 = true then ((Qh1.f k l0).bind fun t386 => ((Qv.f k l0).bind fun t387 => ((Qh1.f k t387).bind fun t390 => (some (wrap64 (t386 + t390), true))))) else (some (0, false))) = some (r1, r2) := H
 have A2 := Qa.mk A20
 clear A20
 by_cases c3 : t385 = true
 rotate_left
 ·replace c3 := Bool.eq_false_iff.mpr c3
  subst c3
  have H1 : (some (0, false)) = some (r1, r2) := by rw [if_neg (show ¬ (false = true) by decide)] at H; exact H
  clear H
  have H := H1
  clear H1
  simp only [Option.some.injEq, Prod.mk.injEq] at H
  obtain ⟨rfl, rfl⟩ := H
  go_enter Tryz.func22, Tryz.ntmps22
  go_wp2_with (((with_reducible refine Qg (f := 38) rfl ?_); refine goesL_ (some 5) rfl rfl Tryz.func38 (by kernel_rfl) rfl #[.slice A0 l0.length c0] rfl (by (try simp only [List.map_toArray, List.map_cons, List.map_nil]); rfl) ?_; (with_reducible refine (Qz.calls _ _ l0 false _ ?side1 ?side2 A2.out).mono ?_); (case side1 => repeat ((exact HR0.out))); (case side2 => exact HC0.out); rintro e w10 ⟨rfl, hb⟩; refine ⟨_, rfl, ?_⟩; have n0_ := Qa.mk (Qh (by repeat ((with_reducible (exact HB.out)))) hb); clear HB; have HB := n0_; clear n0_; (try clear hb); (try clear hb2); (try clear hk); (try clear hi)))
  go_ret2
  exact ⟨by rfl, by repeat ((with_reducible (exact HB.out)))⟩
 subst c3
 have H1 : ((Qh1.f k l0).bind fun t386 => ((Qv.f k l0).bind fun t387 => ((Qh1.f k t387).bind fun t390 => (some (wrap64 (t386 + t390), true))))) = some (r1, r2) := by rw [if_pos rfl] at H; exact H
 clear H
 have H := H1
 clear H1
 replace H := Option.bind_eq_some_iff.mp H
 obtain ⟨t386, A40, H⟩ := H
 replace H : ((Qv.f k l0).bind fun t387 => ((Qh1.f k t387).bind fun t390 => (some (wrap64 (t386 + t390), true)))) = some (r1, r2) := H
 have A4 := Qa.mk A40
 clear A40
 replace H := Option.bind_eq_some_iff.mp H
 obtain ⟨t387, A50, H⟩ := H
 replace H : ((Qh1.f k t387).bind fun t390 => (some (wrap64 (t386 + t390), true))) = some (r1, r2) := H
 have A5 := Qa.mk A50
 clear A50
 replace H := Option.bind_eq_some_iff.mp H
 obtain ⟨t390, A60, H⟩ := H
 replace H : (some (wrap64 (t386 + t390), true)) = some (r1, r2) := H
 have A6 := Qa.mk A60
 clear A60
 simp only [Option.some.injEq, Prod.mk.injEq] at H
 obtain ⟨rfl, rfl⟩ := H
 go_enter Tryz.func22, Tryz.ntmps22
 go_wp2_with (first | ((with_reducible refine Qg (f := 38) rfl ?_); refine goesL_ (some 5) rfl rfl Tryz.func38 (by kernel_rfl) rfl #[.slice A0 l0.length c0] rfl (by (try simp only [List.map_toArray, List.map_cons, List.map_nil]); rfl) ?_; (with_reducible refine (Qz.calls _ _ l0 true _ ?side1 ?side2 A2.out).mono ?_); (case side1 => repeat ((exact HR0.out))); (case side2 => exact HC0.out); rintro e w7 ⟨rfl, hb⟩; refine ⟨_, rfl, ?_⟩; have n0_ := Qa.mk (Qh (by repeat ((with_reducible (exact HB.out)))) hb); clear HB; have HB := n0_; clear n0_; (try clear hb); (try clear hb2); (try clear hk); (try clear hi)) | ((with_reducible refine Qg (f := 54) rfl ?_); refine goesL_ (some 8) rfl rfl Tryz.func54 (by kernel_rfl) rfl #[.slice A0 l0.length c0] rfl (by (try simp only [List.map_toArray, List.map_cons, List.map_nil]); rfl) ?_; (with_reducible refine (Qh1.calls k _ _ l0 t386 _ ?side1 ?side2 A4.out).mono ?_); (case side1 => repeat ((exact (Kd.C_below HR0.out HB.out)))); (case side2 => exact HC0.out); rintro e w' ⟨rfl, ⟨nd, rfl⟩⟩; refine ⟨_, rfl, ?_⟩) | ((with_reducible refine Qg (f := 41) rfl ?_); refine goesL_ (some 10) rfl rfl Tryz.func41 (by kernel_rfl) rfl #[.slice A0 l0.length c0] rfl (by (try simp only [List.map_toArray, List.map_cons, List.map_nil]); rfl) ?_; (with_reducible refine (Qv.calls k _ _ l0 t387 _ ?side1 ?side2 A5.out).mono ?_); (case side1 => repeat ((exact (Kd.C_below HR0.out (by repeat ((with_reducible first | exact HB.out | apply Qi))))))); (case side2 => exact HC0.out); rintro e w8 ⟨v388, rfl, ho0, hb⟩; refine ⟨_, rfl, ?_⟩; have n0_ := Qa.mk (Kd.S_lower ho0 (Qq (by repeat ((with_reducible first | exact HB.out | apply Qi))))); have n1_ := Qa.mk (Qh (by repeat ((with_reducible first | exact HB.out | apply Qi))) hb); clear HB; have HO389 := n0_; have HB := n1_; clear n0_ n1_; (try clear hb); (try clear hb2); (try clear hk); (try clear hi); (try clear ho0); obtain ⟨Ao9, co9, eo9⟩ := Kd.S_slice HO389.out; subst eo9) | ((with_reducible refine Qg (f := 54) rfl ?_); refine goesL_ (some 11) rfl rfl Tryz.func54 (by kernel_rfl) rfl #[.slice Ao9 t387.length co9] rfl (by (try simp only [List.map_toArray, List.map_cons, List.map_nil]); rfl) ?_; (with_reducible refine (Qh1.calls k _ _ t387 t390 _ ?side1 ?side2 A6.out).mono ?_); (case side1 => repeat ((exact (Kd.S_reads' HO389.out).2.2))); (case side2 => exact (Kd.S_reads' HO389.out).2.1); rintro e w' ⟨rfl, ⟨nd, rfl⟩⟩; refine ⟨_, rfl, ?_⟩))
 go_ret2
 exact ⟨by rfl, by repeat ((with_reducible first | exact HB.out | apply Qi))⟩
mutual
def Qs.l0 : Nat → Int → List (List Int) → Int → Int → Option (Int)
 | 0, _, _, _, _ => none
 | k + 1, x3, x7, x8, x9 => if x9 < x8 then (if 0 ≤ x9 then (if x9 < (x7.length : Int) then (Qs.l1 k x3 (rd_L2 x7 x9) 1 x7 x8 x9) else (none)) else (none)) else (some x3)
def Qs.l1 : Nat → Int → List Int → Int → List (List Int) → Int → Int → Option (Int)
 | 0, _, _, _, _, _, _ => none
 | k + 1, x3, x5, x6, x7, x8, x9 => if x6 < (x5.length : Int) then (if 0 ≤ (wrap64 (x6 - 1)) then (if (wrap64 (x6 - 1)) < (x5.length : Int) then (if 0 ≤ x6 then (if (rd x5 (wrap64 (x6 - 1))) > (rd x5 x6) then (Qs.l1 k (wrap64 (x3 + 1)) x5 (wrap64 (x6 + 1)) x7 x8 x9) else (Qs.l1 k x3 x5 (wrap64 (x6 + 1)) x7 x8 x9)) else (none)) else (none)) else (none)) else (Qs.l0 k x3 x7 x8 (wrap64 (x9 + 1)))
end
def Qs.f (k : Nat) (l0 : List (List Int)) : Option (Int) := Qs.l0 k 0 l0 (l0.length : Int) 0
set_option maxHeartbeats 8000000 in
set_option maxRecDepth 100000 in
theorem Qs.calls (k : Nat) (A0 : Option Addr) (c0 : Nat) (l0 : List (List Int)) (r : Int) (w : World) (hr0 : Kd.C (Kd.slice 3 (Kd.int .i64)) w A0 l0.length l0) (hc0 : l0.length ≤ c0) (h : Qs.f k l0 = some r) :
  Calls Tryz.prog 55 #[.slice A0 l0.length c0] w fun e w' => e = .returned (.int .i64 r) ∧ Drawn0 w w' := by
 have HR0 := Qa.mk hr0
 have HC0 := Qa.mk hc0
 clear hr0 hc0
 have H : (Qs.l0 k 0 l0 (l0.length : Int) 0) = some r := h
 clear h
 have H' := Qa.mk H
 clear H
 go_enter Tryz.func55, Tryz.ntmps55
 go_wp2
 repeat (go_quiet (fail); try go_wp2)
 go_loopg [3, 9] k (fun kq v3 v9 w' => ∃ (x3_1 : Int) (x9_1 : Int), v3 = .int .i64 x3_1 ∧ v9 = .int .i64 x9_1 ∧ Qa (Qs.l0 kq x3_1 l0 (l0.length : Int) x9_1 = some r) ∧ Qa (kq ≤ k) ∧ Drawn0 w w')
 case atStart => exact ⟨(0), (0), (by rfl), (by rfl), H', ⟨Nat.le_refl _⟩, by repeat ((exact Drawn0.refl _))⟩
 case round =>
  clear H'
  obtain ⟨x3_1, x9_1, rfl, rfl, HA, HK1, ⟨m1, rfl⟩⟩ := hrel
  cases gk with
  | zero => exact absurd HA.out (by simp [Qs.l0])
  | succ k1 =>
   have H := HA.out
   clear HA
   simp only [Qs.l0] at H
   by_cases c2 : x9_1 < (l0.length : Int)
   rotate_left
   ·rw [if_neg c2] at H
    have c2b0 : decide (x9_1 < (l0.length : Int)) = false := decide_eq_false c2
    clear c2
    obtain rfl := Option.some.inj H
    go_wp2
    repeat (go_quiet (fail); try go_wp2)
    go_ret
    exact ⟨by rfl, by repeat (first | exact Drawn0.refl _ | apply Drawn0.step)⟩
   rw [if_pos c2] at H
   have c2b0 : decide (x9_1 < (l0.length : Int)) = true := decide_eq_true c2
   clear c2
   by_cases c3 : 0 ≤ x9_1
   rotate_left
   ·rw [if_neg c3] at H
    exact absurd H (by simp)
   rw [if_pos c3] at H
   have c3b0 : decide (0 ≤ x9_1) = true := decide_eq_true c3
   clear c3
   by_cases c4 : x9_1 < (l0.length : Int)
   rotate_left
   ·rw [if_neg c4] at H
    exact absurd H (by simp)
   rw [if_pos c4] at H
   have c4b0 : decide (x9_1 < (l0.length : Int)) = true := decide_eq_true c4
   clear c4
   have H' := Qa.mk H
   clear H
   have p391 : 0 ≤ (x9_1 : Int) := of_decide_eq_true (by (with_reducible assumption))
   have q391 : x9_1 < (l0.length : Int) := of_decide_eq_true (by (with_reducible assumption))
   obtain ⟨ad391, A391_0, c391_0, e391, hx391_0, hl391_0, hi391_0⟩ := at_L2 HR0.out x9_1 p391 q391
   cases e391
   have HR391_0 := Qa.mk hi391_0
   have HC391_0 := Qa.mk hl391_0
   clear hi391_0 hl391_0
   replace p391 := eq_true p391
   replace q391 := eq_true q391
   go_wp2
   repeat (go_quiet (fail); try go_wp2)
   go_loopg [3, 6] k1 (fun kq v3 v6 w' => ∃ (x3_2 : Int) (x6_2 : Int), v3 = .int .i64 x3_2 ∧ v6 = .int .i64 x6_2 ∧ Qa (Qs.l1 kq x3_2 (rd_L2 l0 x9_1) x6_2 l0 (l0.length : Int) x9_1 = some r) ∧ Qa (kq ≤ k1) ∧ Drawn0 w w')
   case atStart => exact ⟨(x3_1), (1), (by rfl), (by rfl), H', ⟨Nat.le_refl _⟩, by repeat (first | exact Drawn0.refl _ | apply Drawn0.step)⟩
   case round =>
    clear H' c2b0 c3b0 c4b0 hx391_0 p391 q391
    obtain ⟨x3_2, x6_2, rfl, rfl, HA, HK2, ⟨m2, rfl⟩⟩ := hrel
    cases gk with
    | zero => exact absurd HA.out (by simp [Qs.l1])
    | succ k2 =>
     have H := HA.out
     clear HA
     simp only [Qs.l1] at H
     by_cases c5 : x6_2 < ((rd_L2 l0 x9_1).length : Int)
     rotate_left
     ·rw [if_neg c5] at H
      have c5b0 : decide (x6_2 < ((rd_L2 l0 x9_1).length : Int)) = false := decide_eq_false c5
      clear c5
      have H' := Qa.mk H
      clear H
      go_wp2
      repeat (go_quiet (fail); try go_wp2)
      (go_roundg k2)
      case measure => have := HK1.out; have := HK2.out; omega
      case rel => exact ⟨(x3_2), (wrap64 (x9_1 + 1)), (by rfl), (by rfl), H', ⟨by have := HK1.out; have := HK2.out; omega⟩, by repeat (first | exact Drawn0.refl _ | apply Drawn0.step)⟩
     rw [if_pos c5] at H
     have c5b0 : decide (x6_2 < ((rd_L2 l0 x9_1).length : Int)) = true := decide_eq_true c5
     clear c5
     obtain ⟨ji6, hji6⟩ : ∃ j_ : Int, (wrap64 (x6_2 - 1)) = j_ := ⟨_, rfl⟩
     replace H : (if 0 ≤ (ji6) then (if (ji6) < ((rd_L2 l0 x9_1).length : Int) then (if 0 ≤ x6_2 then (if (rd (rd_L2 l0 x9_1) (ji6)) > (rd (rd_L2 l0 x9_1) x6_2) then (Qs.l1 k2 (wrap64 (x3_2 + 1)) (rd_L2 l0 x9_1) (wrap64 (x6_2 + 1)) l0 (l0.length : Int) x9_1) else (Qs.l1 k2 x3_2 (rd_L2 l0 x9_1) (wrap64 (x6_2 + 1)) l0 (l0.length : Int) x9_1)) else (none)) else (none)) else (none)) = some r := by (rw [hji6] at H; exact H)
     have hji6w : (IntKind.i64.wrap (x6_2 - 1)) = ji6 := (i64_w _).trans hji6
     by_cases c7 : 0 ≤ (ji6)
     rotate_left
     ·rw [if_neg c7] at H
      exact absurd H (by simp)
     rw [if_pos c7] at H
     have c7b0 : decide (0 ≤ (ji6)) = true := decide_eq_true c7
     clear c7
     by_cases c8 : (ji6) < ((rd_L2 l0 x9_1).length : Int)
     rotate_left
     ·rw [if_neg c8] at H
      exact absurd H (by simp)
     rw [if_pos c8] at H
     have c8b0 : decide ((ji6) < ((rd_L2 l0 x9_1).length : Int)) = true := decide_eq_true c8
     clear c8
     by_cases c9 : 0 ≤ x6_2
     rotate_left
     ·rw [if_neg c9] at H
      exact absurd H (by simp)
     rw [if_pos c9] at H
     have c9b0 : decide (0 ≤ x6_2) = true := decide_eq_true c9
     clear c9
     by_cases c10 : (rd (rd_L2 l0 x9_1) (ji6)) > (rd (rd_L2 l0 x9_1) x6_2)
     ·rw [if_pos c10] at H
      have c10b0 : decide ((rd (rd_L2 l0 x9_1) x6_2) < (rd (rd_L2 l0 x9_1) (ji6))) = true := decide_eq_true c10
      clear c10
      have H' := Qa.mk H
      clear H
      have p392 : 0 ≤ ((ji6) : Int) := of_decide_eq_true (by (with_reducible assumption))
      have q392 : (ji6) < ((rd_L2 l0 x9_1).length : Int) := of_decide_eq_true (by (with_reducible assumption))
      obtain ⟨ad392, e392, hx392_0⟩ := Kd.at_int HR391_0.out (ji6) p392 q392
      cases e392
      replace p392 := eq_true p392
      replace q392 := eq_true q392
      have p393 : 0 ≤ (x6_2 : Int) := of_decide_eq_true (by (with_reducible assumption))
      have q393 : x6_2 < ((rd_L2 l0 x9_1).length : Int) := of_decide_eq_true (by (with_reducible assumption))
      obtain ⟨ad393, e393, hx393_0⟩ := Kd.at_int HR391_0.out x6_2 p393 q393
      obtain rfl : ad392 = ad393 := (by injection e393)
      replace p393 := eq_true p393
      replace q393 := eq_true q393
      go_wp2
      repeat (go_quiet (fail); try go_wp2)
      (go_roundg k2)
      case measure => have := HK1.out; have := HK2.out; omega
      case rel => exact ⟨(wrap64 (x3_2 + 1)), (wrap64 (x6_2 + 1)), (by rfl), (by rfl), H', ⟨by have := HK1.out; have := HK2.out; omega⟩, by repeat (first | exact Drawn0.refl _ | apply Drawn0.step)⟩
     rw [if_neg c10] at H
     have c10b0 : decide ((rd (rd_L2 l0 x9_1) x6_2) < (rd (rd_L2 l0 x9_1) (ji6))) = false := decide_eq_false c10
     clear c10
     have H' := Qa.mk H
     clear H
     have p392 : 0 ≤ ((ji6) : Int) := of_decide_eq_true (by (with_reducible assumption))
     have q392 : (ji6) < ((rd_L2 l0 x9_1).length : Int) := of_decide_eq_true (by (with_reducible assumption))
     obtain ⟨ad392, e392, hx392_0⟩ := Kd.at_int HR391_0.out (ji6) p392 q392
     cases e392
     replace p392 := eq_true p392
     replace q392 := eq_true q392
     have p393 : 0 ≤ (x6_2 : Int) := of_decide_eq_true (by (with_reducible assumption))
     have q393 : x6_2 < ((rd_L2 l0 x9_1).length : Int) := of_decide_eq_true (by (with_reducible assumption))
     obtain ⟨ad393, e393, hx393_0⟩ := Kd.at_int HR391_0.out x6_2 p393 q393
     obtain rfl : ad392 = ad393 := (by injection e393)
     replace p393 := eq_true p393
     replace q393 := eq_true q393
     go_wp2
     repeat (go_quiet (fail); try go_wp2)
     (go_roundg k2)
     case measure => have := HK1.out; have := HK2.out; omega
     case rel => exact ⟨(x3_2), (wrap64 (x6_2 + 1)), (by rfl), (by rfl), H', ⟨by have := HK1.out; have := HK2.out; omega⟩, by repeat (first | exact Drawn0.refl _ | apply Drawn0.step)⟩
def Qm2.f (k : Nat) (l0 : List (List Int)) : Option (Int × Bool) := (Qr.f k l0).bind fun t394 => (if t394 = true then ((Qs.f k l0).bind fun t395 => ((Qx.f k l0).bind fun t396 => ((Qs.f k t396).bind fun t399 => (some (wrap64 (t395 + t399), true))))) else (some (0, false)))
set_option maxHeartbeats 8000000 in
set_option maxRecDepth 100000 in
theorem Qm2.calls (k : Nat) (A0 : Option Addr) (c0 : Nat) (l0 : List (List Int)) (r1 : Int) (r2 : Bool) (w : World) (hr0 : Kd.C (Kd.slice 3 (Kd.int .i64)) w A0 l0.length l0) (hc0 : l0.length ≤ c0) (h : Qm2.f k l0 = some (r1, r2)) :
  Calls Tryz.prog 23 #[.slice A0 l0.length c0] w fun e w' => e = .returned (.tuple #[.int .i64 r1, .bool r2]) ∧ Below w.heap.size w w' := by
 have HR0 := Qa.mk hr0
 have HC0 := Qa.mk hc0
 clear hr0 hc0
 have HB := Qa.mk (Below.refl w.heap.size w)
 have H : ((Qr.f k l0).bind fun t394 => (if t394 = true then ((Qs.f k l0).bind fun t395 => ((Qx.f k l0).bind fun t396 => ((Qs.f k t396).bind fun t399 => (some (wrap64 (t395 + t399), true))))) else (some (0, false)))) = some (r1, r2) := h
 clear h
 replace H := Option.bind_eq_some_iff.mp H
 obtain ⟨t394, A20, H⟩ := H
 replace H : (if t394 = true then ((Qs.f k l0).bind fun t395 => ((Qx.f k l0).bind fun t396 => ((Qs.f k t396).bind fun t399 => (some (wrap64 (t395 + t399), true))))) else (some (0, false))) = some (r1, r2) := H
 have A2 := Qa.mk A20
 clear A20
 by_cases c3 : t394 = true
 rotate_left
 ·replace c3 := Bool.eq_false_iff.mpr c3
  subst c3
  have H1 : (some (0, false)) = some (r1, r2) := by rw [if_neg (show ¬ (false = true) by decide)] at H; exact H
  clear H
  have H := H1
  clear H1
  simp only [Option.some.injEq, Prod.mk.injEq] at H
  obtain ⟨rfl, rfl⟩ := H
  go_enter Tryz.func23, Tryz.ntmps23
  go_wp2_with (((with_reducible refine Qg (f := 31) rfl ?_); refine goesL_ (some 5) rfl rfl Tryz.func31 (by kernel_rfl) rfl #[.slice A0 l0.length c0] rfl (by (try simp only [List.map_toArray, List.map_cons, List.map_nil]); rfl) ?_; (with_reducible refine (Qr.calls k _ _ l0 false _ ?side1 ?side2 A2.out).mono ?_); (case side1 => repeat ((exact HR0.out))); (case side2 => exact HC0.out); rintro e w' ⟨rfl, ⟨nd, rfl⟩⟩; refine ⟨_, rfl, ?_⟩))
  go_ret2
  exact ⟨by rfl, by repeat ((with_reducible first | exact HB.out | apply Qi))⟩
 subst c3
 have H1 : ((Qs.f k l0).bind fun t395 => ((Qx.f k l0).bind fun t396 => ((Qs.f k t396).bind fun t399 => (some (wrap64 (t395 + t399), true))))) = some (r1, r2) := by rw [if_pos rfl] at H; exact H
 clear H
 have H := H1
 clear H1
 replace H := Option.bind_eq_some_iff.mp H
 obtain ⟨t395, A40, H⟩ := H
 replace H : ((Qx.f k l0).bind fun t396 => ((Qs.f k t396).bind fun t399 => (some (wrap64 (t395 + t399), true)))) = some (r1, r2) := H
 have A4 := Qa.mk A40
 clear A40
 replace H := Option.bind_eq_some_iff.mp H
 obtain ⟨t396, A50, H⟩ := H
 replace H : ((Qs.f k t396).bind fun t399 => (some (wrap64 (t395 + t399), true))) = some (r1, r2) := H
 have A5 := Qa.mk A50
 clear A50
 replace H := Option.bind_eq_some_iff.mp H
 obtain ⟨t399, A60, H⟩ := H
 replace H : (some (wrap64 (t395 + t399), true)) = some (r1, r2) := H
 have A6 := Qa.mk A60
 clear A60
 simp only [Option.some.injEq, Prod.mk.injEq] at H
 obtain ⟨rfl, rfl⟩ := H
 go_enter Tryz.func23, Tryz.ntmps23
 go_wp2_with (first | ((with_reducible refine Qg (f := 31) rfl ?_); refine goesL_ (some 5) rfl rfl Tryz.func31 (by kernel_rfl) rfl #[.slice A0 l0.length c0] rfl (by (try simp only [List.map_toArray, List.map_cons, List.map_nil]); rfl) ?_; (with_reducible refine (Qr.calls k _ _ l0 true _ ?side1 ?side2 A2.out).mono ?_); (case side1 => repeat ((exact HR0.out))); (case side2 => exact HC0.out); rintro e w' ⟨rfl, ⟨nd, rfl⟩⟩; refine ⟨_, rfl, ?_⟩) | ((with_reducible refine Qg (f := 55) rfl ?_); refine goesL_ (some 8) rfl rfl Tryz.func55 (by kernel_rfl) rfl #[.slice A0 l0.length c0] rfl (by (try simp only [List.map_toArray, List.map_cons, List.map_nil]); rfl) ?_; (with_reducible refine (Qs.calls k _ _ l0 t395 _ ?side1 ?side2 A4.out).mono ?_); (case side1 => repeat ((exact HR0.out))); (case side2 => exact HC0.out); rintro e w' ⟨rfl, ⟨nd, rfl⟩⟩; refine ⟨_, rfl, ?_⟩) | ((with_reducible refine Qg (f := 44) rfl ?_); refine goesL_ (some 10) rfl rfl Tryz.func44 (by kernel_rfl) rfl #[.slice A0 l0.length c0] rfl (by (try simp only [List.map_toArray, List.map_cons, List.map_nil]); rfl) ?_; (with_reducible refine (Qx.calls k _ _ l0 t396 _ ?side1 ?side2 A5.out).mono ?_); (case side1 => repeat ((exact HR0.out))); (case side2 => exact HC0.out); rintro e w7 ⟨v397, rfl, ho0, hb⟩; refine ⟨_, rfl, ?_⟩; have n0_ := Qa.mk (Kd.S_lower ho0 (Qq (by repeat ((with_reducible first | exact HB.out | apply Qi))))); have n1_ := Qa.mk (Qh (by repeat ((with_reducible first | exact HB.out | apply Qi))) hb); clear HB; have HO398 := n0_; have HB := n1_; clear n0_ n1_; (try clear hb); (try clear hb2); (try clear hk); (try clear hi); (try clear ho0); obtain ⟨Ao8, co8, eo8⟩ := Kd.S_slice HO398.out; subst eo8) | ((with_reducible refine Qg (f := 55) rfl ?_); refine goesL_ (some 11) rfl rfl Tryz.func55 (by kernel_rfl) rfl #[.slice Ao8 t396.length co8] rfl (by (try simp only [List.map_toArray, List.map_cons, List.map_nil]); rfl) ?_; (with_reducible refine (Qs.calls k _ _ t396 t399 _ ?side1 ?side2 A6.out).mono ?_); (case side1 => repeat ((exact (Kd.S_reads' HO398.out).2.2))); (case side2 => exact (Kd.S_reads' HO398.out).2.1); rintro e w' ⟨rfl, ⟨nd, rfl⟩⟩; refine ⟨_, rfl, ?_⟩))
 go_ret2
 exact ⟨by rfl, by repeat ((with_reducible first | exact HB.out | apply Qi))⟩
-- given: function 78 (strconv_Itoa)
end Go.Proofs.YtohhlkehglahhaaGreatDoor.A
