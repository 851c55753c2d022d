-- Printed: Lean checks it.
import Derived.Test.YtohhlkehglahhaaGreatDoorAx0
import Derived.Test.YtohhlkehglahhaaGreatDoorAx1
import Derived.Test.YtohhlkehglahhaaGreatDoorAx3
import Derived.Test.YtohhlkehglahhaaGreatDoorAx19
namespace Go.Proofs.YtohhlkehglahhaaGreatDoor.A
open Go.RowKit Go.Proofs.YtohhlkehglahhaaGreatDoorW.PrintWords Go.Proofs.YtohhlkehglahhaaGreatDoorW.PrintLast Go.Proofs.YtohhlkehglahhaaGreatDoorW.PrintMore Go.Proofs.YtohhlkehglahhaaGreatDoor.X
attribute [local go_sem] max2_int min2_int max_two min_two max_three min_three max_four min_four
set_option linter.unusedVariables false
set_option linter.unusedSimpArgs false
mutual
def Qy.l0 : Nat → ByteArray → List (List Int) → Int → Int → Option (ByteArray)
 | 0, _, _, _, _ => none
 | k + 1, x3, x8, x9, x10 => if x10 < x9 then (if 0 ≤ x10 then (if x10 < (x8.length : Int) then (if x10 > 0 then (if x3.size + 1 ≤ 9223372036854775807 then (Qy.j1 k (x3 ++ (⟨#[47]⟩ : ByteArray)) (rd_L2 x8 x10) x8 x9 x10) else (none)) else (Qy.j1 k x3 (rd_L2 x8 x10) x8 x9 x10)) else (none)) else (none)) else (some x3)
def Qy.j1 : Nat → ByteArray → List Int → List (List Int) → Int → Int → Option (ByteArray)
 | 0, _, _, _, _, _ => none
 | k + 1, x3, x5, x8, x9, x10 => Qy.l1 k x3 x8 x9 x10 x5 (x5.length : Int) 0
def Qy.l1 : Nat → ByteArray → List (List Int) → Int → Int → List Int → Int → Int → Option (ByteArray)
 | 0, _, _, _, _, _, _, _ => none
 | k + 1, x3, x8, x9, x10, x19, x20, x21 => if x21 < x20 then (if 0 ≤ x21 then (if x21 < (x19.length : Int) then (if x21 > 0 then (if x3.size + 1 ≤ 9223372036854775807 then ((Qc2.f k (rd x19 x21)).bind fun t428 => (if (x3 ++ (⟨#[44]⟩ : ByteArray)).size + t428.size ≤ 9223372036854775807 then (Qy.l1 k ((x3 ++ (⟨#[44]⟩ : ByteArray)) ++ t428) x8 x9 x10 x19 x20 (wrap64 (x21 + 1))) else (none))) else (none)) else ((Qc2.f k (rd x19 x21)).bind fun t429 => (if x3.size + t429.size ≤ 9223372036854775807 then (Qy.l1 k (x3 ++ t429) x8 x9 x10 x19 x20 (wrap64 (x21 + 1))) else (none)))) else (none)) else (none)) else (Qy.l0 k x3 x8 x9 (wrap64 (x10 + 1)))
end
def Qy.f (k : Nat) (l0 : List (List Int)) : Option (ByteArray) := Qy.l0 k (⟨#[]⟩ : ByteArray) l0 (l0.length : Int) 0
set_option maxHeartbeats 8000000 in
set_option maxRecDepth 100000 in
theorem Qy.calls (k : Nat) (A0 : Option Addr) (c0 : Nat) (l0 : List (List Int)) (r : ByteArray) (w : World) (hr0 : Kd.C (Kd.slice 3 (Kd.int .i64)) w A0 l0.length l0) (hc0 : l0.length ≤ c0) (h : Qy.f k l0 = some r) :
  Calls Tryz.prog 57 #[.slice A0 l0.length c0] w fun e w' => e = .returned (.string r) ∧ Below w.heap.size w w' := by
 have HR0 := Qa.mk hr0
 have HC0 := Qa.mk hc0
 clear hr0 hc0
 have HB := Qa.mk (Below.refl w.heap.size w)
 have H : (Qy.l0 k (⟨#[]⟩ : ByteArray) l0 (l0.length : Int) 0) = some r := h
 clear h
 have H' := Qa.mk H
 clear H
 go_enter Tryz.func57, Tryz.ntmps57
 go_wp2
 go_loopg [3, 10] k (fun kq v3 v10 w' => ∃ (x3_1 : ByteArray) (x10_1 : Int), v3 = .string x3_1 ∧ v10 = .int .i64 x10_1 ∧ Qa (Qy.l0 kq x3_1 l0 (l0.length : Int) x10_1 = some r) ∧ Qa (kq ≤ k) ∧ Qa (Below w.heap.size w w'))
 case atStart => exact ⟨((⟨#[]⟩ : ByteArray)), (0), (by rfl), (by rfl), H', ⟨Nat.le_refl _⟩, ⟨by repeat ((with_reducible (exact HB.out)))⟩⟩
 case round =>
  clear H'
  obtain ⟨x3_1, x10_1, rfl, rfl, HA, HK1, HB⟩ := hrel
  cases gk with
  | zero => exact absurd HA.out (by simp [Qy.l0])
  | succ k1 =>
   have H := HA.out
   clear HA
   simp only [Qy.l0] at H
   by_cases c2 : x10_1 < (l0.length : Int)
   rotate_left
   ·rw [if_neg c2] at H
    have c2b0 : decide (x10_1 < (l0.length : Int)) = false := decide_eq_false c2
    clear c2
    obtain rfl := Option.some.inj H
    go_wp2
    go_ret
    exact ⟨by rfl, by repeat ((with_reducible (exact HB.out)))⟩
   rw [if_pos c2] at H
   have c2b0 : decide (x10_1 < (l0.length : Int)) = true := decide_eq_true c2
   clear c2
   by_cases c3 : 0 ≤ x10_1
   rotate_left
   ·rw [if_neg c3] at H
    exact absurd H (by simp)
   rw [if_pos c3] at H
   have c3b0 : decide (0 ≤ x10_1) = true := decide_eq_true c3
   clear c3
   by_cases c4 : x10_1 < (l0.length : Int)
   rotate_left
   ·rw [if_neg c4] at H
    exact absurd H (by simp)
   rw [if_pos c4] at H
   have c4b0 : decide (x10_1 < (l0.length : Int)) = true := decide_eq_true c4
   clear c4
   have HC5 := Qa.mk H
   clear H
   have p426 : 0 ≤ (x10_1 : Int) := of_decide_eq_true (by (with_reducible assumption))
   have q426 : x10_1 < (l0.length : Int) := of_decide_eq_true (by (with_reducible assumption))
   obtain ⟨ad426, A426_0, c426_0, e426, hx426_0, hl426_0, hi426_0⟩ := at_L2 HR0.out x10_1 p426 q426
   cases e426
   replace hx426_0 := (HB.out.cell (World.block_lt_of_cell? w _ hx426_0)).trans hx426_0
   have HR426_0 := Qa.mk hi426_0
   have HC426_0 := Qa.mk hl426_0
   clear hi426_0 hl426_0
   replace p426 := eq_true p426
   replace q426 := eq_true q426
   go_upto_if 16 with (fail)
   go_cut [3] (fun v3 wc => ∃ (kq : Nat) (x3_4 : ByteArray), v3 = .string x3_4 ∧ Qa (Qy.j1 kq x3_4 (rd_L2 l0 x10_1) l0 (l0.length : Int) x10_1 = some r) ∧ Qa (kq ≤ k1) ∧ Qa (Below w.heap.size w wc))
   case first =>
    have H := HC5.out
    clear HC5
    by_cases c6 : x10_1 > 0
    rotate_left
    ·rw [if_neg c6] at H
     have c6b0 : decide (0 < x10_1) = false := decide_eq_false c6
     clear c6
     ((rw [c6b0]))
     have H' := Qa.mk H
     clear H
     go_wp2
     go_meet
     case rel => exact ⟨_, (x3_1), (by rfl), H', ⟨by have := HK1.out; omega⟩, ⟨by repeat ((with_reducible (exact HB.out)))⟩⟩
    rw [if_pos c6] at H
    have c6b0 : decide (0 < x10_1) = true := decide_eq_true c6
    clear c6
    ((rw [c6b0]))
    by_cases c7 : x3_1.size + 1 ≤ 9223372036854775807
    rotate_left
    ·rw [if_neg c7] at H
     exact absurd H (by simp)
    rw [if_pos c7] at H
    have c7b0 := eq_true c7
    have c7b1 : decide (x3_1.size + 1 ≤ 9223372036854775807) = true := decide_eq_true c7
    try have c7b2 : (9223372036854775807 < x3_1.size + 1) = False := eq_false (Nat.not_lt.2 c7)
    have H' := Qa.mk H
    clear H
    go_wp2
    go_meet
    case rel => exact ⟨_, (x3_1 ++ (⟨#[47]⟩ : ByteArray)), (by rfl), H', ⟨by have := HK1.out; omega⟩, ⟨by repeat ((with_reducible (exact HB.out)))⟩⟩
   case rest =>
    clear HC5 c2b0 c3b0 c4b0 hx426_0 p426 q426
    obtain ⟨kq, x3_4, rfl, HA, HJ4, HB⟩ := hcut
    cases kq with
    | zero => exact absurd HA.out (by simp [Qy.j1])
    | succ kj4 =>
     have H := HA.out
     clear HA
     simp only [Qy.j1] at H
     have H' := Qa.mk H
     clear H
     go_wp2
     go_loopg [3, 21] kj4 (fun kq v3 v21 w' => ∃ (x3_3 : ByteArray) (x21_3 : Int), v3 = .string x3_3 ∧ v21 = .int .i64 x21_3 ∧ Qa (Qy.l1 kq x3_3 l0 (l0.length : Int) x10_1 (rd_L2 l0 x10_1) ((rd_L2 l0 x10_1).length : Int) x21_3 = some r) ∧ Qa (kq ≤ kj4) ∧ Qa (Below w.heap.size w w'))
     case atStart => exact ⟨(x3_4), (0), (by rfl), (by rfl), H', ⟨Nat.le_refl _⟩, ⟨by repeat ((with_reducible (exact HB.out)))⟩⟩
     case round =>
      clear H'
      obtain ⟨x3_3, x21_3, rfl, rfl, HA, HK3, HB⟩ := hrel
      cases gk with
      | zero => exact absurd HA.out (by simp [Qy.l1])
      | succ k3 =>
       have H := HA.out
       clear HA
       simp only [Qy.l1] at H
       by_cases c8 : x21_3 < ((rd_L2 l0 x10_1).length : Int)
       rotate_left
       ·rw [if_neg c8] at H
        have c8b0 : decide (x21_3 < ((rd_L2 l0 x10_1).length : Int)) = false := decide_eq_false c8
        clear c8
        have H' := Qa.mk H
        clear H
        go_wp2
        (go_roundg k3)
        case measure => have := HK1.out; have := HJ4.out; have := HK3.out; omega
        case rel => exact ⟨(x3_3), (wrap64 (x10_1 + 1)), (by rfl), (by rfl), H', ⟨by have := HK1.out; have := HJ4.out; have := HK3.out; omega⟩, ⟨by repeat ((with_reducible (exact HB.out)))⟩⟩
       rw [if_pos c8] at H
       have c8b0 : decide (x21_3 < ((rd_L2 l0 x10_1).length : Int)) = true := decide_eq_true c8
       clear c8
       by_cases c9 : 0 ≤ x21_3
       rotate_left
       ·rw [if_neg c9] at H
        exact absurd H (by simp)
       rw [if_pos c9] at H
       have c9b0 : decide (0 ≤ x21_3) = true := decide_eq_true c9
       clear c9
       by_cases c10 : x21_3 < ((rd_L2 l0 x10_1).length : Int)
       rotate_left
       ·rw [if_neg c10] at H
        exact absurd H (by simp)
       rw [if_pos c10] at H
       have c10b0 : decide (x21_3 < ((rd_L2 l0 x10_1).length : Int)) = true := decide_eq_true c10
       clear c10
       by_cases c11 : x21_3 > 0
       rotate_left
       ·rw [if_neg c11] at H
        have c11b0 : decide (0 < x21_3) = false := decide_eq_false c11
        clear c11
        replace H := Option.bind_eq_some_iff.mp H
        obtain ⟨t429, A160, H⟩ := H
        replace H : (if x3_3.size + t429.size ≤ 9223372036854775807 then (Qy.l1 k3 (x3_3 ++ t429) l0 (l0.length : Int) x10_1 (rd_L2 l0 x10_1) ((rd_L2 l0 x10_1).length : Int) (wrap64 (x21_3 + 1))) else (none)) = some r := H
        have A16 := Qa.mk A160
        clear A160
        by_cases c17 : x3_3.size + t429.size ≤ 9223372036854775807
        rotate_left
        ·rw [if_neg c17] at H
         exact absurd H (by simp)
        rw [if_pos c17] at H
        have c17b0 := eq_true c17
        have c17b1 : decide (x3_3.size + t429.size ≤ 9223372036854775807) = true := decide_eq_true c17
        try have c17b2 : (9223372036854775807 < x3_3.size + t429.size) = False := eq_false (Nat.not_lt.2 c17)
        have H' := Qa.mk H
        clear H
        have p427 : 0 ≤ (x21_3 : Int) := of_decide_eq_true (by (with_reducible assumption))
        have q427 : x21_3 < ((rd_L2 l0 x10_1).length : Int) := of_decide_eq_true (by (with_reducible assumption))
        obtain ⟨ad427, e427, hx427_0⟩ := Kd.at_int HR426_0.out x21_3 p427 q427
        cases e427
        replace hx427_0 := (HB.out.cell (World.block_lt_of_cell? w _ hx427_0)).trans hx427_0
        replace p427 := eq_true p427
        replace q427 := eq_true q427
        go_wp2_with (((with_reducible refine Qg (f := 80) rfl ?_); refine goesL_ (some 32) rfl rfl Tryz.func80 (by kernel_rfl) rfl #[.int .i64 (rd (rd_L2 l0 x10_1) x21_3)] rfl (by (try simp only [List.map_toArray, List.map_cons, List.map_nil]); rfl) ?_; (with_reducible refine (Qc2.calls k3 (rd (rd_L2 l0 x10_1) x21_3) t429 _ A16.out).mono ?_); rintro e w18 ⟨rfl, hb⟩; refine ⟨_, rfl, ?_⟩; have n0_ := Qa.mk (Qh (by repeat ((with_reducible (exact HB.out)))) hb); clear HB; have HB := n0_; clear n0_; (try clear hb); (try clear hb2); (try clear hk); (try clear hi)))
        (go_roundg k3)
        case measure => have := HK1.out; have := HJ4.out; have := HK3.out; omega
        case rel => exact ⟨(x3_3 ++ t429), (wrap64 (x21_3 + 1)), (by rfl), (by rfl), H', ⟨by have := HK1.out; have := HJ4.out; have := HK3.out; omega⟩, ⟨by repeat ((with_reducible (exact HB.out)))⟩⟩
       rw [if_pos c11] at H
       have c11b0 : decide (0 < x21_3) = true := decide_eq_true c11
       clear c11
       by_cases c12 : x3_3.size + 1 ≤ 9223372036854775807
       rotate_left
       ·rw [if_neg c12] at H
        exact absurd H (by simp)
       rw [if_pos c12] at H
       have c12b0 := eq_true c12
       have c12b1 : decide (x3_3.size + 1 ≤ 9223372036854775807) = true := decide_eq_true c12
       try have c12b2 : (9223372036854775807 < x3_3.size + 1) = False := eq_false (Nat.not_lt.2 c12)
       replace H := Option.bind_eq_some_iff.mp H
       obtain ⟨t428, A130, H⟩ := H
       replace H : (if (x3_3 ++ (⟨#[44]⟩ : ByteArray)).size + t428.size ≤ 9223372036854775807 then (Qy.l1 k3 ((x3_3 ++ (⟨#[44]⟩ : ByteArray)) ++ t428) l0 (l0.length : Int) x10_1 (rd_L2 l0 x10_1) ((rd_L2 l0 x10_1).length : Int) (wrap64 (x21_3 + 1))) else (none)) = some r := H
       have A13 := Qa.mk A130
       clear A130
       by_cases c14 : (x3_3 ++ (⟨#[44]⟩ : ByteArray)).size + t428.size ≤ 9223372036854775807
       rotate_left
       ·rw [if_neg c14] at H
        exact absurd H (by simp)
       rw [if_pos c14] at H
       have c14b0 := eq_true c14
       have c14b1 : decide ((x3_3 ++ (⟨#[44]⟩ : ByteArray)).size + t428.size ≤ 9223372036854775807) = true := decide_eq_true c14
       try have c14b2 : (9223372036854775807 < (x3_3 ++ (⟨#[44]⟩ : ByteArray)).size + t428.size) = False := eq_false (Nat.not_lt.2 c14)
       try have c14b3 : (9223372036854775807 < x3_3.size + 1 + t428.size) = False := by (have z := c14b2; simp only [ByteArray.size_append] at z; exact z)
       have H' := Qa.mk H
       clear H
       have p427 : 0 ≤ (x21_3 : Int) := of_decide_eq_true (by (with_reducible assumption))
       have q427 : x21_3 < ((rd_L2 l0 x10_1).length : Int) := of_decide_eq_true (by (with_reducible assumption))
       obtain ⟨ad427, e427, hx427_0⟩ := Kd.at_int HR426_0.out x21_3 p427 q427
       cases e427
       replace hx427_0 := (HB.out.cell (World.block_lt_of_cell? w _ hx427_0)).trans hx427_0
       replace p427 := eq_true p427
       replace q427 := eq_true q427
       go_wp2_with (((with_reducible refine Qg (f := 80) rfl ?_); refine goesL_ (some 32) rfl rfl Tryz.func80 (by kernel_rfl) rfl #[.int .i64 (rd (rd_L2 l0 x10_1) x21_3)] rfl (by (try simp only [List.map_toArray, List.map_cons, List.map_nil]); rfl) ?_; (with_reducible refine (Qc2.calls k3 (rd (rd_L2 l0 x10_1) x21_3) t428 _ A13.out).mono ?_); rintro e w15 ⟨rfl, hb⟩; refine ⟨_, rfl, ?_⟩; have n0_ := Qa.mk (Qh (by repeat ((with_reducible (exact HB.out)))) hb); clear HB; have HB := n0_; clear n0_; (try clear hb); (try clear hb2); (try clear hk); (try clear hi)))
       (go_roundg k3)
       case measure => have := HK1.out; have := HJ4.out; have := HK3.out; omega
       case rel => exact ⟨((x3_3 ++ (⟨#[44]⟩ : ByteArray)) ++ t428), (wrap64 (x21_3 + 1)), (by rfl), (by rfl), H', ⟨by have := HK1.out; have := HJ4.out; have := HK3.out; omega⟩, ⟨by repeat ((with_reducible (exact HB.out)))⟩⟩
def Qr2.f (k : Nat) (l0 : List (List Int)) : Option (ByteArray × Bool) := (Qr.f k l0).bind fun t430 => (if t430 = true then ((Qy.f k l0).bind fun t431 => (some (t431, true))) else (some ((⟨#[]⟩ : ByteArray), false)))
set_option maxHeartbeats 8000000 in
set_option maxRecDepth 100000 in
theorem Qr2.calls (k : Nat) (A0 : Option Addr) (c0 : Nat) (l0 : List (List Int)) (r1 : ByteArray) (r2 : Bool) (w : World) (hr0 : Kd.C (Kd.slice 3 (Kd.int .i64)) w A0 l0.length l0) (hc0 : l0.length ≤ c0) (h : Qr2.f k l0 = some (r1, r2)) :
  Calls Tryz.prog 25 #[.slice A0 l0.length c0] w fun e w' => e = .returned (.tuple #[.string r1, .bool r2]) ∧ Below w.heap.size w w' := by
 have HR0 := Qa.mk hr0
 have HC0 := Qa.mk hc0
 clear hr0 hc0
 have HB := Qa.mk (Below.refl w.heap.size w)
 have H : ((Qr.f k l0).bind fun t430 => (if t430 = true then ((Qy.f k l0).bind fun t431 => (some (t431, true))) else (some ((⟨#[]⟩ : ByteArray), false)))) = some (r1, r2) := h
 clear h
 replace H := Option.bind_eq_some_iff.mp H
 obtain ⟨t430, A20, H⟩ := H
 replace H : (if t430 = true then ((Qy.f k l0).bind fun t431 => (some (t431, true))) else (some ((⟨#[]⟩ : ByteArray), false))) = some (r1, r2) := H
 have A2 := Qa.mk A20
 clear A20
 by_cases c3 : t430 = true
 rotate_left
 ·replace c3 := Bool.eq_false_iff.mpr c3
  subst c3
  have H1 : (some ((⟨#[]⟩ : ByteArray), false)) = some (r1, r2) := by rw [if_neg (show ¬ (false = true) by decide)] at H; exact H
  clear H
  have H := H1
  clear H1
  simp only [Option.some.injEq, Prod.mk.injEq] at H
  obtain ⟨rfl, rfl⟩ := H
  go_enter Tryz.func25, Tryz.ntmps25
  go_wp2_with (((with_reducible refine Qg (f := 31) rfl ?_); refine goesL_ (some 5) rfl rfl Tryz.func31 (by kernel_rfl) rfl #[.slice A0 l0.length c0] rfl (by (try simp only [List.map_toArray, List.map_cons, List.map_nil]); rfl) ?_; (with_reducible refine (Qr.calls k _ _ l0 false _ ?side1 ?side2 A2.out).mono ?_); (case side1 => repeat ((exact HR0.out))); (case side2 => exact HC0.out); rintro e w' ⟨rfl, ⟨nd, rfl⟩⟩; refine ⟨_, rfl, ?_⟩))
  go_ret2
  exact ⟨by rfl, by repeat ((with_reducible first | exact HB.out | apply Qi))⟩
 subst c3
 have H1 : ((Qy.f k l0).bind fun t431 => (some (t431, true))) = some (r1, r2) := by rw [if_pos rfl] at H; exact H
 clear H
 have H := H1
 clear H1
 replace H := Option.bind_eq_some_iff.mp H
 obtain ⟨t431, A40, H⟩ := H
 replace H : (some (t431, true)) = some (r1, r2) := H
 have A4 := Qa.mk A40
 clear A40
 simp only [Option.some.injEq, Prod.mk.injEq] at H
 obtain ⟨rfl, rfl⟩ := H
 go_enter Tryz.func25, Tryz.ntmps25
 go_wp2_with (first | ((with_reducible refine Qg (f := 31) rfl ?_); refine goesL_ (some 5) rfl rfl Tryz.func31 (by kernel_rfl) rfl #[.slice A0 l0.length c0] rfl (by (try simp only [List.map_toArray, List.map_cons, List.map_nil]); rfl) ?_; (with_reducible refine (Qr.calls k _ _ l0 true _ ?side1 ?side2 A2.out).mono ?_); (case side1 => repeat ((exact HR0.out))); (case side2 => exact HC0.out); rintro e w' ⟨rfl, ⟨nd, rfl⟩⟩; refine ⟨_, rfl, ?_⟩) | ((with_reducible refine Qg (f := 57) rfl ?_); refine goesL_ (some 8) rfl rfl Tryz.func57 (by kernel_rfl) rfl #[.slice A0 l0.length c0] rfl (by (try simp only [List.map_toArray, List.map_cons, List.map_nil]); rfl) ?_; (with_reducible refine (Qy.calls k _ _ l0 t431 _ ?side1 ?side2 A4.out).mono ?_); (case side1 => repeat ((exact HR0.out))); (case side2 => exact HC0.out); rintro e w5 ⟨rfl, hb⟩; refine ⟨_, rfl, ?_⟩; have n0_ := Qa.mk (Qh (by repeat ((with_reducible first | exact HB.out | apply Qi))) hb); clear HB; have HB := n0_; clear n0_; (try clear hb); (try clear hb2); (try clear hk); (try clear hi)))
 go_ret2
 exact ⟨by rfl, by repeat ((with_reducible (exact HB.out)))⟩
mutual
def Ql.l0 : Nat → ByteArray → ByteArray → Int → List Int → Int → Int → Option (ByteArray × Int × Int)
 | 0, _, _, _, _, _, _ => none
 | k + 1, x1, x2, x7, x1000, x1001, x1002 => if x7 > 0 then (Ql.j1 k x1 x2 x7 (decide ((x1.size : Int) > 0)) x1000 x1001 x1002) else (Ql.j1 k x1 x2 x7 false x1000 x1001 x1002)
def Ql.j1 : Nat → ByteArray → ByteArray → Int → Bool → List Int → Int → Int → Option (ByteArray × Int × Int)
 | 0, _, _, _, _, _, _, _ => none
 | k + 1, x1, x2, x7, x19, x1000, x1001, x1002 => if x19 = true then ((Qe.f x1000 x1001 x1002 (x1.size : Int)).bind fun bt435 => ((Qe.f x1000 bt435.2.1 bt435.2.2 (x2.size : Int)).bind fun bt438 => (if 0 ≤ bt438.1 then (if bt438.1 < (x2.size : Int) then ((some (([bt x2 bt438.1] : List Int) : List Int)).bind fun y441 => ((Qe.f x1000 bt438.2.1 bt438.2.2 3).bind fun bt444 => (if bt444.1 = 0 then (if 0 ≤ bt435.1 then (if bt435.1 ≤ (x1.size : Int) then (if (x1.extract 0 (bt435.1 : Int).toNat).size + (strOfNums y441).size ≤ 9223372036854775807 then (if ((x1.extract 0 (bt435.1 : Int).toNat) ++ (strOfNums y441)).size + (x1.extract (bt435.1 : Int).toNat x1.size).size ≤ 9223372036854775807 then (Ql.l0 k (((x1.extract 0 (bt435.1 : Int).toNat) ++ (strOfNums y441)) ++ (x1.extract (bt435.1 : Int).toNat x1.size)) x2 (wrap64 (x7 - 1)) x1000 bt444.2.1 bt444.2.2) else (none)) else (none)) else (none)) else (none)) else (if bt444.1 = 1 then (if 0 ≤ bt435.1 then (if bt435.1 ≤ (x1.size : Int) then (if (x1.extract 0 (bt435.1 : Int).toNat).size + (strOfNums y441).size ≤ 9223372036854775807 then (if 0 ≤ (wrap64 (bt435.1 + 1)) then (if (wrap64 (bt435.1 + 1)) ≤ (x1.size : Int) then (if ((x1.extract 0 (bt435.1 : Int).toNat) ++ (strOfNums y441)).size + (x1.extract ((wrap64 (bt435.1 + 1)) : Int).toNat x1.size).size ≤ 9223372036854775807 then (Ql.l0 k (((x1.extract 0 (bt435.1 : Int).toNat) ++ (strOfNums y441)) ++ (x1.extract ((wrap64 (bt435.1 + 1)) : Int).toNat x1.size)) x2 (wrap64 (x7 - 1)) x1000 bt444.2.1 bt444.2.2) else (none)) else (none)) else (none)) else (none)) else (none)) else (none)) else (if 0 ≤ bt435.1 then (if bt435.1 ≤ (x1.size : Int) then (if 0 ≤ (wrap64 (bt435.1 + 1)) then (if (wrap64 (bt435.1 + 1)) ≤ (x1.size : Int) then (if (x1.extract 0 (bt435.1 : Int).toNat).size + (x1.extract ((wrap64 (bt435.1 + 1)) : Int).toNat x1.size).size ≤ 9223372036854775807 then (Ql.l0 k ((x1.extract 0 (bt435.1 : Int).toNat) ++ (x1.extract ((wrap64 (bt435.1 + 1)) : Int).toNat x1.size)) x2 (wrap64 (x7 - 1)) x1000 bt444.2.1 bt444.2.2) else (none)) else (none)) else (none)) else (none)) else (none)))))) else (none)) else (none)))) else (some (x1, x1001, x1002))
end
def Ql.f (k : Nat) (s0_0 : List Int) (s0_1 : Int) (s0_2 : Int) (a1 : ByteArray) (a2 : ByteArray) : Option (ByteArray × Int × Int) := (Qe.f s0_0 s0_1 s0_2 2).bind fun bt432 => (Ql.l0 k a1 a2 (wrap64 (1 + bt432.1)) s0_0 bt432.2.1 bt432.2.2)
set_option maxHeartbeats 8000000 in
set_option maxRecDepth 100000 in
theorem Ql.calls (k : Nat) (g : Nat) (s0_0 : List Int) (s0_1 : Int) (s0_2 : Int) (a1 : ByteArray) (a2 : ByteArray) (r1 : ByteArray) (r2 : Int) (r3 : Int) (w0 w : World) (hI : IsS50 w0 w g s0_0 s0_1 s0_2) (hB : Below w0.heap.size w0 w) (h : Ql.f k s0_0 s0_1 s0_2 a1 a2 = some (r1, r2, r3)) :
  Calls Tryz.prog 59 #[.pointer (some ⟨g, 0, none⟩), .string a1, .string a2] w fun e w' => e = .returned (.string r1) ∧ IsS50 w0 w' g s0_0 r2 r3 ∧ Below w0.heap.size w0 w' ∧ Qp w w' g none := by
 have HI0 := Qa.mk hI
 have HK := Qa.mk (Qp.refl w g none)
 have HL := Qa.mk hB.size
 clear hI
 have HW0 := Qa.mk hB.size
 have HB := Qa.mk hB
 clear hB
 have H : ((Qe.f s0_0 s0_1 s0_2 2).bind fun bt432 => (Ql.l0 k a1 a2 (wrap64 (1 + bt432.1)) s0_0 bt432.2.1 bt432.2.2)) = some (r1, r2, r3) := h
 clear h
 replace H := Option.bind_eq_some_iff.mp H
 obtain ⟨⟨t432, t433, t434⟩, A40, H⟩ := H
 replace H : (Ql.l0 k a1 a2 (wrap64 (1 + t432)) s0_0 t433 t434) = some (r1, r2, r3) := H
 have A4 := Qa.mk A40
 clear A40
 have H' := Qa.mk H
 clear H
 go_enter Tryz.func59, Tryz.ntmps59
 go_wp2_with ((go_at_call 36; (with_reducible refine (Qe.calls g s0_0 s0_1 s0_2 2 t432 t433 t434 w0 _ ?side1 ?side2 A4.out).mono ?_); (case side1 => repeat ((with_reducible (exact HI0.out)))); (case side2 => repeat ((with_reducible (exact HB.out)))); rintro e w5 ⟨rfl, hi, hb, hk⟩; have n0_ := Qa.mk (Qp.trans (by repeat ((with_reducible (exact HK.out)))) hk (.inl rfl)); have n1_ := Qa.mk (hb); have n2_ := Qa.mk (hi); clear HK; clear HB; clear HI0; have HK := n0_; have HB := n1_; have HI0 := n2_; clear n0_ n1_ n2_; (try clear hb); (try clear hb2); (try clear hk); (try clear hi)))
 repeat (go_quiet (fail); try go_wp2_with (fail))
 go_loopg [1, 7] k (fun kq v1 v7 w' => ∃ (x1_1 : ByteArray) (x7_1 : Int) (x1001_1 : Int) (x1002_1 : Int), v1 = .string x1_1 ∧ v7 = .int .i64 x7_1 ∧ Qa (Ql.l0 kq x1_1 a2 x7_1 s0_0 x1001_1 x1002_1 = some (r1, r2, r3)) ∧ Qa (kq ≤ k) ∧ Qa (IsS50 w0 w' g s0_0 x1001_1 x1002_1) ∧ Qa (Qp w w' g none) ∧ Qa (Below w0.heap.size w0 w'))
 case atStart => exact ⟨(a1), (wrap64 (1 + t432)), (t433), (t434), (by rfl), (by rfl), H', ⟨Nat.le_refl _⟩, ⟨by repeat ((with_reducible (exact HI0.out)))⟩, ⟨by repeat ((with_reducible (exact HK.out)))⟩, ⟨by repeat ((with_reducible (exact HB.out)))⟩⟩
 case round =>
  clear H'
  obtain ⟨x1_1, x7_1, x1001_1, x1002_1, rfl, rfl, HA, HK1, HI0, HK, HB⟩ := hrel
  cases gk with
  | zero => exact absurd HA.out (by simp [Ql.l0])
  | succ k1 =>
   have H := HA.out
   clear HA
   simp only [Ql.l0] at H
   have HC6 := Qa.mk H
   clear H
   go_upto_region 2 with (fail)
   repeat (go_quiet (fail); go_upto_region 2 with (fail))
   go_cut [19] (fun v19 wc => ∃ (kq : Nat) (x19_5 : Bool), v19 = .bool x19_5 ∧ Qa (Ql.j1 kq x1_1 a2 x7_1 x19_5 s0_0 x1001_1 x1002_1 = some (r1, r2, r3)) ∧ Qa (kq ≤ k1) ∧ Qa (IsS50 w0 wc g s0_0 x1001_1 x1002_1) ∧ Qa (Qp w wc g none) ∧ Qa (Below w0.heap.size w0 wc))
   case first =>
    have H := HC6.out
    clear HC6
    by_cases c7 : x7_1 > 0
    ·rw [if_pos c7] at H
     have c7b0 : decide (0 < x7_1) = true := decide_eq_true c7
     clear c7
     (skip)
     have H' := Qa.mk H
     clear H
     go_wp2
     repeat (go_quiet (fail); try go_wp2)
     go_meet
     case rel => exact ⟨_, (decide ((x1_1.size : Int) > 0)), (by (simp; done)), H', ⟨by have := HK1.out; omega⟩, ⟨by repeat ((with_reducible (exact HI0.out)))⟩, ⟨by repeat ((with_reducible (exact HK.out)))⟩, ⟨by repeat ((with_reducible (exact HB.out)))⟩⟩
    rw [if_neg c7] at H
    have c7b0 : decide (0 < x7_1) = false := decide_eq_false c7
    clear c7
    (skip)
    have H' := Qa.mk H
    clear H
    go_wp2
    repeat (go_quiet (fail); try go_wp2)
    go_meet
    case rel => exact ⟨_, (false), (by rfl), H', ⟨by have := HK1.out; omega⟩, ⟨by repeat ((with_reducible (exact HI0.out)))⟩, ⟨by repeat ((with_reducible (exact HK.out)))⟩, ⟨by repeat ((with_reducible (exact HB.out)))⟩⟩
   case rest =>
    clear HC6
    obtain ⟨kq, x19_5, rfl, HA, HJ5, HI0, HK, HB⟩ := hcut
    cases kq with
    | zero => exact absurd HA.out (by simp [Ql.j1])
    | succ kj5 =>
     have H := HA.out
     clear HA
     simp only [Ql.j1] at H
     by_cases c8 : x19_5 = true
     rotate_left
     ·replace c8 := Bool.eq_false_iff.mpr c8
      subst c8
      have H1 : (some (x1_1, x1001_1, x1002_1)) = some (r1, r2, r3) := by rw [if_neg (show ¬ (false = true) by decide)] at H; exact H
      clear H
      have H := H1
      clear H1
      simp only [Option.some.injEq, Prod.mk.injEq] at H
      obtain ⟨rfl, rfl, rfl⟩ := H
      go_wp2
      repeat (go_quiet (fail); try go_wp2)
      go_ret
      exact ⟨by rfl, by (try simp only [Int.add_zero]); repeat ((with_reducible (exact HI0.out))), by repeat ((with_reducible (exact HB.out))), by repeat ((with_reducible (exact HK.out)))⟩
     subst c8
     have H1 : ((Qe.f s0_0 x1001_1 x1002_1 (x1_1.size : Int)).bind fun bt435 => ((Qe.f s0_0 bt435.2.1 bt435.2.2 (a2.size : Int)).bind fun bt438 => (if 0 ≤ bt438.1 then (if bt438.1 < (a2.size : Int) then ((some (([bt a2 bt438.1] : List Int) : List Int)).bind fun y441 => ((Qe.f s0_0 bt438.2.1 bt438.2.2 3).bind fun bt444 => (if bt444.1 = 0 then (if 0 ≤ bt435.1 then (if bt435.1 ≤ (x1_1.size : Int) then (if (x1_1.extract 0 (bt435.1 : Int).toNat).size + (strOfNums y441).size ≤ 9223372036854775807 then (if ((x1_1.extract 0 (bt435.1 : Int).toNat) ++ (strOfNums y441)).size + (x1_1.extract (bt435.1 : Int).toNat x1_1.size).size ≤ 9223372036854775807 then (Ql.l0 kj5 (((x1_1.extract 0 (bt435.1 : Int).toNat) ++ (strOfNums y441)) ++ (x1_1.extract (bt435.1 : Int).toNat x1_1.size)) a2 (wrap64 (x7_1 - 1)) s0_0 bt444.2.1 bt444.2.2) else (none)) else (none)) else (none)) else (none)) else (if bt444.1 = 1 then (if 0 ≤ bt435.1 then (if bt435.1 ≤ (x1_1.size : Int) then (if (x1_1.extract 0 (bt435.1 : Int).toNat).size + (strOfNums y441).size ≤ 9223372036854775807 then (if 0 ≤ (wrap64 (bt435.1 + 1)) then (if (wrap64 (bt435.1 + 1)) ≤ (x1_1.size : Int) then (if ((x1_1.extract 0 (bt435.1 : Int).toNat) ++ (strOfNums y441)).size + (x1_1.extract ((wrap64 (bt435.1 + 1)) : Int).toNat x1_1.size).size ≤ 9223372036854775807 then (Ql.l0 kj5 (((x1_1.extract 0 (bt435.1 : Int).toNat) ++ (strOfNums y441)) ++ (x1_1.extract ((wrap64 (bt435.1 + 1)) : Int).toNat x1_1.size)) a2 (wrap64 (x7_1 - 1)) s0_0 bt444.2.1 bt444.2.2) else (none)) else (none)) else (none)) else (none)) else (none)) else (none)) else (if 0 ≤ bt435.1 then (if bt435.1 ≤ (x1_1.size : Int) then (if 0 ≤ (wrap64 (bt435.1 + 1)) then (if (wrap64 (bt435.1 + 1)) ≤ (x1_1.size : Int) then (if (x1_1.extract 0 (bt435.1 : Int).toNat).size + (x1_1.extract ((wrap64 (bt435.1 + 1)) : Int).toNat x1_1.size).size ≤ 9223372036854775807 then (Ql.l0 kj5 ((x1_1.extract 0 (bt435.1 : Int).toNat) ++ (x1_1.extract ((wrap64 (bt435.1 + 1)) : Int).toNat x1_1.size)) a2 (wrap64 (x7_1 - 1)) s0_0 bt444.2.1 bt444.2.2) else (none)) else (none)) else (none)) else (none)) else (none)))))) else (none)) else (none)))) = some (r1, r2, r3) := by rw [if_pos rfl] at H; exact H
     clear H
     have H := H1
     clear H1
     replace H := Option.bind_eq_some_iff.mp H
     obtain ⟨⟨t435, t436, t437⟩, A90, H⟩ := H
     replace H : ((Qe.f s0_0 t436 t437 (a2.size : Int)).bind fun bt438 => (if 0 ≤ bt438.1 then (if bt438.1 < (a2.size : Int) then ((some (([bt a2 bt438.1] : List Int) : List Int)).bind fun y441 => ((Qe.f s0_0 bt438.2.1 bt438.2.2 3).bind fun bt444 => (if bt444.1 = 0 then (if 0 ≤ t435 then (if t435 ≤ (x1_1.size : Int) then (if (x1_1.extract 0 (t435 : Int).toNat).size + (strOfNums y441).size ≤ 9223372036854775807 then (if ((x1_1.extract 0 (t435 : Int).toNat) ++ (strOfNums y441)).size + (x1_1.extract (t435 : Int).toNat x1_1.size).size ≤ 9223372036854775807 then (Ql.l0 kj5 (((x1_1.extract 0 (t435 : Int).toNat) ++ (strOfNums y441)) ++ (x1_1.extract (t435 : Int).toNat x1_1.size)) a2 (wrap64 (x7_1 - 1)) s0_0 bt444.2.1 bt444.2.2) else (none)) else (none)) else (none)) else (none)) else (if bt444.1 = 1 then (if 0 ≤ t435 then (if t435 ≤ (x1_1.size : Int) then (if (x1_1.extract 0 (t435 : Int).toNat).size + (strOfNums y441).size ≤ 9223372036854775807 then (if 0 ≤ (wrap64 (t435 + 1)) then (if (wrap64 (t435 + 1)) ≤ (x1_1.size : Int) then (if ((x1_1.extract 0 (t435 : Int).toNat) ++ (strOfNums y441)).size + (x1_1.extract ((wrap64 (t435 + 1)) : Int).toNat x1_1.size).size ≤ 9223372036854775807 then (Ql.l0 kj5 (((x1_1.extract 0 (t435 : Int).toNat) ++ (strOfNums y441)) ++ (x1_1.extract ((wrap64 (t435 + 1)) : Int).toNat x1_1.size)) a2 (wrap64 (x7_1 - 1)) s0_0 bt444.2.1 bt444.2.2) else (none)) else (none)) else (none)) else (none)) else (none)) else (none)) else (if 0 ≤ t435 then (if t435 ≤ (x1_1.size : Int) then (if 0 ≤ (wrap64 (t435 + 1)) then (if (wrap64 (t435 + 1)) ≤ (x1_1.size : Int) then (if (x1_1.extract 0 (t435 : Int).toNat).size + (x1_1.extract ((wrap64 (t435 + 1)) : Int).toNat x1_1.size).size ≤ 9223372036854775807 then (Ql.l0 kj5 ((x1_1.extract 0 (t435 : Int).toNat) ++ (x1_1.extract ((wrap64 (t435 + 1)) : Int).toNat x1_1.size)) a2 (wrap64 (x7_1 - 1)) s0_0 bt444.2.1 bt444.2.2) else (none)) else (none)) else (none)) else (none)) else (none)))))) else (none)) else (none))) = some (r1, r2, r3) := H
     have A9 := Qa.mk A90
     clear A90
     replace H := Option.bind_eq_some_iff.mp H
     obtain ⟨⟨t438, t439, t440⟩, A100, H⟩ := H
     replace H : (if 0 ≤ t438 then (if t438 < (a2.size : Int) then ((some (([bt a2 t438] : List Int) : List Int)).bind fun y441 => ((Qe.f s0_0 t439 t440 3).bind fun bt444 => (if bt444.1 = 0 then (if 0 ≤ t435 then (if t435 ≤ (x1_1.size : Int) then (if (x1_1.extract 0 (t435 : Int).toNat).size + (strOfNums y441).size ≤ 9223372036854775807 then (if ((x1_1.extract 0 (t435 : Int).toNat) ++ (strOfNums y441)).size + (x1_1.extract (t435 : Int).toNat x1_1.size).size ≤ 9223372036854775807 then (Ql.l0 kj5 (((x1_1.extract 0 (t435 : Int).toNat) ++ (strOfNums y441)) ++ (x1_1.extract (t435 : Int).toNat x1_1.size)) a2 (wrap64 (x7_1 - 1)) s0_0 bt444.2.1 bt444.2.2) else (none)) else (none)) else (none)) else (none)) else (if bt444.1 = 1 then (if 0 ≤ t435 then (if t435 ≤ (x1_1.size : Int) then (if (x1_1.extract 0 (t435 : Int).toNat).size + (strOfNums y441).size ≤ 9223372036854775807 then (if 0 ≤ (wrap64 (t435 + 1)) then (if (wrap64 (t435 + 1)) ≤ (x1_1.size : Int) then (if ((x1_1.extract 0 (t435 : Int).toNat) ++ (strOfNums y441)).size + (x1_1.extract ((wrap64 (t435 + 1)) : Int).toNat x1_1.size).size ≤ 9223372036854775807 then (Ql.l0 kj5 (((x1_1.extract 0 (t435 : Int).toNat) ++ (strOfNums y441)) ++ (x1_1.extract ((wrap64 (t435 + 1)) : Int).toNat x1_1.size)) a2 (wrap64 (x7_1 - 1)) s0_0 bt444.2.1 bt444.2.2) else (none)) else (none)) else (none)) else (none)) else (none)) else (none)) else (if 0 ≤ t435 then (if t435 ≤ (x1_1.size : Int) then (if 0 ≤ (wrap64 (t435 + 1)) then (if (wrap64 (t435 + 1)) ≤ (x1_1.size : Int) then (if (x1_1.extract 0 (t435 : Int).toNat).size + (x1_1.extract ((wrap64 (t435 + 1)) : Int).toNat x1_1.size).size ≤ 9223372036854775807 then (Ql.l0 kj5 ((x1_1.extract 0 (t435 : Int).toNat) ++ (x1_1.extract ((wrap64 (t435 + 1)) : Int).toNat x1_1.size)) a2 (wrap64 (x7_1 - 1)) s0_0 bt444.2.1 bt444.2.2) else (none)) else (none)) else (none)) else (none)) else (none)))))) else (none)) else (none)) = some (r1, r2, r3) := H
     have A10 := Qa.mk A100
     clear A100
     by_cases c11 : 0 ≤ t438
     rotate_left
     ·rw [if_neg c11] at H
      exact absurd H (by simp)
     rw [if_pos c11] at H
     have c11b0 : decide (0 ≤ t438) = true := decide_eq_true c11
     clear c11
     by_cases c12 : t438 < (a2.size : Int)
     rotate_left
     ·rw [if_neg c12] at H
      exact absurd H (by simp)
     rw [if_pos c12] at H
     have c12b0 : decide (t438 < (a2.size : Int)) = true := decide_eq_true c12
     clear c12
     obtain ⟨y441, hy441⟩ : ∃ y_ : List Int, y_ = (([bt a2 t438] : List Int)) := ⟨_, rfl⟩
     replace H : ((Qe.f s0_0 t439 t440 3).bind fun bt444 => (if bt444.1 = 0 then (if 0 ≤ t435 then (if t435 ≤ (x1_1.size : Int) then (if (x1_1.extract 0 (t435 : Int).toNat).size + (strOfNums y441).size ≤ 9223372036854775807 then (if ((x1_1.extract 0 (t435 : Int).toNat) ++ (strOfNums y441)).size + (x1_1.extract (t435 : Int).toNat x1_1.size).size ≤ 9223372036854775807 then (Ql.l0 kj5 (((x1_1.extract 0 (t435 : Int).toNat) ++ (strOfNums y441)) ++ (x1_1.extract (t435 : Int).toNat x1_1.size)) a2 (wrap64 (x7_1 - 1)) s0_0 bt444.2.1 bt444.2.2) else (none)) else (none)) else (none)) else (none)) else (if bt444.1 = 1 then (if 0 ≤ t435 then (if t435 ≤ (x1_1.size : Int) then (if (x1_1.extract 0 (t435 : Int).toNat).size + (strOfNums y441).size ≤ 9223372036854775807 then (if 0 ≤ (wrap64 (t435 + 1)) then (if (wrap64 (t435 + 1)) ≤ (x1_1.size : Int) then (if ((x1_1.extract 0 (t435 : Int).toNat) ++ (strOfNums y441)).size + (x1_1.extract ((wrap64 (t435 + 1)) : Int).toNat x1_1.size).size ≤ 9223372036854775807 then (Ql.l0 kj5 (((x1_1.extract 0 (t435 : Int).toNat) ++ (strOfNums y441)) ++ (x1_1.extract ((wrap64 (t435 + 1)) : Int).toNat x1_1.size)) a2 (wrap64 (x7_1 - 1)) s0_0 bt444.2.1 bt444.2.2) else (none)) else (none)) else (none)) else (none)) else (none)) else (none)) else (if 0 ≤ t435 then (if t435 ≤ (x1_1.size : Int) then (if 0 ≤ (wrap64 (t435 + 1)) then (if (wrap64 (t435 + 1)) ≤ (x1_1.size : Int) then (if (x1_1.extract 0 (t435 : Int).toNat).size + (x1_1.extract ((wrap64 (t435 + 1)) : Int).toNat x1_1.size).size ≤ 9223372036854775807 then (Ql.l0 kj5 ((x1_1.extract 0 (t435 : Int).toNat) ++ (x1_1.extract ((wrap64 (t435 + 1)) : Int).toNat x1_1.size)) a2 (wrap64 (x7_1 - 1)) s0_0 bt444.2.1 bt444.2.2) else (none)) else (none)) else (none)) else (none)) else (none))))) = some (r1, r2, r3) := by (have H2_ := (Option.bind_some _ _).symm.trans H; rw [hy441]; with_reducible exact H2_)
     have Ny441 := Qa.mk hy441
     clear hy441
     replace H := Option.bind_eq_some_iff.mp H
     obtain ⟨⟨t444, t445, t446⟩, A140, H⟩ := H
     replace H : (if t444 = 0 then (if 0 ≤ t435 then (if t435 ≤ (x1_1.size : Int) then (if (x1_1.extract 0 (t435 : Int).toNat).size + (strOfNums y441).size ≤ 9223372036854775807 then (if ((x1_1.extract 0 (t435 : Int).toNat) ++ (strOfNums y441)).size + (x1_1.extract (t435 : Int).toNat x1_1.size).size ≤ 9223372036854775807 then (Ql.l0 kj5 (((x1_1.extract 0 (t435 : Int).toNat) ++ (strOfNums y441)) ++ (x1_1.extract (t435 : Int).toNat x1_1.size)) a2 (wrap64 (x7_1 - 1)) s0_0 t445 t446) else (none)) else (none)) else (none)) else (none)) else (if t444 = 1 then (if 0 ≤ t435 then (if t435 ≤ (x1_1.size : Int) then (if (x1_1.extract 0 (t435 : Int).toNat).size + (strOfNums y441).size ≤ 9223372036854775807 then (if 0 ≤ (wrap64 (t435 + 1)) then (if (wrap64 (t435 + 1)) ≤ (x1_1.size : Int) then (if ((x1_1.extract 0 (t435 : Int).toNat) ++ (strOfNums y441)).size + (x1_1.extract ((wrap64 (t435 + 1)) : Int).toNat x1_1.size).size ≤ 9223372036854775807 then (Ql.l0 kj5 (((x1_1.extract 0 (t435 : Int).toNat) ++ (strOfNums y441)) ++ (x1_1.extract ((wrap64 (t435 + 1)) : Int).toNat x1_1.size)) a2 (wrap64 (x7_1 - 1)) s0_0 t445 t446) else (none)) else (none)) else (none)) else (none)) else (none)) else (none)) else (if 0 ≤ t435 then (if t435 ≤ (x1_1.size : Int) then (if 0 ≤ (wrap64 (t435 + 1)) then (if (wrap64 (t435 + 1)) ≤ (x1_1.size : Int) then (if (x1_1.extract 0 (t435 : Int).toNat).size + (x1_1.extract ((wrap64 (t435 + 1)) : Int).toNat x1_1.size).size ≤ 9223372036854775807 then (Ql.l0 kj5 ((x1_1.extract 0 (t435 : Int).toNat) ++ (x1_1.extract ((wrap64 (t435 + 1)) : Int).toNat x1_1.size)) a2 (wrap64 (x7_1 - 1)) s0_0 t445 t446) else (none)) else (none)) else (none)) else (none)) else (none)))) = some (r1, r2, r3) := H
     have A14 := Qa.mk A140
     clear A140
     by_cases c15 : t444 = 0
     ·rw [if_pos c15] at H
      have c15b0 : (t444 == 0) = true := beq_iff_eq.mpr c15
      have c15b1 : (t444 != 0) = false := bne_eq_false_iff_eq.mpr c15
      clear c15
      by_cases c16 : 0 ≤ t435
      rotate_left
      ·rw [if_neg c16] at H
       exact absurd H (by simp)
      rw [if_pos c16] at H
      have c16b0 := eq_true c16
      have c16b1 : decide (0 ≤ t435) = true := decide_eq_true c16
      clear c16
      by_cases c17 : t435 ≤ (x1_1.size : Int)
      rotate_left
      ·rw [if_neg c17] at H
       exact absurd H (by simp)
      rw [if_pos c17] at H
      have c17b0 := eq_true c17
      have c17b1 : decide (t435 ≤ (x1_1.size : Int)) = true := decide_eq_true c17
      clear c17
      by_cases c18 : (x1_1.extract 0 (t435 : Int).toNat).size + (strOfNums y441).size ≤ 9223372036854775807
      rotate_left
      ·rw [if_neg c18] at H
       exact absurd H (by simp)
      rw [if_pos c18] at H
      have c18b0 := eq_true c18
      have c18b1 : decide ((x1_1.extract 0 (t435 : Int).toNat).size + (strOfNums y441).size ≤ 9223372036854775807) = true := decide_eq_true c18
      try have c18b2 : (9223372036854775807 < (x1_1.extract 0 (t435 : Int).toNat).size + (strOfNums y441).size) = False := eq_false (Nat.not_lt.2 c18)
      have c19b0 := eq_true (of_decide_eq_true (by (with_reducible assumption)) : 0 ≤ t435)
      have c20b0 := eq_true (of_decide_eq_true (by (with_reducible assumption)) : t435 ≤ (x1_1.size : Int))
      by_cases c21 : ((x1_1.extract 0 (t435 : Int).toNat) ++ (strOfNums y441)).size + (x1_1.extract (t435 : Int).toNat x1_1.size).size ≤ 9223372036854775807
      rotate_left
      ·rw [if_neg c21] at H
       exact absurd H (by simp)
      rw [if_pos c21] at H
      have c21b0 := eq_true c21
      have c21b1 : decide (((x1_1.extract 0 (t435 : Int).toNat) ++ (strOfNums y441)).size + (x1_1.extract (t435 : Int).toNat x1_1.size).size ≤ 9223372036854775807) = true := decide_eq_true c21
      try have c21b2 : (9223372036854775807 < ((x1_1.extract 0 (t435 : Int).toNat) ++ (strOfNums y441)).size + (x1_1.extract (t435 : Int).toNat x1_1.size).size) = False := eq_false (Nat.not_lt.2 c21)
      have H' := Qa.mk H
      clear H
      go_wp2_with (first | (go_at_call 36; (with_reducible refine (Qe.calls g s0_0 x1001_1 x1002_1 (x1_1.size : Int) t435 t436 t437 w0 _ ?side1 ?side2 A9.out).mono ?_); (case side1 => repeat ((with_reducible (exact HI0.out)))); (case side2 => repeat ((with_reducible (exact HB.out)))); rintro e w22 ⟨rfl, hi, hb, hk⟩; have n0_ := Qa.mk (Qp.trans (by repeat ((with_reducible (exact HK.out)))) hk (.inl rfl)); have n1_ := Qa.mk (hb); have n2_ := Qa.mk (hi); clear HK; clear HB; clear HI0; have HK := n0_; have HB := n1_; have HI0 := n2_; clear n0_ n1_ n2_; (try clear hb); (try clear hb2); (try clear hk); (try clear hi)) | (go_at_call 36; (with_reducible refine (Qe.calls g s0_0 t436 t437 (a2.size : Int) t438 t439 t440 w0 _ ?side1 ?side2 A10.out).mono ?_); (case side1 => repeat ((with_reducible (exact HI0.out)))); (case side2 => repeat ((with_reducible (exact HB.out)))); rintro e w23 ⟨rfl, hi, hb, hk⟩; have n0_ := Qa.mk (Qp.trans (by repeat ((with_reducible (exact HK.out)))) hk (.inl rfl)); have n1_ := Qa.mk (hb); have n2_ := Qa.mk (hi); clear HK; clear HB; clear HI0; have HK := n0_; have HB := n1_; have HI0 := n2_; clear n0_ n1_ n2_; (try clear hb); (try clear hb2); (try clear hk); (try clear hi); have p13 : 0 ≤ (t438 : Int) := of_decide_eq_true (by (with_reducible assumption)); have q13 : t438 < (a2.size : Int) := of_decide_eq_true (by (with_reducible assumption)); have hx13 := bt_at a2 t438; replace p13 := eq_true p13; replace q13 := eq_true q13) | ((with_reducible refine gate_dst (N := 32) rfl ?_); (try (refine gate_guard (by rfl) ?_; dsimp only)); refine Kd.R_lit (Kd.int .u8) _ 5 ?hg (N := 32) ?hd (xs := ([bt a2 t438] : List Int)) (inner := [.int .u8 (bt a2 t438)]) (ok := fun _ => True) (okp := fun _ => True) ?hr ?hp (fun _ hk => hk) trivial (Below.refl _ _) (Nat.le_refl _) (by simp) ?_; (case hd => rfl); (case hg => rfl); (case hr => (go_simp; done)); (case hp => exact (Reps.one (show Kd.M (Kd.int .u8) _ _ _ (bt a2 t438) [.int .u8 (bt a2 t438)] from rfl) (Reps.none _ _))); intro v442 w24 ho25 hb hg_ hnew_; clear hg_ hnew_; ((rw [← Ny441.out] at ho25)); have n0_ := Qa.mk (Kd.R_lower ho25 (keep_size (w := w) (g := g) (row := none) (by repeat ((with_reducible (exact HK.out)))))); have n1_ := Qa.mk (IsS50.below (by repeat ((with_reducible (exact HI0.out)))) hb); have n2_ := Qa.mk (Qp.trans (by repeat ((with_reducible (exact HK.out)))) (Qp.of_below hb g none) (.inl rfl)); have n3_ := Qa.mk (Qh (by repeat ((with_reducible (exact HB.out)))) hb); clear HI0; clear HK; clear HB; have HO443 := n0_; have HI0 := n1_; have HK := n2_; have HB := n3_; clear n0_ n1_ n2_ n3_; clear hb ho25; have hcv26 := own_string (P := Tryz.prog) Tryz.underlying22 Tryz.underlying5 Tryz.underlying9 (Kd.own_of_R HO443.out)) | (go_at_call 36; (with_reducible refine (Qe.calls g s0_0 t439 t440 3 t444 t445 t446 w0 _ ?side1 ?side2 A14.out).mono ?_); (case side1 => repeat ((with_reducible (exact HI0.out)))); (case side2 => repeat ((with_reducible (exact HB.out)))); rintro e w27 ⟨rfl, hi, hb, hk⟩; have n0_ := Qa.mk (Kd.R_mono (Kd.R_keep (IsS50.apart (show IsS50 w0 _ g s0_0 t439 t440 from by repeat ((with_reducible (exact HI0.out)))) (by (with_reducible repeat (fail)); exact HO443.out) (by decide)) hk (fun _ h => h.2)) (fun _ h => h.1)); have n1_ := Qa.mk (Qp.trans (by repeat ((with_reducible (exact HK.out)))) hk (.inl rfl)); have n2_ := Qa.mk (hb); have n3_ := Qa.mk (hi); clear HO443; clear HK; clear HB; clear HI0; have HO443 := n0_; have HK := n1_; have HB := n2_; have HI0 := n3_; clear n0_ n1_ n2_ n3_; (try clear hb); (try clear hb2); (try clear hk); (try clear hi)))
      repeat (go_quiet (fail); try go_wp2_with (fail))
      (go_roundg kj5)
      case measure => have := HK1.out; have := HJ5.out; omega
      case rel => exact ⟨(((x1_1.extract 0 (t435 : Int).toNat) ++ (strOfNums y441)) ++ (x1_1.extract (t435 : Int).toNat x1_1.size)), (wrap64 (x7_1 - 1)), (t445), (t446), (by rfl), (by rfl), H', ⟨by have := HK1.out; have := HJ5.out; omega⟩, ⟨by repeat ((with_reducible first | exact HI0.out | apply IsS50.drewN))⟩, ⟨by repeat ((with_reducible first | exact HK.out | apply keep_drewN))⟩, ⟨by repeat ((with_reducible first | exact HB.out | apply Qi))⟩⟩
     rw [if_neg c15] at H
     have c15b0 : (t444 == 0) = false := beq_eq_false_iff_ne.mpr c15
     have c15b1 : (t444 != 0) = true := bne_iff_ne.mpr c15
     by_cases c28 : t444 = 1
     rotate_left
     ·rw [if_neg c28] at H
      have c28b0 : (t444 == 1) = false := beq_eq_false_iff_ne.mpr c28
      have c28b1 : (t444 != 1) = true := bne_iff_ne.mpr c28
      by_cases c42 : 0 ≤ t435
      rotate_left
      ·rw [if_neg c42] at H
       exact absurd H (by simp)
      rw [if_pos c42] at H
      have c42b0 := eq_true c42
      have c42b1 : decide (0 ≤ t435) = true := decide_eq_true c42
      clear c42
      by_cases c43 : t435 ≤ (x1_1.size : Int)
      rotate_left
      ·rw [if_neg c43] at H
       exact absurd H (by simp)
      rw [if_pos c43] at H
      have c43b0 := eq_true c43
      have c43b1 : decide (t435 ≤ (x1_1.size : Int)) = true := decide_eq_true c43
      clear c43
      obtain ⟨ji44, hji44⟩ : ∃ j_ : Int, (wrap64 (t435 + 1)) = j_ := ⟨_, rfl⟩
      replace H : (if 0 ≤ (ji44) then (if (ji44) ≤ (x1_1.size : Int) then (if (x1_1.extract 0 (t435 : Int).toNat).size + (x1_1.extract ((ji44) : Int).toNat x1_1.size).size ≤ 9223372036854775807 then (Ql.l0 kj5 ((x1_1.extract 0 (t435 : Int).toNat) ++ (x1_1.extract ((ji44) : Int).toNat x1_1.size)) a2 (wrap64 (x7_1 - 1)) s0_0 t445 t446) else (none)) else (none)) else (none)) = some (r1, r2, r3) := by (rw [hji44] at H; exact H)
      (try rw [hji44] at A9)
      (try rw [hji44] at A10)
      (try rw [hji44] at A14)
      have hji44w : (IntKind.i64.wrap (t435 + 1)) = ji44 := (i64_w _).trans hji44
      by_cases c45 : 0 ≤ (ji44)
      rotate_left
      ·rw [if_neg c45] at H
       exact absurd H (by simp)
      rw [if_pos c45] at H
      have c45b0 := eq_true c45
      have c45b1 : decide (0 ≤ (ji44)) = true := decide_eq_true c45
      clear c45
      by_cases c46 : (ji44) ≤ (x1_1.size : Int)
      rotate_left
      ·rw [if_neg c46] at H
       exact absurd H (by simp)
      rw [if_pos c46] at H
      have c46b0 := eq_true c46
      have c46b1 : decide ((ji44) ≤ (x1_1.size : Int)) = true := decide_eq_true c46
      clear c46
      by_cases c47 : (x1_1.extract 0 (t435 : Int).toNat).size + (x1_1.extract ((ji44) : Int).toNat x1_1.size).size ≤ 9223372036854775807
      rotate_left
      ·rw [if_neg c47] at H
       exact absurd H (by simp)
      rw [if_pos c47] at H
      have c47b0 := eq_true c47
      have c47b1 : decide ((x1_1.extract 0 (t435 : Int).toNat).size + (x1_1.extract ((ji44) : Int).toNat x1_1.size).size ≤ 9223372036854775807) = true := decide_eq_true c47
      try have c47b2 : (9223372036854775807 < (x1_1.extract 0 (t435 : Int).toNat).size + (x1_1.extract ((ji44) : Int).toNat x1_1.size).size) = False := eq_false (Nat.not_lt.2 c47)
      have H' := Qa.mk H
      clear H
      go_wp2_with (first | (go_at_call 36; (with_reducible refine (Qe.calls g s0_0 x1001_1 x1002_1 (x1_1.size : Int) t435 t436 t437 w0 _ ?side1 ?side2 A9.out).mono ?_); (case side1 => repeat ((with_reducible (exact HI0.out)))); (case side2 => repeat ((with_reducible (exact HB.out)))); rintro e w48 ⟨rfl, hi, hb, hk⟩; have n0_ := Qa.mk (Qp.trans (by repeat ((with_reducible (exact HK.out)))) hk (.inl rfl)); have n1_ := Qa.mk (hb); have n2_ := Qa.mk (hi); clear HK; clear HB; clear HI0; have HK := n0_; have HB := n1_; have HI0 := n2_; clear n0_ n1_ n2_; (try clear hb); (try clear hb2); (try clear hk); (try clear hi)) | (go_at_call 36; (with_reducible refine (Qe.calls g s0_0 t436 t437 (a2.size : Int) t438 t439 t440 w0 _ ?side1 ?side2 A10.out).mono ?_); (case side1 => repeat ((with_reducible (exact HI0.out)))); (case side2 => repeat ((with_reducible (exact HB.out)))); rintro e w49 ⟨rfl, hi, hb, hk⟩; have n0_ := Qa.mk (Qp.trans (by repeat ((with_reducible (exact HK.out)))) hk (.inl rfl)); have n1_ := Qa.mk (hb); have n2_ := Qa.mk (hi); clear HK; clear HB; clear HI0; have HK := n0_; have HB := n1_; have HI0 := n2_; clear n0_ n1_ n2_; (try clear hb); (try clear hb2); (try clear hk); (try clear hi); have p13 : 0 ≤ (t438 : Int) := of_decide_eq_true (by (with_reducible assumption)); have q13 : t438 < (a2.size : Int) := of_decide_eq_true (by (with_reducible assumption)); have hx13 := bt_at a2 t438; replace p13 := eq_true p13; replace q13 := eq_true q13) | ((with_reducible refine gate_dst (N := 32) rfl ?_); (try (refine gate_guard (by rfl) ?_; dsimp only)); refine Kd.R_lit (Kd.int .u8) _ 5 ?hg (N := 32) ?hd (xs := ([bt a2 t438] : List Int)) (inner := [.int .u8 (bt a2 t438)]) (ok := fun _ => True) (okp := fun _ => True) ?hr ?hp (fun _ hk => hk) trivial (Below.refl _ _) (Nat.le_refl _) (by simp) ?_; (case hd => rfl); (case hg => rfl); (case hr => (go_simp; done)); (case hp => exact (Reps.one (show Kd.M (Kd.int .u8) _ _ _ (bt a2 t438) [.int .u8 (bt a2 t438)] from rfl) (Reps.none _ _))); intro v442 w50 ho51 hb hg_ hnew_; clear hg_ hnew_; ((rw [← Ny441.out] at ho51)); have n0_ := Qa.mk (Kd.R_lower ho51 (keep_size (w := w) (g := g) (row := none) (by repeat ((with_reducible (exact HK.out)))))); have n1_ := Qa.mk (IsS50.below (by repeat ((with_reducible (exact HI0.out)))) hb); have n2_ := Qa.mk (Qp.trans (by repeat ((with_reducible (exact HK.out)))) (Qp.of_below hb g none) (.inl rfl)); have n3_ := Qa.mk (Qh (by repeat ((with_reducible (exact HB.out)))) hb); clear HI0; clear HK; clear HB; have HO443 := n0_; have HI0 := n1_; have HK := n2_; have HB := n3_; clear n0_ n1_ n2_ n3_; clear hb ho51; have hcv52 := own_string (P := Tryz.prog) Tryz.underlying22 Tryz.underlying5 Tryz.underlying9 (Kd.own_of_R HO443.out)) | (go_at_call 36; (with_reducible refine (Qe.calls g s0_0 t439 t440 3 t444 t445 t446 w0 _ ?side1 ?side2 A14.out).mono ?_); (case side1 => repeat ((with_reducible (exact HI0.out)))); (case side2 => repeat ((with_reducible (exact HB.out)))); rintro e w53 ⟨rfl, hi, hb, hk⟩; have n0_ := Qa.mk (Kd.R_mono (Kd.R_keep (IsS50.apart (show IsS50 w0 _ g s0_0 t439 t440 from by repeat ((with_reducible (exact HI0.out)))) (by (with_reducible repeat (fail)); exact HO443.out) (by decide)) hk (fun _ h => h.2)) (fun _ h => h.1)); have n1_ := Qa.mk (Qp.trans (by repeat ((with_reducible (exact HK.out)))) hk (.inl rfl)); have n2_ := Qa.mk (hb); have n3_ := Qa.mk (hi); clear HO443; clear HK; clear HB; clear HI0; have HO443 := n0_; have HK := n1_; have HB := n2_; have HI0 := n3_; clear n0_ n1_ n2_ n3_; (try clear hb); (try clear hb2); (try clear hk); (try clear hi)))
      repeat (go_quiet (fail); try go_wp2_with (fail))
      (go_roundg kj5)
      case measure => have := HK1.out; have := HJ5.out; omega
      case rel => exact ⟨((x1_1.extract 0 (t435 : Int).toNat) ++ (x1_1.extract ((ji44) : Int).toNat x1_1.size)), (wrap64 (x7_1 - 1)), (t445), (t446), (by rfl), (by rfl), H', ⟨by have := HK1.out; have := HJ5.out; omega⟩, ⟨by repeat ((with_reducible first | exact HI0.out | apply IsS50.drewN))⟩, ⟨by repeat ((with_reducible first | exact HK.out | apply keep_drewN))⟩, ⟨by repeat ((with_reducible first | exact HB.out | apply Qi))⟩⟩
     rw [if_pos c28] at H
     have c28b0 : (t444 == 1) = true := beq_iff_eq.mpr c28
     have c28b1 : (t444 != 1) = false := bne_eq_false_iff_eq.mpr c28
     clear c28
     by_cases c29 : 0 ≤ t435
     rotate_left
     ·rw [if_neg c29] at H
      exact absurd H (by simp)
     rw [if_pos c29] at H
     have c29b0 := eq_true c29
     have c29b1 : decide (0 ≤ t435) = true := decide_eq_true c29
     clear c29
     by_cases c30 : t435 ≤ (x1_1.size : Int)
     rotate_left
     ·rw [if_neg c30] at H
      exact absurd H (by simp)
     rw [if_pos c30] at H
     have c30b0 := eq_true c30
     have c30b1 : decide (t435 ≤ (x1_1.size : Int)) = true := decide_eq_true c30
     clear c30
     by_cases c31 : (x1_1.extract 0 (t435 : Int).toNat).size + (strOfNums y441).size ≤ 9223372036854775807
     rotate_left
     ·rw [if_neg c31] at H
      exact absurd H (by simp)
     rw [if_pos c31] at H
     have c31b0 := eq_true c31
     have c31b1 : decide ((x1_1.extract 0 (t435 : Int).toNat).size + (strOfNums y441).size ≤ 9223372036854775807) = true := decide_eq_true c31
     try have c31b2 : (9223372036854775807 < (x1_1.extract 0 (t435 : Int).toNat).size + (strOfNums y441).size) = False := eq_false (Nat.not_lt.2 c31)
     obtain ⟨ji32, hji32⟩ : ∃ j_ : Int, (wrap64 (t435 + 1)) = j_ := ⟨_, rfl⟩
     replace H : (if 0 ≤ (ji32) then (if (ji32) ≤ (x1_1.size : Int) then (if ((x1_1.extract 0 (t435 : Int).toNat) ++ (strOfNums y441)).size + (x1_1.extract ((ji32) : Int).toNat x1_1.size).size ≤ 9223372036854775807 then (Ql.l0 kj5 (((x1_1.extract 0 (t435 : Int).toNat) ++ (strOfNums y441)) ++ (x1_1.extract ((ji32) : Int).toNat x1_1.size)) a2 (wrap64 (x7_1 - 1)) s0_0 t445 t446) else (none)) else (none)) else (none)) = some (r1, r2, r3) := by (rw [hji32] at H; exact H)
     (try rw [hji32] at A9)
     (try rw [hji32] at A10)
     (try rw [hji32] at A14)
     have hji32w : (IntKind.i64.wrap (t435 + 1)) = ji32 := (i64_w _).trans hji32
     by_cases c33 : 0 ≤ (ji32)
     rotate_left
     ·rw [if_neg c33] at H
      exact absurd H (by simp)
     rw [if_pos c33] at H
     have c33b0 := eq_true c33
     have c33b1 : decide (0 ≤ (ji32)) = true := decide_eq_true c33
     clear c33
     by_cases c34 : (ji32) ≤ (x1_1.size : Int)
     rotate_left
     ·rw [if_neg c34] at H
      exact absurd H (by simp)
     rw [if_pos c34] at H
     have c34b0 := eq_true c34
     have c34b1 : decide ((ji32) ≤ (x1_1.size : Int)) = true := decide_eq_true c34
     clear c34
     by_cases c35 : ((x1_1.extract 0 (t435 : Int).toNat) ++ (strOfNums y441)).size + (x1_1.extract ((ji32) : Int).toNat x1_1.size).size ≤ 9223372036854775807
     rotate_left
     ·rw [if_neg c35] at H
      exact absurd H (by simp)
     rw [if_pos c35] at H
     have c35b0 := eq_true c35
     have c35b1 : decide (((x1_1.extract 0 (t435 : Int).toNat) ++ (strOfNums y441)).size + (x1_1.extract ((ji32) : Int).toNat x1_1.size).size ≤ 9223372036854775807) = true := decide_eq_true c35
     try have c35b2 : (9223372036854775807 < ((x1_1.extract 0 (t435 : Int).toNat) ++ (strOfNums y441)).size + (x1_1.extract ((ji32) : Int).toNat x1_1.size).size) = False := eq_false (Nat.not_lt.2 c35)
     have H' := Qa.mk H
     clear H
     go_wp2_with (first | (go_at_call 36; (with_reducible refine (Qe.calls g s0_0 x1001_1 x1002_1 (x1_1.size : Int) t435 t436 t437 w0 _ ?side1 ?side2 A9.out).mono ?_); (case side1 => repeat ((with_reducible (exact HI0.out)))); (case side2 => repeat ((with_reducible (exact HB.out)))); rintro e w36 ⟨rfl, hi, hb, hk⟩; have n0_ := Qa.mk (Qp.trans (by repeat ((with_reducible (exact HK.out)))) hk (.inl rfl)); have n1_ := Qa.mk (hb); have n2_ := Qa.mk (hi); clear HK; clear HB; clear HI0; have HK := n0_; have HB := n1_; have HI0 := n2_; clear n0_ n1_ n2_; (try clear hb); (try clear hb2); (try clear hk); (try clear hi)) | (go_at_call 36; (with_reducible refine (Qe.calls g s0_0 t436 t437 (a2.size : Int) t438 t439 t440 w0 _ ?side1 ?side2 A10.out).mono ?_); (case side1 => repeat ((with_reducible (exact HI0.out)))); (case side2 => repeat ((with_reducible (exact HB.out)))); rintro e w37 ⟨rfl, hi, hb, hk⟩; have n0_ := Qa.mk (Qp.trans (by repeat ((with_reducible (exact HK.out)))) hk (.inl rfl)); have n1_ := Qa.mk (hb); have n2_ := Qa.mk (hi); clear HK; clear HB; clear HI0; have HK := n0_; have HB := n1_; have HI0 := n2_; clear n0_ n1_ n2_; (try clear hb); (try clear hb2); (try clear hk); (try clear hi); have p13 : 0 ≤ (t438 : Int) := of_decide_eq_true (by (with_reducible assumption)); have q13 : t438 < (a2.size : Int) := of_decide_eq_true (by (with_reducible assumption)); have hx13 := bt_at a2 t438; replace p13 := eq_true p13; replace q13 := eq_true q13) | ((with_reducible refine gate_dst (N := 32) rfl ?_); (try (refine gate_guard (by rfl) ?_; dsimp only)); refine Kd.R_lit (Kd.int .u8) _ 5 ?hg (N := 32) ?hd (xs := ([bt a2 t438] : List Int)) (inner := [.int .u8 (bt a2 t438)]) (ok := fun _ => True) (okp := fun _ => True) ?hr ?hp (fun _ hk => hk) trivial (Below.refl _ _) (Nat.le_refl _) (by simp) ?_; (case hd => rfl); (case hg => rfl); (case hr => (go_simp; done)); (case hp => exact (Reps.one (show Kd.M (Kd.int .u8) _ _ _ (bt a2 t438) [.int .u8 (bt a2 t438)] from rfl) (Reps.none _ _))); intro v442 w38 ho39 hb hg_ hnew_; clear hg_ hnew_; ((rw [← Ny441.out] at ho39)); have n0_ := Qa.mk (Kd.R_lower ho39 (keep_size (w := w) (g := g) (row := none) (by repeat ((with_reducible (exact HK.out)))))); have n1_ := Qa.mk (IsS50.below (by repeat ((with_reducible (exact HI0.out)))) hb); have n2_ := Qa.mk (Qp.trans (by repeat ((with_reducible (exact HK.out)))) (Qp.of_below hb g none) (.inl rfl)); have n3_ := Qa.mk (Qh (by repeat ((with_reducible (exact HB.out)))) hb); clear HI0; clear HK; clear HB; have HO443 := n0_; have HI0 := n1_; have HK := n2_; have HB := n3_; clear n0_ n1_ n2_ n3_; clear hb ho39; have hcv40 := own_string (P := Tryz.prog) Tryz.underlying22 Tryz.underlying5 Tryz.underlying9 (Kd.own_of_R HO443.out)) | (go_at_call 36; (with_reducible refine (Qe.calls g s0_0 t439 t440 3 t444 t445 t446 w0 _ ?side1 ?side2 A14.out).mono ?_); (case side1 => repeat ((with_reducible (exact HI0.out)))); (case side2 => repeat ((with_reducible (exact HB.out)))); rintro e w41 ⟨rfl, hi, hb, hk⟩; have n0_ := Qa.mk (Kd.R_mono (Kd.R_keep (IsS50.apart (show IsS50 w0 _ g s0_0 t439 t440 from by repeat ((with_reducible (exact HI0.out)))) (by (with_reducible repeat (fail)); exact HO443.out) (by decide)) hk (fun _ h => h.2)) (fun _ h => h.1)); have n1_ := Qa.mk (Qp.trans (by repeat ((with_reducible (exact HK.out)))) hk (.inl rfl)); have n2_ := Qa.mk (hb); have n3_ := Qa.mk (hi); clear HO443; clear HK; clear HB; clear HI0; have HO443 := n0_; have HK := n1_; have HB := n2_; have HI0 := n3_; clear n0_ n1_ n2_ n3_; (try clear hb); (try clear hb2); (try clear hk); (try clear hi)))
     repeat (go_quiet (fail); try go_wp2_with (fail))
     (go_roundg kj5)
     case measure => have := HK1.out; have := HJ5.out; omega
     case rel => exact ⟨(((x1_1.extract 0 (t435 : Int).toNat) ++ (strOfNums y441)) ++ (x1_1.extract ((ji32) : Int).toNat x1_1.size)), (wrap64 (x7_1 - 1)), (t445), (t446), (by rfl), (by rfl), H', ⟨by have := HK1.out; have := HJ5.out; omega⟩, ⟨by repeat ((with_reducible first | exact HI0.out | apply IsS50.drewN))⟩, ⟨by repeat ((with_reducible first | exact HK.out | apply keep_drewN))⟩, ⟨by repeat ((with_reducible first | exact HB.out | apply Qi))⟩⟩
-- given: function 26 (Qb2)
end Go.Proofs.YtohhlkehglahhaaGreatDoor.A
