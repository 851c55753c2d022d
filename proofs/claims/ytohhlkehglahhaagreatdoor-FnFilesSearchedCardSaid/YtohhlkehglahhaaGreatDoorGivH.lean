/- HeightOfRank of the program: the height at a place of all heights in order: its contract, by hand and out of printed lines of its reference. No condition. -/
import Derived.Test.YtohhlkehglahhaaGreatDoorAx4
import Derived.Test.YtohhlkehglahhaaGreatDoorAx8
import Derived.Test.YtohhlkehglahhaaGreatDoorGiv
import Derived.Test.YtohhlkehglahhaaGreatDoorGivS
import Derived.Test.YtohhlkehglahhaaGreatDoorGivV
import Derived.Test.YtohhlkehglahhaaGreatDoorWW
import Derived.Test.YtohhlkehglahhaaGreatDoorX
namespace Go.Proofs.YtohhlkehglahhaaGreatDoor.A
open Go.RowKit Go.Proofs.YtohhlkehglahhaaGreatDoorW.PrintWords Go.Proofs.YtohhlkehglahhaaGreatDoorW.PrintLast Go.Proofs.YtohhlkehglahhaaGreatDoorW.PrintMore Go.Proofs.YtohhlkehglahhaaGreatDoor.X
set_option linter.unusedVariables false
set_option linter.unusedSimpArgs false
theorem ints_of_R {w : World} {base : Nat} {ok : Nat → Prop} {v : Value} {zs : List Int} (h : Kd.R (Kd.int .i64) 3 w base ok v zs) : V.Ints w.heap.size w v zs := by
  have ho := Kd.own_of_R (enc := Value.int .i64) (h1 := fun _ => rfl) h
  rcases ho.2 with ⟨rfl, hn⟩ | ⟨g, cap, cur, rfl, hg, hb, h1, h2, h3, h4⟩
  · exact .inl ⟨rfl, List.eq_nil_of_length_eq_zero hn⟩
  · refine .inr ⟨g, 0, cap, rfl, (Array.getElem?_eq_some_iff.1 hb).1, fun j hj => ?_⟩
    rw [Nat.zero_add, ho.cellAt j (by omega)]
    unfold encs
    rw [List.getElem?_map, List.getElem?_eq_getElem hj]
    rfl
def slices_Sorted_int.f (l : List Int) : Option (List Int) := if l.length < 17592186040000 then some (sortL l) else none
set_option maxHeartbeats 2000000 in
theorem slices_Sorted_int.calls (Bs : Nat) (sv : Value) (l0 r : List Int) (w : World) (hBs : Bs < w.heap.size) (hc : w.cell? ⟨Bs, 0, none⟩ = some sv) (hI : V.Ints w.heap.size w sv l0) (h : slices_Sorted_int.f l0 = some r) :
    Calls Tryz.prog 47 #[.func (.func 76) #[] #[.pointer (some ⟨Bs, 0, none⟩)]] w fun e w' => ∃ v0_ : Value, e = .returned (v0_) ∧ Kd.R (Kd.int .i64) 3 w' w.heap.size (fun _ => True) v0_ r ∧ Below w.heap.size w w' := by
  unfold slices_Sorted_int.f at h
  by_cases hl : l0.length < 17592186040000
  rotate_left
  · rw [if_neg hl] at h; cases h
  rw [if_pos hl] at h
  obtain rfl := Option.some.inj h
  have hl1 : l0.length ≤ maxLen := by unfold maxLen; omega
  have HL := Qa.mk hl
  have HI := Qa.mk (V.collect_calls Bs sv l0 hl1 (by omega) w hBs hc hI)
  have HSO : Qa (slices_Sort_int_int.f l0 = some (sortL l0)) := ⟨by unfold slices_Sort_int_int.f; rw [if_pos (by omega)]⟩
  clear h hc hI hl hl1
  go_enter Tryz.func47, Tryz.ntmps47
  go_wp2_with (first | (go_at_call 74; (with_reducible refine HI.out.mono ?_); rintro e w1 ⟨v, rfl, hrow, hb⟩; have HR : Qa (Kd.R (Kd.int .i64) 3 w1 w.heap.size (fun _ => True) v l0) := ⟨Kd.R_of_own (enc := Value.int .i64) (h1 := fun _ => rfl) (ok := fun _ => True) hrow (fun _ _ => trivial)⟩; have HB := Qa.mk hb; clear hrow hb) | (go_at_call 75; (with_reducible refine (slices_Sort_int_int.calls (fun _ => True) _ l0 (sortL l0) w w1 HB.out HR.out HSO.out).mono ?_); rintro e w2 ⟨rfl, hR, hb, _⟩; clear HR HB; have HR := Qa.mk (Kd.R_mono hR (fun _ _ => trivial)); have HB := Qa.mk hb; clear hR hb))
  go_ret
  exact ⟨_, rfl, HR.out, HB.out⟩
def Qz1.f (k : Nat) (l0 : List (List Int)) (a1 : Int) : Option (Int × Bool) := (Qz.f l0).bind fun t201 => (if t201 = true then (if 0 < (l0.length : Int) then ((Qu1.f a1 0 (wrap64 ((wrap64 ((l0.length : Int) * ((rd_L2 l0 0).length : Int))) - 1))).bind fun t203 => (if t203 = true then (((slices_Concat_int_int.f k l0).bind fun t_ => slices_Sorted_int.f t_).bind fun t204 => (if 0 ≤ a1 then (if a1 < (t204.length : Int) then (some (rd t204 a1, true)) else (none)) else (none))) else (some (0, false)))) else (none)) else (some (0, false)))
theorem drawn_underH {w w' : World} (h : Drawn0 w w') : Below w.heap.size w w' := by
  obtain ⟨n, rfl⟩ := h
  exact Qi (Below.refl _ _) n
set_option maxHeartbeats 8000000 in
set_option maxRecDepth 100000 in
theorem Qz1.calls (k : Nat) (A0 : Option Addr) (c0 : Nat) (l0 : List (List Int)) (a1 : Int) (r1 : Int) (r2 : Bool) (w : World) (hr0 : Kd.C (Kd.slice 3 (Kd.int .i64)) w A0 l0.length l0) (hc0 : l0.length ≤ c0) (h : Qz1.f k l0 a1 = some (r1, r2)) :
    Calls Tryz.prog 13 #[.slice A0 l0.length c0, .int .i64 a1] w fun e w' => e = .returned (.tuple #[.int .i64 r1, .bool r2]) ∧ Below w.heap.size w w' := by
  have HR0 := Qa.mk hr0
  have HC0 := Qa.mk hc0
  clear hr0 hc0
  have HB := Qa.mk (Below.refl w.heap.size w)
  have H : ((Qz.f l0).bind fun t201 => (if t201 = true then (if 0 < (l0.length : Int) then ((Qu1.f a1 0 (wrap64 ((wrap64 ((l0.length : Int) * ((rd_L2 l0 0).length : Int))) - 1))).bind fun t203 => (if t203 = true then (((slices_Concat_int_int.f k l0).bind fun t_ => slices_Sorted_int.f t_).bind fun t204 => (if 0 ≤ a1 then (if a1 < (t204.length : Int) then (some (rd t204 a1, true)) else (none)) else (none))) else (some (0, false)))) else (none)) else (some (0, false)))) = some (r1, r2) := h
  clear h
  replace H := Option.bind_eq_some_iff.mp H
  obtain ⟨t201, A30, H⟩ := H
  replace H : (if t201 = true then (if 0 < (l0.length : Int) then ((Qu1.f a1 0 (wrap64 ((wrap64 ((l0.length : Int) * ((rd_L2 l0 0).length : Int))) - 1))).bind fun t203 => (if t203 = true then (((slices_Concat_int_int.f k l0).bind fun t_ => slices_Sorted_int.f t_).bind fun t204 => (if 0 ≤ a1 then (if a1 < (t204.length : Int) then (some (rd t204 a1, true)) else (none)) else (none))) else (some (0, false)))) else (none)) else (some (0, false))) = some (r1, r2) := H
  have A3 := Qa.mk A30
  clear A30
  by_cases c4 : t201 = true
  rotate_left
  · replace c4 := Bool.eq_false_iff.mpr c4
    subst c4
    have H1 : (some (0, false)) = some (r1, r2) := by rw [if_neg (show ¬ (false = true) by decide)] at H; exact H
    clear H
    have H := H1
    clear H1
    simp only [Option.some.injEq, Prod.mk.injEq] at H
    obtain ⟨rfl, rfl⟩ := H
    go_enter Tryz.func13, Tryz.ntmps13
    go_wp2_with ((go_at_call 38; (with_reducible refine (Qz.calls _ _ l0 false _ ?side1 ?side2 A3.out).mono ?_); (case side1 => exact HR0.out); (case side2 => exact HC0.out); rintro e w1 ⟨rfl, hb⟩; clear HB; have HB := Qa.mk hb; clear hb))
    go_ret2
    exact ⟨by rfl, by repeat ((with_reducible (exact HB.out)))⟩
  subst c4
  have H1 : (if 0 < (l0.length : Int) then ((Qu1.f a1 0 (wrap64 ((wrap64 ((l0.length : Int) * ((rd_L2 l0 0).length : Int))) - 1))).bind fun t203 => (if t203 = true then (((slices_Concat_int_int.f k l0).bind fun t_ => slices_Sorted_int.f t_).bind fun t204 => (if 0 ≤ a1 then (if a1 < (t204.length : Int) then (some (rd t204 a1, true)) else (none)) else (none))) else (some (0, false)))) else (none)) = some (r1, r2) := by rw [if_pos rfl] at H; exact H
  clear H
  have H := H1
  clear H1
  by_cases c5 : 0 < (l0.length : Int)
  rotate_left
  · rw [if_neg c5] at H
    exact absurd H (by simp)
  rw [if_pos c5] at H
  have c5b0 : decide (0 < (l0.length : Int)) = true := decide_eq_true c5
  have c5b1 : decide (0 < l0.length) = true := decide_eq_true (by omega)
  clear c5
  replace H := Option.bind_eq_some_iff.mp H
  obtain ⟨t203, A60, H⟩ := H
  replace H : (if t203 = true then (((slices_Concat_int_int.f k l0).bind fun t_ => slices_Sorted_int.f t_).bind fun t204 => (if 0 ≤ a1 then (if a1 < (t204.length : Int) then (some (rd t204 a1, true)) else (none)) else (none))) else (some (0, false))) = some (r1, r2) := H
  have A6 := Qa.mk A60
  clear A60
  by_cases c7 : t203 = true
  rotate_left
  · replace c7 := Bool.eq_false_iff.mpr c7
    subst c7
    have H1 : (some (0, false)) = some (r1, r2) := by rw [if_neg (show ¬ (false = true) by decide)] at H; exact H
    clear H
    have H := H1
    clear H1
    simp only [Option.some.injEq, Prod.mk.injEq] at H
    obtain ⟨rfl, rfl⟩ := H
    go_enter Tryz.func13, Tryz.ntmps13
    go_wp2_with (first | (go_at_call 38; (with_reducible refine (Qz.calls _ _ l0 true _ ?side1 ?side2 A3.out).mono ?_); (case side1 => exact HR0.out); (case side2 => exact HC0.out); rintro e w1 ⟨rfl, hb⟩; clear HB; have HB := Qa.mk hb; clear hb; have p202 : 0 ≤ (0 : Int) := (by omega); have q202 : 0 < (l0.length : Int) := of_decide_eq_true (by (with_reducible assumption)); obtain ⟨ad202, A202_0, c202_0, e202, hx202_0, hl202_0, hi202_0⟩ := at_L2 HR0.out 0 p202 q202; cases e202; have qi202 : (0 < l0.length) = True := eq_true (by omega); (try rw [show ((0 : Int)).toNat = 0 from rfl] at hx202_0); (try rw [Addr.add_zero'] at hx202_0); replace hx202_0 := (HB.out.cell (World.block_lt_of_cell? w _ hx202_0)).trans hx202_0; have HR202_0 := Qa.mk hi202_0; have HC202_0 := Qa.mk hl202_0; clear hi202_0 hl202_0; replace p202 := eq_true p202; replace q202 := eq_true q202) | (go_at_call 46; (with_reducible refine (Qu1.calls a1 0 (wrap64 ((wrap64 ((l0.length : Int) * ((rd_L2 l0 0).length : Int))) - 1)) false _ A6.out).mono ?_); rintro e w2 ⟨rfl, hd⟩; have hb := drawn_underH hd; clear hd; have n0_ := Qa.mk (Qh HB.out hb); clear HB hb; have HB := n0_; clear n0_))
    go_ret2
    exact ⟨by rfl, by repeat ((with_reducible (exact HB.out)))⟩
  subst c7
  have H1 : (((slices_Concat_int_int.f k l0).bind fun t_ => slices_Sorted_int.f t_).bind fun t204 => (if 0 ≤ a1 then (if a1 < (t204.length : Int) then (some (rd t204 a1, true)) else (none)) else (none))) = some (r1, r2) := by rw [if_pos rfl] at H; exact H
  clear H
  have H := H1
  clear H1
  replace H := Option.bind_eq_some_iff.mp H
  obtain ⟨t204, A80, H⟩ := H
  replace H : (if 0 ≤ a1 then (if a1 < (t204.length : Int) then (some (rd t204 a1, true)) else (none)) else (none)) = some (r1, r2) := H
  obtain ⟨tc, AC0, AS0⟩ := Option.bind_eq_some_iff.mp A80
  have AC := Qa.mk AC0
  have AS := Qa.mk AS0
  clear A80 AC0 AS0
  by_cases c9 : 0 ≤ a1
  rotate_left
  · rw [if_neg c9] at H
    exact absurd H (by simp)
  rw [if_pos c9] at H
  have c9b0 : decide (0 ≤ a1) = true := decide_eq_true c9
  clear c9
  by_cases c10 : a1 < (t204.length : Int)
  rotate_left
  · rw [if_neg c10] at H
    exact absurd H (by simp)
  rw [if_pos c10] at H
  have c10b0 : decide (a1 < (t204.length : Int)) = true := decide_eq_true c10
  clear c10
  simp only [Option.some.injEq, Prod.mk.injEq] at H
  obtain ⟨rfl, rfl⟩ := H
  go_enter Tryz.func13, Tryz.ntmps13
  go_wp2_with (first | (go_at_call 38; (with_reducible refine (Qz.calls _ _ l0 true _ ?side1 ?side2 A3.out).mono ?_); (case side1 => exact HR0.out); (case side2 => exact HC0.out); rintro e w1 ⟨rfl, hb⟩; clear HB; have HB := Qa.mk hb; clear hb; have p202 : 0 ≤ (0 : Int) := (by omega); have q202 : 0 < (l0.length : Int) := of_decide_eq_true (by (with_reducible assumption)); obtain ⟨ad202, A202_0, c202_0, e202, hx202_0, hl202_0, hi202_0⟩ := at_L2 HR0.out 0 p202 q202; cases e202; have qi202 : (0 < l0.length) = True := eq_true (by omega); (try rw [show ((0 : Int)).toNat = 0 from rfl] at hx202_0); (try rw [Addr.add_zero'] at hx202_0); replace hx202_0 := (HB.out.cell (World.block_lt_of_cell? w _ hx202_0)).trans hx202_0; have HR202_0 := Qa.mk hi202_0; have HC202_0 := Qa.mk hl202_0; clear hi202_0 hl202_0; replace p202 := eq_true p202; replace q202 := eq_true q202) | (go_at_call 46; (with_reducible refine (Qu1.calls a1 0 (wrap64 ((wrap64 ((l0.length : Int) * ((rd_L2 l0 0).length : Int))) - 1)) true _ A6.out).mono ?_); rintro e w2 ⟨rfl, hd⟩; have hb := drawn_underH hd; clear hd; have n0_ := Qa.mk (Qh HB.out hb); clear HB hb; have HB := n0_; clear n0_) | (go_at_call 45; (with_reducible refine (slices_Concat_int_int.calls k _ _ l0 tc _ ?side1 ?side2 AC.out).mono ?_); (case side1 => exact Kd.C_below HR0.out HB.out); (case side2 => exact HC0.out); rintro e w3 ⟨v3, rfl, ho0, hb⟩; have n1_ := Qa.mk (Qh HB.out hb); clear HB; have HB := n1_; clear n1_ hb; obtain ⟨A3_, c3_, rfl⟩ := Kd.R_slice ho0; have HI3 := Qa.mk (ints_of_R ho0); clear ho0) | (go_at_call 48; (with_reducible refine (V.values_calls _ _ _ _).mono ?_); rintro e w4 ⟨rfl, hw4⟩; have sB : w3.heap.size < w4.heap.size := (by rw [hw4]; simp); have sC : w4.cell? ⟨w3.heap.size, 0, none⟩ = some (.slice A3_ tc.length c3_) := (by rw [hw4]; exact (Boxed.new w3 32 _).cell); have sI : V.Ints w4.heap.size w4 (.slice A3_ tc.length c3_) tc := (by rw [hw4]; exact (HI3.out.below ((Below.refl w3.heap.size w3).alloc (Nat.le_refl _) _)).up (by simp)); have n1_ : Qa (Below w.heap.size w w4) := ⟨by rw [hw4]; exact below_alloc HB.out _⟩; have HS := Qa.mk (And.intro sB (And.intro sC sI)); clear HB hw4 sB sC sI; have HB := n1_; clear n1_) | (go_at_call 47; (with_reducible refine (slices_Sorted_int.calls w3.heap.size _ tc t204 _ HS.out.1 HS.out.2.1 HS.out.2.2 AS.out).mono ?_); rintro e w11 ⟨v205, rfl, ho0, hb⟩; have n0_ := Qa.mk ho0; have n1_ := Qa.mk (Qh HB.out hb); clear HB ho0 hb; have HO206 := n0_; have HB := n1_; clear n0_ n1_; obtain ⟨Ao12, co12, eo12⟩ := Kd.R_slice HO206.out; subst eo12; have p207 : 0 ≤ (a1 : Int) := of_decide_eq_true (by (with_reducible assumption)); have q207 : a1 < (t204.length : Int) := of_decide_eq_true (by (with_reducible assumption)); obtain ⟨ad207, e207, hx207_0⟩ := Kd.at_int (Kd.R_reads' HO206.out).2.2 a1 p207 q207; cases e207; replace p207 := eq_true p207; replace q207 := eq_true q207))
  go_ret2
  exact ⟨by rfl, by repeat ((with_reducible (exact HB.out)))⟩
end Go.Proofs.YtohhlkehglahhaaGreatDoor.A
