-- WRITTEN BY printx.py, a program of this session over the kit's print: not typed by hand. Lean checks it.
import Derived.Test.YteohjnmiifmldaaGreatDoorAx0
import Derived.Test.YteohjnmiifmldaaGreatDoorAx3
import Derived.Test.YteohjnmiifmldaaGreatDoorAx4
namespace Go.Proofs.YteohjnmiifmldaaGreatDoor.A
open Go.RowKit Go.Proofs.YteohjnmiifmldaaGreatDoorW.PrintWords Go.Proofs.YteohjnmiifmldaaGreatDoorW.PrintLast Go.Proofs.YteohjnmiifmldaaGreatDoorW.PrintMore Go.Proofs.YteohjnmiifmldaaGreatDoor.X
attribute [local go_sem] max2_int min2_int max_two min_two max_three min_three max_four min_four   -- for this text's walks alone
set_option linter.unusedVariables false
set_option linter.unusedSimpArgs false

/-! ### spec_NeverTogether: function 13 -/
mutual
def spec_NeverTogether.l0 : Nat → List (S38) → List (List Int) → List (S38) → Int → Int → Option ((List (List Int)) × Bool)
  | 0, _, _, _, _, _ => none
  | k + 1, x0, x4, x11, x12, x13 => if x13 < x12 then (if 0 ≤ x13 then (if x13 < (x11.length : Int) then (spec_NeverTogether.l1 k x0 x4 x13 (wrap64 (x13 + 1)) x11 x12 x13 ((rd_T38 x11 x13).f0) ((rd_T38 x11 x13).f1)) else (none)) else (none)) else (some (x4, true))
def spec_NeverTogether.l1 : Nat → List (S38) → List (List Int) → Int → Int → List (S38) → Int → Int → Int → Int → Option ((List (List Int)) × Bool)
  | 0, _, _, _, _, _, _, _, _, _ => none
  | k + 1, x0, x4, x5, x7, x11, x12, x13, x247000, x247001 => if x7 < (x0.length : Int) then (if 0 ≤ x7 then ((spec_foCommon.f k x247000 ((rd_T38 x0 x7).f0)).bind fun t249 => (if t249 = 0 then (none) else (if (Int.tmod (wrap64 (x247001 - ((rd_T38 x0 x7).f1))) t249) = 0 then (spec_NeverTogether.l1 k x0 x4 x5 (wrap64 (x7 + 1)) x11 x12 x13 x247000 x247001) else (if x4.length < 5864062014805 then (spec_NeverTogether.l1 k x0 (x4 ++ [(([x5, x7] : List Int))]) x5 (wrap64 (x7 + 1)) x11 x12 x13 x247000 x247001) else (none))))) else (none)) else (spec_NeverTogether.l0 k x0 x4 x11 x12 (wrap64 (x13 + 1)))
end
def spec_NeverTogether.f (k : Nat) (l0 : List (S38)) : Option ((List (List Int)) × Bool) := (spec_spGood.f k l0).bind fun t244 => (if t244 = true then (spec_NeverTogether.l0 k l0 ([] : List (List Int)) l0 (l0.length : Int) 0) else (some (([] : List (List Int)), false)))
set_option maxHeartbeats 8000000 in
set_option maxRecDepth 100000 in
theorem spec_NeverTogether.calls (k : Nat) (A0 : Option Addr) (c0 : Nat) (l0 : List (S38)) (r1 : List (List Int)) (r2 : Bool) (w : World) (hr0 : Kd.C k38 w A0 l0.length l0) (hc0 : l0.length ≤ c0) (h : spec_NeverTogether.f k l0 = some (r1, r2)) :
    Calls Tryz.prog 13 #[.slice A0 l0.length c0] w fun e w' => ∃ v0_ : Value, e = .returned (.tuple #[v0_, .bool r2]) ∧ Kd.S (Kd.slice 3 (Kd.int .i64)) 39 w' w.heap.size (fun _ => True) v0_ r1 ∧ Below w.heap.size w w' := by
  have hu38 := Tryz.underlying38
  have HR0 := Aside0.mk hr0
  have HC0 := Aside0.mk hc0
  clear hr0 hc0
  have HB := Aside0.mk (Below.refl w.heap.size w)
  have H : ((spec_spGood.f k l0).bind fun t244 => (if t244 = true then (spec_NeverTogether.l0 k l0 ([] : List (List Int)) l0 (l0.length : Int) 0) else (some (([] : List (List Int)), false)))) = some (r1, r2) := h
  clear h
  replace H := Option.bind_eq_some_iff.mp H
  obtain ⟨t244, A20, H⟩ := H
  replace H : (if t244 = true then (spec_NeverTogether.l0 k l0 ([] : List (List Int)) l0 (l0.length : Int) 0) else (some (([] : List (List Int)), false))) = some (r1, r2) := H
  have A2 := Aside0.mk A20
  clear A20
  by_cases c3 : t244 = true
  rotate_left
  · replace c3 := Bool.eq_false_iff.mpr c3
    subst c3
    have H1 : (some (([] : List (List Int)), false)) = some (r1, r2) := by rw [if_neg (show ¬ (false = true) by decide)] at H; exact H
    clear H
    have H := H1
    clear H1
    simp only [Option.some.injEq, Prod.mk.injEq] at H
    obtain ⟨rfl, rfl⟩ := H
    go_enter Tryz.func13, Tryz.ntmps13
    go_wp2_with ((go_at_call 31; (with_reducible refine (spec_spGood.calls k _ _ l0 false _ ?side1 ?side2 A2.out).mono ?_); (case side1 => repeat ((exact HR0.out))); (case side2 => exact HC0.out); rintro e w22 ⟨rfl, hb⟩; have n0_ := Aside0.mk (below_step (by repeat ((with_reducible (exact HB.out)))) hb); clear HB; have HB := n0_; clear n0_; (try clear hb); (try clear hb2); (try clear hk); (try clear hi)))
    repeat (go_quiet (fail); try go_wp2_with (fail))
    go_ret2
    exact ⟨_, by rfl, by (exact Kd.S_nil _ _ _ _ _), by repeat ((with_reducible (exact HB.out)))⟩
  subst c3
  have H1 : (spec_NeverTogether.l0 k l0 ([] : List (List Int)) l0 (l0.length : Int) 0) = some (r1, r2) := by rw [if_pos rfl] at H; exact H
  clear H
  have H := H1
  clear H1
  have H' := Aside0.mk H
  clear H
  go_enter Tryz.func13, Tryz.ntmps13
  go_wp2_with ((go_at_call 31; (with_reducible refine (spec_spGood.calls k _ _ l0 true _ ?side1 ?side2 A2.out).mono ?_); (case side1 => repeat ((exact HR0.out))); (case side2 => exact HC0.out); rintro e w4 ⟨rfl, hb⟩; have n0_ := Aside0.mk (below_step (by repeat ((with_reducible (exact HB.out)))) hb); clear HB; have HB := n0_; clear n0_; (try clear hb); (try clear hb2); (try clear hk); (try clear hi)))
  repeat (go_quiet (fail); try go_wp2_with (fail))
  go_loopg [4, 13] k (fun kq v4 v13 w' => ∃ (x4_1 : List (List Int)) (x13_1 : Int), v13 = .int .i64 x13_1 ∧ Aside0 (spec_NeverTogether.l0 kq l0 x4_1 l0 (l0.length : Int) x13_1 = some (r1, r2)) ∧ Aside0 (kq ≤ k) ∧ Aside0 (Kd.S (Kd.slice 3 (Kd.int .i64)) 39 w' w.heap.size (fun _ => True) v4 x4_1) ∧ Aside0 (Below w.heap.size w w'))
  case atStart => exact ⟨(([] : List (List Int))), (0), (by rfl), H', ⟨Nat.le_refl _⟩, ⟨by (exact Kd.S_nil _ _ _ _ _)⟩, ⟨by repeat ((with_reducible (exact HB.out)))⟩⟩
  case round =>
    clear H'
    obtain ⟨x4_1, x13_1, rfl, HA, HK1, HO_4, HB⟩ := hrel
    cases gk with
    | zero => exact absurd HA.out (by simp [spec_NeverTogether.l0])
    | succ k1 =>
      have H := HA.out
      clear HA
      simp only [spec_NeverTogether.l0] at H
      by_cases c5 : x13_1 < (l0.length : Int)
      rotate_left
      · rw [if_neg c5] at H
        have c5b0 : decide (x13_1 < (l0.length : Int)) = false := decide_eq_false c5
        clear c5
        simp only [Option.some.injEq, Prod.mk.injEq] at H
        obtain ⟨rfl, rfl⟩ := H
        go_wp2
        repeat (go_quiet (fail); try go_wp2)
        go_ret2
        exact ⟨_, by rfl, by (with_reducible repeat (fail)); exact HO_4.out, by repeat ((with_reducible (exact HB.out)))⟩
      rw [if_pos c5] at H
      have c5b0 : decide (x13_1 < (l0.length : Int)) = true := decide_eq_true c5
      clear c5
      by_cases c6 : 0 ≤ x13_1
      rotate_left
      · rw [if_neg c6] at H
        exact absurd H (by simp)
      rw [if_pos c6] at H
      have c6b0 : decide (0 ≤ x13_1) = true := decide_eq_true c6
      clear c6
      by_cases c7 : x13_1 < (l0.length : Int)
      rotate_left
      · rw [if_neg c7] at H
        exact absurd H (by simp)
      rw [if_pos c7] at H
      have c7b0 : decide (x13_1 < (l0.length : Int)) = true := decide_eq_true c7
      clear c7
      have H' := Aside0.mk H
      clear H
      have p245 : 0 ≤ (x13_1 : Int) := of_decide_eq_true (by (with_reducible assumption))
      have q245 : x13_1 < (l0.length : Int) := of_decide_eq_true (by (with_reducible assumption))
      obtain ⟨ad245, e245, hx245_0, hx245_1⟩ := at_T38 HR0.out x13_1 p245 q245
      cases e245
      replace hx245_0 := (HB.out.cell (World.block_lt_of_cell? w _ hx245_0)).trans hx245_0
      replace hx245_1 := (HB.out.cell (World.block_lt_of_cell? w _ hx245_1)).trans hx245_1
      replace p245 := eq_true p245
      replace q245 := eq_true q245
      go_wp2_with (((with_reducible refine gate_dst (N := 6) rfl ?_); refine box_event ?hg (N := 6) ?hd (cs := #[.int .i64 0, .int .i64 0]) (t := 38) ?hr ?_; (case hd => rfl); (case hg => rfl); (case hr => (go_simp; done)); intro gb246 hg w8 hbox hb; have n0_ := Aside0.mk (Kd.S_below (by (with_reducible repeat (fail)); exact HO_4.out) hb); have n1_ := Aside0.mk (below_step (by repeat ((with_reducible (exact HB.out)))) hb); have n2_ := Aside0.mk (hbox); have n3_ := Aside0.mk ((by rw [hg]; exact (below_size (by repeat ((with_reducible (exact HB.out))))) : w.heap.size ≤ gb246)); have n4_ := Aside0.mk ((by rw [hg]; exact (below_size (by repeat ((with_reducible (exact HB.out))))) : w.heap.size ≤ gb246)); clear HO_4; clear HB; have HO_4 := n0_; have HB := n1_; have BK246 := n2_; have GW246 := n3_; have GE246 := n4_; clear n0_ n1_ n2_ n3_ n4_; clear hb hbox hg; have hcz9_0 : w8.cell? ⟨gb246, 0, none⟩ = some (.int .i64 0) := (blk_cell BK246.out 0).trans rfl; have hcz9_1 : w8.cell? ⟨gb246, 1, none⟩ = some (.int .i64 0) := (blk_cell BK246.out 1).trans rfl; have hfz9_0 := blk_frozen BK246.out 0; have hfz9_1 := blk_frozen BK246.out 1))
      repeat (go_quiet (fail); try go_wp2_with (fail))
      go_loopg [4, 7] k1 (fun kq v4 v7 w' => ∃ (x4_2 : List (List Int)) (x7_2 : Int), v7 = .int .i64 x7_2 ∧ Aside0 (spec_NeverTogether.l1 kq l0 x4_2 x13_1 x7_2 l0 (l0.length : Int) x13_1 ((rd_T38 l0 x13_1).f0) ((rd_T38 l0 x13_1).f1) = some (r1, r2)) ∧ Aside0 (kq ≤ k1) ∧ Aside0 (Kd.S (Kd.slice 3 (Kd.int .i64)) 39 w' w.heap.size (fun _ => True) v4 x4_2) ∧ Aside0 (w'.heap[gb246]? = some (.cells #[.int .i64 ((rd_T38 l0 x13_1).f0), .int .i64 ((rd_T38 l0 x13_1).f1)] 38 (0, 0))) ∧ Aside0 (Below w.heap.size w w'))
      case atStart => exact ⟨(x4_1), (wrap64 (x13_1 + 1)), (by rfl), H', ⟨Nat.le_refl _⟩, ⟨by (with_reducible repeat (fail)); exact Kd.S_mono (Kd.S_far (p := ⟨gb246, 1, none⟩) (Kd.S_far (p := ⟨gb246, 0, none⟩) (Kd.S_types HO_4.out BK246.out (by decide)) (fun _ hk => hk.2) (.int .i64 ((rd_T38 l0 x13_1).f0))) (fun _ hk => hk.2) (.int .i64 ((rd_T38 l0 x13_1).f1))) (fun _ hk => trivial)⟩, ⟨by (with_reducible repeat (fail)); refine blk_put (cs := #[.int .i64 ((rd_T38 l0 x13_1).f0), .int .i64 0]) ?_ 1 _ rfl; (with_reducible repeat (fail)); refine blk_put (cs := #[.int .i64 0, .int .i64 0]) ?_ 0 _ rfl; (with_reducible repeat (fail)); exact BK246.out⟩, ⟨by repeat ((with_reducible first | exact HB.out | refine below_set ?_ GE246.out))⟩⟩
      case round =>
        clear H' c5b0 c6b0 c7b0 hcz9_0 hcz9_1 hfz9_0 hfz9_1 hx245_0 hx245_1 p245 q245
        obtain ⟨x4_2, x7_2, rfl, HA, HK2, HO_4, BK246, HB⟩ := hrel
        cases gk with
        | zero => exact absurd HA.out (by simp [spec_NeverTogether.l1])
        | succ k2 =>
          have H := HA.out
          clear HA
          simp only [spec_NeverTogether.l1] at H
          by_cases c10 : x7_2 < (l0.length : Int)
          rotate_left
          · rw [if_neg c10] at H
            have c10b0 : decide (x7_2 < (l0.length : Int)) = false := decide_eq_false c10
            clear c10
            have H' := Aside0.mk H
            clear H
            go_wp2
            repeat (go_quiet (fail); try go_wp2)
            (go_roundg k2)
            case measure => have := HK1.out; have := HK2.out; omega
            case rel => exact ⟨(x4_2), (wrap64 (x13_1 + 1)), (by rfl), H', ⟨by have := HK1.out; have := HK2.out; omega⟩, ⟨by (with_reducible repeat (fail)); exact HO_4.out⟩, ⟨by repeat ((with_reducible (exact HB.out)))⟩⟩
          rw [if_pos c10] at H
          have c10b0 : decide (x7_2 < (l0.length : Int)) = true := decide_eq_true c10
          clear c10
          by_cases c11 : 0 ≤ x7_2
          rotate_left
          · rw [if_neg c11] at H
            exact absurd H (by simp)
          rw [if_pos c11] at H
          have c11b0 : decide (0 ≤ x7_2) = true := decide_eq_true c11
          clear c11
          replace H := Option.bind_eq_some_iff.mp H
          obtain ⟨t249, A120, H⟩ := H
          replace H : (if t249 = 0 then (none) else (if (Int.tmod (wrap64 (((rd_T38 l0 x13_1).f1) - ((rd_T38 l0 x7_2).f1))) t249) = 0 then (spec_NeverTogether.l1 k2 l0 x4_2 x13_1 (wrap64 (x7_2 + 1)) l0 (l0.length : Int) x13_1 ((rd_T38 l0 x13_1).f0) ((rd_T38 l0 x13_1).f1)) else (if x4_2.length < 5864062014805 then (spec_NeverTogether.l1 k2 l0 (x4_2 ++ [(([x13_1, x7_2] : List Int))]) x13_1 (wrap64 (x7_2 + 1)) l0 (l0.length : Int) x13_1 ((rd_T38 l0 x13_1).f0) ((rd_T38 l0 x13_1).f1)) else (none)))) = some (r1, r2) := H
          have A12 := Aside0.mk A120
          clear A120
          by_cases c13 : t249 = 0
          · rw [if_pos c13] at H
            exact absurd H (by simp)
          rw [if_neg c13] at H
          have c13b0 : (t249 == 0) = false := beq_eq_false_iff_ne.mpr c13
          have c13b1 : (t249 != 0) = true := bne_iff_ne.mpr c13
          by_cases c14 : (Int.tmod (wrap64 (((rd_T38 l0 x13_1).f1) - ((rd_T38 l0 x7_2).f1))) t249) = 0
          · rw [if_pos c14] at H
            have c14b0 : ((Int.tmod (wrap64 (((rd_T38 l0 x13_1).f1) - ((rd_T38 l0 x7_2).f1))) t249) == 0) = true := beq_iff_eq.mpr c14
            have c14b1 : ((Int.tmod (wrap64 (((rd_T38 l0 x13_1).f1) - ((rd_T38 l0 x7_2).f1))) t249) != 0) = false := bne_eq_false_iff_eq.mpr c14
            clear c14
            have H' := Aside0.mk H
            clear H
            have hcz15_0 : wr.cell? ⟨gb246, 0, none⟩ = some (.int .i64 ((rd_T38 l0 x13_1).f0)) := (blk_cell BK246.out 0).trans rfl
            have hcz15_1 : wr.cell? ⟨gb246, 1, none⟩ = some (.int .i64 ((rd_T38 l0 x13_1).f1)) := (blk_cell BK246.out 1).trans rfl
            have hfz15_0 := blk_frozen BK246.out 0
            have hfz15_1 := blk_frozen BK246.out 1
            have p247 : 0 ≤ (x7_2 : Int) := of_decide_eq_true (by (with_reducible assumption))
            have q247 : x7_2 < (l0.length : Int) := of_decide_eq_true (by (with_reducible assumption))
            obtain ⟨ad247, e247, hx247_0, hx247_1⟩ := at_T38 HR0.out x7_2 p247 q247
            obtain rfl : ad245 = ad247 := (by injection e247)
            replace hx247_0 := (HB.out.cell (World.block_lt_of_cell? w _ hx247_0)).trans hx247_0
            replace hx247_1 := (HB.out.cell (World.block_lt_of_cell? w _ hx247_1)).trans hx247_1
            replace p247 := eq_true p247
            replace q247 := eq_true q247
            have p248 : 0 ≤ (x7_2 : Int) := of_decide_eq_true (by (with_reducible assumption))
            have q248 : x7_2 < (l0.length : Int) := of_decide_eq_true (by (with_reducible assumption))
            obtain ⟨ad248, e248, hx248_0, hx248_1⟩ := at_T38 HR0.out x7_2 p248 q248
            obtain rfl : ad245 = ad248 := (by injection e248)
            replace hx248_0 := (HB.out.cell (World.block_lt_of_cell? w _ hx248_0)).trans hx248_0
            replace hx248_1 := (HB.out.cell (World.block_lt_of_cell? w _ hx248_1)).trans hx248_1
            replace p248 := eq_true p248
            replace q248 := eq_true q248
            go_wp2_with (fail)
            repeat (go_quiet ((go_at_call 43; (with_reducible refine (spec_foCommon.calls k2 ((rd_T38 l0 x13_1).f0) ((rd_T38 l0 x7_2).f0) t249 _ A12.out).mono ?_); rintro e w' ⟨rfl, ⟨nd, rfl⟩⟩; (try (exact ⟨rfl, _, World.drewN_drewN _ _ _⟩)))); try go_wp2_with (fail))
            (go_roundg k2)
            case measure => have := HK1.out; have := HK2.out; omega
            case rel => exact ⟨(x4_2), (wrap64 (x7_2 + 1)), (by rfl), H', ⟨by have := HK1.out; have := HK2.out; omega⟩, ⟨by (with_reducible repeat ((apply Kd.S_drewN))); exact HO_4.out⟩, ⟨by (with_reducible repeat ((refine blk_drewN ?_ _))); exact BK246.out⟩, ⟨by repeat ((with_reducible first | exact HB.out | apply pw_below_drewN))⟩⟩
          rw [if_neg c14] at H
          have c14b0 : ((Int.tmod (wrap64 (((rd_T38 l0 x13_1).f1) - ((rd_T38 l0 x7_2).f1))) t249) == 0) = false := beq_eq_false_iff_ne.mpr c14
          have c14b1 : ((Int.tmod (wrap64 (((rd_T38 l0 x13_1).f1) - ((rd_T38 l0 x7_2).f1))) t249) != 0) = true := bne_iff_ne.mpr c14
          obtain ⟨y250, hy250⟩ : ∃ y_ : List Int, y_ = (([x13_1, x7_2] : List Int)) := ⟨_, rfl⟩
          replace H : (if x4_2.length < 5864062014805 then (spec_NeverTogether.l1 k2 l0 (x4_2 ++ [y250]) x13_1 (wrap64 (x7_2 + 1)) l0 (l0.length : Int) x13_1 ((rd_T38 l0 x13_1).f0) ((rd_T38 l0 x13_1).f1)) else (none)) = some (r1, r2) := by (rw [hy250]; with_reducible exact H)
          have Ny250 := Aside0.mk hy250
          clear hy250
          by_cases c16 : x4_2.length < 5864062014805
          rotate_left
          · rw [if_neg c16] at H
            exact absurd H (by simp)
          rw [if_pos c16] at H
          have LMc16 := Aside0.mk c16
          clear c16
          obtain ⟨y253, hy253⟩ : ∃ y_ : List (List Int), y_ = (x4_2 ++ [y250]) := ⟨_, rfl⟩
          replace H : (spec_NeverTogether.l1 k2 l0 y253 x13_1 (wrap64 (x7_2 + 1)) l0 (l0.length : Int) x13_1 ((rd_T38 l0 x13_1).f0) ((rd_T38 l0 x13_1).f1)) = some (r1, r2) := by (rw [hy253]; with_reducible exact H)
          have Ny253 := Aside0.mk hy253
          clear hy253
          have H' := Aside0.mk H
          clear H
          have hcz17_0 : wr.cell? ⟨gb246, 0, none⟩ = some (.int .i64 ((rd_T38 l0 x13_1).f0)) := (blk_cell BK246.out 0).trans rfl
          have hcz17_1 : wr.cell? ⟨gb246, 1, none⟩ = some (.int .i64 ((rd_T38 l0 x13_1).f1)) := (blk_cell BK246.out 1).trans rfl
          have hfz17_0 := blk_frozen BK246.out 0
          have hfz17_1 := blk_frozen BK246.out 1
          have p247 : 0 ≤ (x7_2 : Int) := of_decide_eq_true (by (with_reducible assumption))
          have q247 : x7_2 < (l0.length : Int) := of_decide_eq_true (by (with_reducible assumption))
          obtain ⟨ad247, e247, hx247_0, hx247_1⟩ := at_T38 HR0.out x7_2 p247 q247
          obtain rfl : ad245 = ad247 := (by injection e247)
          replace hx247_0 := (HB.out.cell (World.block_lt_of_cell? w _ hx247_0)).trans hx247_0
          replace hx247_1 := (HB.out.cell (World.block_lt_of_cell? w _ hx247_1)).trans hx247_1
          replace p247 := eq_true p247
          replace q247 := eq_true q247
          have p248 : 0 ≤ (x7_2 : Int) := of_decide_eq_true (by (with_reducible assumption))
          have q248 : x7_2 < (l0.length : Int) := of_decide_eq_true (by (with_reducible assumption))
          obtain ⟨ad248, e248, hx248_0, hx248_1⟩ := at_T38 HR0.out x7_2 p248 q248
          obtain rfl : ad245 = ad248 := (by injection e248)
          replace hx248_0 := (HB.out.cell (World.block_lt_of_cell? w _ hx248_0)).trans hx248_0
          replace hx248_1 := (HB.out.cell (World.block_lt_of_cell? w _ hx248_1)).trans hx248_1
          replace p248 := eq_true p248
          replace q248 := eq_true q248
          go_wp2_with (fail)
          repeat (go_quiet ((go_at_call 43; (with_reducible refine (spec_foCommon.calls k2 ((rd_T38 l0 x13_1).f0) ((rd_T38 l0 x7_2).f0) t249 _ A12.out).mono ?_); rintro e w' ⟨rfl, ⟨nd, rfl⟩⟩; (try (exact ⟨rfl, _, World.drewN_drewN _ _ _⟩)))); try go_wp2_with (first | ((with_reducible refine gate_dst (N := 47) rfl ?_); refine Kd.R_lit (Kd.int .i64) _ 3 ?hg (N := 47) ?hd (xs := ([x13_1, x7_2] : List Int)) (inner := [.int .i64 x13_1, .int .i64 x7_2]) (ok := fun _ => True) (okp := fun _ => True) ?hr ?hp (fun _ hk => hk) trivial (Below.refl _ _) (Nat.le_refl _) (by simp) ?_; (case hd => rfl); (case hg => rfl); (case hr => (go_simp; done)); (case hp => exact (Reps.one (show Kd.M (Kd.int .i64) _ _ _ x13_1 [.int .i64 x13_1] from rfl) (Reps.one (show Kd.M (Kd.int .i64) _ _ _ x7_2 [.int .i64 x7_2] from rfl) (Reps.none _ _)))); intro v251 w18 ho19 hb hg_ hnew_; clear hg_ hnew_; ((rw [← Ny250.out] at ho19)); have n0_ := Aside0.mk (Kd.S_elder' (by (with_reducible repeat ((apply Kd.S_drewN))); exact HO_4.out) (Kd.R_base ho19) hb); have n1_ := Aside0.mk (Kd.R_lower ho19 (below_size (by repeat ((with_reducible first | exact HB.out | apply pw_below_drewN))))); have n2_ := Aside0.mk (blk_below (g := gb246) (o := .cells #[.int .i64 ((rd_T38 l0 x13_1).f0), .int .i64 ((rd_T38 l0 x13_1).f1)] 38 (0, 0)) (by (with_reducible repeat ((refine blk_drewN ?_ _))); exact BK246.out) hb); have n3_ := Aside0.mk (below_step (by repeat ((with_reducible first | exact HB.out | apply pw_below_drewN))) hb); clear HO_4; clear BK246; clear HB; have HO_4 := n0_; have HO252 := n1_; have BK246 := n2_; have HB := n3_; clear n0_ n1_ n2_ n3_; clear hb ho19; obtain ⟨Ao21, co21, eo21⟩ := Kd.R_slice HO252.out; subst eo21) | ((with_reducible refine gate_builtin (b := .append) (xs := #[.tmp 44, .tmp 48]) rfl ?_); at_builtin; refine Kd.S_append (Kd.slice 3 (Kd.int .i64)) (w0 := w) w.heap.size rfl (.tmp 44) (.tmp 48) 27 39 (.slice none 0 0) 24 rfl Tryz.underlying27 info39 rfl (by decide) (by omega) u4 x4_2 y250 [.slice Ao21 y250.length co21] (fun _ => True) (fun k_ => some k_ = (.slice Ao21 y250.length co21 : Value).ownBlock) rfl rfl ?aP (fun k_ hk_ => ((Kd.R_mono (ok' := fun k_ => ((fun _ => True)) k_ ∧ some k_ ≠ (u4 : Value).ownBlock) (Kd.R_apart' (HO252.out) (Kd.S_typed HO_4.out) (by decide)) (fun k_ hk => ⟨trivial, hk.2⟩))).1 k_ hk_.symm) ?aF ?aO ?aB ?aS ?aL ?_; (case aP => exact Kd.M_row (Kd.R_mono (Kd.R_tight rfl (Kd.R_mono (ok' := fun k_ => ((fun _ => True)) k_ ∧ some k_ ≠ (u4 : Value).ownBlock) (Kd.R_apart' (HO252.out) (Kd.S_typed HO_4.out) (by decide)) (fun k_ hk => ⟨trivial, hk.2⟩))) (fun _ h_ => h_))); (case aB => exact (by repeat ((with_reducible (exact HB.out))))); (case aF => exact (fun _ _ => trivial)); (case aO => exact (by (with_reducible repeat (fail)); exact Kd.S_mono HO_4.out (fun k_ hk => ⟨trivial, fun e_ => hk.2 e_⟩))); (case aS => exact (below_size (by repeat ((with_reducible (exact HB.out)))))); (case aL => have := LMc16.out; omega); intro v254 w20 ho hb hg hat; rw [← Ny253.out] at ho; have n0_ := Aside0.mk (blk_grown (g := gb246) (o := .cells #[.int .i64 ((rd_T38 l0 x13_1).f0), .int .i64 ((rd_T38 l0 x13_1).f1)] 38 (0, 0)) (by (with_reducible repeat (fail)); exact BK246.out) hg (Kd.S_ne HO_4.out BK246.out (by decide))); have n1_ := Aside0.mk (hb); have n2_ := Aside0.mk (ho); clear BK246; clear HB; clear HO_4; clear HO252; have BK246 := n0_; have HB := n1_; have HO255 := n2_; clear n0_ n1_ n2_; clear ho hb hg hat)))
          (go_roundg k2)
          case measure => have := HK1.out; have := HK2.out; omega
          case rel => exact ⟨(y253), (wrap64 (x7_2 + 1)), (by rfl), H', ⟨by have := HK1.out; have := HK2.out; omega⟩, ⟨by (with_reducible repeat (fail)); exact HO255.out⟩, ⟨by (with_reducible repeat (fail)); exact BK246.out⟩, ⟨by repeat ((with_reducible (exact HB.out)))⟩⟩

-- given: function 61 (strconv_Itoa)

end Go.Proofs.YteohjnmiifmldaaGreatDoor.A
