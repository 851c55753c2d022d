-- WRITTEN BY printx.py, a program of this session over the kit's print: not typed by hand. Lean checks it.
import Derived.Test.YteohjnmiifmldaaGreatDoorAx0
import Derived.Test.YteohjnmiifmldaaGreatDoorAx2
import Derived.Test.YteohjnmiifmldaaGreatDoorAx4
import Derived.Test.YteohjnmiifmldaaGreatDoorAx5
import Derived.Test.YteohjnmiifmldaaGreatDoorAx6
import Derived.Test.YteohjnmiifmldaaGreatDoorGivC
namespace Go.Proofs.YteohjnmiifmldaaGreatDoor.A
open Go.RowKit Go.Proofs.YteohjnmiifmldaaGreatDoorW.PrintWords Go.Proofs.YteohjnmiifmldaaGreatDoorW.PrintLast Go.Proofs.YteohjnmiifmldaaGreatDoorW.PrintMore Go.Proofs.YteohjnmiifmldaaGreatDoor.X
attribute [local go_sem] max2_int min2_int max_two min_two max_three min_three max_four min_four   -- for this text's walks alone
set_option linter.unusedVariables false
set_option linter.unusedSimpArgs false

/-! ### slices_Concat_int_int: function 40 -/
mutual
def slices_Concat_int_int.l0 : Nat → List (List Int) → Int → List (List Int) → Int → Int → Option (List Int)
  | 0, _, _, _, _, _ => none
  | k + 1, x0, x3, x9, x10, x11 => if x11 < x10 then (if 0 ≤ x11 then (if x11 < (x9.length : Int) then (if (wrap64 (x3 + ((rd_L2 x9 x11).length : Int))) < 0 then (none) else (slices_Concat_int_int.l0 k x0 (wrap64 (x3 + ((rd_L2 x9 x11).length : Int))) x9 x10 (wrap64 (x11 + 1)))) else (none)) else (none)) else ((slices_Grow_int_int.f ([] : List Int) x3).bind fun t205 => (slices_Concat_int_int.l1 k t205 x0 (x0.length : Int) 0))
def slices_Concat_int_int.l1 : Nat → List Int → List (List Int) → Int → Int → Option (List Int)
  | 0, _, _, _, _ => none
  | k + 1, x6, x25, x26, x27 => if x27 < x26 then (if 0 ≤ x27 then (if x27 < (x25.length : Int) then (if x6.length + (rd_L2 x25 x27).length < 17592186044416 then (slices_Concat_int_int.l1 k (x6 ++ (rd_L2 x25 x27)) x25 x26 (wrap64 (x27 + 1))) else (none)) else (none)) else (none)) else (some x6)
end
def slices_Concat_int_int.f (k : Nat) (l0 : List (List Int)) : Option (List Int) := slices_Concat_int_int.l0 k l0 0 l0 (l0.length : Int) 0
set_option maxHeartbeats 8000000 in
set_option maxRecDepth 100000 in
theorem slices_Concat_int_int.calls (k : Nat) (A0 : Option Addr) (c0 : Nat) (l0 : List (List Int)) (r : List Int) (w : World) (hr0 : Kd.C (Kd.slice 3 (Kd.int .i64)) w A0 l0.length l0) (hc0 : l0.length ≤ c0) (h : slices_Concat_int_int.f k l0 = some r) :
    Calls Tryz.prog 40 #[.slice A0 l0.length c0] w fun e w' => ∃ v0_ : Value, e = .returned (v0_) ∧ Kd.R (Kd.int .i64) 3 w' w.heap.size (fun _ => True) v0_ r ∧ Below w.heap.size w w' := by
  have HR0 := Aside0.mk hr0
  have HC0 := Aside0.mk hc0
  clear hr0 hc0
  have HB := Aside0.mk (Below.refl w.heap.size w)
  have H : (slices_Concat_int_int.l0 k l0 0 l0 (l0.length : Int) 0) = some r := h
  clear h
  have H' := Aside0.mk H
  clear H
  go_enter Tryz.func40, Tryz.ntmps40
  go_wp2
  go_loopg [3, 11] k (fun kq v3 v11 w' => ∃ (x3_1 : Int) (x11_1 : Int), v3 = .int .i64 x3_1 ∧ v11 = .int .i64 x11_1 ∧ Aside0 (slices_Concat_int_int.l0 kq l0 x3_1 l0 (l0.length : Int) x11_1 = some r) ∧ Aside0 (kq ≤ k) ∧ Aside0 (Below w.heap.size w w'))
  case atStart => exact ⟨(0), (0), (by rfl), (by rfl), H', ⟨Nat.le_refl _⟩, ⟨by repeat ((with_reducible (exact HB.out)))⟩⟩
  case round =>
    clear H'
    obtain ⟨x3_1, x11_1, rfl, rfl, HA, HK1, HB⟩ := hrel
    cases gk with
    | zero => exact absurd HA.out (by simp [slices_Concat_int_int.l0])
    | succ k1 =>
      have H := HA.out
      clear HA
      simp only [slices_Concat_int_int.l0] at H
      by_cases c2 : x11_1 < (l0.length : Int)
      · rw [if_pos c2] at H
        have c2b0 : decide (x11_1 < (l0.length : Int)) = true := decide_eq_true c2
        clear c2
        by_cases c3 : 0 ≤ x11_1
        rotate_left
        · rw [if_neg c3] at H
          exact absurd H (by simp)
        rw [if_pos c3] at H
        have c3b0 : decide (0 ≤ x11_1) = true := decide_eq_true c3
        clear c3
        by_cases c4 : x11_1 < (l0.length : Int)
        rotate_left
        · rw [if_neg c4] at H
          exact absurd H (by simp)
        rw [if_pos c4] at H
        have c4b0 : decide (x11_1 < (l0.length : Int)) = true := decide_eq_true c4
        clear c4
        by_cases c5 : (wrap64 (x3_1 + ((rd_L2 l0 x11_1).length : Int))) < 0
        · rw [if_pos c5] at H
          exact absurd H (by simp)
        rw [if_neg c5] at H
        have c5b0 : decide ((wrap64 (x3_1 + ((rd_L2 l0 x11_1).length : Int))) < 0) = false := decide_eq_false c5
        clear c5
        have H' := Aside0.mk H
        clear H
        have p204 : 0 ≤ (x11_1 : Int) := of_decide_eq_true (by (with_reducible assumption))
        have q204 : x11_1 < (l0.length : Int) := of_decide_eq_true (by (with_reducible assumption))
        obtain ⟨ad204, A204_0, c204_0, e204, hx204_0, hl204_0, hi204_0⟩ := at_L2 HR0.out x11_1 p204 q204
        cases e204
        replace hx204_0 := (HB.out.cell (World.block_lt_of_cell? w _ hx204_0)).trans hx204_0
        have HR204_0 := Aside0.mk hi204_0
        have HC204_0 := Aside0.mk hl204_0
        clear hi204_0 hl204_0
        replace p204 := eq_true p204
        replace q204 := eq_true q204
        go_wp2
        (go_roundg k1)
        case measure => have := HK1.out; omega
        case rel => exact ⟨(wrap64 (x3_1 + ((rd_L2 l0 x11_1).length : Int))), (wrap64 (x11_1 + 1)), (by rfl), (by rfl), H', ⟨by have := HK1.out; omega⟩, ⟨by repeat ((with_reducible (exact HB.out)))⟩⟩
      rw [if_neg c2] at H
      have c2b0 : decide (x11_1 < (l0.length : Int)) = false := decide_eq_false c2
      clear c2
      replace H := Option.bind_eq_some_iff.mp H
      obtain ⟨t205, A60, H⟩ := H
      replace H : (slices_Concat_int_int.l1 k1 t205 l0 (l0.length : Int) 0) = some r := H
      have A6 := Aside0.mk A60
      clear A60
      have H' := Aside0.mk H
      clear H
      go_wp2_with (((with_reducible refine gate_callee (f := 60) rfl ?_); refine goesL_ (some 24) rfl rfl Tryz.func60 (by kernel_rfl) rfl #[.slice none 0 0, .int .i64 x3_1] rfl (by (try simp only [List.map_toArray, List.map_cons, List.map_nil]); rfl) ?_; (refine (slices_Grow_int_int.calls _ _ ([] : List Int) x3_1 t205 _ ?side1 ?side2 A6.out).mono ?_); (case side1 => rfl); (case side2 => rfl); rintro e w7 ⟨v206, rfl, ho0, hb⟩; refine ⟨_, rfl, ?_⟩; have n0_ := Aside0.mk (Kd.R_lower ho0 (below_size (by repeat ((with_reducible (exact HB.out)))))); have n1_ := Aside0.mk (below_step (by repeat ((with_reducible (exact HB.out)))) hb); clear HB; have HO207 := n0_; have HB := n1_; clear n0_ n1_; (try clear hb); (try clear hb2); (try clear hk); (try clear hi); (try clear ho0)))
      go_loopg [6, 27] k1 (fun kq v6 v27 w' => ∃ (x6_2 : List Int) (x27_2 : Int), v27 = .int .i64 x27_2 ∧ Aside0 (slices_Concat_int_int.l1 kq x6_2 l0 (l0.length : Int) x27_2 = some r) ∧ Aside0 (kq ≤ k1) ∧ Aside0 (Kd.R (Kd.int .i64) 3 w' w.heap.size (fun _ => True) v6 x6_2) ∧ Aside0 (Below w.heap.size w w'))
      case atStart => exact ⟨(t205), (0), (by rfl), H', ⟨Nat.le_refl _⟩, ⟨by (with_reducible repeat (fail)); exact HO207.out⟩, ⟨by repeat ((with_reducible (exact HB.out)))⟩⟩
      case round =>
        clear H' c2b0
        obtain ⟨x6_2, x27_2, rfl, HA, HK2, HO_6, HB⟩ := hrel
        cases gk with
        | zero => exact absurd HA.out (by simp [slices_Concat_int_int.l1])
        | succ k2 =>
          have H := HA.out
          clear HA
          simp only [slices_Concat_int_int.l1] at H
          by_cases c8 : x27_2 < (l0.length : Int)
          rotate_left
          · rw [if_neg c8] at H
            have c8b0 : decide (x27_2 < (l0.length : Int)) = false := decide_eq_false c8
            clear c8
            obtain rfl := Option.some.inj H
            go_wp2
            go_ret
            exact ⟨_, by rfl, by (with_reducible repeat (fail)); exact HO_6.out, by repeat ((with_reducible (exact HB.out)))⟩
          rw [if_pos c8] at H
          have c8b0 : decide (x27_2 < (l0.length : Int)) = true := decide_eq_true c8
          clear c8
          by_cases c9 : 0 ≤ x27_2
          rotate_left
          · rw [if_neg c9] at H
            exact absurd H (by simp)
          rw [if_pos c9] at H
          have c9b0 : decide (0 ≤ x27_2) = true := decide_eq_true c9
          clear c9
          by_cases c10 : x27_2 < (l0.length : Int)
          rotate_left
          · rw [if_neg c10] at H
            exact absurd H (by simp)
          rw [if_pos c10] at H
          have c10b0 : decide (x27_2 < (l0.length : Int)) = true := decide_eq_true c10
          clear c10
          by_cases c11 : x6_2.length + (rd_L2 l0 x27_2).length < 17592186044416
          rotate_left
          · rw [if_neg c11] at H
            exact absurd H (by simp)
          rw [if_pos c11] at H
          have LMc11 := Aside0.mk c11
          clear c11
          obtain ⟨y209, hy209⟩ : ∃ y_ : List Int, y_ = (x6_2 ++ (rd_L2 l0 x27_2)) := ⟨_, rfl⟩
          replace H : (slices_Concat_int_int.l1 k2 y209 l0 (l0.length : Int) (wrap64 (x27_2 + 1))) = some r := by (rw [hy209]; with_reducible exact H)
          have Ny209 := Aside0.mk hy209
          clear hy209
          have H' := Aside0.mk H
          clear H
          have p208 : 0 ≤ (x27_2 : Int) := of_decide_eq_true (by (with_reducible assumption))
          have q208 : x27_2 < (l0.length : Int) := of_decide_eq_true (by (with_reducible assumption))
          obtain ⟨ad208, A208_0, c208_0, e208, hx208_0, hl208_0, hi208_0⟩ := at_L2 HR0.out x27_2 p208 q208
          cases e208
          replace hx208_0 := (HB.out.cell (World.block_lt_of_cell? w _ hx208_0)).trans hx208_0
          have HR208_0 := Aside0.mk hi208_0
          have HC208_0 := Aside0.mk hl208_0
          clear hi208_0 hl208_0
          replace p208 := eq_true p208
          replace q208 := eq_true q208
          go_wp2_with (((with_reducible refine gate_builtin (b := .append) (xs := #[.tmp 31, .tmp 32]) rfl ?_); at_builtin; refine Kd.R_append_rows (Kd.int .i64) (w0 := w) w.heap.size rfl (.tmp 31) (.tmp 32) 39 3 (.int .i64 0) 8 rfl Tryz.underlying39 info3 rfl (by decide) (by omega) u6 x6_2 (rd_L2 l0 x27_2) _ _ _ (fun _ => True) (fun _ => False) rfl rfl ?aO ?aR (fun _ _ h => h) (fun _ h => h.elim) ?aF ?aB ?aS ?aL ?_; (case aR => repeat ((exact (Kd.C_below HR208_0.out HB.out)))); (case aB => exact (by repeat ((with_reducible (exact HB.out))))); (case aF => exact (fun _ _ => trivial)); (case aO => exact (by (with_reducible repeat (fail)); exact HO_6.out)); (case aS => exact (below_size (by repeat ((with_reducible (exact HB.out)))))); (case aL => have := LMc11.out; omega); intro v210 w12 ho hb hg hat; rw [← Ny209.out] at ho; have n0_ := Aside0.mk (hb); have n1_ := Aside0.mk (ho); clear HB; clear HO_6; have HB := n0_; have HO211 := n1_; clear n0_ n1_; clear ho hb hg hat))
          (go_roundg k2)
          case measure => have := HK1.out; have := HK2.out; omega
          case rel => exact ⟨(y209), (wrap64 (x27_2 + 1)), (by rfl), H', ⟨by have := HK1.out; have := HK2.out; omega⟩, ⟨by (with_reducible repeat (fail)); exact HO211.out⟩, ⟨by repeat ((with_reducible (exact HB.out)))⟩⟩

/-! ### impl_LongestSilence: function 10 -/
def impl_LongestSilence.l0 : Nat → Int → Int → List Int → Int → Int → Option (Int × Bool)
  | 0, _, _, _, _, _ => none
  | k + 1, x6, x7, x20, x21, x22 => if x22 < x21 then (if 0 ≤ x22 then (if x22 < (x20.length : Int) then (if (rd x20 x22) > 0 then (impl_LongestSilence.l0 k (mx x6 0) 0 x20 x21 (wrap64 (x22 + 1))) else (impl_LongestSilence.l0 k (mx x6 (wrap64 (x7 + 1))) (wrap64 (x7 + 1)) x20 x21 (wrap64 (x22 + 1)))) else (none)) else (none)) else (some (x6, true))
def impl_LongestSilence.f (k : Nat) (l0 : List (S38)) : Option (Int × Bool) := (impl_traced.f k l0).bind fun bt212 => (if bt212.2 = true then ((slices_Concat_int_int.f k (([bt212.1, bt212.1] : List (List Int)))).bind fun t219 => (impl_LongestSilence.l0 k 0 0 t219 (t219.length : Int) 0)) else (some (0, false)))
set_option maxHeartbeats 8000000 in
set_option maxRecDepth 100000 in
theorem impl_LongestSilence.calls (k : Nat) (A0 : Option Addr) (c0 : Nat) (l0 : List (S38)) (r1 : Int) (r2 : Bool) (w : World) (hr0 : Kd.C k38 w A0 l0.length l0) (hc0 : l0.length ≤ c0) (h : impl_LongestSilence.f k l0 = some (r1, r2)) :
    Calls Tryz.prog 10 #[.slice A0 l0.length c0] w fun e w' => e = .returned (.tuple #[.int .i64 r1, .bool r2]) ∧ Below w.heap.size w w' := by
  have HR0 := Aside0.mk hr0
  have HC0 := Aside0.mk hc0
  clear hr0 hc0
  have HB := Aside0.mk (Below.refl w.heap.size w)
  have H : ((impl_traced.f k l0).bind fun bt212 => (if bt212.2 = true then ((slices_Concat_int_int.f k (([bt212.1, bt212.1] : List (List Int)))).bind fun t219 => (impl_LongestSilence.l0 k 0 0 t219 (t219.length : Int) 0)) else (some (0, false)))) = some (r1, r2) := h
  clear h
  replace H := Option.bind_eq_some_iff.mp H
  obtain ⟨⟨t212, t213⟩, A20, H⟩ := H
  replace H : (if t213 = true then ((slices_Concat_int_int.f k (([t212, t212] : List (List Int)))).bind fun t219 => (impl_LongestSilence.l0 k 0 0 t219 (t219.length : Int) 0)) else (some (0, false))) = some (r1, r2) := H
  have A2 := Aside0.mk A20
  clear A20
  by_cases c3 : t213 = true
  rotate_left
  · replace c3 := Bool.eq_false_iff.mpr c3
    subst c3
    have H1 : (some (0, false)) = some (r1, r2) := by rw [if_neg (show ¬ (false = true) by decide)] at H; exact H
    clear H
    have H := H1
    clear H1
    simp only [Option.some.injEq, Prod.mk.injEq] at H
    obtain ⟨rfl, rfl⟩ := H
    go_enter Tryz.func10, Tryz.ntmps10
    go_wp2_with (((with_reducible refine gate_callee (f := 35) rfl ?_); refine goesL_ (some 12) rfl rfl Tryz.func35 (by kernel_rfl) rfl #[.slice A0 l0.length c0] rfl (by (try simp only [List.map_toArray, List.map_cons, List.map_nil]); rfl) ?_; (with_reducible refine (impl_traced.calls k _ _ l0 t212 false _ ?side1 ?side2 A2.out).mono ?_); (case side1 => repeat ((exact HR0.out))); (case side2 => exact HC0.out); rintro e w18 ⟨v214, rfl, ho0, hb⟩; refine ⟨_, rfl, ?_⟩; have n0_ := Aside0.mk (Kd.R_lower ho0 (below_size (by repeat ((with_reducible (exact HB.out)))))); have n1_ := Aside0.mk (below_step (by repeat ((with_reducible (exact HB.out)))) hb); clear HB; have HO215 := n0_; have HB := n1_; clear n0_ n1_; (try clear hb); (try clear hb2); (try clear hk); (try clear hi); (try clear ho0)))
    go_ret2
    exact ⟨by rfl, by repeat ((with_reducible (exact HB.out)))⟩
  subst c3
  have H1 : ((slices_Concat_int_int.f k (([t212, t212] : List (List Int)))).bind fun t219 => (impl_LongestSilence.l0 k 0 0 t219 (t219.length : Int) 0)) = some (r1, r2) := by rw [if_pos rfl] at H; exact H
  clear H
  have H := H1
  clear H1
  obtain ⟨y216, hy216⟩ : ∃ y_ : List (List Int), y_ = (([t212, t212] : List (List Int))) := ⟨_, rfl⟩
  replace H : ((slices_Concat_int_int.f k y216).bind fun t219 => (impl_LongestSilence.l0 k 0 0 t219 (t219.length : Int) 0)) = some (r1, r2) := by (rw [hy216]; with_reducible exact H)
  have Ny216 := Aside0.mk hy216
  clear hy216
  replace H := Option.bind_eq_some_iff.mp H
  obtain ⟨t219, A40, H⟩ := H
  replace H : (impl_LongestSilence.l0 k 0 0 t219 (t219.length : Int) 0) = some (r1, r2) := H
  have A4 := Aside0.mk A40
  clear A40
  have H' := Aside0.mk H
  clear H
  go_enter Tryz.func10, Tryz.ntmps10
  go_wp2_with (first | ((with_reducible refine gate_callee (f := 35) rfl ?_); refine goesL_ (some 12) rfl rfl Tryz.func35 (by kernel_rfl) rfl #[.slice A0 l0.length c0] rfl (by (try simp only [List.map_toArray, List.map_cons, List.map_nil]); rfl) ?_; (with_reducible refine (impl_traced.calls k _ _ l0 t212 true _ ?side1 ?side2 A2.out).mono ?_); (case side1 => repeat ((exact HR0.out))); (case side2 => exact HC0.out); rintro e w5 ⟨v214, rfl, ho0, hb⟩; refine ⟨_, rfl, ?_⟩; have n0_ := Aside0.mk (Kd.R_lower ho0 (below_size (by repeat ((with_reducible (exact HB.out)))))); have n1_ := Aside0.mk (below_step (by repeat ((with_reducible (exact HB.out)))) hb); clear HB; have HO215 := n0_; have HB := n1_; clear n0_ n1_; (try clear hb); (try clear hb2); (try clear hk); (try clear hi); (try clear ho0); obtain ⟨Ao6, co6, eo6⟩ := Kd.R_slice HO215.out; subst eo6) | ((with_reducible refine gate_dst (N := 19) rfl ?_); refine Kd.N_lit (Kd.slice 3 (Kd.int .i64)) _ 39 ?hg (N' := 19) ?hd (xs := ([t212, t212] : List (List Int))) (inner := [.slice Ao6 t212.length co6, .slice Ao6 t212.length co6]) (ok := (fun _ => True)) (okp := (fun _ => True)) ?hr ?hp (fun _ hk => hk) ((show ∀ k_, w5.heap.size ≤ k_ → (fun _ => True) k_ from fun k_ hk => trivial) _ (Nat.le_refl _)) (Below.refl _ _) (Nat.le_refl _) (by simp) ?_; (case hd => rfl); (case hg => rfl); (case hr => (go_simp; done)); (case hp => exact (Reps.one (show Kd.FK (Kd.slice 3 (Kd.int .i64)) _ _ t212 [.slice Ao6 t212.length co6] from (Kd.FK_slice_mk (Kd.R_reads' (Kd.R_mono (ok' := (fun _ => True)) (HO215.out) (fun k_ hk => trivial))).2.1 (Kd.R_F (Kd.R_mono (ok' := (fun _ => True)) (HO215.out) (fun k_ hk => trivial))))) (Reps.one (show Kd.FK (Kd.slice 3 (Kd.int .i64)) _ _ t212 [.slice Ao6 t212.length co6] from (Kd.FK_slice_mk (Kd.R_reads' (Kd.R_mono (ok' := (fun _ => True)) (HO215.out) (fun k_ hk => trivial))).2.1 (Kd.R_F (Kd.R_mono (ok' := (fun _ => True)) (HO215.out) (fun k_ hk => trivial))))) (Reps.none _ _)))); intro v217 w7 ho8 hb hg_ hnew_; clear hg_ hnew_; ((rw [← Ny216.out] at ho8)); have n0_ := Aside0.mk (Kd.N_lower ho8 (below_size (by repeat ((with_reducible (exact HB.out)))))); have n1_ := Aside0.mk (below_step (by repeat ((with_reducible (exact HB.out)))) hb); clear HB; clear HO215; have HO218 := n0_; have HB := n1_; clear n0_ n1_; clear hb ho8; obtain ⟨Ao9, co9, eo9⟩ := Kd.N_slice HO218.out; subst eo9) | ((with_reducible refine gate_callee (f := 40) rfl ?_); refine goesL_ (some 20) rfl rfl Tryz.func40 (by kernel_rfl) rfl #[.slice Ao9 y216.length co9] rfl (by (try simp only [List.map_toArray, List.map_cons, List.map_nil]); rfl) ?_; (with_reducible refine (slices_Concat_int_int.calls k _ _ y216 t219 _ ?side1 ?side2 A4.out).mono ?_); (case side1 => repeat ((exact (Kd.N_reads' HO218.out).2.2))); (case side2 => exact (Kd.N_reads' HO218.out).2.1); rintro e w10 ⟨v220, rfl, ho0, hb⟩; refine ⟨_, rfl, ?_⟩; have n0_ := Aside0.mk (Kd.N_elder' (by (with_reducible repeat (fail)); exact HO218.out) (Kd.R_base ho0) hb); have n1_ := Aside0.mk (Kd.R_lower ho0 (below_size (by repeat ((with_reducible (exact HB.out)))))); have n2_ := Aside0.mk (below_step (by repeat ((with_reducible (exact HB.out)))) hb); clear HO218; clear HB; have HO218 := n0_; have HO221 := n1_; have HB := n2_; clear n0_ n1_ n2_; (try clear hb); (try clear hb2); (try clear hk); (try clear hi); (try clear ho0); obtain ⟨Ao11, co11, eo11⟩ := Kd.R_slice HO221.out; subst eo11))
  go_loopg [6, 7, 22] k (fun kq v6 v7 v22 w' => ∃ (x6_1 : Int) (x7_1 : Int) (x22_1 : Int), v6 = .int .i64 x6_1 ∧ v7 = .int .i64 x7_1 ∧ v22 = .int .i64 x22_1 ∧ Aside0 (impl_LongestSilence.l0 kq x6_1 x7_1 t219 (t219.length : Int) x22_1 = some (r1, r2)) ∧ Aside0 (kq ≤ k) ∧ Aside0 (Kd.R (Kd.int .i64) 3 w' w.heap.size (fun _ => True) (.slice Ao11 t219.length co11) t219) ∧ Aside0 (Below w.heap.size w w'))
  case atStart => exact ⟨(0), (0), (0), (by rfl), (by rfl), (by rfl), H', ⟨Nat.le_refl _⟩, ⟨by (with_reducible repeat (fail)); exact HO221.out⟩, ⟨by repeat ((with_reducible (exact HB.out)))⟩⟩
  case round =>
    clear H'
    obtain ⟨x6_1, x7_1, x22_1, rfl, rfl, rfl, HA, HK1, HO_20, HB⟩ := hrel
    cases gk with
    | zero => exact absurd HA.out (by simp [impl_LongestSilence.l0])
    | succ k1 =>
      have H := HA.out
      clear HA
      simp only [impl_LongestSilence.l0] at H
      by_cases c12 : x22_1 < (t219.length : Int)
      rotate_left
      · rw [if_neg c12] at H
        have c12b0 : decide (x22_1 < (t219.length : Int)) = false := decide_eq_false c12
        clear c12
        simp only [Option.some.injEq, Prod.mk.injEq] at H
        obtain ⟨rfl, rfl⟩ := H
        go_wp2
        go_ret2
        exact ⟨by rfl, by repeat ((with_reducible (exact HB.out)))⟩
      rw [if_pos c12] at H
      have c12b0 : decide (x22_1 < (t219.length : Int)) = true := decide_eq_true c12
      clear c12
      by_cases c13 : 0 ≤ x22_1
      rotate_left
      · rw [if_neg c13] at H
        exact absurd H (by simp)
      rw [if_pos c13] at H
      have c13b0 : decide (0 ≤ x22_1) = true := decide_eq_true c13
      clear c13
      by_cases c14 : x22_1 < (t219.length : Int)
      rotate_left
      · rw [if_neg c14] at H
        exact absurd H (by simp)
      rw [if_pos c14] at H
      have c14b0 : decide (x22_1 < (t219.length : Int)) = true := decide_eq_true c14
      clear c14
      by_cases c15 : (rd t219 x22_1) > 0
      · rw [if_pos c15] at H
        have c15b0 : decide (0 < (rd t219 x22_1)) = true := decide_eq_true c15
        clear c15
        obtain ⟨ji16, hji16⟩ : ∃ j_ : Int, (mx x6_1 0) = j_ := ⟨_, rfl⟩
        replace H : (impl_LongestSilence.l0 k1 ji16 0 t219 (t219.length : Int) (wrap64 (x22_1 + 1))) = some (r1, r2) := by (rw [hji16] at H; exact H)
        have hji16_ : (if x6_1 < 0 then 0 else x6_1) = ji16 := hji16
        have H' := Aside0.mk H
        clear H
        have p222 : 0 ≤ (x22_1 : Int) := of_decide_eq_true (by (with_reducible assumption))
        have q222 : x22_1 < (t219.length : Int) := of_decide_eq_true (by (with_reducible assumption))
        obtain ⟨ad222, e222, hx222_0⟩ := Kd.at_int (Kd.R_reads' HO_20.out).2.2 x22_1 p222 q222
        cases e222
        replace p222 := eq_true p222
        replace q222 := eq_true q222
        go_wp2
        (go_roundg k1)
        case measure => have := HK1.out; omega
        case rel => exact ⟨(ji16), (0), (wrap64 (x22_1 + 1)), (by rfl), (by rfl), (by rfl), H', ⟨by have := HK1.out; omega⟩, ⟨by (with_reducible repeat (fail)); exact HO_20.out⟩, ⟨by repeat ((with_reducible (exact HB.out)))⟩⟩
      rw [if_neg c15] at H
      have c15b0 : decide (0 < (rd t219 x22_1)) = false := decide_eq_false c15
      clear c15
      obtain ⟨ji17, hji17⟩ : ∃ j_ : Int, (mx x6_1 (wrap64 (x7_1 + 1))) = j_ := ⟨_, rfl⟩
      replace H : (impl_LongestSilence.l0 k1 ji17 (wrap64 (x7_1 + 1)) t219 (t219.length : Int) (wrap64 (x22_1 + 1))) = some (r1, r2) := by (rw [hji17] at H; exact H)
      have hji17_ : (if x6_1 < (wrap64 (x7_1 + 1)) then (wrap64 (x7_1 + 1)) else x6_1) = ji17 := hji17
      have H' := Aside0.mk H
      clear H
      have p222 : 0 ≤ (x22_1 : Int) := of_decide_eq_true (by (with_reducible assumption))
      have q222 : x22_1 < (t219.length : Int) := of_decide_eq_true (by (with_reducible assumption))
      obtain ⟨ad222, e222, hx222_0⟩ := Kd.at_int (Kd.R_reads' HO_20.out).2.2 x22_1 p222 q222
      cases e222
      replace p222 := eq_true p222
      replace q222 := eq_true q222
      go_wp2
      (go_roundg k1)
      case measure => have := HK1.out; omega
      case rel => exact ⟨(ji17), (wrap64 (x7_1 + 1)), (wrap64 (x22_1 + 1)), (by rfl), (by rfl), (by rfl), H', ⟨by have := HK1.out; omega⟩, ⟨by (with_reducible repeat (fail)); exact HO_20.out⟩, ⟨by repeat ((with_reducible (exact HB.out)))⟩⟩

/-! ### spec_l1Most: function 41 -/
def spec_l1Most.f (a0 : Int) (a1 : Int) : Option (Int) := if a0 > a1 then (some a0) else (some a1)
set_option maxHeartbeats 8000000 in
set_option maxRecDepth 100000 in
theorem spec_l1Most.calls (a0 : Int) (a1 : Int) (r : Int) (w : World) (h : spec_l1Most.f a0 a1 = some r) :
    Calls Tryz.prog 41 #[.int .i64 a0, .int .i64 a1] w fun e w' => e = .returned (.int .i64 r) ∧ Drawn0 w w' := by
  have H : (if a0 > a1 then (some a0) else (some a1)) = some r := h
  clear h
  by_cases c3 : a0 > a1
  · rw [if_pos c3] at H
    have c3b0 : decide (a1 < a0) = true := decide_eq_true c3
    clear c3
    obtain rfl := Option.some.inj H
    go_enter Tryz.func41, Tryz.ntmps41
    go_wp2
    go_ret
    exact ⟨by rfl, by repeat ((exact Drawn0.refl _))⟩
  rw [if_neg c3] at H
  have c3b0 : decide (a1 < a0) = false := decide_eq_false c3
  clear c3
  obtain rfl := Option.some.inj H
  go_enter Tryz.func41, Tryz.ntmps41
  go_wp2
  go_ret
  exact ⟨by rfl, by repeat ((exact Drawn0.refl _))⟩

/-! ### spec_LongestSilence: function 11 -/
def spec_LongestSilence.l0 : Nat → List (S38) → Int → Int → Int → Option (Int × Bool)
  | 0, _, _, _, _ => none
  | k + 1, x0, x4, x5, x6 => (spec_spPeriod.f k x0).bind fun t224 => (if x6 < (wrap64 (2 * t224)) then ((spec_spAt.f k x0 x6).bind fun t225 => (if (t225.length : Int) > 0 then (spec_LongestSilence.l0 k x0 x4 0 (wrap64 (x6 + 1))) else ((spec_l1Most.f x4 (wrap64 (x5 + 1))).bind fun t228 => (spec_LongestSilence.l0 k x0 t228 (wrap64 (x5 + 1)) (wrap64 (x6 + 1)))))) else (some (x4, true)))
def spec_LongestSilence.f (k : Nat) (l0 : List (S38)) : Option (Int × Bool) := (spec_spShort.f k l0).bind fun t223 => (if t223 = true then (spec_LongestSilence.l0 k l0 0 0 0) else (some (0, false)))
set_option maxHeartbeats 8000000 in
set_option maxRecDepth 100000 in
theorem spec_LongestSilence.calls (k : Nat) (A0 : Option Addr) (c0 : Nat) (l0 : List (S38)) (r1 : Int) (r2 : Bool) (w : World) (hr0 : Kd.C k38 w A0 l0.length l0) (hc0 : l0.length ≤ c0) (h : spec_LongestSilence.f k l0 = some (r1, r2)) :
    Calls Tryz.prog 11 #[.slice A0 l0.length c0] w fun e w' => e = .returned (.tuple #[.int .i64 r1, .bool r2]) ∧ Below w.heap.size w w' := by
  have HR0 := Aside0.mk hr0
  have HC0 := Aside0.mk hc0
  clear hr0 hc0
  have HB := Aside0.mk (Below.refl w.heap.size w)
  have H : ((spec_spShort.f k l0).bind fun t223 => (if t223 = true then (spec_LongestSilence.l0 k l0 0 0 0) else (some (0, false)))) = some (r1, r2) := h
  clear h
  replace H := Option.bind_eq_some_iff.mp H
  obtain ⟨t223, A20, H⟩ := H
  replace H : (if t223 = true then (spec_LongestSilence.l0 k l0 0 0 0) else (some (0, false))) = some (r1, r2) := H
  have A2 := Aside0.mk A20
  clear A20
  by_cases c3 : t223 = true
  rotate_left
  · replace c3 := Bool.eq_false_iff.mpr c3
    subst c3
    have H1 : (some (0, false)) = some (r1, r2) := by rw [if_neg (show ¬ (false = true) by decide)] at H; exact H
    clear H
    have H := H1
    clear H1
    simp only [Option.some.injEq, Prod.mk.injEq] at H
    obtain ⟨rfl, rfl⟩ := H
    go_enter Tryz.func11, Tryz.ntmps11
    go_wp2_with (((with_reducible refine gate_callee (f := 38) rfl ?_); refine goesL_ (some 8) rfl rfl Tryz.func38 (by kernel_rfl) rfl #[.slice A0 l0.length c0] rfl (by (try simp only [List.map_toArray, List.map_cons, List.map_nil]); rfl) ?_; (with_reducible refine (spec_spShort.calls k _ _ l0 false _ ?side1 ?side2 A2.out).mono ?_); (case side1 => repeat ((exact HR0.out))); (case side2 => exact HC0.out); rintro e w17 ⟨rfl, hb⟩; refine ⟨_, rfl, ?_⟩; have n0_ := Aside0.mk (below_step (by repeat ((with_reducible (exact HB.out)))) hb); clear HB; have HB := n0_; clear n0_; (try clear hb); (try clear hb2); (try clear hk); (try clear hi)))
    go_ret2
    exact ⟨by rfl, by repeat ((with_reducible (exact HB.out)))⟩
  subst c3
  have H1 : (spec_LongestSilence.l0 k l0 0 0 0) = some (r1, r2) := by rw [if_pos rfl] at H; exact H
  clear H
  have H := H1
  clear H1
  have H' := Aside0.mk H
  clear H
  go_enter Tryz.func11, Tryz.ntmps11
  go_wp2_with (((with_reducible refine gate_callee (f := 38) rfl ?_); refine goesL_ (some 8) rfl rfl Tryz.func38 (by kernel_rfl) rfl #[.slice A0 l0.length c0] rfl (by (try simp only [List.map_toArray, List.map_cons, List.map_nil]); rfl) ?_; (with_reducible refine (spec_spShort.calls k _ _ l0 true _ ?side1 ?side2 A2.out).mono ?_); (case side1 => repeat ((exact HR0.out))); (case side2 => exact HC0.out); rintro e w4 ⟨rfl, hb⟩; refine ⟨_, rfl, ?_⟩; have n0_ := Aside0.mk (below_step (by repeat ((with_reducible (exact HB.out)))) hb); clear HB; have HB := n0_; clear n0_; (try clear hb); (try clear hb2); (try clear hk); (try clear hi)))
  go_loopg [4, 5, 6] k (fun kq v4 v5 v6 w' => ∃ (x4_1 : Int) (x5_1 : Int) (x6_1 : Int), v4 = .int .i64 x4_1 ∧ v5 = .int .i64 x5_1 ∧ v6 = .int .i64 x6_1 ∧ Aside0 (spec_LongestSilence.l0 kq l0 x4_1 x5_1 x6_1 = some (r1, r2)) ∧ Aside0 (kq ≤ k) ∧ Aside0 (Below w.heap.size w w'))
  case atStart => exact ⟨(0), (0), (0), (by rfl), (by rfl), (by rfl), H', ⟨Nat.le_refl _⟩, ⟨by repeat ((with_reducible (exact HB.out)))⟩⟩
  case round =>
    clear H'
    obtain ⟨x4_1, x5_1, x6_1, rfl, rfl, rfl, HA, HK1, HB⟩ := hrel
    cases gk with
    | zero => exact absurd HA.out (by simp [spec_LongestSilence.l0])
    | succ k1 =>
      have H := HA.out
      clear HA
      simp only [spec_LongestSilence.l0] at H
      replace H := Option.bind_eq_some_iff.mp H
      obtain ⟨t224, A50, H⟩ := H
      replace H : (if x6_1 < (wrap64 (2 * t224)) then ((spec_spAt.f k1 l0 x6_1).bind fun t225 => (if (t225.length : Int) > 0 then (spec_LongestSilence.l0 k1 l0 x4_1 0 (wrap64 (x6_1 + 1))) else ((spec_l1Most.f x4_1 (wrap64 (x5_1 + 1))).bind fun t228 => (spec_LongestSilence.l0 k1 l0 t228 (wrap64 (x5_1 + 1)) (wrap64 (x6_1 + 1)))))) else (some (x4_1, true))) = some (r1, r2) := H
      have A5 := Aside0.mk A50
      clear A50
      by_cases c6 : x6_1 < (wrap64 (2 * t224))
      rotate_left
      · rw [if_neg c6] at H
        have c6b0 : decide (x6_1 < (wrap64 (2 * t224))) = false := decide_eq_false c6
        clear c6
        simp only [Option.some.injEq, Prod.mk.injEq] at H
        obtain ⟨rfl, rfl⟩ := H
        go_wp2_with (((with_reducible refine gate_callee (f := 34) rfl ?_); refine goesL_ (some 12) rfl rfl Tryz.func34 (by kernel_rfl) rfl #[.slice A0 l0.length c0] rfl (by (try simp only [List.map_toArray, List.map_cons, List.map_nil]); rfl) ?_; (with_reducible refine (spec_spPeriod.calls k1 _ _ l0 t224 _ ?side1 ?side2 A5.out).mono ?_); (case side1 => repeat ((exact (Kd.C_below HR0.out HB.out)))); (case side2 => exact HC0.out); rintro e w16 ⟨rfl, hb⟩; refine ⟨_, rfl, ?_⟩; have n0_ := Aside0.mk (below_step (by repeat ((with_reducible (exact HB.out)))) hb); clear HB; have HB := n0_; clear n0_; (try clear hb); (try clear hb2); (try clear hk); (try clear hi)))
        go_ret2
        exact ⟨by rfl, by repeat ((with_reducible (exact HB.out)))⟩
      rw [if_pos c6] at H
      have c6b0 : decide (x6_1 < (wrap64 (2 * t224))) = true := decide_eq_true c6
      clear c6
      replace H := Option.bind_eq_some_iff.mp H
      obtain ⟨t225, A70, H⟩ := H
      replace H : (if (t225.length : Int) > 0 then (spec_LongestSilence.l0 k1 l0 x4_1 0 (wrap64 (x6_1 + 1))) else ((spec_l1Most.f x4_1 (wrap64 (x5_1 + 1))).bind fun t228 => (spec_LongestSilence.l0 k1 l0 t228 (wrap64 (x5_1 + 1)) (wrap64 (x6_1 + 1))))) = some (r1, r2) := H
      have A7 := Aside0.mk A70
      clear A70
      by_cases c8 : (t225.length : Int) > 0
      · rw [if_pos c8] at H
        have c8b0 : decide (0 < (t225.length : Int)) = true := decide_eq_true c8
        have c8b1 : decide (0 < t225.length) = true := decide_eq_true (by omega)
        clear c8
        have H' := Aside0.mk H
        clear H
        go_wp2_with (first | ((with_reducible refine gate_callee (f := 34) rfl ?_); refine goesL_ (some 12) rfl rfl Tryz.func34 (by kernel_rfl) rfl #[.slice A0 l0.length c0] rfl (by (try simp only [List.map_toArray, List.map_cons, List.map_nil]); rfl) ?_; (with_reducible refine (spec_spPeriod.calls k1 _ _ l0 t224 _ ?side1 ?side2 A5.out).mono ?_); (case side1 => repeat ((exact (Kd.C_below HR0.out HB.out)))); (case side2 => exact HC0.out); rintro e w9 ⟨rfl, hb⟩; refine ⟨_, rfl, ?_⟩; have n0_ := Aside0.mk (below_step (by repeat ((with_reducible (exact HB.out)))) hb); clear HB; have HB := n0_; clear n0_; (try clear hb); (try clear hb2); (try clear hk); (try clear hi)) | ((with_reducible refine gate_callee (f := 39) rfl ?_); refine goesL_ (some 19) rfl rfl Tryz.func39 (by kernel_rfl) rfl #[.slice A0 l0.length c0, .int .i64 x6_1] rfl (by (try simp only [List.map_toArray, List.map_cons, List.map_nil]); rfl) ?_; (with_reducible refine (spec_spAt.calls k1 _ _ l0 x6_1 t225 _ ?side1 ?side2 A7.out).mono ?_); (case side1 => repeat ((exact (Kd.C_below HR0.out HB.out)))); (case side2 => exact HC0.out); rintro e w10 ⟨v226, rfl, ho0, hb⟩; refine ⟨_, rfl, ?_⟩; have n0_ := Aside0.mk (Kd.R_lower ho0 (below_size (by repeat ((with_reducible (exact HB.out)))))); have n1_ := Aside0.mk (below_step (by repeat ((with_reducible (exact HB.out)))) hb); clear HB; have HO227 := n0_; have HB := n1_; clear n0_ n1_; (try clear hb); (try clear hb2); (try clear hk); (try clear hi); (try clear ho0); obtain ⟨Ao11, co11, eo11⟩ := Kd.R_slice HO227.out; subst eo11))
        (go_roundg k1)
        case measure => have := HK1.out; omega
        case rel => exact ⟨(x4_1), (0), (wrap64 (x6_1 + 1)), (by rfl), (by rfl), (by rfl), H', ⟨by have := HK1.out; omega⟩, ⟨by repeat ((with_reducible (exact HB.out)))⟩⟩
      rw [if_neg c8] at H
      have c8b0 : decide (0 < (t225.length : Int)) = false := decide_eq_false c8
      have c8b1 : decide (0 < t225.length) = false := decide_eq_false (by omega)
      clear c8
      replace H := Option.bind_eq_some_iff.mp H
      obtain ⟨t228, A120, H⟩ := H
      replace H : (spec_LongestSilence.l0 k1 l0 t228 (wrap64 (x5_1 + 1)) (wrap64 (x6_1 + 1))) = some (r1, r2) := H
      have A12 := Aside0.mk A120
      clear A120
      have H' := Aside0.mk H
      clear H
      go_wp2_with (first | ((with_reducible refine gate_callee (f := 34) rfl ?_); refine goesL_ (some 12) rfl rfl Tryz.func34 (by kernel_rfl) rfl #[.slice A0 l0.length c0] rfl (by (try simp only [List.map_toArray, List.map_cons, List.map_nil]); rfl) ?_; (with_reducible refine (spec_spPeriod.calls k1 _ _ l0 t224 _ ?side1 ?side2 A5.out).mono ?_); (case side1 => repeat ((exact (Kd.C_below HR0.out HB.out)))); (case side2 => exact HC0.out); rintro e w13 ⟨rfl, hb⟩; refine ⟨_, rfl, ?_⟩; have n0_ := Aside0.mk (below_step (by repeat ((with_reducible (exact HB.out)))) hb); clear HB; have HB := n0_; clear n0_; (try clear hb); (try clear hb2); (try clear hk); (try clear hi)) | ((with_reducible refine gate_callee (f := 39) rfl ?_); refine goesL_ (some 19) rfl rfl Tryz.func39 (by kernel_rfl) rfl #[.slice A0 l0.length c0, .int .i64 x6_1] rfl (by (try simp only [List.map_toArray, List.map_cons, List.map_nil]); rfl) ?_; (with_reducible refine (spec_spAt.calls k1 _ _ l0 x6_1 t225 _ ?side1 ?side2 A7.out).mono ?_); (case side1 => repeat ((exact (Kd.C_below HR0.out HB.out)))); (case side2 => exact HC0.out); rintro e w14 ⟨v226, rfl, ho0, hb⟩; refine ⟨_, rfl, ?_⟩; have n0_ := Aside0.mk (Kd.R_lower ho0 (below_size (by repeat ((with_reducible (exact HB.out)))))); have n1_ := Aside0.mk (below_step (by repeat ((with_reducible (exact HB.out)))) hb); clear HB; have HO227 := n0_; have HB := n1_; clear n0_ n1_; (try clear hb); (try clear hb2); (try clear hk); (try clear hi); (try clear ho0); obtain ⟨Ao15, co15, eo15⟩ := Kd.R_slice HO227.out; subst eo15) | ((with_reducible refine gate_callee (f := 41) rfl ?_); refine goesL_ (some 26) rfl rfl Tryz.func41 (by kernel_rfl) rfl #[.int .i64 x4_1, .int .i64 (wrap64 (x5_1 + 1))] rfl (by (try simp only [List.map_toArray, List.map_cons, List.map_nil]); rfl) ?_; (with_reducible refine (spec_l1Most.calls x4_1 (wrap64 (x5_1 + 1)) t228 _ A12.out).mono ?_); rintro e w' ⟨rfl, ⟨nd, rfl⟩⟩; refine ⟨_, rfl, ?_⟩))
      (go_roundg k1)
      case measure => have := HK1.out; omega
      case rel => exact ⟨(t228), (wrap64 (x5_1 + 1)), (wrap64 (x6_1 + 1)), (by rfl), (by rfl), (by rfl), H', ⟨by have := HK1.out; omega⟩, ⟨by repeat ((with_reducible first | exact HB.out | apply pw_below_drewN))⟩⟩

/-! ### impl_NeverTogether: function 12 -/
mutual
def impl_NeverTogether.l0 : Nat → List (S38) → List (List Int) → List (S38) → Int → Int → Option ((List (List Int)) × Bool)
  | 0, _, _, _, _, _ => none
  | k + 1, x0, x4, x12, x13, x14 => if x14 < x13 then (if 0 ≤ x14 then (if x14 < (x12.length : Int) then (impl_NeverTogether.l1 k x0 x4 x14 (wrap64 (x14 + 1)) x12 x13 x14 ((rd_T38 x12 x14).f0) ((rd_T38 x12 x14).f1)) else (none)) else (none)) else (some (x4, true))
def impl_NeverTogether.l1 : Nat → List (S38) → List (List Int) → Int → Int → List (S38) → Int → Int → Int → Int → Option ((List (List Int)) × Bool)
  | 0, _, _, _, _, _, _, _, _, _ => none
  | k + 1, x0, x4, x5, x7, x12, x13, x14, x235000, x235001 => if x7 < (x0.length : Int) then (if 0 ≤ x7 then ((impl_gcd.f k x235000 ((rd_T38 x0 x7).f0)).bind fun t237 => (if t237 = 0 then (none) else (if (Int.tmod (wrap64 (x235001 - ((rd_T38 x0 x7).f1))) t237) = 0 then (impl_NeverTogether.l1 k x0 x4 x5 (wrap64 (x7 + 1)) x12 x13 x14 x235000 x235001) else (if x4.length < 5864062014805 then (impl_NeverTogether.l1 k x0 (x4 ++ [(([x5, x7] : List Int))]) x5 (wrap64 (x7 + 1)) x12 x13 x14 x235000 x235001) else (none))))) else (none)) else (impl_NeverTogether.l0 k x0 x4 x12 x13 (wrap64 (x14 + 1)))
end
def impl_NeverTogether.f (k : Nat) (l0 : List (S38)) : Option ((List (List Int)) × Bool) := (impl_arePaces.f k l0).bind fun t229 => (if t229 = true then (impl_NeverTogether.l0 k l0 (([] : List (List Int))) l0 (l0.length : Int) 0) else (some (([] : List (List Int)), false)))
set_option maxHeartbeats 8000000 in
set_option maxRecDepth 100000 in
theorem impl_NeverTogether.calls (k : Nat) (A0 : Option Addr) (c0 : Nat) (l0 : List (S38)) (r1 : List (List Int)) (r2 : Bool) (w : World) (hr0 : Kd.C k38 w A0 l0.length l0) (hc0 : l0.length ≤ c0) (h : impl_NeverTogether.f k l0 = some (r1, r2)) :
    Calls Tryz.prog 12 #[.slice A0 l0.length c0] w fun e w' => ∃ v0_ : Value, e = .returned (.tuple #[v0_, .bool r2]) ∧ Kd.S (Kd.slice 3 (Kd.int .i64)) 39 w' w.heap.size (fun _ => True) v0_ r1 ∧ Below w.heap.size w w' := by
  have hu38 := Tryz.underlying38
  have HR0 := Aside0.mk hr0
  have HC0 := Aside0.mk hc0
  clear hr0 hc0
  have HB := Aside0.mk (Below.refl w.heap.size w)
  have H : ((impl_arePaces.f k l0).bind fun t229 => (if t229 = true then (impl_NeverTogether.l0 k l0 (([] : List (List Int))) l0 (l0.length : Int) 0) else (some (([] : List (List Int)), false)))) = some (r1, r2) := h
  clear h
  replace H := Option.bind_eq_some_iff.mp H
  obtain ⟨t229, A20, H⟩ := H
  replace H : (if t229 = true then (impl_NeverTogether.l0 k l0 (([] : List (List Int))) l0 (l0.length : Int) 0) else (some (([] : List (List Int)), false))) = some (r1, r2) := H
  have A2 := Aside0.mk A20
  clear A20
  by_cases c3 : t229 = true
  rotate_left
  · replace c3 := Bool.eq_false_iff.mpr c3
    subst c3
    have H1 : (some (([] : List (List Int)), false)) = some (r1, r2) := by rw [if_neg (show ¬ (false = true) by decide)] at H; exact H
    clear H
    have H := H1
    clear H1
    simp only [Option.some.injEq, Prod.mk.injEq] at H
    obtain ⟨rfl, rfl⟩ := H
    go_enter Tryz.func12, Tryz.ntmps12
    go_wp2_with ((go_at_call 29; (with_reducible refine (impl_arePaces.calls k _ _ l0 false _ ?side1 ?side2 A2.out).mono ?_); (case side1 => repeat ((exact HR0.out))); (case side2 => exact HC0.out); rintro e w24 ⟨rfl, hb⟩; have n0_ := Aside0.mk (below_step (by repeat ((with_reducible (exact HB.out)))) hb); clear HB; have HB := n0_; clear n0_; (try clear hb); (try clear hb2); (try clear hk); (try clear hi)))
    repeat (go_quiet (fail); try go_wp2_with (fail))
    go_ret2
    exact ⟨_, by rfl, by (exact Kd.S_nil _ _ _ _ _), by repeat ((with_reducible (exact HB.out)))⟩
  subst c3
  have H1 : (impl_NeverTogether.l0 k l0 (([] : List (List Int))) l0 (l0.length : Int) 0) = some (r1, r2) := by rw [if_pos rfl] at H; exact H
  clear H
  have H := H1
  clear H1
  obtain ⟨y230, hy230⟩ : ∃ y_ : List (List Int), y_ = (([] : List (List Int))) := ⟨_, rfl⟩
  replace H : (impl_NeverTogether.l0 k l0 y230 l0 (l0.length : Int) 0) = some (r1, r2) := by (rw [hy230]; with_reducible exact H)
  have Ny230 := Aside0.mk hy230
  clear hy230
  have H' := Aside0.mk H
  clear H
  go_enter Tryz.func12, Tryz.ntmps12
  go_wp2_with (first | (go_at_call 29; (with_reducible refine (impl_arePaces.calls k _ _ l0 true _ ?side1 ?side2 A2.out).mono ?_); (case side1 => repeat ((exact HR0.out))); (case side2 => exact HC0.out); rintro e w4 ⟨rfl, hb⟩; have n0_ := Aside0.mk (below_step (by repeat ((with_reducible (exact HB.out)))) hb); clear HB; have HB := n0_; clear n0_; (try clear hb); (try clear hb2); (try clear hk); (try clear hi)) | ((with_reducible refine gate_dst (N := 11) rfl ?_); refine Kd.S_lit (Kd.slice 3 (Kd.int .i64)) _ 39 ?hg (N := 11) ?hd (xs := ([] : List (List Int))) (inner := []) (ok := fun _ => True) (okp := fun _ => True) ?hr ?hp (fun _ hk => hk) trivial (Below.refl _ _) (Nat.le_refl _) (by simp) ?_; (case hd => rfl); (case hg => rfl); (case hr => (go_simp; done)); (case hp => exact (Reps.none _ _)); intro v231 w5 ho6 hb hg_ hnew_; clear hg_ hnew_; ((rw [← Ny230.out] at ho6)); have n0_ := Aside0.mk (Kd.S_lower ho6 (below_size (by repeat ((with_reducible (exact HB.out)))))); have n1_ := Aside0.mk (below_step (by repeat ((with_reducible (exact HB.out)))) hb); clear HB; have HO232 := n0_; have HB := n1_; clear n0_ n1_; clear hb ho6))
  repeat (go_quiet (fail); try go_wp2_with (fail))
  go_loopg [4, 14] k (fun kq v4 v14 w' => ∃ (x4_1 : List (List Int)) (x14_1 : Int), v14 = .int .i64 x14_1 ∧ Aside0 (impl_NeverTogether.l0 kq l0 x4_1 l0 (l0.length : Int) x14_1 = some (r1, r2)) ∧ Aside0 (kq ≤ k) ∧ Aside0 (Kd.S (Kd.slice 3 (Kd.int .i64)) 39 w' w.heap.size (fun _ => True) v4 x4_1) ∧ Aside0 (Below w.heap.size w w'))
  case atStart => exact ⟨(y230), (0), (by rfl), H', ⟨Nat.le_refl _⟩, ⟨by (with_reducible repeat (fail)); exact HO232.out⟩, ⟨by repeat ((with_reducible (exact HB.out)))⟩⟩
  case round =>
    clear H'
    obtain ⟨x4_1, x14_1, rfl, HA, HK1, HO_4, HB⟩ := hrel
    cases gk with
    | zero => exact absurd HA.out (by simp [impl_NeverTogether.l0])
    | succ k1 =>
      have H := HA.out
      clear HA
      simp only [impl_NeverTogether.l0] at H
      by_cases c7 : x14_1 < (l0.length : Int)
      rotate_left
      · rw [if_neg c7] at H
        have c7b0 : decide (x14_1 < (l0.length : Int)) = false := decide_eq_false c7
        clear c7
        simp only [Option.some.injEq, Prod.mk.injEq] at H
        obtain ⟨rfl, rfl⟩ := H
        go_wp2
        repeat (go_quiet (fail); try go_wp2)
        go_ret2
        exact ⟨_, by rfl, by (with_reducible repeat (fail)); exact HO_4.out, by repeat ((with_reducible (exact HB.out)))⟩
      rw [if_pos c7] at H
      have c7b0 : decide (x14_1 < (l0.length : Int)) = true := decide_eq_true c7
      clear c7
      by_cases c8 : 0 ≤ x14_1
      rotate_left
      · rw [if_neg c8] at H
        exact absurd H (by simp)
      rw [if_pos c8] at H
      have c8b0 : decide (0 ≤ x14_1) = true := decide_eq_true c8
      clear c8
      by_cases c9 : x14_1 < (l0.length : Int)
      rotate_left
      · rw [if_neg c9] at H
        exact absurd H (by simp)
      rw [if_pos c9] at H
      have c9b0 : decide (x14_1 < (l0.length : Int)) = true := decide_eq_true c9
      clear c9
      have H' := Aside0.mk H
      clear H
      have p233 : 0 ≤ (x14_1 : Int) := of_decide_eq_true (by (with_reducible assumption))
      have q233 : x14_1 < (l0.length : Int) := of_decide_eq_true (by (with_reducible assumption))
      obtain ⟨ad233, e233, hx233_0, hx233_1⟩ := at_T38 HR0.out x14_1 p233 q233
      cases e233
      replace hx233_0 := (HB.out.cell (World.block_lt_of_cell? w _ hx233_0)).trans hx233_0
      replace hx233_1 := (HB.out.cell (World.block_lt_of_cell? w _ hx233_1)).trans hx233_1
      replace p233 := eq_true p233
      replace q233 := eq_true q233
      go_wp2_with (((with_reducible refine gate_dst (N := 6) rfl ?_); refine box_event ?hg (N := 6) ?hd (cs := #[.int .i64 0, .int .i64 0]) (t := 38) ?hr ?_; (case hd => rfl); (case hg => rfl); (case hr => (go_simp; done)); intro gb234 hg w10 hbox hb; have n0_ := Aside0.mk (Kd.S_below (by (with_reducible repeat (fail)); exact HO_4.out) hb); have n1_ := Aside0.mk (below_step (by repeat ((with_reducible (exact HB.out)))) hb); have n2_ := Aside0.mk (hbox); have n3_ := Aside0.mk ((by rw [hg]; exact (below_size (by repeat ((with_reducible (exact HB.out))))) : w.heap.size ≤ gb234)); have n4_ := Aside0.mk ((by rw [hg]; exact (below_size (by repeat ((with_reducible (exact HB.out))))) : w.heap.size ≤ gb234)); clear HO_4; clear HB; have HO_4 := n0_; have HB := n1_; have BK234 := n2_; have GW234 := n3_; have GE234 := n4_; clear n0_ n1_ n2_ n3_ n4_; clear hb hbox hg; have hcz11_0 : w10.cell? ⟨gb234, 0, none⟩ = some (.int .i64 0) := (blk_cell BK234.out 0).trans rfl; have hcz11_1 : w10.cell? ⟨gb234, 1, none⟩ = some (.int .i64 0) := (blk_cell BK234.out 1).trans rfl; have hfz11_0 := blk_frozen BK234.out 0; have hfz11_1 := blk_frozen BK234.out 1))
      repeat (go_quiet (fail); try go_wp2_with (fail))
      go_loopg [4, 7] k1 (fun kq v4 v7 w' => ∃ (x4_2 : List (List Int)) (x7_2 : Int), v7 = .int .i64 x7_2 ∧ Aside0 (impl_NeverTogether.l1 kq l0 x4_2 x14_1 x7_2 l0 (l0.length : Int) x14_1 ((rd_T38 l0 x14_1).f0) ((rd_T38 l0 x14_1).f1) = some (r1, r2)) ∧ Aside0 (kq ≤ k1) ∧ Aside0 (Kd.S (Kd.slice 3 (Kd.int .i64)) 39 w' w.heap.size (fun _ => True) v4 x4_2) ∧ Aside0 (w'.heap[gb234]? = some (.cells #[.int .i64 ((rd_T38 l0 x14_1).f0), .int .i64 ((rd_T38 l0 x14_1).f1)] 38 (0, 0))) ∧ Aside0 (Below w.heap.size w w'))
      case atStart => exact ⟨(x4_1), (wrap64 (x14_1 + 1)), (by rfl), H', ⟨Nat.le_refl _⟩, ⟨by (with_reducible repeat (fail)); exact Kd.S_mono (Kd.S_far (p := ⟨gb234, 1, none⟩) (Kd.S_far (p := ⟨gb234, 0, none⟩) (Kd.S_types HO_4.out BK234.out (by decide)) (fun _ hk => hk.2) (.int .i64 ((rd_T38 l0 x14_1).f0))) (fun _ hk => hk.2) (.int .i64 ((rd_T38 l0 x14_1).f1))) (fun _ hk => trivial)⟩, ⟨by (with_reducible repeat (fail)); refine blk_put (cs := #[.int .i64 ((rd_T38 l0 x14_1).f0), .int .i64 0]) ?_ 1 _ rfl; (with_reducible repeat (fail)); refine blk_put (cs := #[.int .i64 0, .int .i64 0]) ?_ 0 _ rfl; (with_reducible repeat (fail)); exact BK234.out⟩, ⟨by repeat ((with_reducible first | exact HB.out | refine below_set ?_ GE234.out))⟩⟩
      case round =>
        clear H' c7b0 c8b0 c9b0 hcz11_0 hcz11_1 hfz11_0 hfz11_1 hx233_0 hx233_1 p233 q233
        obtain ⟨x4_2, x7_2, rfl, HA, HK2, HO_4, BK234, HB⟩ := hrel
        cases gk with
        | zero => exact absurd HA.out (by simp [impl_NeverTogether.l1])
        | succ k2 =>
          have H := HA.out
          clear HA
          simp only [impl_NeverTogether.l1] at H
          by_cases c12 : x7_2 < (l0.length : Int)
          rotate_left
          · rw [if_neg c12] at H
            have c12b0 : decide (x7_2 < (l0.length : Int)) = false := decide_eq_false c12
            clear c12
            have H' := Aside0.mk H
            clear H
            go_wp2
            repeat (go_quiet (fail); try go_wp2)
            (go_roundg k2)
            case measure => have := HK1.out; have := HK2.out; omega
            case rel => exact ⟨(x4_2), (wrap64 (x14_1 + 1)), (by rfl), H', ⟨by have := HK1.out; have := HK2.out; omega⟩, ⟨by (with_reducible repeat (fail)); exact HO_4.out⟩, ⟨by repeat ((with_reducible (exact HB.out)))⟩⟩
          rw [if_pos c12] at H
          have c12b0 : decide (x7_2 < (l0.length : Int)) = true := decide_eq_true c12
          clear c12
          by_cases c13 : 0 ≤ x7_2
          rotate_left
          · rw [if_neg c13] at H
            exact absurd H (by simp)
          rw [if_pos c13] at H
          have c13b0 : decide (0 ≤ x7_2) = true := decide_eq_true c13
          clear c13
          replace H := Option.bind_eq_some_iff.mp H
          obtain ⟨t237, A140, H⟩ := H
          replace H : (if t237 = 0 then (none) else (if (Int.tmod (wrap64 (((rd_T38 l0 x14_1).f1) - ((rd_T38 l0 x7_2).f1))) t237) = 0 then (impl_NeverTogether.l1 k2 l0 x4_2 x14_1 (wrap64 (x7_2 + 1)) l0 (l0.length : Int) x14_1 ((rd_T38 l0 x14_1).f0) ((rd_T38 l0 x14_1).f1)) else (if x4_2.length < 5864062014805 then (impl_NeverTogether.l1 k2 l0 (x4_2 ++ [(([x14_1, x7_2] : List Int))]) x14_1 (wrap64 (x7_2 + 1)) l0 (l0.length : Int) x14_1 ((rd_T38 l0 x14_1).f0) ((rd_T38 l0 x14_1).f1)) else (none)))) = some (r1, r2) := H
          have A14 := Aside0.mk A140
          clear A140
          by_cases c15 : t237 = 0
          · rw [if_pos c15] at H
            exact absurd H (by simp)
          rw [if_neg c15] at H
          have c15b0 : (t237 == 0) = false := beq_eq_false_iff_ne.mpr c15
          have c15b1 : (t237 != 0) = true := bne_iff_ne.mpr c15
          by_cases c16 : (Int.tmod (wrap64 (((rd_T38 l0 x14_1).f1) - ((rd_T38 l0 x7_2).f1))) t237) = 0
          · rw [if_pos c16] at H
            have c16b0 : ((Int.tmod (wrap64 (((rd_T38 l0 x14_1).f1) - ((rd_T38 l0 x7_2).f1))) t237) == 0) = true := beq_iff_eq.mpr c16
            have c16b1 : ((Int.tmod (wrap64 (((rd_T38 l0 x14_1).f1) - ((rd_T38 l0 x7_2).f1))) t237) != 0) = false := bne_eq_false_iff_eq.mpr c16
            clear c16
            have H' := Aside0.mk H
            clear H
            have hcz17_0 : wr.cell? ⟨gb234, 0, none⟩ = some (.int .i64 ((rd_T38 l0 x14_1).f0)) := (blk_cell BK234.out 0).trans rfl
            have hcz17_1 : wr.cell? ⟨gb234, 1, none⟩ = some (.int .i64 ((rd_T38 l0 x14_1).f1)) := (blk_cell BK234.out 1).trans rfl
            have hfz17_0 := blk_frozen BK234.out 0
            have hfz17_1 := blk_frozen BK234.out 1
            have p235 : 0 ≤ (x7_2 : Int) := of_decide_eq_true (by (with_reducible assumption))
            have q235 : x7_2 < (l0.length : Int) := of_decide_eq_true (by (with_reducible assumption))
            obtain ⟨ad235, e235, hx235_0, hx235_1⟩ := at_T38 HR0.out x7_2 p235 q235
            obtain rfl : ad233 = ad235 := (by injection e235)
            replace hx235_0 := (HB.out.cell (World.block_lt_of_cell? w _ hx235_0)).trans hx235_0
            replace hx235_1 := (HB.out.cell (World.block_lt_of_cell? w _ hx235_1)).trans hx235_1
            replace p235 := eq_true p235
            replace q235 := eq_true q235
            have p236 : 0 ≤ (x7_2 : Int) := of_decide_eq_true (by (with_reducible assumption))
            have q236 : x7_2 < (l0.length : Int) := of_decide_eq_true (by (with_reducible assumption))
            obtain ⟨ad236, e236, hx236_0, hx236_1⟩ := at_T38 HR0.out x7_2 p236 q236
            obtain rfl : ad233 = ad236 := (by injection e236)
            replace hx236_0 := (HB.out.cell (World.block_lt_of_cell? w _ hx236_0)).trans hx236_0
            replace hx236_1 := (HB.out.cell (World.block_lt_of_cell? w _ hx236_1)).trans hx236_1
            replace p236 := eq_true p236
            replace q236 := eq_true q236
            go_wp2_with (fail)
            repeat (go_quiet ((go_at_call 42; (with_reducible refine (impl_gcd.calls k2 ((rd_T38 l0 x14_1).f0) ((rd_T38 l0 x7_2).f0) t237 _ A14.out).mono ?_); rintro e w' ⟨rfl, ⟨nd, rfl⟩⟩; (try (exact ⟨rfl, _, World.drewN_drewN _ _ _⟩)))); try go_wp2_with (fail))
            (go_roundg k2)
            case measure => have := HK1.out; have := HK2.out; omega
            case rel => exact ⟨(x4_2), (wrap64 (x7_2 + 1)), (by rfl), H', ⟨by have := HK1.out; have := HK2.out; omega⟩, ⟨by (with_reducible repeat ((apply Kd.S_drewN))); exact HO_4.out⟩, ⟨by (with_reducible repeat ((refine blk_drewN ?_ _))); exact BK234.out⟩, ⟨by repeat ((with_reducible first | exact HB.out | apply pw_below_drewN))⟩⟩
          rw [if_neg c16] at H
          have c16b0 : ((Int.tmod (wrap64 (((rd_T38 l0 x14_1).f1) - ((rd_T38 l0 x7_2).f1))) t237) == 0) = false := beq_eq_false_iff_ne.mpr c16
          have c16b1 : ((Int.tmod (wrap64 (((rd_T38 l0 x14_1).f1) - ((rd_T38 l0 x7_2).f1))) t237) != 0) = true := bne_iff_ne.mpr c16
          obtain ⟨y238, hy238⟩ : ∃ y_ : List Int, y_ = (([x14_1, x7_2] : List Int)) := ⟨_, rfl⟩
          replace H : (if x4_2.length < 5864062014805 then (impl_NeverTogether.l1 k2 l0 (x4_2 ++ [y238]) x14_1 (wrap64 (x7_2 + 1)) l0 (l0.length : Int) x14_1 ((rd_T38 l0 x14_1).f0) ((rd_T38 l0 x14_1).f1)) else (none)) = some (r1, r2) := by (rw [hy238]; with_reducible exact H)
          have Ny238 := Aside0.mk hy238
          clear hy238
          by_cases c18 : x4_2.length < 5864062014805
          rotate_left
          · rw [if_neg c18] at H
            exact absurd H (by simp)
          rw [if_pos c18] at H
          have LMc18 := Aside0.mk c18
          clear c18
          obtain ⟨y241, hy241⟩ : ∃ y_ : List (List Int), y_ = (x4_2 ++ [y238]) := ⟨_, rfl⟩
          replace H : (impl_NeverTogether.l1 k2 l0 y241 x14_1 (wrap64 (x7_2 + 1)) l0 (l0.length : Int) x14_1 ((rd_T38 l0 x14_1).f0) ((rd_T38 l0 x14_1).f1)) = some (r1, r2) := by (rw [hy241]; with_reducible exact H)
          have Ny241 := Aside0.mk hy241
          clear hy241
          have H' := Aside0.mk H
          clear H
          have hcz19_0 : wr.cell? ⟨gb234, 0, none⟩ = some (.int .i64 ((rd_T38 l0 x14_1).f0)) := (blk_cell BK234.out 0).trans rfl
          have hcz19_1 : wr.cell? ⟨gb234, 1, none⟩ = some (.int .i64 ((rd_T38 l0 x14_1).f1)) := (blk_cell BK234.out 1).trans rfl
          have hfz19_0 := blk_frozen BK234.out 0
          have hfz19_1 := blk_frozen BK234.out 1
          have p235 : 0 ≤ (x7_2 : Int) := of_decide_eq_true (by (with_reducible assumption))
          have q235 : x7_2 < (l0.length : Int) := of_decide_eq_true (by (with_reducible assumption))
          obtain ⟨ad235, e235, hx235_0, hx235_1⟩ := at_T38 HR0.out x7_2 p235 q235
          obtain rfl : ad233 = ad235 := (by injection e235)
          replace hx235_0 := (HB.out.cell (World.block_lt_of_cell? w _ hx235_0)).trans hx235_0
          replace hx235_1 := (HB.out.cell (World.block_lt_of_cell? w _ hx235_1)).trans hx235_1
          replace p235 := eq_true p235
          replace q235 := eq_true q235
          have p236 : 0 ≤ (x7_2 : Int) := of_decide_eq_true (by (with_reducible assumption))
          have q236 : x7_2 < (l0.length : Int) := of_decide_eq_true (by (with_reducible assumption))
          obtain ⟨ad236, e236, hx236_0, hx236_1⟩ := at_T38 HR0.out x7_2 p236 q236
          obtain rfl : ad233 = ad236 := (by injection e236)
          replace hx236_0 := (HB.out.cell (World.block_lt_of_cell? w _ hx236_0)).trans hx236_0
          replace hx236_1 := (HB.out.cell (World.block_lt_of_cell? w _ hx236_1)).trans hx236_1
          replace p236 := eq_true p236
          replace q236 := eq_true q236
          go_wp2_with (fail)
          repeat (go_quiet ((go_at_call 42; (with_reducible refine (impl_gcd.calls k2 ((rd_T38 l0 x14_1).f0) ((rd_T38 l0 x7_2).f0) t237 _ A14.out).mono ?_); rintro e w' ⟨rfl, ⟨nd, rfl⟩⟩; (try (exact ⟨rfl, _, World.drewN_drewN _ _ _⟩)))); try go_wp2_with (first | ((with_reducible refine gate_dst (N := 48) rfl ?_); refine Kd.R_lit (Kd.int .i64) _ 3 ?hg (N := 48) ?hd (xs := ([x14_1, x7_2] : List Int)) (inner := [.int .i64 x14_1, .int .i64 x7_2]) (ok := fun _ => True) (okp := fun _ => True) ?hr ?hp (fun _ hk => hk) trivial (Below.refl _ _) (Nat.le_refl _) (by simp) ?_; (case hd => rfl); (case hg => rfl); (case hr => (go_simp; done)); (case hp => exact (Reps.one (show Kd.M (Kd.int .i64) _ _ _ x14_1 [.int .i64 x14_1] from rfl) (Reps.one (show Kd.M (Kd.int .i64) _ _ _ x7_2 [.int .i64 x7_2] from rfl) (Reps.none _ _)))); intro v239 w20 ho21 hb hg_ hnew_; clear hg_ hnew_; ((rw [← Ny238.out] at ho21)); have n0_ := Aside0.mk (Kd.S_elder' (by (with_reducible repeat ((apply Kd.S_drewN))); exact HO_4.out) (Kd.R_base ho21) hb); have n1_ := Aside0.mk (Kd.R_lower ho21 (below_size (by repeat ((with_reducible first | exact HB.out | apply pw_below_drewN))))); have n2_ := Aside0.mk (blk_below (g := gb234) (o := .cells #[.int .i64 ((rd_T38 l0 x14_1).f0), .int .i64 ((rd_T38 l0 x14_1).f1)] 38 (0, 0)) (by (with_reducible repeat ((refine blk_drewN ?_ _))); exact BK234.out) hb); have n3_ := Aside0.mk (below_step (by repeat ((with_reducible first | exact HB.out | apply pw_below_drewN))) hb); clear HO_4; clear BK234; clear HB; have HO_4 := n0_; have HO240 := n1_; have BK234 := n2_; have HB := n3_; clear n0_ n1_ n2_ n3_; clear hb ho21; obtain ⟨Ao23, co23, eo23⟩ := Kd.R_slice HO240.out; subst eo23) | ((with_reducible refine gate_builtin (b := .append) (xs := #[.tmp 45, .tmp 49]) rfl ?_); at_builtin; refine Kd.S_append (Kd.slice 3 (Kd.int .i64)) (w0 := w) w.heap.size rfl (.tmp 45) (.tmp 49) 27 39 (.slice none 0 0) 24 rfl Tryz.underlying27 info39 rfl (by decide) (by omega) u4 x4_2 y238 [.slice Ao23 y238.length co23] (fun _ => True) (fun k_ => some k_ = (.slice Ao23 y238.length co23 : Value).ownBlock) rfl rfl ?aP (fun k_ hk_ => ((Kd.R_mono (ok' := fun k_ => ((fun _ => True)) k_ ∧ some k_ ≠ (u4 : Value).ownBlock) (Kd.R_apart' (HO240.out) (Kd.S_typed HO_4.out) (by decide)) (fun k_ hk => ⟨trivial, hk.2⟩))).1 k_ hk_.symm) ?aF ?aO ?aB ?aS ?aL ?_; (case aP => exact Kd.M_row (Kd.R_mono (Kd.R_tight rfl (Kd.R_mono (ok' := fun k_ => ((fun _ => True)) k_ ∧ some k_ ≠ (u4 : Value).ownBlock) (Kd.R_apart' (HO240.out) (Kd.S_typed HO_4.out) (by decide)) (fun k_ hk => ⟨trivial, hk.2⟩))) (fun _ h_ => h_))); (case aB => exact (by repeat ((with_reducible (exact HB.out))))); (case aF => exact (fun _ _ => trivial)); (case aO => exact (by (with_reducible repeat (fail)); exact Kd.S_mono HO_4.out (fun k_ hk => ⟨trivial, fun e_ => hk.2 e_⟩))); (case aS => exact (below_size (by repeat ((with_reducible (exact HB.out)))))); (case aL => have := LMc18.out; omega); intro v242 w22 ho hb hg hat; rw [← Ny241.out] at ho; have n0_ := Aside0.mk (blk_grown (g := gb234) (o := .cells #[.int .i64 ((rd_T38 l0 x14_1).f0), .int .i64 ((rd_T38 l0 x14_1).f1)] 38 (0, 0)) (by (with_reducible repeat (fail)); exact BK234.out) hg (Kd.S_ne HO_4.out BK234.out (by decide))); have n1_ := Aside0.mk (hb); have n2_ := Aside0.mk (ho); clear BK234; clear HB; clear HO_4; clear HO240; have BK234 := n0_; have HB := n1_; have HO243 := n2_; clear n0_ n1_ n2_; clear ho hb hg hat)))
          (go_roundg k2)
          case measure => have := HK1.out; have := HK2.out; omega
          case rel => exact ⟨(y241), (wrap64 (x7_2 + 1)), (by rfl), H', ⟨by have := HK1.out; have := HK2.out; omega⟩, ⟨by (with_reducible repeat (fail)); exact HO243.out⟩, ⟨by (with_reducible repeat (fail)); exact BK234.out⟩, ⟨by repeat ((with_reducible (exact HB.out)))⟩⟩

end Go.Proofs.YteohjnmiifmldaaGreatDoor.A
