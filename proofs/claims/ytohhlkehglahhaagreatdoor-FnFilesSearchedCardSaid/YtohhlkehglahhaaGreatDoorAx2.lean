-- Printed: Lean checks it.
import Derived.Test.YtohhlkehglahhaaGreatDoorAx0
import Derived.Test.YtohhlkehglahhaaGreatDoorAx1
namespace Go.Proofs.YtohhlkehglahhaaGreatDoor.A
open Go.RowKit Go.Proofs.YtohhlkehglahhaaGreatDoorW.PrintWords Go.Proofs.YtohhlkehglahhaaGreatDoorW.PrintLast Go.Proofs.YtohhlkehglahhaaGreatDoorW.PrintMore Go.Proofs.YtohhlkehglahhaaGreatDoor.X
attribute [local go_sem] max2_int min2_int max_two min_two max_three min_three max_four min_four
set_option linter.unusedVariables false
set_option linter.unusedSimpArgs false
mutual
def Qx.l0 : Nat → List (List Int) → List (List Int) → Int → Int → Option ((List (List Int)))
 | 0, _, _, _, _ => none
 | k + 1, x0, x3, x11, x12 => if x12 < x11 then (Qx.l1 k x0 x3 x12 ([] : List Int) x11 x12 x0 (x0.length : Int) 0) else (some x3)
def Qx.l1 : Nat → List (List Int) → List (List Int) → Int → List Int → Int → Int → List (List Int) → Int → Int → Option ((List (List Int)))
 | 0, _, _, _, _, _, _, _, _, _ => none
 | k + 1, x0, x3, x4, x5, x11, x12, x15, x16, x17 => if x17 < x16 then (if 0 ≤ x17 then (if x17 < (x15.length : Int) then (if 0 ≤ x4 then (if x4 < ((rd_L2 x15 x17).length : Int) then (if x5.length < 17592186044416 then (Qx.l1 k x0 x3 x4 (x5 ++ [rd (rd_L2 x15 x17) x4]) x11 x12 x15 x16 (wrap64 (x17 + 1))) else (none)) else (none)) else (none)) else (none)) else (none)) else (if x3.length < 5864062014805 then (Qx.l0 k x0 (x3 ++ [x5]) x11 (wrap64 (x12 + 1))) else (none))
end
def Qx.f (k : Nat) (l0 : List (List Int)) : Option ((List (List Int))) := if 0 < (l0.length : Int) then (Qx.l0 k l0 ([] : List (List Int)) ((rd_L2 l0 0).length : Int) 0) else (none)
set_option maxHeartbeats 8000000 in
set_option maxRecDepth 100000 in
theorem Qx.calls (k : Nat) (A0 : Option Addr) (c0 : Nat) (l0 : List (List Int)) (r : List (List Int)) (w : World) (hr0 : Kd.C (Kd.slice 3 (Kd.int .i64)) w A0 l0.length l0) (hc0 : l0.length ≤ c0) (h : Qx.f k l0 = some r) :
  Calls Tryz.prog 44 #[.slice A0 l0.length c0] w fun e w' => ∃ v0_ : Value, e = .returned (v0_) ∧ Kd.S (Kd.slice 3 (Kd.int .i64)) 32 w' w.heap.size (fun _ => True) v0_ r ∧ Below w.heap.size w w' := by
 have HR0 := Qa.mk hr0
 have HC0 := Qa.mk hc0
 clear hr0 hc0
 have HB := Qa.mk (Below.refl w.heap.size w)
 have H : (if 0 < (l0.length : Int) then (Qx.l0 k l0 ([] : List (List Int)) ((rd_L2 l0 0).length : Int) 0) else (none)) = some r := h
 clear h
 by_cases c2 : 0 < (l0.length : Int)
 rotate_left
 ·rw [if_neg c2] at H
  exact absurd H (by simp)
 rw [if_pos c2] at H
 have c2b0 : decide (0 < (l0.length : Int)) = true := decide_eq_true c2
 have c2b1 : decide (0 < l0.length) = true := decide_eq_true (by omega)
 clear c2
 have H' := Qa.mk H
 clear H
 have p160 : 0 ≤ (0 : Int) := (by omega)
 have q160 : 0 < (l0.length : Int) := of_decide_eq_true (by (with_reducible assumption))
 obtain ⟨ad160, A160_0, c160_0, e160, hx160_0, hl160_0, hi160_0⟩ := at_L2 HR0.out 0 p160 q160
 cases e160
 have qi160 : (0 < l0.length) = True := eq_true (by omega)
 (try rw [show ((0 : Int)).toNat = 0 from rfl] at hx160_0)
 (try rw [Addr.add_zero'] at hx160_0)
 have HR160_0 := Qa.mk hi160_0
 have HC160_0 := Qa.mk hl160_0
 clear hi160_0 hl160_0
 replace p160 := eq_true p160
 replace q160 := eq_true q160
 go_enter Tryz.func44, Tryz.ntmps44
 go_wp2
 go_loopg [3, 12] k (fun kq v3 v12 w' => ∃ (x3_1 : List (List Int)) (x12_1 : Int), v12 = .int .i64 x12_1 ∧ Qa (Qx.l0 kq l0 x3_1 ((rd_L2 l0 0).length : Int) x12_1 = some r) ∧ Qa (kq ≤ k) ∧ Qa (Kd.S (Kd.slice 3 (Kd.int .i64)) 32 w' w.heap.size (fun _ => True) v3 x3_1) ∧ Qa (Below w.heap.size w w'))
 case atStart => exact ⟨(([] : List (List Int))), (0), (by rfl), H', ⟨Nat.le_refl _⟩, ⟨by (exact Kd.S_nil _ _ _ _ _)⟩, ⟨by repeat ((with_reducible (exact HB.out)))⟩⟩
 case round =>
  clear H' c2b0 c2b1 hx160_0 p160 q160
  obtain ⟨x3_1, x12_1, rfl, HA, HK1, HO_3, HB⟩ := hrel
  cases gk with
  | zero => exact absurd HA.out (by simp [Qx.l0])
  | succ k1 =>
   have H := HA.out
   clear HA
   simp only [Qx.l0] at H
   by_cases c3 : x12_1 < ((rd_L2 l0 0).length : Int)
   rotate_left
   ·rw [if_neg c3] at H
    have c3b0 : decide (x12_1 < ((rd_L2 l0 0).length : Int)) = false := decide_eq_false c3
    clear c3
    obtain rfl := Option.some.inj H
    go_wp2
    go_ret
    exact ⟨_, by rfl, by (with_reducible repeat (fail)); exact HO_3.out, by repeat ((with_reducible (exact HB.out)))⟩
   rw [if_pos c3] at H
   have c3b0 : decide (x12_1 < ((rd_L2 l0 0).length : Int)) = true := decide_eq_true c3
   clear c3
   have H' := Qa.mk H
   clear H
   go_wp2
   go_loopg [5, 17] k1 (fun kq v5 v17 w' => ∃ (x5_2 : List Int) (x17_2 : Int), v17 = .int .i64 x17_2 ∧ Qa (Qx.l1 kq l0 x3_1 x12_1 x5_2 ((rd_L2 l0 0).length : Int) x12_1 l0 (l0.length : Int) x17_2 = some r) ∧ Qa (kq ≤ k1) ∧ Qa (Kd.S (Kd.slice 3 (Kd.int .i64)) 32 w' w.heap.size (fun k_ => some k_ ≠ (v5 : Value).ownBlock) u3 x3_1) ∧ Qa (Kd.R (Kd.int .i64) 3 w' w.heap.size (fun _ => True) v5 x5_2) ∧ Qa (Below w.heap.size w w'))
   case atStart => exact ⟨(([] : List Int)), (0), (by rfl), H', ⟨Nat.le_refl _⟩, ⟨by (with_reducible repeat (fail)); exact Kd.S_mono HO_3.out (fun _ hk => (by simp [Value.ownBlock]))⟩, ⟨by (exact Kd.R_nil _ _ _ _ _)⟩, ⟨by repeat ((with_reducible (exact HB.out)))⟩⟩
   case round =>
    clear H' c3b0
    obtain ⟨x5_2, x17_2, rfl, HA, HK2, HO_3, HO_5, HB⟩ := hrel
    cases gk with
    | zero => exact absurd HA.out (by simp [Qx.l1])
    | succ k2 =>
     have H := HA.out
     clear HA
     simp only [Qx.l1] at H
     by_cases c4 : x17_2 < (l0.length : Int)
     rotate_left
     ·rw [if_neg c4] at H
      have c4b0 : decide (x17_2 < (l0.length : Int)) = false := decide_eq_false c4
      clear c4
      by_cases c11 : x3_1.length < 5864062014805
      rotate_left
      ·rw [if_neg c11] at H
       exact absurd H (by simp)
      rw [if_pos c11] at H
      have LMc11 := Qa.mk c11
      clear c11
      obtain ⟨y166, hy166⟩ : ∃ y_ : List (List Int), y_ = (x3_1 ++ [x5_2]) := ⟨_, rfl⟩
      replace H : (Qx.l0 k2 l0 y166 ((rd_L2 l0 0).length : Int) (wrap64 (x12_1 + 1))) = some r := by (rw [hy166]; with_reducible exact H)
      have Ny166 := Qa.mk hy166
      clear hy166
      have H' := Qa.mk H
      clear H
      obtain ⟨Ao13, co13, eo13⟩ := Kd.R_slice HO_5.out
      subst eo13
      go_wp2_with (((with_reducible refine gate_builtin (b := .append) (xs := #[.tmp 29, .tmp 31]) rfl ?_); at_builtin; refine Kd.S_append (Kd.slice 3 (Kd.int .i64)) (w0 := w) w.heap.size rfl (.tmp 29) (.tmp 31) 24 32 (.slice none 0 0) 24 rfl Tryz.underlying24 info32 rfl (by decide) (by omega) u3 x3_1 x5_2 [.slice Ao13 x5_2.length co13] (fun _ => True) (fun k_ => some k_ = (.slice Ao13 x5_2.length co13 : Value).ownBlock) rfl rfl ?aP (fun k_ hk_ => ((Kd.R_mono (ok' := fun k_ => ((fun _ => True)) k_ ∧ some k_ ≠ (u3 : Value).ownBlock) (Kd.R_apart' (HO_5.out) (Kd.S_typed HO_3.out) (by decide)) (fun k_ hk => ⟨trivial, hk.2⟩))).1 k_ hk_.symm) ?aF ?aO ?aB ?aS ?aL ?_; (case aP => exact Kd.M_row (Kd.R_mono (Kd.R_tight rfl (Kd.R_mono (ok' := fun k_ => ((fun _ => True)) k_ ∧ some k_ ≠ (u3 : Value).ownBlock) (Kd.R_apart' (HO_5.out) (Kd.S_typed HO_3.out) (by decide)) (fun k_ hk => ⟨trivial, hk.2⟩))) (fun _ h_ => h_))); (case aB => exact (by repeat ((with_reducible (exact HB.out))))); (case aF => exact (fun _ _ => trivial)); (case aO => exact (by (with_reducible repeat (fail)); exact Kd.S_mono HO_3.out (fun k_ hk => ⟨trivial, fun e_ => hk e_⟩))); (case aS => exact (Qq (by repeat ((with_reducible (exact HB.out)))))); (case aL => have := LMc11.out; omega); intro v167 w12 ho hb hg hat; rw [← Ny166.out] at ho; have n0_ := Qa.mk (hb); have n1_ := Qa.mk (ho); clear HB; clear HO_3; clear HO_5; have HB := n0_; have HO168 := n1_; clear n0_ n1_; clear ho hb hg hat))
      (go_roundg k2)
      case measure => have := HK1.out; have := HK2.out; omega
      case rel => exact ⟨(y166), (wrap64 (x12_1 + 1)), (by rfl), H', ⟨by have := HK1.out; have := HK2.out; omega⟩, ⟨by (with_reducible repeat (fail)); exact HO168.out⟩, ⟨by repeat ((with_reducible (exact HB.out)))⟩⟩
     rw [if_pos c4] at H
     have c4b0 : decide (x17_2 < (l0.length : Int)) = true := decide_eq_true c4
     clear c4
     by_cases c5 : 0 ≤ x17_2
     rotate_left
     ·rw [if_neg c5] at H
      exact absurd H (by simp)
     rw [if_pos c5] at H
     have c5b0 : decide (0 ≤ x17_2) = true := decide_eq_true c5
     clear c5
     by_cases c6 : x17_2 < (l0.length : Int)
     rotate_left
     ·rw [if_neg c6] at H
      exact absurd H (by simp)
     rw [if_pos c6] at H
     have c6b0 : decide (x17_2 < (l0.length : Int)) = true := decide_eq_true c6
     clear c6
     by_cases c7 : 0 ≤ x12_1
     rotate_left
     ·rw [if_neg c7] at H
      exact absurd H (by simp)
     rw [if_pos c7] at H
     have c7b0 : decide (0 ≤ x12_1) = true := decide_eq_true c7
     clear c7
     by_cases c8 : x12_1 < ((rd_L2 l0 x17_2).length : Int)
     rotate_left
     ·rw [if_neg c8] at H
      exact absurd H (by simp)
     rw [if_pos c8] at H
     have c8b0 : decide (x12_1 < ((rd_L2 l0 x17_2).length : Int)) = true := decide_eq_true c8
     clear c8
     by_cases c9 : x5_2.length < 17592186044416
     rotate_left
     ·rw [if_neg c9] at H
      exact absurd H (by simp)
     rw [if_pos c9] at H
     have LMc9 := Qa.mk c9
     clear c9
     obtain ⟨y163, hy163⟩ : ∃ y_ : List Int, y_ = (x5_2 ++ [rd (rd_L2 l0 x17_2) x12_1]) := ⟨_, rfl⟩
     replace H : (Qx.l1 k2 l0 x3_1 x12_1 y163 ((rd_L2 l0 0).length : Int) x12_1 l0 (l0.length : Int) (wrap64 (x17_2 + 1))) = some r := by (rw [hy163]; with_reducible exact H)
     have Ny163 := Qa.mk hy163
     clear hy163
     have H' := Qa.mk H
     clear H
     have p161 : 0 ≤ (x17_2 : Int) := of_decide_eq_true (by (with_reducible assumption))
     have q161 : x17_2 < (l0.length : Int) := of_decide_eq_true (by (with_reducible assumption))
     obtain ⟨ad161, A161_0, c161_0, e161, hx161_0, hl161_0, hi161_0⟩ := at_L2 HR0.out x17_2 p161 q161
     obtain rfl : ad160 = ad161 := (by injection e161)
     replace hx161_0 := (HB.out.cell (World.block_lt_of_cell? w _ hx161_0)).trans hx161_0
     have HR161_0 := Qa.mk hi161_0
     have HC161_0 := Qa.mk hl161_0
     clear hi161_0 hl161_0
     replace p161 := eq_true p161
     replace q161 := eq_true q161
     have p162 : 0 ≤ (x12_1 : Int) := of_decide_eq_true (by (with_reducible assumption))
     have q162 : x12_1 < ((rd_L2 l0 x17_2).length : Int) := of_decide_eq_true (by (with_reducible assumption))
     obtain ⟨ad162, e162, hx162_0⟩ := Kd.at_int HR161_0.out x12_1 p162 q162
     cases e162
     replace hx162_0 := (HB.out.cell (World.block_lt_of_cell? w _ hx162_0)).trans hx162_0
     replace p162 := eq_true p162
     replace q162 := eq_true q162
     go_wp2_with (((with_reducible refine gate_builtin (b := .append) (xs := #[.tmp 21, .tmp 26]) rfl ?_); at_builtin; refine Kd.R_append (Kd.int .i64) (w0 := w) w.heap.size rfl (.tmp 21) (.tmp 26) 32 3 (.int .i64 0) 8 rfl Tryz.underlying32 info3 rfl (by decide) (by omega) u5 x5_2 (rd (rd_L2 l0 x17_2) x12_1) [.int .i64 (rd (rd_L2 l0 x17_2) x12_1)] (fun _ => True) (fun _ => False) rfl rfl ?aP (fun _ hk => hk.elim) ?aF ?aO ?aB ?aS ?aL ?_; (case aP => exact rfl); (case aB => exact (by repeat ((with_reducible (exact HB.out))))); (case aF => exact (fun _ _ => trivial)); (case aO => exact (by (with_reducible repeat (fail)); exact HO_5.out)); (case aS => exact (Qq (by repeat ((with_reducible (exact HB.out)))))); (case aL => have := LMc9.out; omega); intro v164 w10 ho hb hg hat; rw [← Ny163.out] at ho; have n0_ := Qa.mk (Kd.S_after (ok := (fun _ => True)) (by (with_reducible repeat (fail)); exact Kd.S_mono HO_3.out (fun _ hk => ⟨trivial, hk⟩)) hg hat); have n1_ := Qa.mk (hb); have n2_ := Qa.mk (ho); clear HO_3; clear HB; clear HO_5; have HO_3 := n0_; have HB := n1_; have HO165 := n2_; clear n0_ n1_ n2_; clear ho hb hg hat))
     (go_roundg k2)
     case measure => have := HK1.out; have := HK2.out; omega
     case rel => exact ⟨(y163), (wrap64 (x17_2 + 1)), (by rfl), H', ⟨by have := HK1.out; have := HK2.out; omega⟩, ⟨by (with_reducible repeat (fail)); exact Kd.S_mono HO_3.out (fun _ hk => hk.2)⟩, ⟨by (with_reducible repeat (fail)); exact HO165.out⟩, ⟨by repeat ((with_reducible (exact HB.out)))⟩⟩
def Qd2.f (k : Nat) (l0 : List (List Int)) : Option ((List (List Int))) := (Qx.f k l0).bind fun t169 => ((Qq1.f k t169).bind fun t172 => ((Qx.f k t172).bind fun t175 => (some t175)))
set_option maxHeartbeats 8000000 in
set_option maxRecDepth 100000 in
theorem Qd2.calls (k : Nat) (A0 : Option Addr) (c0 : Nat) (l0 : List (List Int)) (r : List (List Int)) (w : World) (hr0 : Kd.C (Kd.slice 3 (Kd.int .i64)) w A0 l0.length l0) (hc0 : l0.length ≤ c0) (h : Qd2.f k l0 = some r) :
  Calls Tryz.prog 33 #[.slice A0 l0.length c0] w fun e w' => ∃ v0_ : Value, e = .returned (v0_) ∧ Kd.S (Kd.slice 3 (Kd.int .i64)) 32 w' w.heap.size (fun _ => True) v0_ r ∧ Below w.heap.size w w' := by
 have HR0 := Qa.mk hr0
 have HC0 := Qa.mk hc0
 clear hr0 hc0
 have HB := Qa.mk (Below.refl w.heap.size w)
 have H : ((Qx.f k l0).bind fun t169 => ((Qq1.f k t169).bind fun t172 => ((Qx.f k t172).bind fun t175 => (some t175)))) = some r := h
 clear h
 replace H := Option.bind_eq_some_iff.mp H
 obtain ⟨t169, A20, H⟩ := H
 replace H : ((Qq1.f k t169).bind fun t172 => ((Qx.f k t172).bind fun t175 => (some t175))) = some r := H
 have A2 := Qa.mk A20
 clear A20
 replace H := Option.bind_eq_some_iff.mp H
 obtain ⟨t172, A30, H⟩ := H
 replace H : ((Qx.f k t172).bind fun t175 => (some t175)) = some r := H
 have A3 := Qa.mk A30
 clear A30
 replace H := Option.bind_eq_some_iff.mp H
 obtain ⟨t175, A40, H⟩ := H
 replace H : (some t175) = some r := H
 have A4 := Qa.mk A40
 clear A40
 obtain rfl := Option.some.inj H
 go_enter Tryz.func33, Tryz.ntmps33
 go_wp2_with (first | ((with_reducible refine Qg (f := 44) rfl ?_); refine goesL_ (some 4) rfl rfl Tryz.func44 (by kernel_rfl) rfl #[.slice A0 l0.length c0] rfl (by (try simp only [List.map_toArray, List.map_cons, List.map_nil]); rfl) ?_; (with_reducible refine (Qx.calls k _ _ l0 t169 _ ?side1 ?side2 A2.out).mono ?_); (case side1 => repeat ((exact HR0.out))); (case side2 => exact HC0.out); rintro e w5 ⟨v170, rfl, ho0, hb⟩; refine ⟨_, rfl, ?_⟩; have n0_ := Qa.mk (Kd.S_lower ho0 (Qq (by repeat ((with_reducible (exact HB.out)))))); have n1_ := Qa.mk (Qh (by repeat ((with_reducible (exact HB.out)))) hb); clear HB; have HO171 := n0_; have HB := n1_; clear n0_ n1_; (try clear hb); (try clear hb2); (try clear hk); (try clear hi); (try clear ho0); obtain ⟨Ao6, co6, eo6⟩ := Kd.S_slice HO171.out; subst eo6) | ((with_reducible refine Qg (f := 34) rfl ?_); refine goesL_ (some 5) rfl rfl Tryz.func34 (by kernel_rfl) rfl #[.slice Ao6 t169.length co6] rfl (by (try simp only [List.map_toArray, List.map_cons, List.map_nil]); rfl) ?_; (with_reducible refine (Qq1.calls k _ _ t169 t172 _ ?side1 ?side2 A3.out).mono ?_); (case side1 => repeat ((exact (Kd.S_reads' HO171.out).2.2))); (case side2 => exact (Kd.S_reads' HO171.out).2.1); rintro e w7 ⟨v173, rfl, ho0, hb⟩; refine ⟨_, rfl, ?_⟩; have n0_ := Qa.mk (Kd.S_elder' (by (with_reducible repeat (fail)); exact HO171.out) (Kd.S_base ho0) hb); have n1_ := Qa.mk (Kd.S_lower (Kd.S_new' ho0 (Kd.S_lt (by (with_reducible repeat (fail)); exact HO171.out))) (Qq (by repeat ((with_reducible (exact HB.out)))))); have n2_ := Qa.mk (Qh (by repeat ((with_reducible (exact HB.out)))) hb); clear HO171; clear HB; have HO171 := n0_; have HO174 := n1_; have HB := n2_; clear n0_ n1_ n2_; (try clear hb); (try clear hb2); (try clear hk); (try clear hi); (try clear ho0); obtain ⟨Ao8, co8, eo8⟩ := Kd.S_slice HO174.out; subst eo8) | ((with_reducible refine Qg (f := 44) rfl ?_); refine goesL_ (some 6) rfl rfl Tryz.func44 (by kernel_rfl) rfl #[.slice Ao8 t172.length co8] rfl (by (try simp only [List.map_toArray, List.map_cons, List.map_nil]); rfl) ?_; (with_reducible refine (Qx.calls k _ _ t172 t175 _ ?side1 ?side2 A4.out).mono ?_); (case side1 => repeat ((exact (Kd.S_reads' HO174.out).2.2))); (case side2 => exact (Kd.S_reads' HO174.out).2.1); rintro e w9 ⟨v176, rfl, ho0, hb⟩; refine ⟨_, rfl, ?_⟩; have n0_ := Qa.mk (Kd.S_elder' (by (with_reducible repeat (fail)); exact HO171.out) (Kd.S_base ho0) hb); have n1_ := Qa.mk (Kd.S_elder' (by (with_reducible repeat (fail)); exact HO174.out) (Kd.S_base ho0) hb); have n2_ := Qa.mk (Kd.S_lower (Kd.S_new' (Kd.S_new' ho0 (Kd.S_lt (by (with_reducible repeat (fail)); exact HO171.out))) (Kd.S_lt (by (with_reducible repeat (fail)); exact HO174.out))) (Qq (by repeat ((with_reducible (exact HB.out)))))); have n3_ := Qa.mk (Qh (by repeat ((with_reducible (exact HB.out)))) hb); clear HO171; clear HO174; clear HB; have HO171 := n0_; have HO174 := n1_; have HO177 := n2_; have HB := n3_; clear n0_ n1_ n2_ n3_; (try clear hb); (try clear hb2); (try clear hk); (try clear hi); (try clear ho0)))
 go_ret
 exact ⟨_, by rfl, by (with_reducible repeat (fail)); exact Kd.S_mono HO177.out (fun _ hk => trivial), by repeat ((with_reducible (exact HB.out)))⟩
def Qt.f (s0_0 : List Int) (s0_1 : Int) (s0_2 : Int) (l1 : List Int) : Option (Int × Int × Int) := (Qe.f s0_0 s0_1 s0_2 (l1.length : Int)).bind fun bt178 => (if 0 ≤ bt178.1 then (if bt178.1 < (l1.length : Int) then (some (rd l1 bt178.1, bt178.2.1, bt178.2.2)) else (none)) else (none))
set_option maxHeartbeats 8000000 in
set_option maxRecDepth 100000 in
theorem Qt.calls (g : Nat) (s0_0 : List Int) (s0_1 : Int) (s0_2 : Int) (A1 : Option Addr) (c1 : Nat) (l1 : List Int) (r1 : Int) (r2 : Int) (r3 : Int) (w0 w : World) (hI : IsS50 w0 w g s0_0 s0_1 s0_2) (hB : Below w0.heap.size w0 w) (hr1 : Kd.C (Kd.int .i64) w A1 l1.length l1) (hc1 : l1.length ≤ c1) (hf1 : ∀ ad, A1 = some ad → 0 < l1.length → ad.block ≠ g) (h : Qt.f s0_0 s0_1 s0_2 l1 = some (r1, r2, r3)) :
  Calls Tryz.prog 37 #[.pointer (some ⟨g, 0, none⟩), .slice A1 l1.length c1] w fun e w' => e = .returned (.int .i64 r1) ∧ IsS50 w0 w' g s0_0 r2 r3 ∧ Below w0.heap.size w0 w' ∧ Qp w w' g none := by
 have HR1 := Qa.mk hr1
 have HC1 := Qa.mk hc1
 clear hr1 hc1
 have HI0 := Qa.mk hI
 have HK := Qa.mk (Qp.refl w g none)
 have HL := Qa.mk hB.size
 clear hI
 have HW0 := Qa.mk hB.size
 have HB := Qa.mk hB
 clear hB
 have H : ((Qe.f s0_0 s0_1 s0_2 (l1.length : Int)).bind fun bt178 => (if 0 ≤ bt178.1 then (if bt178.1 < (l1.length : Int) then (some (rd l1 bt178.1, bt178.2.1, bt178.2.2)) else (none)) else (none))) = some (r1, r2, r3) := h
 clear h
 replace H := Option.bind_eq_some_iff.mp H
 obtain ⟨⟨t178, t179, t180⟩, A30, H⟩ := H
 replace H : (if 0 ≤ t178 then (if t178 < (l1.length : Int) then (some (rd l1 t178, t179, t180)) else (none)) else (none)) = some (r1, r2, r3) := H
 have A3 := Qa.mk A30
 clear A30
 by_cases c4 : 0 ≤ t178
 rotate_left
 ·rw [if_neg c4] at H
  exact absurd H (by simp)
 rw [if_pos c4] at H
 have c4b0 : decide (0 ≤ t178) = true := decide_eq_true c4
 clear c4
 by_cases c5 : t178 < (l1.length : Int)
 rotate_left
 ·rw [if_neg c5] at H
  exact absurd H (by simp)
 rw [if_pos c5] at H
 have c5b0 : decide (t178 < (l1.length : Int)) = true := decide_eq_true c5
 clear c5
 simp only [Option.some.injEq, Prod.mk.injEq] at H
 obtain ⟨rfl, rfl, rfl⟩ := H
 go_enter Tryz.func37, Tryz.ntmps37
 go_wp2_with (((with_reducible refine Qg (f := 36) rfl ?_); refine goesL_ (some 9) rfl rfl Tryz.func36 (by kernel_rfl) rfl #[.pointer (some ⟨g, 0, none⟩), .int .i64 (l1.length : Int)] rfl (by (try simp only [List.map_toArray, List.map_cons, List.map_nil]); rfl) ?_; (with_reducible refine (Qe.calls g s0_0 s0_1 s0_2 (l1.length : Int) t178 t179 t180 w0 _ ?side1 ?side2 A3.out).mono ?_); (case side1 => repeat ((with_reducible (exact HI0.out)))); (case side2 => repeat ((with_reducible (exact HB.out)))); rintro e w6 ⟨rfl, hi, hb, hk⟩; refine ⟨_, rfl, ?_⟩; have n0_ := Qa.mk (Qp.trans (by repeat ((with_reducible (exact HK.out)))) hk (.inl rfl)); have n1_ := Qa.mk (hb); have n2_ := Qa.mk (hi); clear HK; clear HB; clear HI0; have HK := n0_; have HB := n1_; have HI0 := n2_; clear n0_ n1_ n2_; (try clear hb); (try clear hb2); (try clear hk); (try clear hi); have p181 : 0 ≤ (t178 : Int) := of_decide_eq_true (by (with_reducible assumption)); have q181 : t178 < (l1.length : Int) := of_decide_eq_true (by (with_reducible assumption)); obtain ⟨ad181, e181, hx181_0⟩ := Kd.at_int HR1.out t178 p181 q181; cases e181; replace hx181_0 := keep_cell HK.out hx181_0 (by (rw [add_block]; exact hf1 _ rfl (by omega))); replace p181 := eq_true p181; replace q181 := eq_true q181))
 go_ret
 exact ⟨by rfl, by (try simp only [Int.add_zero]); repeat ((with_reducible (exact HI0.out))), by repeat ((with_reducible (exact HB.out))), by repeat ((with_reducible (exact HK.out)))⟩
mutual
def Qn.l0 : Nat → Int → Int → Int → List (List Int) → Int → List Int → Int → Int → Option ((List (List Int)) × Int × Int)
 | 0, _, _, _, _, _, _, _, _ => none
 | k + 1, x3, x4, x5, x6, x7, x1000, x1001, x1002 => if x7 < x3 then (Qn.l1 k x3 x4 x5 x6 x7 ([] : List Int) 0 x1000 x1001 x1002) else ((Qm1.f x1000 x1001 x1002 3).bind fun bt203 => (if bt203.1 = true then ((Qq1.f k x6).bind fun t206 => ((Qd2.f k t206).bind fun t209 => (some (t209, bt203.2.1, bt203.2.2)))) else (some (x6, bt203.2.1, bt203.2.2))))
def Qn.l1 : Nat → Int → Int → Int → List (List Int) → Int → List Int → Int → List Int → Int → Int → Option ((List (List Int)) × Int × Int)
 | 0, _, _, _, _, _, _, _, _, _, _ => none
 | k + 1, x3, x4, x5, x6, x7, x8, x9, x1000, x1001, x1002 => if x9 < x4 then ((Qe.f x1000 x1001 x1002 x5).bind fun bt194 => (if x8.length < 17592186044416 then (Qn.l1 k x3 x4 x5 x6 x7 (x8 ++ [wrap64 (1 + bt194.1)]) (wrap64 (x9 + 1)) x1000 bt194.2.1 bt194.2.2) else (none))) else (if x6.length < 5864062014805 then (Qn.l0 k x3 x4 x5 (x6 ++ [x8]) (wrap64 (x7 + 1)) x1000 x1001 x1002) else (none))
end
def Qn.f (k : Nat) (s0_0 : List Int) (s0_1 : Int) (s0_2 : Int) : Option ((List (List Int)) × Int × Int) := (Qe.f s0_0 s0_1 s0_2 4).bind fun bt182 => ((Qe.f s0_0 bt182.2.1 bt182.2.2 4).bind fun bt185 => ((Qt.f s0_0 bt185.2.1 bt185.2.2 (([3, 9, 99] : List Int))).bind fun bt191 => (Qn.l0 k (wrap64 (1 + bt182.1)) (wrap64 (1 + bt185.1)) bt191.1 ([] : List (List Int)) 0 s0_0 bt191.2.1 bt191.2.2)))
set_option maxHeartbeats 8000000 in
set_option maxRecDepth 100000 in
theorem Qn.calls (k : Nat) (g : Nat) (s0_0 : List Int) (s0_1 : Int) (s0_2 : Int) (r1 : List (List Int)) (r2 : Int) (r3 : Int) (w0 w : World) (hI : IsS50 w0 w g s0_0 s0_1 s0_2) (hB : Below w0.heap.size w0 w) (h : Qn.f k s0_0 s0_1 s0_2 = some (r1, r2, r3)) :
  Calls Tryz.prog 58 #[.pointer (some ⟨g, 0, none⟩)] w fun e w' => ∃ v0_ : Value, e = .returned (v0_) ∧ Kd.S (Kd.slice 3 (Kd.int .i64)) 32 w' w.heap.size (fun _ => True) v0_ r1 ∧ IsS50 w0 w' g s0_0 r2 r3 ∧ Below w0.heap.size w0 w' ∧ Qp w w' g none := by
 have HI0 := Qa.mk hI
 have HK := Qa.mk (Qp.refl w g none)
 have HL := Qa.mk hB.size
 clear hI
 have HW0 := Qa.mk hB.size
 have HB := Qa.mk hB
 clear hB
 have H : ((Qe.f s0_0 s0_1 s0_2 4).bind fun bt182 => ((Qe.f s0_0 bt182.2.1 bt182.2.2 4).bind fun bt185 => ((Qt.f s0_0 bt185.2.1 bt185.2.2 (([3, 9, 99] : List Int))).bind fun bt191 => (Qn.l0 k (wrap64 (1 + bt182.1)) (wrap64 (1 + bt185.1)) bt191.1 ([] : List (List Int)) 0 s0_0 bt191.2.1 bt191.2.2)))) = some (r1, r2, r3) := h
 clear h
 replace H := Option.bind_eq_some_iff.mp H
 obtain ⟨⟨t182, t183, t184⟩, A20, H⟩ := H
 replace H : ((Qe.f s0_0 t183 t184 4).bind fun bt185 => ((Qt.f s0_0 bt185.2.1 bt185.2.2 (([3, 9, 99] : List Int))).bind fun bt191 => (Qn.l0 k (wrap64 (1 + t182)) (wrap64 (1 + bt185.1)) bt191.1 ([] : List (List Int)) 0 s0_0 bt191.2.1 bt191.2.2))) = some (r1, r2, r3) := H
 have A2 := Qa.mk A20
 clear A20
 replace H := Option.bind_eq_some_iff.mp H
 obtain ⟨⟨t185, t186, t187⟩, A30, H⟩ := H
 replace H : ((Qt.f s0_0 t186 t187 (([3, 9, 99] : List Int))).bind fun bt191 => (Qn.l0 k (wrap64 (1 + t182)) (wrap64 (1 + t185)) bt191.1 ([] : List (List Int)) 0 s0_0 bt191.2.1 bt191.2.2)) = some (r1, r2, r3) := H
 have A3 := Qa.mk A30
 clear A30
 obtain ⟨y188, hy188⟩ : ∃ y_ : List Int, y_ = (([3, 9, 99] : List Int)) := ⟨_, rfl⟩
 replace H : ((Qt.f s0_0 t186 t187 y188).bind fun bt191 => (Qn.l0 k (wrap64 (1 + t182)) (wrap64 (1 + t185)) bt191.1 ([] : List (List Int)) 0 s0_0 bt191.2.1 bt191.2.2)) = some (r1, r2, r3) := by (rw [hy188]; with_reducible exact H)
 have Ny188 := Qa.mk hy188
 clear hy188
 replace H := Option.bind_eq_some_iff.mp H
 obtain ⟨⟨t191, t192, t193⟩, A40, H⟩ := H
 replace H : (Qn.l0 k (wrap64 (1 + t182)) (wrap64 (1 + t185)) t191 ([] : List (List Int)) 0 s0_0 t192 t193) = some (r1, r2, r3) := H
 have A4 := Qa.mk A40
 clear A40
 have H' := Qa.mk H
 clear H
 go_enter Tryz.func58, Tryz.ntmps58
 go_wp2_with (first | ((with_reducible refine Qg (f := 36) rfl ?_); refine goesL_ (some 11) rfl rfl Tryz.func36 (by kernel_rfl) rfl #[.pointer (some ⟨g, 0, none⟩), .int .i64 4] rfl (by (try simp only [List.map_toArray, List.map_cons, List.map_nil]); rfl) ?_; (with_reducible refine (Qe.calls g s0_0 s0_1 s0_2 4 t182 t183 t184 w0 _ ?side1 ?side2 A2.out).mono ?_); (case side1 => repeat ((with_reducible (exact HI0.out)))); (case side2 => repeat ((with_reducible (exact HB.out)))); rintro e w5 ⟨rfl, hi, hb, hk⟩; refine ⟨_, rfl, ?_⟩; have n0_ := Qa.mk (Qp.trans (by repeat ((with_reducible (exact HK.out)))) hk (.inl rfl)); have n1_ := Qa.mk (hb); have n2_ := Qa.mk (hi); clear HK; clear HB; clear HI0; have HK := n0_; have HB := n1_; have HI0 := n2_; clear n0_ n1_ n2_; (try clear hb); (try clear hb2); (try clear hk); (try clear hi)) | ((with_reducible refine Qg (f := 36) rfl ?_); refine goesL_ (some 14) rfl rfl Tryz.func36 (by kernel_rfl) rfl #[.pointer (some ⟨g, 0, none⟩), .int .i64 4] rfl (by (try simp only [List.map_toArray, List.map_cons, List.map_nil]); rfl) ?_; (with_reducible refine (Qe.calls g s0_0 t183 t184 4 t185 t186 t187 w0 _ ?side1 ?side2 A3.out).mono ?_); (case side1 => repeat ((with_reducible (exact HI0.out)))); (case side2 => repeat ((with_reducible (exact HB.out)))); rintro e w6 ⟨rfl, hi, hb, hk⟩; refine ⟨_, rfl, ?_⟩; have n0_ := Qa.mk (Qp.trans (by repeat ((with_reducible (exact HK.out)))) hk (.inl rfl)); have n1_ := Qa.mk (hb); have n2_ := Qa.mk (hi); clear HK; clear HB; clear HI0; have HK := n0_; have HB := n1_; have HI0 := n2_; clear n0_ n1_ n2_; (try clear hb); (try clear hb2); (try clear hk); (try clear hi)) | ((with_reducible refine gate_dst (N := 17) rfl ?_); refine Kd.R_lit (Kd.int .i64) _ 3 ?hg (N := 17) ?hd (xs := ([3, 9, 99] : List Int)) (inner := [.int .i64 3, .int .i64 9, .int .i64 99]) (ok := fun _ => True) (okp := fun _ => True) ?hr ?hp (fun _ hk => hk) trivial (Below.refl _ _) (Nat.le_refl _) (by simp) ?_; (case hd => rfl); (case hg => rfl); (case hr => (go_simp; done)); (case hp => exact (Reps.one (show Kd.M (Kd.int .i64) _ _ _ 3 [.int .i64 3] from rfl) (Reps.one (show Kd.M (Kd.int .i64) _ _ _ 9 [.int .i64 9] from rfl) (Reps.one (show Kd.M (Kd.int .i64) _ _ _ 99 [.int .i64 99] from rfl) (Reps.none _ _))))); intro v189 w7 ho8 hb hg_ hnew_; clear hg_ hnew_; ((rw [← Ny188.out] at ho8)); have n0_ := Qa.mk (Kd.R_lower ho8 (keep_size (w := w) (g := g) (row := none) (by repeat ((with_reducible (exact HK.out)))))); have n1_ := Qa.mk (IsS50.below (by repeat ((with_reducible (exact HI0.out)))) hb); have n2_ := Qa.mk (Qp.trans (by repeat ((with_reducible (exact HK.out)))) (Qp.of_below hb g none) (.inl rfl)); have n3_ := Qa.mk (Qh (by repeat ((with_reducible (exact HB.out)))) hb); clear HI0; clear HK; clear HB; have HO190 := n0_; have HI0 := n1_; have HK := n2_; have HB := n3_; clear n0_ n1_ n2_ n3_; clear hb ho8; obtain ⟨Ao9, co9, eo9⟩ := Kd.R_slice HO190.out; subst eo9) | ((with_reducible refine Qg (f := 37) rfl ?_); refine goesL_ (some 18) rfl rfl Tryz.func37 (by kernel_rfl) rfl #[.pointer (some ⟨g, 0, none⟩), .slice Ao9 y188.length co9] rfl (by (try simp only [List.map_toArray, List.map_cons, List.map_nil]); rfl) ?_; (with_reducible refine (Qt.calls g s0_0 t186 t187 _ _ y188 t191 t192 t193 w0 _ ?side1 ?side2 ?side3 ?side4 ?side5 A4.out).mono ?_); (case side1 => repeat ((with_reducible (exact HI0.out)))); (case side2 => repeat ((with_reducible (exact HB.out)))); (case side3 => repeat ((exact (Kd.R_reads' HO190.out).2.2))); (case side4 => exact (Kd.R_reads' HO190.out).2.1); (case side5 => exact far_slice (IsS50.own_ne HI0.out HO190.out (by decide))); rintro e w10 ⟨rfl, hi, hb, hk⟩; refine ⟨_, rfl, ?_⟩; have n0_ := Qa.mk (Kd.R_mono (Kd.R_keep (IsS50.apart (show IsS50 w0 _ g s0_0 t186 t187 from by repeat ((with_reducible (exact HI0.out)))) (by (with_reducible repeat (fail)); exact HO190.out) (by decide)) hk (fun _ h => h.2)) (fun _ h => h.1)); have n1_ := Qa.mk (Qp.trans (by repeat ((with_reducible (exact HK.out)))) hk (.inl rfl)); have n2_ := Qa.mk (hb); have n3_ := Qa.mk (hi); clear HO190; clear HK; clear HB; clear HI0; have HO190 := n0_; have HK := n1_; have HB := n2_; have HI0 := n3_; clear n0_ n1_ n2_ n3_; (try clear hb); (try clear hb2); (try clear hk); (try clear hi)))
 go_loopg [6, 7] k (fun kq v6 v7 w' => ∃ (x6_1 : List (List Int)) (x7_1 : Int) (x1001_1 : Int) (x1002_1 : Int), v7 = .int .i64 x7_1 ∧ Qa (Qn.l0 kq (wrap64 (1 + t182)) (wrap64 (1 + t185)) t191 x6_1 x7_1 s0_0 x1001_1 x1002_1 = some (r1, r2, r3)) ∧ Qa (kq ≤ k) ∧ Qa (Kd.S (Kd.slice 3 (Kd.int .i64)) 32 w' w.heap.size (fun _ => True) v6 x6_1) ∧ Qa (IsS50 w0 w' g s0_0 x1001_1 x1002_1) ∧ Qa (Qp w w' g none) ∧ Qa (Below w0.heap.size w0 w'))
 case atStart => exact ⟨(([] : List (List Int))), (0), (t192), (t193), (by rfl), H', ⟨Nat.le_refl _⟩, ⟨by (exact Kd.S_nil _ _ _ _ _)⟩, ⟨by repeat ((with_reducible (exact HI0.out)))⟩, ⟨by repeat ((with_reducible (exact HK.out)))⟩, ⟨by repeat ((with_reducible (exact HB.out)))⟩⟩
 case round =>
  clear H'
  obtain ⟨x6_1, x7_1, x1001_1, x1002_1, rfl, HA, HK1, HO_6, HI0, HK, HB⟩ := hrel
  cases gk with
  | zero => exact absurd HA.out (by simp [Qn.l0])
  | succ k1 =>
   have H := HA.out
   clear HA
   simp only [Qn.l0] at H
   by_cases c11 : x7_1 < (wrap64 (1 + t182))
   rotate_left
   ·rw [if_neg c11] at H
    have c11b0 : decide (x7_1 < (wrap64 (1 + t182))) = false := decide_eq_false c11
    clear c11
    replace H := Option.bind_eq_some_iff.mp H
    obtain ⟨⟨t203, t204, t205⟩, A200, H⟩ := H
    replace H : (if t203 = true then ((Qq1.f k1 x6_1).bind fun t206 => ((Qd2.f k1 t206).bind fun t209 => (some (t209, t204, t205)))) else (some (x6_1, t204, t205))) = some (r1, r2, r3) := H
    have A20 := Qa.mk A200
    clear A200
    by_cases c21 : t203 = true
    rotate_left
    ·replace c21 := Bool.eq_false_iff.mpr c21
     subst c21
     have H1 : (some (x6_1, t204, t205)) = some (r1, r2, r3) := by rw [if_neg (show ¬ (false = true) by decide)] at H; exact H
     clear H
     have H := H1
     clear H1
     simp only [Option.some.injEq, Prod.mk.injEq] at H
     obtain ⟨rfl, rfl, rfl⟩ := H
     go_wp2_with (((with_reducible refine Qg (f := 32) rfl ?_); refine goesL_ (some 41) rfl rfl Tryz.func32 (by kernel_rfl) rfl #[.pointer (some ⟨g, 0, none⟩), .int .i64 3] rfl (by (try simp only [List.map_toArray, List.map_cons, List.map_nil]); rfl) ?_; (with_reducible refine (Qm1.calls g s0_0 x1001_1 x1002_1 3 false t204 t205 w0 _ ?side1 ?side2 A20.out).mono ?_); (case side1 => repeat ((with_reducible (exact HI0.out)))); (case side2 => repeat ((with_reducible (exact HB.out)))); rintro e w29 ⟨rfl, hi, hb, hk⟩; refine ⟨_, rfl, ?_⟩; have n0_ := Qa.mk (Kd.S_mono (Kd.S_keep (IsS50.apartS (show IsS50 w0 _ g s0_0 x1001_1 x1002_1 from by repeat ((with_reducible (exact HI0.out)))) (by (with_reducible repeat (fail)); exact HO_6.out) (by decide)) hk (fun _ h => h.2)) (fun _ h => h.1)); have n1_ := Qa.mk (Qp.trans (by repeat ((with_reducible (exact HK.out)))) hk (.inl rfl)); have n2_ := Qa.mk (hb); have n3_ := Qa.mk (hi); clear HO_6; clear HK; clear HB; clear HI0; have HO_6 := n0_; have HK := n1_; have HB := n2_; have HI0 := n3_; clear n0_ n1_ n2_ n3_; (try clear hb); (try clear hb2); (try clear hk); (try clear hi)))
     go_ret
     exact ⟨_, by rfl, by (with_reducible repeat (fail)); exact HO_6.out, by repeat ((with_reducible (exact HI0.out))), by repeat ((with_reducible (exact HB.out))), by repeat ((with_reducible (exact HK.out)))⟩
    subst c21
    have H1 : ((Qq1.f k1 x6_1).bind fun t206 => ((Qd2.f k1 t206).bind fun t209 => (some (t209, t204, t205)))) = some (r1, r2, r3) := by rw [if_pos rfl] at H; exact H
    clear H
    have H := H1
    clear H1
    replace H := Option.bind_eq_some_iff.mp H
    obtain ⟨t206, A220, H⟩ := H
    replace H : ((Qd2.f k1 t206).bind fun t209 => (some (t209, t204, t205))) = some (r1, r2, r3) := H
    have A22 := Qa.mk A220
    clear A220
    replace H := Option.bind_eq_some_iff.mp H
    obtain ⟨t209, A230, H⟩ := H
    replace H : (some (t209, t204, t205)) = some (r1, r2, r3) := H
    have A23 := Qa.mk A230
    clear A230
    simp only [Option.some.injEq, Prod.mk.injEq] at H
    obtain ⟨rfl, rfl, rfl⟩ := H
    go_wp2_with (first | ((with_reducible refine Qg (f := 32) rfl ?_); refine goesL_ (some 41) rfl rfl Tryz.func32 (by kernel_rfl) rfl #[.pointer (some ⟨g, 0, none⟩), .int .i64 3] rfl (by (try simp only [List.map_toArray, List.map_cons, List.map_nil]); rfl) ?_; (with_reducible refine (Qm1.calls g s0_0 x1001_1 x1002_1 3 true t204 t205 w0 _ ?side1 ?side2 A20.out).mono ?_); (case side1 => repeat ((with_reducible (exact HI0.out)))); (case side2 => repeat ((with_reducible (exact HB.out)))); rintro e w24 ⟨rfl, hi, hb, hk⟩; refine ⟨_, rfl, ?_⟩; have n0_ := Qa.mk (Kd.S_mono (Kd.S_keep (IsS50.apartS (show IsS50 w0 _ g s0_0 x1001_1 x1002_1 from by repeat ((with_reducible (exact HI0.out)))) (by (with_reducible repeat (fail)); exact HO_6.out) (by decide)) hk (fun _ h => h.2)) (fun _ h => h.1)); have n1_ := Qa.mk (Qp.trans (by repeat ((with_reducible (exact HK.out)))) hk (.inl rfl)); have n2_ := Qa.mk (hb); have n3_ := Qa.mk (hi); clear HO_6; clear HK; clear HB; clear HI0; have HO_6 := n0_; have HK := n1_; have HB := n2_; have HI0 := n3_; clear n0_ n1_ n2_ n3_; (try clear hb); (try clear hb2); (try clear hk); (try clear hi); obtain ⟨Ao25, co25, eo25⟩ := Kd.S_slice HO_6.out; subst eo25) | ((with_reducible refine Qg (f := 34) rfl ?_); refine goesL_ (some 43) rfl rfl Tryz.func34 (by kernel_rfl) rfl #[.slice Ao25 x6_1.length co25] rfl (by (try simp only [List.map_toArray, List.map_cons, List.map_nil]); rfl) ?_; (with_reducible refine (Qq1.calls k1 _ _ x6_1 t206 _ ?side1 ?side2 A22.out).mono ?_); (case side1 => repeat ((exact (Kd.S_reads' HO_6.out).2.2))); (case side2 => exact (Kd.S_reads' HO_6.out).2.1); rintro e w26 ⟨v207, rfl, ho0, hb⟩; refine ⟨_, rfl, ?_⟩; have n0_ := Qa.mk (Kd.S_elder' (by (with_reducible repeat (fail)); exact HO_6.out) (Kd.S_base ho0) hb); have n1_ := Qa.mk (Kd.S_lower (Kd.S_new' ho0 (Kd.S_lt (by (with_reducible repeat (fail)); exact HO_6.out))) (keep_size (w := w) (g := g) (row := none) (by repeat ((with_reducible (exact HK.out)))))); have n2_ := Qa.mk (IsS50.below (by repeat ((with_reducible (exact HI0.out)))) hb); have n3_ := Qa.mk (Qp.trans (by repeat ((with_reducible (exact HK.out)))) (Qp.of_below hb g none) (.inl rfl)); have n4_ := Qa.mk (Qh (by repeat ((with_reducible (exact HB.out)))) hb); clear HO_6; clear HI0; clear HK; clear HB; have HO_6 := n0_; have HO208 := n1_; have HI0 := n2_; have HK := n3_; have HB := n4_; clear n0_ n1_ n2_ n3_ n4_; (try clear hb); (try clear hb2); (try clear hk); (try clear hi); (try clear ho0); obtain ⟨Ao27, co27, eo27⟩ := Kd.S_slice HO208.out; subst eo27) | ((with_reducible refine Qg (f := 33) rfl ?_); refine goesL_ (some 44) rfl rfl Tryz.func33 (by kernel_rfl) rfl #[.slice Ao27 t206.length co27] rfl (by (try simp only [List.map_toArray, List.map_cons, List.map_nil]); rfl) ?_; (with_reducible refine (Qd2.calls k1 _ _ t206 t209 _ ?side1 ?side2 A23.out).mono ?_); (case side1 => repeat ((exact (Kd.S_reads' HO208.out).2.2))); (case side2 => exact (Kd.S_reads' HO208.out).2.1); rintro e w28 ⟨v210, rfl, ho0, hb⟩; refine ⟨_, rfl, ?_⟩; have n0_ := Qa.mk (Kd.S_elder' (by (with_reducible repeat (fail)); exact HO_6.out) (Kd.S_base ho0) hb); have n1_ := Qa.mk (Kd.S_elder' (by (with_reducible repeat (fail)); exact HO208.out) (Kd.S_base ho0) hb); have n2_ := Qa.mk (Kd.S_lower (Kd.S_new' (Kd.S_new' ho0 (Kd.S_lt (by (with_reducible repeat (fail)); exact HO_6.out))) (Kd.S_lt (by (with_reducible repeat (fail)); exact HO208.out))) (keep_size (w := w) (g := g) (row := none) (by repeat ((with_reducible (exact HK.out)))))); have n3_ := Qa.mk (IsS50.below (by repeat ((with_reducible (exact HI0.out)))) hb); have n4_ := Qa.mk (Qp.trans (by repeat ((with_reducible (exact HK.out)))) (Qp.of_below hb g none) (.inl rfl)); have n5_ := Qa.mk (Qh (by repeat ((with_reducible (exact HB.out)))) hb); clear HO_6; clear HO208; clear HI0; clear HK; clear HB; have HO_6 := n0_; have HO208 := n1_; have HO211 := n2_; have HI0 := n3_; have HK := n4_; have HB := n5_; clear n0_ n1_ n2_ n3_ n4_ n5_; (try clear hb); (try clear hb2); (try clear hk); (try clear hi); (try clear ho0)))
    go_ret
    exact ⟨_, by rfl, by (with_reducible repeat (fail)); exact Kd.S_mono HO211.out (fun _ hk => trivial), by repeat ((with_reducible (exact HI0.out))), by repeat ((with_reducible (exact HB.out))), by repeat ((with_reducible (exact HK.out)))⟩
   rw [if_pos c11] at H
   have c11b0 : decide (x7_1 < (wrap64 (1 + t182))) = true := decide_eq_true c11
   clear c11
   have H' := Qa.mk H
   clear H
   go_wp2
   go_loopg [8, 9] k1 (fun kq v8 v9 w' => ∃ (x8_2 : List Int) (x9_2 : Int) (x1001_2 : Int) (x1002_2 : Int), v9 = .int .i64 x9_2 ∧ Qa (Qn.l1 kq (wrap64 (1 + t182)) (wrap64 (1 + t185)) t191 x6_1 x7_1 x8_2 x9_2 s0_0 x1001_2 x1002_2 = some (r1, r2, r3)) ∧ Qa (kq ≤ k1) ∧ Qa (Kd.S (Kd.slice 3 (Kd.int .i64)) 32 w' w.heap.size (fun k_ => some k_ ≠ (v8 : Value).ownBlock) u6 x6_1) ∧ Qa (Kd.R (Kd.int .i64) 3 w' w.heap.size (fun _ => True) v8 x8_2) ∧ Qa (IsS50 w0 w' g s0_0 x1001_2 x1002_2) ∧ Qa (Qp w w' g none) ∧ Qa (Below w0.heap.size w0 w'))
   case atStart => exact ⟨(([] : List Int)), (0), (x1001_1), (x1002_1), (by rfl), H', ⟨Nat.le_refl _⟩, ⟨by (with_reducible repeat (fail)); exact Kd.S_mono HO_6.out (fun _ hk => (by simp [Value.ownBlock]))⟩, ⟨by (exact Kd.R_nil _ _ _ _ _)⟩, ⟨by repeat ((with_reducible (exact HI0.out)))⟩, ⟨by repeat ((with_reducible (exact HK.out)))⟩, ⟨by repeat ((with_reducible (exact HB.out)))⟩⟩
   case round =>
    clear H' c11b0
    obtain ⟨x8_2, x9_2, x1001_2, x1002_2, rfl, HA, HK2, HO_6, HO_8, HI0, HK, HB⟩ := hrel
    cases gk with
    | zero => exact absurd HA.out (by simp [Qn.l1])
    | succ k2 =>
     have H := HA.out
     clear HA
     simp only [Qn.l1] at H
     by_cases c12 : x9_2 < (wrap64 (1 + t185))
     rotate_left
     ·rw [if_neg c12] at H
      have c12b0 : decide (x9_2 < (wrap64 (1 + t185))) = false := decide_eq_false c12
      clear c12
      by_cases c17 : x6_1.length < 5864062014805
      rotate_left
      ·rw [if_neg c17] at H
       exact absurd H (by simp)
      rw [if_pos c17] at H
      have LMc17 := Qa.mk c17
      clear c17
      obtain ⟨y200, hy200⟩ : ∃ y_ : List (List Int), y_ = (x6_1 ++ [x8_2]) := ⟨_, rfl⟩
      replace H : (Qn.l0 k2 (wrap64 (1 + t182)) (wrap64 (1 + t185)) t191 y200 (wrap64 (x7_1 + 1)) s0_0 x1001_2 x1002_2) = some (r1, r2, r3) := by (rw [hy200]; with_reducible exact H)
      have Ny200 := Qa.mk hy200
      clear hy200
      have H' := Qa.mk H
      clear H
      obtain ⟨Ao19, co19, eo19⟩ := Kd.R_slice HO_8.out
      subst eo19
      go_wp2_with (((with_reducible refine gate_builtin (b := .append) (xs := #[.tmp 36, .tmp 38]) rfl ?_); at_builtin; refine Kd.S_append (Kd.slice 3 (Kd.int .i64)) w.heap.size rfl (.tmp 36) (.tmp 38) 24 32 (.slice none 0 0) 24 rfl Tryz.underlying24 info32 rfl (by decide) (by omega) u6 x6_1 x8_2 [.slice Ao19 x8_2.length co19] (fun _ => True) (fun k_ => some k_ = (.slice Ao19 x8_2.length co19 : Value).ownBlock) rfl rfl ?aP (fun k_ hk_ => ((Kd.R_mono (ok' := fun k_ => ((fun _ => True)) k_ ∧ some k_ ≠ (u6 : Value).ownBlock) (Kd.R_apart' (HO_8.out) (Kd.S_typed HO_6.out) (by decide)) (fun k_ hk => ⟨trivial, hk.2⟩))).1 k_ hk_.symm) ?aF ?aO (Below.refl _ _) ?aS ?aL ?_; (case aP => exact Kd.M_row (Kd.R_mono (Kd.R_tight rfl (Kd.R_mono (ok' := fun k_ => ((fun _ => True)) k_ ∧ some k_ ≠ (u6 : Value).ownBlock) (Kd.R_apart' (HO_8.out) (Kd.S_typed HO_6.out) (by decide)) (fun k_ hk => ⟨trivial, hk.2⟩))) (fun _ h_ => h_))); (case aF => exact (fun _ _ => trivial)); (case aO => exact (by (with_reducible repeat (fail)); exact Kd.S_mono HO_6.out (fun k_ hk => ⟨trivial, fun e_ => hk e_⟩))); (case aS => exact (keep_size (w := w) (g := g) (row := none) (by repeat ((with_reducible (exact HK.out)))))); (case aL => have := LMc17.out; omega); intro v201 w18 ho hb hg hat; rw [← Ny200.out] at ho; have n0_ := Qa.mk (IsS50.grown (by repeat ((with_reducible (exact HI0.out)))) hg (IsS50.own_neS HI0.out HO_6.out (by decide))); have n1_ := Qa.mk (below_weaken (by repeat ((with_reducible (exact HB.out)))) HL.out hb); have n2_ := Qa.mk (Qp.trans (by repeat ((with_reducible (exact HK.out)))) (Qp.of_grown hg g) (Kd.S_base2 HO_6.out)); have n3_ := Qa.mk (ho); clear HI0; clear HB; clear HK; clear HO_6; clear HO_8; have HI0 := n0_; have HB := n1_; have HK := n2_; have HO202 := n3_; clear n0_ n1_ n2_ n3_; clear ho hb hg hat))
      (go_roundg k2)
      case measure => have := HK1.out; have := HK2.out; omega
      case rel => exact ⟨(y200), (wrap64 (x7_1 + 1)), (x1001_2), (x1002_2), (by rfl), H', ⟨by have := HK1.out; have := HK2.out; omega⟩, ⟨by (with_reducible repeat (fail)); exact HO202.out⟩, ⟨by repeat ((with_reducible (exact HI0.out)))⟩, ⟨by repeat ((with_reducible (exact HK.out)))⟩, ⟨by repeat ((with_reducible (exact HB.out)))⟩⟩
     rw [if_pos c12] at H
     have c12b0 : decide (x9_2 < (wrap64 (1 + t185))) = true := decide_eq_true c12
     clear c12
     replace H := Option.bind_eq_some_iff.mp H
     obtain ⟨⟨t194, t195, t196⟩, A130, H⟩ := H
     replace H : (if x8_2.length < 17592186044416 then (Qn.l1 k2 (wrap64 (1 + t182)) (wrap64 (1 + t185)) t191 x6_1 x7_1 (x8_2 ++ [wrap64 (1 + t194)]) (wrap64 (x9_2 + 1)) s0_0 t195 t196) else (none)) = some (r1, r2, r3) := H
     have A13 := Qa.mk A130
     clear A130
     by_cases c14 : x8_2.length < 17592186044416
     rotate_left
     ·rw [if_neg c14] at H
      exact absurd H (by simp)
     rw [if_pos c14] at H
     have LMc14 := Qa.mk c14
     clear c14
     obtain ⟨y197, hy197⟩ : ∃ y_ : List Int, y_ = (x8_2 ++ [wrap64 (1 + t194)]) := ⟨_, rfl⟩
     replace H : (Qn.l1 k2 (wrap64 (1 + t182)) (wrap64 (1 + t185)) t191 x6_1 x7_1 y197 (wrap64 (x9_2 + 1)) s0_0 t195 t196) = some (r1, r2, r3) := by (rw [hy197]; with_reducible exact H)
     have Ny197 := Qa.mk hy197
     clear hy197
     have H' := Qa.mk H
     clear H
     go_wp2_with (first | ((with_reducible refine Qg (f := 36) rfl ?_); refine goesL_ (some 32) rfl rfl Tryz.func36 (by kernel_rfl) rfl #[.pointer (some ⟨g, 0, none⟩), .int .i64 t191] rfl (by (try simp only [List.map_toArray, List.map_cons, List.map_nil]); rfl) ?_; (with_reducible refine (Qe.calls g s0_0 x1001_2 x1002_2 t191 t194 t195 t196 w0 _ ?side1 ?side2 A13.out).mono ?_); (case side1 => repeat ((with_reducible (exact HI0.out)))); (case side2 => repeat ((with_reducible (exact HB.out)))); rintro e w15 ⟨rfl, hi, hb, hk⟩; refine ⟨_, rfl, ?_⟩; have n0_ := Qa.mk (Kd.S_mono (Kd.S_keep (IsS50.apartS (show IsS50 w0 _ g s0_0 x1001_2 x1002_2 from by repeat ((with_reducible (exact HI0.out)))) (by (with_reducible repeat (fail)); exact HO_6.out) (by decide)) hk (fun _ h => h.2)) (fun _ h => h.1)); have n1_ := Qa.mk (Kd.R_mono (Kd.R_keep (IsS50.apart (show IsS50 w0 _ g s0_0 x1001_2 x1002_2 from by repeat ((with_reducible (exact HI0.out)))) (by (with_reducible repeat (fail)); exact HO_8.out) (by decide)) hk (fun _ h => h.2)) (fun _ h => h.1)); have n2_ := Qa.mk (Qp.trans (by repeat ((with_reducible (exact HK.out)))) hk (.inl rfl)); have n3_ := Qa.mk (hb); have n4_ := Qa.mk (hi); clear HO_6; clear HO_8; clear HK; clear HB; clear HI0; have HO_6 := n0_; have HO_8 := n1_; have HK := n2_; have HB := n3_; have HI0 := n4_; clear n0_ n1_ n2_ n3_ n4_; (try clear hb); (try clear hb2); (try clear hk); (try clear hi)) | ((with_reducible refine gate_builtin (b := .append) (xs := #[.tmp 29, .tmp 34]) rfl ?_); at_builtin; refine Kd.R_append (Kd.int .i64) w.heap.size rfl (.tmp 29) (.tmp 34) 32 3 (.int .i64 0) 8 rfl Tryz.underlying32 info3 rfl (by decide) (by omega) u8 x8_2 (wrap64 (1 + t194)) [.int .i64 (wrap64 (1 + t194))] (fun _ => True) (fun _ => False) rfl rfl ?aP (fun _ hk => hk.elim) ?aF ?aO (Below.refl _ _) ?aS ?aL ?_; (case aP => exact rfl); (case aF => exact (fun _ _ => trivial)); (case aO => exact (by (with_reducible repeat (fail)); exact HO_8.out)); (case aS => exact (keep_size (w := w) (g := g) (row := none) (by repeat ((with_reducible (exact HK.out)))))); (case aL => have := LMc14.out; omega); intro v198 w16 ho hb hg hat; rw [← Ny197.out] at ho; have n0_ := Qa.mk (Kd.S_after (ok := (fun _ => True)) (by (with_reducible repeat (fail)); exact Kd.S_mono HO_6.out (fun _ hk => ⟨trivial, hk⟩)) hg hat); have n1_ := Qa.mk (IsS50.grown (by repeat ((with_reducible (exact HI0.out)))) hg (IsS50.own_ne HI0.out HO_8.out (by decide))); have n2_ := Qa.mk (below_weaken (by repeat ((with_reducible (exact HB.out)))) HL.out hb); have n3_ := Qa.mk (Qp.trans (by repeat ((with_reducible (exact HK.out)))) (Qp.of_grown hg g) (Kd.R_base2 HO_8.out)); have n4_ := Qa.mk (ho); clear HO_6; clear HI0; clear HB; clear HK; clear HO_8; have HO_6 := n0_; have HI0 := n1_; have HB := n2_; have HK := n3_; have HO199 := n4_; clear n0_ n1_ n2_ n3_ n4_; clear ho hb hg hat))
     (go_roundg k2)
     case measure => have := HK1.out; have := HK2.out; omega
     case rel => exact ⟨(y197), (wrap64 (x9_2 + 1)), (t195), (t196), (by rfl), H', ⟨by have := HK1.out; have := HK2.out; omega⟩, ⟨by (with_reducible repeat (fail)); exact Kd.S_mono HO_6.out (fun _ hk => hk.2)⟩, ⟨by (with_reducible repeat (fail)); exact HO199.out⟩, ⟨by repeat ((with_reducible (exact HI0.out)))⟩, ⟨by repeat ((with_reducible (exact HK.out)))⟩, ⟨by repeat ((with_reducible (exact HB.out)))⟩⟩
def Qj1.f (a0 : Int) (a1 : Int) (a2 : Int) : Option (Bool) := if a0 ≥ a1 then (some (decide (a0 ≤ a2))) else (some false)
set_option maxHeartbeats 8000000 in
set_option maxRecDepth 100000 in
theorem Qj1.calls (a0 : Int) (a1 : Int) (a2 : Int) (r : Bool) (w : World) (h : Qj1.f a0 a1 a2 = some r) :
  Calls Tryz.prog 49 #[.int .i64 a0, .int .i64 a1, .int .i64 a2] w fun e w' => e = .returned (.bool r) ∧ Drawn0 w w' := by
 have H : (if a0 ≥ a1 then (some (decide (a0 ≤ a2))) else (some false)) = some r := h
 clear h
 by_cases c4 : a0 ≥ a1
 ·rw [if_pos c4] at H
  have c4b0 : decide (a1 ≤ a0) = true := decide_eq_true c4
  clear c4
  obtain rfl := Option.some.inj H
  go_enter Tryz.func49, Tryz.ntmps49
  go_wp2
  go_ret
  exact ⟨by rfl, by repeat ((exact Drawn0.refl _))⟩
 rw [if_neg c4] at H
 have c4b0 : decide (a1 ≤ a0) = false := decide_eq_false c4
 clear c4
 obtain rfl := Option.some.inj H
 go_enter Tryz.func49, Tryz.ntmps49
 go_wp2
 go_ret
 exact ⟨by rfl, by repeat ((exact Drawn0.refl _))⟩
def Qj2.l0 : Nat → Int → Int → List Int → Int → Int → Option (Bool)
 | 0, _, _, _, _, _ => none
 | k + 1, x1, x2, x9, x10, x11 => if x11 < x10 then (if 0 ≤ x11 then (if x11 < (x9.length : Int) then ((Qj1.f (rd x9 x11) x1 x2).bind fun t213 => (if t213 = true then (Qj2.l0 k x1 x2 x9 x10 (wrap64 (x11 + 1))) else (some false))) else (none)) else (none)) else (some true)
def Qj2.f (k : Nat) (l0 : List Int) (a1 : Int) (a2 : Int) : Option (Bool) := Qj2.l0 k a1 a2 l0 (l0.length : Int) 0
set_option maxHeartbeats 8000000 in
set_option maxRecDepth 100000 in
theorem Qj2.calls (k : Nat) (A0 : Option Addr) (c0 : Nat) (l0 : List Int) (a1 : Int) (a2 : Int) (r : Bool) (w : World) (hr0 : Kd.C (Kd.int .i64) w A0 l0.length l0) (hc0 : l0.length ≤ c0) (h : Qj2.f k l0 a1 a2 = some r) :
  Calls Tryz.prog 64 #[.slice A0 l0.length c0, .int .i64 a1, .int .i64 a2] w fun e w' => e = .returned (.bool r) ∧ Drawn0 w w' := by
 have HR0 := Qa.mk hr0
 have HC0 := Qa.mk hc0
 clear hr0 hc0
 have H : (Qj2.l0 k a1 a2 l0 (l0.length : Int) 0) = some r := h
 clear h
 have H' := Qa.mk H
 clear H
 go_enter Tryz.func64, Tryz.ntmps64
 go_wp2
 go_loopg [11] k (fun kq v11 w' => ∃ (x11_1 : Int), v11 = .int .i64 x11_1 ∧ Qa (Qj2.l0 kq a1 a2 l0 (l0.length : Int) x11_1 = some r) ∧ Qa (kq ≤ k) ∧ Drawn0 w w')
 case atStart => exact ⟨(0), (by rfl), H', ⟨Nat.le_refl _⟩, by repeat ((exact Drawn0.refl _))⟩
 case round =>
  clear H'
  obtain ⟨x11_1, rfl, HA, HK1, ⟨m1, rfl⟩⟩ := hrel
  cases gk with
  | zero => exact absurd HA.out (by simp [Qj2.l0])
  | succ k1 =>
   have H := HA.out
   clear HA
   simp only [Qj2.l0] at H
   by_cases c4 : x11_1 < (l0.length : Int)
   rotate_left
   ·rw [if_neg c4] at H
    have c4b0 : decide (x11_1 < (l0.length : Int)) = false := decide_eq_false c4
    clear c4
    obtain rfl := Option.some.inj H
    go_wp2
    go_ret
    exact ⟨by rfl, by repeat (first | exact Drawn0.refl _ | apply Drawn0.step)⟩
   rw [if_pos c4] at H
   have c4b0 : decide (x11_1 < (l0.length : Int)) = true := decide_eq_true c4
   clear c4
   by_cases c5 : 0 ≤ x11_1
   rotate_left
   ·rw [if_neg c5] at H
    exact absurd H (by simp)
   rw [if_pos c5] at H
   have c5b0 : decide (0 ≤ x11_1) = true := decide_eq_true c5
   clear c5
   by_cases c6 : x11_1 < (l0.length : Int)
   rotate_left
   ·rw [if_neg c6] at H
    exact absurd H (by simp)
   rw [if_pos c6] at H
   have c6b0 : decide (x11_1 < (l0.length : Int)) = true := decide_eq_true c6
   clear c6
   replace H := Option.bind_eq_some_iff.mp H
   obtain ⟨t213, A70, H⟩ := H
   replace H : (if t213 = true then (Qj2.l0 k1 a1 a2 l0 (l0.length : Int) (wrap64 (x11_1 + 1))) else (some false)) = some r := H
   have A7 := Qa.mk A70
   clear A70
   by_cases c8 : t213 = true
   rotate_left
   ·replace c8 := Bool.eq_false_iff.mpr c8
    subst c8
    have H1 : (some false) = some r := by rw [if_neg (show ¬ (false = true) by decide)] at H; exact H
    clear H
    have H := H1
    clear H1
    obtain rfl := Option.some.inj H
    have p212 : 0 ≤ (x11_1 : Int) := of_decide_eq_true (by (with_reducible assumption))
    have q212 : x11_1 < (l0.length : Int) := of_decide_eq_true (by (with_reducible assumption))
    obtain ⟨ad212, e212, hx212_0⟩ := Kd.at_int HR0.out x11_1 p212 q212
    cases e212
    replace p212 := eq_true p212
    replace q212 := eq_true q212
    go_wp2_with (((with_reducible refine Qg (f := 49) rfl ?_); refine goesL_ (some 18) rfl rfl Tryz.func49 (by kernel_rfl) rfl #[.int .i64 (rd l0 x11_1), .int .i64 a1, .int .i64 a2] rfl (by (try simp only [List.map_toArray, List.map_cons, List.map_nil]); rfl) ?_; (with_reducible refine (Qj1.calls (rd l0 x11_1) a1 a2 false _ A7.out).mono ?_); rintro e w' ⟨rfl, ⟨nd, rfl⟩⟩; refine ⟨_, rfl, ?_⟩))
    go_ret
    exact ⟨by rfl, by repeat (first | exact Drawn0.refl _ | apply Drawn0.step)⟩
   subst c8
   have H1 : (Qj2.l0 k1 a1 a2 l0 (l0.length : Int) (wrap64 (x11_1 + 1))) = some r := by rw [if_pos rfl] at H; exact H
   clear H
   have H := H1
   clear H1
   have H' := Qa.mk H
   clear H
   have p212 : 0 ≤ (x11_1 : Int) := of_decide_eq_true (by (with_reducible assumption))
   have q212 : x11_1 < (l0.length : Int) := of_decide_eq_true (by (with_reducible assumption))
   obtain ⟨ad212, e212, hx212_0⟩ := Kd.at_int HR0.out x11_1 p212 q212
   cases e212
   replace p212 := eq_true p212
   replace q212 := eq_true q212
   go_wp2_with (((with_reducible refine Qg (f := 49) rfl ?_); refine goesL_ (some 18) rfl rfl Tryz.func49 (by kernel_rfl) rfl #[.int .i64 (rd l0 x11_1), .int .i64 a1, .int .i64 a2] rfl (by (try simp only [List.map_toArray, List.map_cons, List.map_nil]); rfl) ?_; (with_reducible refine (Qj1.calls (rd l0 x11_1) a1 a2 true _ A7.out).mono ?_); rintro e w' ⟨rfl, ⟨nd, rfl⟩⟩; refine ⟨_, rfl, ?_⟩))
   (go_roundg k1)
   case measure => have := HK1.out; omega
   case rel => exact ⟨(wrap64 (x11_1 + 1)), (by rfl), H', ⟨by have := HK1.out; omega⟩, by repeat (first | exact Drawn0.refl _ | apply Drawn0.step)⟩
end Go.Proofs.YtohhlkehglahhaaGreatDoor.A
