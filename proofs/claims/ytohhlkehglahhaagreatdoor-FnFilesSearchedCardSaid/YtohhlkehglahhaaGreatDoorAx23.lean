-- Printed: Lean checks it.
import Derived.Test.YtohhlkehglahhaaGreatDoorAx0
import Derived.Test.YtohhlkehglahhaaGreatDoorAx2
import Derived.Test.YtohhlkehglahhaaGreatDoorAx19
import Derived.Test.YtohhlkehglahhaaGreatDoorGiv
import Derived.Test.YtohhlkehglahhaaGreatDoorGivA
import Derived.Test.YtohhlkehglahhaaGreatDoorGivL
namespace Go.Proofs.YtohhlkehglahhaaGreatDoor.A
open Go.RowKit Go.Proofs.YtohhlkehglahhaaGreatDoorW.PrintWords Go.Proofs.YtohhlkehglahhaaGreatDoorW.PrintLast Go.Proofs.YtohhlkehglahhaaGreatDoorW.PrintMore Go.Proofs.YtohhlkehglahhaaGreatDoor.X
attribute [local go_sem] max2_int min2_int max_two min_two max_three min_three max_four min_four
set_option linter.unusedVariables false
set_option linter.unusedSimpArgs false
mutual
def Qu.l0 : Nat → ByteArray → List (List Int) → List ByteArray → Int → Int → Option ((List (List Int)) × Bool)
 | 0, _, _, _, _, _ => none
 | k + 1, x0, x4, x14, x15, x16 => if x16 < x15 then (if 0 ≤ x16 then (if x16 < (x14.length : Int) then ((strings_Split.f (rdOf ByteArray.empty x14 x16) (⟨#[44]⟩ : ByteArray)).bind fun t457 => (Qu.l1 k x0 x4 (([] : List Int)) x14 x15 x16 t457 (t457.length : Int) 0)) else (none)) else (none)) else ((Qz.f x4).bind fun t470 => (if t470 = true then ((Qw.f k x4).bind fun t471 => (if t471.toList = x0.toList then (some (x4, true)) else (some (([] : List (List Int)), false)))) else (some (([] : List (List Int)), false))))
def Qu.l1 : Nat → ByteArray → List (List Int) → List Int → List ByteArray → Int → Int → List ByteArray → Int → Int → Option ((List (List Int)) × Bool)
 | 0, _, _, _, _, _, _, _, _, _ => none
 | k + 1, x0, x4, x7, x14, x15, x16, x22, x23, x24 => if x24 < x23 then (if 0 ≤ x24 then (if x24 < (x22.length : Int) then ((strconv_Atoi.f (rdOf ByteArray.empty x22 x24)).bind fun bt461 => (if bt461.2.isNone = true then (if x7.length < 17592186044416 then (Qu.l1 k x0 x4 (x7 ++ [bt461.1]) x14 x15 x16 x22 x23 (wrap64 (x24 + 1))) else (none)) else (some (([] : List (List Int)), false)))) else (none)) else (none)) else (if x4.length < 5864062014805 then (Qu.l0 k x0 (x4 ++ [x7]) x14 x15 (wrap64 (x16 + 1))) else (none))
end
def Qu.f (k : Nat) (a0 : ByteArray) : Option ((List (List Int)) × Bool) := (strings_Split.f a0 (⟨#[47]⟩ : ByteArray)).bind fun t450 => (Qu.l0 k a0 (([] : List (List Int))) t450 (t450.length : Int) 0)
set_option maxHeartbeats 8000000 in
set_option maxRecDepth 100000 in
theorem Qu.calls (k : Nat) (a0 : ByteArray) (r1 : List (List Int)) (r2 : Bool) (w : World) (hU : TabOK w) (h : Qu.f k a0 = some (r1, r2)) :
  Calls Tryz.prog 27 #[.string a0] w fun e w' => ∃ v0_ : Value, e = .returned (.tuple #[v0_, .bool r2]) ∧ Kd.S (Kd.slice 3 (Kd.int .i64)) 32 w' w.heap.size (fun _ => True) v0_ r1 ∧ Below w.heap.size w w' := by
 have HU := Qa.mk hU
 clear hU
 have hu74 := Tryz.underlying74
 have HB := Qa.mk (Below.refl w.heap.size w)
 have H : ((strings_Split.f a0 (⟨#[47]⟩ : ByteArray)).bind fun t450 => (Qu.l0 k a0 (([] : List (List Int))) t450 (t450.length : Int) 0)) = some (r1, r2) := h
 clear h
 obtain ⟨y447, hy447⟩ : ∃ y_ : List (List Int), y_ = (([] : List (List Int))) := ⟨_, rfl⟩
 replace H : ((strings_Split.f a0 (⟨#[47]⟩ : ByteArray)).bind fun t450 => (Qu.l0 k a0 y447 t450 (t450.length : Int) 0)) = some (r1, r2) := by (rw [hy447]; with_reducible exact H)
 have Ny447 := Qa.mk hy447
 clear hy447
 replace H := Option.bind_eq_some_iff.mp H
 obtain ⟨t450, A20, H⟩ := H
 replace H : (Qu.l0 k a0 y447 t450 (t450.length : Int) 0) = some (r1, r2) := H
 have A2 := Qa.mk A20
 clear A20
 have H' := Qa.mk H
 clear H
 go_enter Tryz.func27, Tryz.ntmps27
 go_wp2_with (first | ((with_reducible refine gate_dst (N := 12) rfl ?_); refine Kd.S_lit (Kd.slice 3 (Kd.int .i64)) _ 32 ?hg (N := 12) ?hd (xs := ([] : List (List Int))) (inner := []) (ok := fun _ => True) (okp := fun _ => True) ?hr ?hp (fun _ hk => hk) trivial (Below.refl _ _) (Nat.le_refl _) (by simp) ?_; (case hd => rfl); (case hg => rfl); (case hr => (go_simp; done)); (case hp => exact (Reps.none _ _)); intro v448 w3 ho4 hb hg_ hnew_; clear hg_ hnew_; ((rw [← Ny447.out] at ho4)); have n0_ := Qa.mk (Kd.S_lower ho4 (Qq (by repeat ((with_reducible (exact HB.out)))))); have n1_ := Qa.mk (Qh (by repeat ((with_reducible (exact HB.out)))) hb); clear HB; have HO449 := n0_; have HB := n1_; clear n0_ n1_; clear hb ho4) | ((with_reducible refine Qg (f := 60) rfl ?_); refine goesL_ (some 14) rfl rfl Tryz.func60 (by kernel_rfl) rfl #[.string a0, .string (⟨#[47]⟩ : ByteArray)] rfl (by (try simp only [List.map_toArray, List.map_cons, List.map_nil]); rfl) ?_; (with_reducible refine (strings_Split.calls a0 (⟨#[47]⟩ : ByteArray) t450 _ (tab_below HU.out (by repeat ((with_reducible (exact HB.out))))) A2.out).mono ?_); rintro e w5 ⟨v451, rfl, ho0, hb⟩; refine ⟨_, rfl, ?_⟩; have n0_ := Qa.mk (Kd.S_below (by (with_reducible repeat (fail)); exact HO449.out) hb); have n1_ := Qa.mk (Kd.R_lower ho0 (Qq (by repeat ((with_reducible (exact HB.out)))))); have n2_ := Qa.mk (Qh (by repeat ((with_reducible (exact HB.out)))) hb); clear HO449; clear HB; have HO449 := n0_; have HO452 := n1_; have HB := n2_; clear n0_ n1_ n2_; (try clear hb); (try clear hb2); (try clear hk); (try clear hi); (try clear ho0); obtain ⟨Ao6, co6, eo6⟩ := Kd.R_slice HO452.out; subst eo6))
 go_loopg [4, 16] k (fun kq v4 v16 w' => ∃ (x4_1 : List (List Int)) (x16_1 : Int), v16 = .int .i64 x16_1 ∧ Qa (Qu.l0 kq a0 x4_1 t450 (t450.length : Int) x16_1 = some (r1, r2)) ∧ Qa (kq ≤ k) ∧ Qa (Kd.S (Kd.slice 3 (Kd.int .i64)) 32 w' w.heap.size (fun _ => True) v4 x4_1) ∧ Qa (Kd.R Kd.string 9 w' w.heap.size (fun _ => True) (.slice Ao6 t450.length co6) t450) ∧ Qa (Below w.heap.size w w'))
 case atStart => exact ⟨(y447), (0), (by rfl), H', ⟨Nat.le_refl _⟩, ⟨by (with_reducible repeat (fail)); exact HO449.out⟩, ⟨by (with_reducible repeat (fail)); exact HO452.out⟩, ⟨by repeat ((with_reducible (exact HB.out)))⟩⟩
 case round =>
  clear H'
  obtain ⟨x4_1, x16_1, rfl, HA, HK1, HO_4, HO_14, HB⟩ := hrel
  cases gk with
  | zero => exact absurd HA.out (by simp [Qu.l0])
  | succ k1 =>
   have H := HA.out
   clear HA
   simp only [Qu.l0] at H
   by_cases c7 : x16_1 < (t450.length : Int)
   rotate_left
   ·rw [if_neg c7] at H
    have c7b0 : decide (x16_1 < (t450.length : Int)) = false := decide_eq_false c7
    clear c7
    replace H := Option.bind_eq_some_iff.mp H
    obtain ⟨t470, A260, H⟩ := H
    replace H : (if t470 = true then ((Qw.f k1 x4_1).bind fun t471 => (if t471.toList = a0.toList then (some (x4_1, true)) else (some (([] : List (List Int)), false)))) else (some (([] : List (List Int)), false))) = some (r1, r2) := H
    have A26 := Qa.mk A260
    clear A260
    by_cases c27 : t470 = true
    rotate_left
    ·replace c27 := Bool.eq_false_iff.mpr c27
     subst c27
     have H1 : (some (([] : List (List Int)), false)) = some (r1, r2) := by rw [if_neg (show ¬ (false = true) by decide)] at H; exact H
     clear H
     have H := H1
     clear H1
     simp only [Option.some.injEq, Prod.mk.injEq] at H
     obtain ⟨rfl, rfl⟩ := H
     obtain ⟨Ao36, co36, eo36⟩ := Kd.S_slice HO_4.out
     subst eo36
     go_wp2_with (((with_reducible refine Qg (f := 38) rfl ?_); refine goesL_ (some 46) rfl rfl Tryz.func38 (by kernel_rfl) rfl #[.slice Ao36 x4_1.length co36] rfl (by (try simp only [List.map_toArray, List.map_cons, List.map_nil]); rfl) ?_; (with_reducible refine (Qz.calls _ _ x4_1 false _ ?side1 ?side2 A26.out).mono ?_); (case side1 => repeat ((exact (Kd.S_reads' HO_4.out).2.2))); (case side2 => exact (Kd.S_reads' HO_4.out).2.1); rintro e w37 ⟨rfl, hb⟩; refine ⟨_, rfl, ?_⟩; have n0_ := Qa.mk (Kd.S_below (by (with_reducible repeat (fail)); exact HO_4.out) hb); have n1_ := Qa.mk (Kd.R_below (by (with_reducible repeat (fail)); exact HO_14.out) hb); have n2_ := Qa.mk (Qh (by repeat ((with_reducible (exact HB.out)))) hb); clear HO_4; clear HO_14; clear HB; have HO_4 := n0_; have HO_14 := n1_; have HB := n2_; clear n0_ n1_ n2_; (try clear hb); (try clear hb2); (try clear hk); (try clear hi)))
     go_ret2
     exact ⟨_, by rfl, by (exact Kd.S_nil _ _ _ _ _), by repeat ((with_reducible (exact HB.out)))⟩
    subst c27
    have H1 : ((Qw.f k1 x4_1).bind fun t471 => (if t471.toList = a0.toList then (some (x4_1, true)) else (some (([] : List (List Int)), false)))) = some (r1, r2) := by rw [if_pos rfl] at H; exact H
    clear H
    have H := H1
    clear H1
    replace H := Option.bind_eq_some_iff.mp H
    obtain ⟨t471, A280, H⟩ := H
    replace H : (if t471.toList = a0.toList then (some (x4_1, true)) else (some (([] : List (List Int)), false))) = some (r1, r2) := H
    have A28 := Qa.mk A280
    clear A280
    by_cases c29 : t471.toList = a0.toList
    ·rw [if_pos c29] at H
     have c29b0 : (t471.toList == a0.toList) = true := beq_iff_eq.mpr c29
     have c29b1 : (t471.toList != a0.toList) = false := bne_eq_false_iff_eq.mpr c29
     clear c29
     simp only [Option.some.injEq, Prod.mk.injEq] at H
     obtain ⟨rfl, rfl⟩ := H
     obtain ⟨Ao30, co30, eo30⟩ := Kd.S_slice HO_4.out
     subst eo30
     go_wp2_with (first | ((with_reducible refine Qg (f := 38) rfl ?_); refine goesL_ (some 46) rfl rfl Tryz.func38 (by kernel_rfl) rfl #[.slice Ao30 x4_1.length co30] rfl (by (try simp only [List.map_toArray, List.map_cons, List.map_nil]); rfl) ?_; (with_reducible refine (Qz.calls _ _ x4_1 true _ ?side1 ?side2 A26.out).mono ?_); (case side1 => repeat ((exact (Kd.S_reads' HO_4.out).2.2))); (case side2 => exact (Kd.S_reads' HO_4.out).2.1); rintro e w31 ⟨rfl, hb⟩; refine ⟨_, rfl, ?_⟩; have n0_ := Qa.mk (Kd.S_below (by (with_reducible repeat (fail)); exact HO_4.out) hb); have n1_ := Qa.mk (Kd.R_below (by (with_reducible repeat (fail)); exact HO_14.out) hb); have n2_ := Qa.mk (Qh (by repeat ((with_reducible (exact HB.out)))) hb); clear HO_4; clear HO_14; clear HB; have HO_4 := n0_; have HO_14 := n1_; have HB := n2_; clear n0_ n1_ n2_; (try clear hb); (try clear hb2); (try clear hk); (try clear hi)) | (go_at_call 56; (with_reducible refine (Qw.calls k1 _ _ x4_1 t471 _ (tab_below HU.out (by repeat ((with_reducible (exact HB.out))))) ?side1 ?side2 A28.out).mono ?_); (case side1 => repeat ((exact (Kd.S_reads' HO_4.out).2.2))); (case side2 => exact (Kd.S_reads' HO_4.out).2.1); rintro e w32 ⟨rfl, hb⟩; have n0_ := Qa.mk (Kd.S_below (by (with_reducible repeat (fail)); exact HO_4.out) hb); have n1_ := Qa.mk (Kd.R_below (by (with_reducible repeat (fail)); exact HO_14.out) hb); have n2_ := Qa.mk (Qh (by repeat ((with_reducible (exact HB.out)))) hb); clear HO_4; clear HO_14; clear HB; have HO_4 := n0_; have HO_14 := n1_; have HB := n2_; clear n0_ n1_ n2_; (try clear hb); (try clear hb2); (try clear hk); (try clear hi)))
     go_ret2
     exact ⟨_, by rfl, by (with_reducible repeat (fail)); exact HO_4.out, by repeat ((with_reducible (exact HB.out)))⟩
    rw [if_neg c29] at H
    have c29b0 : (t471.toList == a0.toList) = false := beq_eq_false_iff_ne.mpr c29
    have c29b1 : (t471.toList != a0.toList) = true := bne_iff_ne.mpr c29
    simp only [Option.some.injEq, Prod.mk.injEq] at H
    obtain ⟨rfl, rfl⟩ := H
    obtain ⟨Ao33, co33, eo33⟩ := Kd.S_slice HO_4.out
    subst eo33
    go_wp2_with (first | ((with_reducible refine Qg (f := 38) rfl ?_); refine goesL_ (some 46) rfl rfl Tryz.func38 (by kernel_rfl) rfl #[.slice Ao33 x4_1.length co33] rfl (by (try simp only [List.map_toArray, List.map_cons, List.map_nil]); rfl) ?_; (with_reducible refine (Qz.calls _ _ x4_1 true _ ?side1 ?side2 A26.out).mono ?_); (case side1 => repeat ((exact (Kd.S_reads' HO_4.out).2.2))); (case side2 => exact (Kd.S_reads' HO_4.out).2.1); rintro e w34 ⟨rfl, hb⟩; refine ⟨_, rfl, ?_⟩; have n0_ := Qa.mk (Kd.S_below (by (with_reducible repeat (fail)); exact HO_4.out) hb); have n1_ := Qa.mk (Kd.R_below (by (with_reducible repeat (fail)); exact HO_14.out) hb); have n2_ := Qa.mk (Qh (by repeat ((with_reducible (exact HB.out)))) hb); clear HO_4; clear HO_14; clear HB; have HO_4 := n0_; have HO_14 := n1_; have HB := n2_; clear n0_ n1_ n2_; (try clear hb); (try clear hb2); (try clear hk); (try clear hi)) | (go_at_call 56; (with_reducible refine (Qw.calls k1 _ _ x4_1 t471 _ (tab_below HU.out (by repeat ((with_reducible (exact HB.out))))) ?side1 ?side2 A28.out).mono ?_); (case side1 => repeat ((exact (Kd.S_reads' HO_4.out).2.2))); (case side2 => exact (Kd.S_reads' HO_4.out).2.1); rintro e w35 ⟨rfl, hb⟩; have n0_ := Qa.mk (Kd.S_below (by (with_reducible repeat (fail)); exact HO_4.out) hb); have n1_ := Qa.mk (Kd.R_below (by (with_reducible repeat (fail)); exact HO_14.out) hb); have n2_ := Qa.mk (Qh (by repeat ((with_reducible (exact HB.out)))) hb); clear HO_4; clear HO_14; clear HB; have HO_4 := n0_; have HO_14 := n1_; have HB := n2_; clear n0_ n1_ n2_; (try clear hb); (try clear hb2); (try clear hk); (try clear hi)))
    go_ret2
    exact ⟨_, by rfl, by (exact Kd.S_nil _ _ _ _ _), by repeat ((with_reducible (exact HB.out)))⟩
   rw [if_pos c7] at H
   have c7b0 : decide (x16_1 < (t450.length : Int)) = true := decide_eq_true c7
   clear c7
   by_cases c8 : 0 ≤ x16_1
   rotate_left
   ·rw [if_neg c8] at H
    exact absurd H (by simp)
   rw [if_pos c8] at H
   have c8b0 : decide (0 ≤ x16_1) = true := decide_eq_true c8
   clear c8
   by_cases c9 : x16_1 < (t450.length : Int)
   rotate_left
   ·rw [if_neg c9] at H
    exact absurd H (by simp)
   rw [if_pos c9] at H
   have c9b0 : decide (x16_1 < (t450.length : Int)) = true := decide_eq_true c9
   clear c9
   obtain ⟨y454, hy454⟩ : ∃ y_ : List Int, y_ = (([] : List Int)) := ⟨_, rfl⟩
   replace H : ((strings_Split.f (rdOf ByteArray.empty t450 x16_1) (⟨#[44]⟩ : ByteArray)).bind fun t457 => (Qu.l1 k1 a0 x4_1 y454 t450 (t450.length : Int) x16_1 t457 (t457.length : Int) 0)) = some (r1, r2) := by (rw [hy454]; with_reducible exact H)
   have Ny454 := Qa.mk hy454
   clear hy454
   replace H := Option.bind_eq_some_iff.mp H
   obtain ⟨t457, A100, H⟩ := H
   replace H : (Qu.l1 k1 a0 x4_1 y454 t450 (t450.length : Int) x16_1 t457 (t457.length : Int) 0) = some (r1, r2) := H
   have A10 := Qa.mk A100
   clear A100
   have H' := Qa.mk H
   clear H
   have p453 : 0 ≤ (x16_1 : Int) := of_decide_eq_true (by (with_reducible assumption))
   have q453 : x16_1 < (t450.length : Int) := of_decide_eq_true (by (with_reducible assumption))
   obtain ⟨ad453, e453, hx453_0⟩ := Kd.at_string (Kd.R_reads' HO_14.out).2.2 x16_1 p453 q453
   cases e453
   replace p453 := eq_true p453
   replace q453 := eq_true q453
   go_wp2_with (first | ((with_reducible refine gate_dst (N := 20) rfl ?_); refine Kd.R_lit (Kd.int .i64) _ 3 ?hg (N := 20) ?hd (xs := ([] : List Int)) (inner := []) (ok := fun _ => True) (okp := fun _ => True) ?hr ?hp (fun _ hk => hk) trivial (Below.refl _ _) (Nat.le_refl _) (by simp) ?_; (case hd => rfl); (case hg => rfl); (case hr => (go_simp; done)); (case hp => exact (Reps.none _ _)); intro v455 w11 ho12 hb hg_ hnew_; clear hg_ hnew_; ((rw [← Ny454.out] at ho12)); have n0_ := Qa.mk (Kd.S_elder' (by (with_reducible repeat (fail)); exact HO_4.out) (Kd.R_base ho12) hb); have n1_ := Qa.mk (Kd.R_below (by (with_reducible repeat (fail)); exact HO_14.out) hb); have n2_ := Qa.mk (Kd.R_lower ho12 (Qq (by repeat ((with_reducible (exact HB.out)))))); have n3_ := Qa.mk (Qh (by repeat ((with_reducible (exact HB.out)))) hb); clear HO_4; clear HO_14; clear HB; have HO_4 := n0_; have HO_14 := n1_; have HO456 := n2_; have HB := n3_; clear n0_ n1_ n2_ n3_; clear hb ho12) | ((with_reducible refine Qg (f := 60) rfl ?_); refine goesL_ (some 22) rfl rfl Tryz.func60 (by kernel_rfl) rfl #[.string (rdOf ByteArray.empty t450 x16_1), .string (⟨#[44]⟩ : ByteArray)] rfl (by (try simp only [List.map_toArray, List.map_cons, List.map_nil]); rfl) ?_; (with_reducible refine (strings_Split.calls (rdOf ByteArray.empty t450 x16_1) (⟨#[44]⟩ : ByteArray) t457 _ (tab_below HU.out (by repeat ((with_reducible (exact HB.out))))) A10.out).mono ?_); rintro e w13 ⟨v458, rfl, ho0, hb⟩; refine ⟨_, rfl, ?_⟩; have n0_ := Qa.mk (Kd.S_below (by (with_reducible repeat (fail)); exact HO_4.out) hb); have n1_ := Qa.mk (Kd.R_elder' (by (with_reducible repeat (fail)); exact HO_14.out) (Kd.R_base ho0) hb); have n2_ := Qa.mk (Kd.R_below (by (with_reducible repeat (fail)); exact HO456.out) hb); have n3_ := Qa.mk (Kd.R_lower (Kd.R_new' ho0 (Kd.R_lt (by (with_reducible repeat (fail)); exact HO_14.out))) (Qq (by repeat ((with_reducible (exact HB.out)))))); have n4_ := Qa.mk (Qh (by repeat ((with_reducible (exact HB.out)))) hb); clear HO_4; clear HO_14; clear HO456; clear HB; have HO_4 := n0_; have HO_14 := n1_; have HO456 := n2_; have HO459 := n3_; have HB := n4_; clear n0_ n1_ n2_ n3_ n4_; (try clear hb); (try clear hb2); (try clear hk); (try clear hi); (try clear ho0); obtain ⟨Ao14, co14, eo14⟩ := Kd.R_slice HO459.out; subst eo14))
   go_loopg [7, 24] k1 (fun kq v7 v24 w' => ∃ (x7_2 : List Int) (x24_2 : Int), v24 = .int .i64 x24_2 ∧ Qa (Qu.l1 kq a0 x4_1 x7_2 t450 (t450.length : Int) x16_1 t457 (t457.length : Int) x24_2 = some (r1, r2)) ∧ Qa (kq ≤ k1) ∧ Qa (Kd.S (Kd.slice 3 (Kd.int .i64)) 32 w' w.heap.size (fun k_ => some k_ ≠ (v7 : Value).ownBlock) u4 x4_1) ∧ Qa (Kd.R (Kd.int .i64) 3 w' w.heap.size (fun _ => True) v7 x7_2) ∧ Qa (Kd.R Kd.string 9 w' w.heap.size (fun k_ => some k_ ≠ ((.slice Ao14 t457.length co14) : Value).ownBlock) (.slice (some ad453) t450.length co6) t450) ∧ Qa (Kd.R Kd.string 9 w' w.heap.size (fun k_ => some k_ ≠ ((.slice (some ad453) t450.length co6) : Value).ownBlock) (.slice Ao14 t457.length co14) t457) ∧ Qa (Below w.heap.size w w'))
   case atStart => exact ⟨(y454), (0), (by rfl), H', ⟨Nat.le_refl _⟩, ⟨by (with_reducible repeat (fail)); exact Kd.S_mono HO_4.out (fun _ hk => hk.2)⟩, ⟨by (with_reducible repeat (fail)); exact HO456.out⟩, ⟨by (with_reducible repeat (fail)); exact Kd.R_mono HO_14.out (fun _ hk => hk.2)⟩, ⟨by (with_reducible repeat (fail)); exact Kd.R_mono HO459.out (fun _ hk => hk.2)⟩, ⟨by repeat ((with_reducible (exact HB.out)))⟩⟩
   case round =>
    clear H' c7b0 c8b0 c9b0 hx453_0 p453 q453
    obtain ⟨x7_2, x24_2, rfl, HA, HK2, HO_4, HO_7, HO_14, HO_22, HB⟩ := hrel
    cases gk with
    | zero => exact absurd HA.out (by simp [Qu.l1])
    | succ k2 =>
     have H := HA.out
     clear HA
     simp only [Qu.l1] at H
     by_cases c15 : x24_2 < (t457.length : Int)
     rotate_left
     ·rw [if_neg c15] at H
      have c15b0 : decide (x24_2 < (t457.length : Int)) = false := decide_eq_false c15
      clear c15
      by_cases c23 : x4_1.length < 5864062014805
      rotate_left
      ·rw [if_neg c23] at H
       exact absurd H (by simp)
      rw [if_pos c23] at H
      have LMc23 := Qa.mk c23
      clear c23
      obtain ⟨y467, hy467⟩ : ∃ y_ : List (List Int), y_ = (x4_1 ++ [x7_2]) := ⟨_, rfl⟩
      replace H : (Qu.l0 k2 a0 y467 t450 (t450.length : Int) (wrap64 (x16_1 + 1))) = some (r1, r2) := by (rw [hy467]; with_reducible exact H)
      have Ny467 := Qa.mk hy467
      clear hy467
      have H' := Qa.mk H
      clear H
      obtain ⟨Ao25, co25, eo25⟩ := Kd.R_slice HO_7.out
      subst eo25
      go_wp2_with (((with_reducible refine gate_builtin (b := .append) (xs := #[.tmp 40, .tmp 42]) rfl ?_); at_builtin; refine Kd.S_append (Kd.slice 3 (Kd.int .i64)) (w0 := w) w.heap.size rfl (.tmp 40) (.tmp 42) 24 32 (.slice none 0 0) 24 rfl Tryz.underlying24 info32 rfl (by decide) (by omega) u4 x4_1 x7_2 [.slice Ao25 x7_2.length co25] (fun _ => True) (fun k_ => some k_ = (.slice Ao25 x7_2.length co25 : Value).ownBlock) rfl rfl ?aP (fun k_ hk_ => ((Kd.R_mono (ok' := fun k_ => ((fun _ => True)) k_ ∧ some k_ ≠ (u4 : Value).ownBlock) (Kd.R_apart' (HO_7.out) (Kd.S_typed HO_4.out) (by decide)) (fun k_ hk => ⟨trivial, hk.2⟩))).1 k_ hk_.symm) ?aF ?aO ?aB ?aS ?aL ?_; (case aP => exact Kd.M_row (Kd.R_mono (Kd.R_tight rfl (Kd.R_mono (ok' := fun k_ => ((fun _ => True)) k_ ∧ some k_ ≠ (u4 : Value).ownBlock) (Kd.R_apart' (HO_7.out) (Kd.S_typed HO_4.out) (by decide)) (fun k_ hk => ⟨trivial, hk.2⟩))) (fun _ h_ => h_))); (case aB => exact (by repeat ((with_reducible (exact HB.out))))); (case aF => exact (fun _ _ => trivial)); (case aO => exact (by (with_reducible repeat (fail)); exact Kd.S_mono HO_4.out (fun k_ hk => ⟨trivial, fun e_ => hk e_⟩))); (case aS => exact (Qq (by repeat ((with_reducible (exact HB.out)))))); (case aL => have := LMc23.out; omega); intro v468 w24 ho hb hg hat; rw [← Ny467.out] at ho; have n0_ := Qa.mk (Kd.R_over' (by (with_reducible repeat (fail)); exact HO_14.out) (Kd.S_typed (by (with_reducible repeat (fail)); exact HO_4.out)) (by decide) hg); have n1_ := Qa.mk (Kd.R_over' (by (with_reducible repeat (fail)); exact HO_22.out) (Kd.S_typed (by (with_reducible repeat (fail)); exact HO_4.out)) (by decide) hg); have n2_ := Qa.mk (hb); have n3_ := Qa.mk (ho); clear HO_14; clear HO_22; clear HB; clear HO_4; clear HO_7; have HO_14 := n0_; have HO_22 := n1_; have HB := n2_; have HO469 := n3_; clear n0_ n1_ n2_ n3_; clear ho hb hg hat))
      (go_roundg k2)
      case measure => have := HK1.out; have := HK2.out; omega
      case rel => exact ⟨(y467), (wrap64 (x16_1 + 1)), (by rfl), H', ⟨by have := HK1.out; have := HK2.out; omega⟩, ⟨by (with_reducible repeat (fail)); exact HO469.out⟩, ⟨by (with_reducible repeat (fail)); exact Kd.R_mono HO_14.out (fun _ hk => trivial)⟩, ⟨by repeat ((with_reducible (exact HB.out)))⟩⟩
     rw [if_pos c15] at H
     have c15b0 : decide (x24_2 < (t457.length : Int)) = true := decide_eq_true c15
     clear c15
     by_cases c16 : 0 ≤ x24_2
     rotate_left
     ·rw [if_neg c16] at H
      exact absurd H (by simp)
     rw [if_pos c16] at H
     have c16b0 : decide (0 ≤ x24_2) = true := decide_eq_true c16
     clear c16
     by_cases c17 : x24_2 < (t457.length : Int)
     rotate_left
     ·rw [if_neg c17] at H
      exact absurd H (by simp)
     rw [if_pos c17] at H
     have c17b0 : decide (x24_2 < (t457.length : Int)) = true := decide_eq_true c17
     clear c17
     replace H := Option.bind_eq_some_iff.mp H
     obtain ⟨⟨t461, t462⟩, A180, H⟩ := H
     replace H : (if t462.isNone = true then (if x7_2.length < 17592186044416 then (Qu.l1 k2 a0 x4_1 (x7_2 ++ [t461]) t450 (t450.length : Int) x16_1 t457 (t457.length : Int) (wrap64 (x24_2 + 1))) else (none)) else (some (([] : List (List Int)), false))) = some (r1, r2) := H
     have A18 := Qa.mk A180
     clear A180
     rcases t462 with _ | q463
     ·have H1 : (if x7_2.length < 17592186044416 then (Qu.l1 k2 a0 x4_1 (x7_2 ++ [t461]) t450 (t450.length : Int) x16_1 t457 (t457.length : Int) (wrap64 (x24_2 + 1))) else (none)) = some (r1, r2) := by rw [if_pos (show (none : Option Int).isNone = true by rfl)] at H; exact H
      clear H
      have H := H1
      clear H1
      try simp only [errW_none, errW_some]
      by_cases c19 : x7_2.length < 17592186044416
      rotate_left
      ·rw [if_neg c19] at H
       exact absurd H (by simp)
      rw [if_pos c19] at H
      have LMc19 := Qa.mk c19
      clear c19
      obtain ⟨y464, hy464⟩ : ∃ y_ : List Int, y_ = (x7_2 ++ [t461]) := ⟨_, rfl⟩
      replace H : (Qu.l1 k2 a0 x4_1 y464 t450 (t450.length : Int) x16_1 t457 (t457.length : Int) (wrap64 (x24_2 + 1))) = some (r1, r2) := by (rw [hy464]; with_reducible exact H)
      have Ny464 := Qa.mk hy464
      clear hy464
      have H' := Qa.mk H
      clear H
      have p460 : 0 ≤ (x24_2 : Int) := of_decide_eq_true (by (with_reducible assumption))
      have q460 : x24_2 < (t457.length : Int) := of_decide_eq_true (by (with_reducible assumption))
      obtain ⟨ad460, e460, hx460_0⟩ := Kd.at_string (Kd.R_reads' HO_22.out).2.2 x24_2 p460 q460
      cases e460
      replace p460 := eq_true p460
      replace q460 := eq_true q460
      go_wp2_with (first | ((with_reducible refine Qg (f := 61) rfl ?_); refine goesL_ (some 30) rfl rfl Tryz.func61 (by kernel_rfl) rfl #[.string (rdOf ByteArray.empty t457 x24_2)] rfl (by (try simp only [List.map_toArray, List.map_cons, List.map_nil]); rfl) ?_; (with_reducible refine (strconv_Atoi.calls (rdOf ByteArray.empty t457 x24_2) t461 none _ (tab_below HU.out (by repeat ((with_reducible (exact HB.out))))) A18.out).mono ?_); rintro e w20 ⟨rfl, hb⟩; refine ⟨_, rfl, ?_⟩; have n0_ := Qa.mk (Kd.S_below (by (with_reducible repeat (fail)); exact HO_4.out) hb); have n1_ := Qa.mk (Kd.R_below (by (with_reducible repeat (fail)); exact HO_7.out) hb); have n2_ := Qa.mk (Kd.R_below (by (with_reducible repeat (fail)); exact HO_14.out) hb); have n3_ := Qa.mk (Kd.R_below (by (with_reducible repeat (fail)); exact HO_22.out) hb); have n4_ := Qa.mk (Qh (by repeat ((with_reducible (exact HB.out)))) hb); clear HO_4; clear HO_7; clear HO_14; clear HO_22; clear HB; have HO_4 := n0_; have HO_7 := n1_; have HO_14 := n2_; have HO_22 := n3_; have HB := n4_; clear n0_ n1_ n2_ n3_ n4_; (try clear hb); (try clear hb2); (try clear hk); (try clear hi); (try simp only [errW_none, errW_some])) | ((with_reducible refine gate_builtin (b := .append) (xs := #[.tmp 35, .tmp 37]) rfl ?_); at_builtin; refine Kd.R_append (Kd.int .i64) (w0 := w) w.heap.size rfl (.tmp 35) (.tmp 37) 32 3 (.int .i64 0) 8 rfl Tryz.underlying32 info3 rfl (by decide) (by omega) u7 x7_2 t461 [.int .i64 t461] (fun _ => True) (fun _ => False) rfl rfl ?aP (fun _ hk => hk.elim) ?aF ?aO ?aB ?aS ?aL ?_; (case aP => exact rfl); (case aB => exact (by repeat ((with_reducible (exact HB.out))))); (case aF => exact (fun _ _ => trivial)); (case aO => exact (by (with_reducible repeat (fail)); exact HO_7.out)); (case aS => exact (Qq (by repeat ((with_reducible (exact HB.out)))))); (case aL => have := LMc19.out; omega); intro v465 w21 ho hb hg hat; rw [← Ny464.out] at ho; have n0_ := Qa.mk (Kd.S_after (ok := (fun _ => True)) (by (with_reducible repeat (fail)); exact Kd.S_mono HO_4.out (fun _ hk => ⟨trivial, hk⟩)) hg hat); have n1_ := Qa.mk (Kd.R_over' (by (with_reducible repeat (fail)); exact HO_14.out) (Kd.R_typed (by (with_reducible repeat (fail)); exact HO_7.out)) (by decide) hg); have n2_ := Qa.mk (Kd.R_over' (by (with_reducible repeat (fail)); exact HO_22.out) (Kd.R_typed (by (with_reducible repeat (fail)); exact HO_7.out)) (by decide) hg); have n3_ := Qa.mk (hb); have n4_ := Qa.mk (ho); clear HO_4; clear HO_14; clear HO_22; clear HB; clear HO_7; have HO_4 := n0_; have HO_14 := n1_; have HO_22 := n2_; have HB := n3_; have HO466 := n4_; clear n0_ n1_ n2_ n3_ n4_; clear ho hb hg hat))
      (go_roundg k2)
      case measure => have := HK1.out; have := HK2.out; omega
      case rel => exact ⟨(y464), (wrap64 (x24_2 + 1)), (by rfl), H', ⟨by have := HK1.out; have := HK2.out; omega⟩, ⟨by (with_reducible repeat (fail)); exact Kd.S_mono HO_4.out (fun _ hk => hk.2)⟩, ⟨by (with_reducible repeat (fail)); exact HO466.out⟩, ⟨by (with_reducible repeat (fail)); exact HO_14.out⟩, ⟨by (with_reducible repeat (fail)); exact HO_22.out⟩, ⟨by repeat ((with_reducible (exact HB.out)))⟩⟩
     ·have H1 : (some (([] : List (List Int)), false)) = some (r1, r2) := by rw [if_neg (show ¬ (some q463).isNone = true by simp)] at H; exact H
      clear H
      have H := H1
      clear H1
      try simp only [errW_none, errW_some]
      simp only [Option.some.injEq, Prod.mk.injEq] at H
      obtain ⟨rfl, rfl⟩ := H
      have p460 : 0 ≤ (x24_2 : Int) := of_decide_eq_true (by (with_reducible assumption))
      have q460 : x24_2 < (t457.length : Int) := of_decide_eq_true (by (with_reducible assumption))
      obtain ⟨ad460, e460, hx460_0⟩ := Kd.at_string (Kd.R_reads' HO_22.out).2.2 x24_2 p460 q460
      cases e460
      replace p460 := eq_true p460
      replace q460 := eq_true q460
      go_wp2_with (((with_reducible refine Qg (f := 61) rfl ?_); refine goesL_ (some 30) rfl rfl Tryz.func61 (by kernel_rfl) rfl #[.string (rdOf ByteArray.empty t457 x24_2)] rfl (by (try simp only [List.map_toArray, List.map_cons, List.map_nil]); rfl) ?_; (with_reducible refine (strconv_Atoi.callsE (rdOf ByteArray.empty t457 x24_2) t461 (some q463) _ (tab_below HU.out (by repeat ((with_reducible (exact HB.out))))) A18.out).mono ?_); rintro e w22 ⟨te_, pe_, rfl, hb⟩; refine ⟨_, rfl, ?_⟩; have n0_ := Qa.mk (Kd.S_below (by (with_reducible repeat (fail)); exact HO_4.out) hb); have n1_ := Qa.mk (Kd.R_below (by (with_reducible repeat (fail)); exact HO_7.out) hb); have n2_ := Qa.mk (Kd.R_below (by (with_reducible repeat (fail)); exact HO_14.out) hb); have n3_ := Qa.mk (Kd.R_below (by (with_reducible repeat (fail)); exact HO_22.out) hb); have n4_ := Qa.mk (Qh (by repeat ((with_reducible (exact HB.out)))) hb); clear HO_4; clear HO_7; clear HO_14; clear HO_22; clear HB; have HO_4 := n0_; have HO_7 := n1_; have HO_14 := n2_; have HO_22 := n3_; have HB := n4_; clear n0_ n1_ n2_ n3_ n4_; (try clear hb); (try clear hb2); (try clear hk); (try clear hi); (try simp only [errW_none, errW_some])))
      go_ret2
      exact ⟨_, by rfl, by (exact Kd.S_nil _ _ _ _ _), by repeat ((with_reducible (exact HB.out)))⟩
def Qy1.l0 : Nat → ByteArray → Int → List ByteArray → Int → Int → Option (List ByteArray)
 | 0, _, _, _, _, _ => none
 | k + 1, x0, x1, x5, x6, x7 => if x7 < (x0.size : Int) then (if 0 ≤ x7 then (if (bt x0 x7) = x1 then (if 0 ≤ x6 then (if x6 ≤ x7 then (if x7 ≤ (x0.size : Int) then (if x5.length < 8796093022208 then (Qy1.l0 k x0 x1 (x5 ++ [x0.extract (x6 : Int).toNat (x7 : Int).toNat]) (wrap64 (x7 + 1)) (wrap64 (x7 + 1))) else (none)) else (none)) else (none)) else (none)) else (Qy1.l0 k x0 x1 x5 x6 (wrap64 (x7 + 1)))) else (none)) else (if 0 ≤ x6 then (if x6 ≤ (x0.size : Int) then (if x5.length < 8796093022208 then (some (x5 ++ [x0.extract (x6 : Int).toNat x0.size])) else (none)) else (none)) else (none))
def Qy1.f (k : Nat) (a0 : ByteArray) (a1 : Int) : Option (List ByteArray) := Qy1.l0 k a0 a1 ([] : List ByteArray) 0 0
set_option maxHeartbeats 8000000 in
set_option maxRecDepth 100000 in
theorem Qy1.calls (k : Nat) (a0 : ByteArray) (a1 : Int) (r : List ByteArray) (w : World) (h : Qy1.f k a0 a1 = some r) :
  Calls Tryz.prog 62 #[.string a0, .int .u8 a1] w fun e w' => ∃ v0_ : Value, e = .returned (v0_) ∧ Kd.R Kd.string 9 w' w.heap.size (fun _ => True) v0_ r ∧ Below w.heap.size w w' := by
 have HB := Qa.mk (Below.refl w.heap.size w)
 have H : (Qy1.l0 k a0 a1 ([] : List ByteArray) 0 0) = some r := h
 clear h
 have H' := Qa.mk H
 clear H
 go_enter Tryz.func62, Tryz.ntmps62
 go_wp2
 go_loopg [5, 6, 7] k (fun kq v5 v6 v7 w' => ∃ (x5_1 : List ByteArray) (x6_1 : Int) (x7_1 : Int), v6 = .int .i64 x6_1 ∧ v7 = .int .i64 x7_1 ∧ Qa (Qy1.l0 kq a0 a1 x5_1 x6_1 x7_1 = some r) ∧ Qa (kq ≤ k) ∧ Qa (Kd.R Kd.string 9 w' w.heap.size (fun _ => True) v5 x5_1) ∧ Qa (Below w.heap.size w w'))
 case atStart => exact ⟨(([] : List ByteArray)), (0), (0), (by rfl), (by rfl), H', ⟨Nat.le_refl _⟩, ⟨by (exact Kd.R_nil _ _ _ _ _)⟩, ⟨by repeat ((with_reducible (exact HB.out)))⟩⟩
 case round =>
  clear H'
  obtain ⟨x5_1, x6_1, x7_1, rfl, rfl, HA, HK1, HO_5, HB⟩ := hrel
  cases gk with
  | zero => exact absurd HA.out (by simp [Qy1.l0])
  | succ k1 =>
   have H := HA.out
   clear HA
   simp only [Qy1.l0] at H
   by_cases c3 : x7_1 < (a0.size : Int)
   rotate_left
   ·rw [if_neg c3] at H
    have c3b0 : decide (x7_1 < (a0.size : Int)) = false := decide_eq_false c3
    clear c3
    by_cases c12 : 0 ≤ x6_1
    rotate_left
    ·rw [if_neg c12] at H
     exact absurd H (by simp)
    rw [if_pos c12] at H
    have c12b0 := eq_true c12
    have c12b1 : decide (0 ≤ x6_1) = true := decide_eq_true c12
    clear c12
    by_cases c13 : x6_1 ≤ (a0.size : Int)
    rotate_left
    ·rw [if_neg c13] at H
     exact absurd H (by simp)
    rw [if_pos c13] at H
    have c13b0 := eq_true c13
    have c13b1 : decide (x6_1 ≤ (a0.size : Int)) = true := decide_eq_true c13
    clear c13
    by_cases c14 : x5_1.length < 8796093022208
    rotate_left
    ·rw [if_neg c14] at H
     exact absurd H (by simp)
    rw [if_pos c14] at H
    have LMc14 := Qa.mk c14
    clear c14
    obtain ⟨y475, hy475⟩ : ∃ y_ : List ByteArray, y_ = (x5_1 ++ [a0.extract (x6_1 : Int).toNat a0.size]) := ⟨_, rfl⟩
    replace H : (some y475) = some r := by (rw [hy475]; with_reducible exact H)
    have Ny475 := Qa.mk hy475
    clear hy475
    obtain rfl := Option.some.inj H
    go_wp2_with (((with_reducible refine gate_builtin (b := .append) (xs := #[.tmp 28, .tmp 32]) rfl ?_); at_builtin; refine Kd.R_append Kd.string (w0 := w) w.heap.size rfl (.tmp 28) (.tmp 32) 71 9 (.string ⟨#[]⟩) 16 rfl Tryz.underlying71 info9 rfl (by decide) (by omega) u5 x5_1 (a0.extract (x6_1 : Int).toNat a0.size) [.string (a0.extract (x6_1 : Int).toNat a0.size)] (fun _ => True) (fun _ => False) rfl rfl ?aP (fun _ hk => hk.elim) ?aF ?aO ?aB ?aS ?aL ?_; (case aP => exact rfl); (case aB => exact (by repeat ((with_reducible (exact HB.out))))); (case aF => exact (fun _ _ => trivial)); (case aO => exact (by (with_reducible repeat (fail)); exact HO_5.out)); (case aS => exact (Qq (by repeat ((with_reducible (exact HB.out)))))); (case aL => have := LMc14.out; omega); intro v476 w15 ho hb hg hat; rw [← Ny475.out] at ho; have n0_ := Qa.mk (hb); have n1_ := Qa.mk (ho); clear HB; clear HO_5; have HB := n0_; have HO477 := n1_; clear n0_ n1_; clear ho hb hg hat))
    go_ret
    exact ⟨_, by rfl, by (with_reducible repeat (fail)); exact HO477.out, by repeat ((with_reducible (exact HB.out)))⟩
   rw [if_pos c3] at H
   have c3b0 : decide (x7_1 < (a0.size : Int)) = true := decide_eq_true c3
   clear c3
   by_cases c4 : 0 ≤ x7_1
   rotate_left
   ·rw [if_neg c4] at H
    exact absurd H (by simp)
   rw [if_pos c4] at H
   have c4b0 : decide (0 ≤ x7_1) = true := decide_eq_true c4
   clear c4
   by_cases c6 : (bt a0 x7_1) = a1
   rotate_left
   ·rw [if_neg c6] at H
    have c6b0 : ((bt a0 x7_1) == a1) = false := beq_eq_false_iff_ne.mpr c6
    have c6b1 : ((bt a0 x7_1) != a1) = true := bne_iff_ne.mpr c6
    have H' := Qa.mk H
    clear H
    have p5 : 0 ≤ (x7_1 : Int) := of_decide_eq_true (by (with_reducible assumption))
    have q5 : x7_1 < (a0.size : Int) := of_decide_eq_true (by (with_reducible assumption))
    have hx5 := bt_at a0 x7_1
    replace p5 := eq_true p5
    replace q5 := eq_true q5
    go_wp2
    (go_roundg k1)
    case measure => have := HK1.out; omega
    case rel => exact ⟨(x5_1), (x6_1), (wrap64 (x7_1 + 1)), (by rfl), (by rfl), H', ⟨by have := HK1.out; omega⟩, ⟨by (with_reducible repeat (fail)); exact HO_5.out⟩, ⟨by repeat ((with_reducible (exact HB.out)))⟩⟩
   rw [if_pos c6] at H
   have c6b0 : ((bt a0 x7_1) == a1) = true := beq_iff_eq.mpr c6
   have c6b1 : ((bt a0 x7_1) != a1) = false := bne_eq_false_iff_eq.mpr c6
   clear c6
   by_cases c7 : 0 ≤ x6_1
   rotate_left
   ·rw [if_neg c7] at H
    exact absurd H (by simp)
   rw [if_pos c7] at H
   have c7b0 := eq_true c7
   have c7b1 : decide (0 ≤ x6_1) = true := decide_eq_true c7
   clear c7
   by_cases c8 : x6_1 ≤ x7_1
   rotate_left
   ·rw [if_neg c8] at H
    exact absurd H (by simp)
   rw [if_pos c8] at H
   have c8b0 := eq_true c8
   have c8b1 : decide (x6_1 ≤ x7_1) = true := decide_eq_true c8
   clear c8
   by_cases c9 : x7_1 ≤ (a0.size : Int)
   rotate_left
   ·rw [if_neg c9] at H
    exact absurd H (by simp)
   rw [if_pos c9] at H
   have c9b0 := eq_true c9
   have c9b1 : decide (x7_1 ≤ (a0.size : Int)) = true := decide_eq_true c9
   clear c9
   by_cases c10 : x5_1.length < 8796093022208
   rotate_left
   ·rw [if_neg c10] at H
    exact absurd H (by simp)
   rw [if_pos c10] at H
   have LMc10 := Qa.mk c10
   clear c10
   obtain ⟨y472, hy472⟩ : ∃ y_ : List ByteArray, y_ = (x5_1 ++ [a0.extract (x6_1 : Int).toNat (x7_1 : Int).toNat]) := ⟨_, rfl⟩
   replace H : (Qy1.l0 k1 a0 a1 y472 (wrap64 (x7_1 + 1)) (wrap64 (x7_1 + 1))) = some r := by (rw [hy472]; with_reducible exact H)
   have Ny472 := Qa.mk hy472
   clear hy472
   have H' := Qa.mk H
   clear H
   have p5 : 0 ≤ (x7_1 : Int) := of_decide_eq_true (by (with_reducible assumption))
   have q5 : x7_1 < (a0.size : Int) := of_decide_eq_true (by (with_reducible assumption))
   have hx5 := bt_at a0 x7_1
   replace p5 := eq_true p5
   replace q5 := eq_true q5
   go_wp2_with (((with_reducible refine gate_builtin (b := .append) (xs := #[.tmp 19, .tmp 24]) rfl ?_); at_builtin; refine Kd.R_append Kd.string (w0 := w) w.heap.size rfl (.tmp 19) (.tmp 24) 71 9 (.string ⟨#[]⟩) 16 rfl Tryz.underlying71 info9 rfl (by decide) (by omega) u5 x5_1 (a0.extract (x6_1 : Int).toNat (x7_1 : Int).toNat) [.string (a0.extract (x6_1 : Int).toNat (x7_1 : Int).toNat)] (fun _ => True) (fun _ => False) rfl rfl ?aP (fun _ hk => hk.elim) ?aF ?aO ?aB ?aS ?aL ?_; (case aP => exact rfl); (case aB => exact (by repeat ((with_reducible (exact HB.out))))); (case aF => exact (fun _ _ => trivial)); (case aO => exact (by (with_reducible repeat (fail)); exact HO_5.out)); (case aS => exact (Qq (by repeat ((with_reducible (exact HB.out)))))); (case aL => have := LMc10.out; omega); intro v473 w11 ho hb hg hat; rw [← Ny472.out] at ho; have n0_ := Qa.mk (hb); have n1_ := Qa.mk (ho); clear HB; clear HO_5; have HB := n0_; have HO474 := n1_; clear n0_ n1_; clear ho hb hg hat))
   (go_roundg k1)
   case measure => have := HK1.out; omega
   case rel => exact ⟨(y472), (wrap64 (x7_1 + 1)), (wrap64 (x7_1 + 1)), (by rfl), (by rfl), H', ⟨by have := HK1.out; omega⟩, ⟨by (with_reducible repeat (fail)); exact HO474.out⟩, ⟨by repeat ((with_reducible (exact HB.out)))⟩⟩
mutual
def Qk1.j0 : Nat → ByteArray → Bool → Option (Int)
 | 0, _, _ => none
 | k + 1, x0, x18 => if x18 = true then (some (-1)) else (Qk1.l0 k x0 0 0)
def Qk1.l0 : Nat → ByteArray → Int → Int → Option (Int)
 | 0, _, _, _ => none
 | k + 1, x0, x3, x4 => if x4 < (x0.size : Int) then (if 0 ≤ x4 then (if (bt x0 x4) < 48 then (some (-1)) else (if (bt x0 x4) > 57 then (some (-1)) else (Qk1.l0 k x0 (wrap64 ((wrap64 (10 * x3)) + (((bt x0 x4) - 48) % 256))) (wrap64 (x4 + 1))))) else (none)) else (some x3)
end
def Qk1.f (k : Nat) (a0 : ByteArray) : Option (Int) := (Qj1.f (a0.size : Int) 1 6).bind fun t478 => (if t478 = true then (if 0 < (a0.size : Int) then (if (bt a0 0) = 48 then (Qk1.j0 k a0 (decide ((a0.size : Int) > 1))) else (Qk1.j0 k a0 false)) else (none)) else (Qk1.j0 k a0 true))
set_option maxHeartbeats 8000000 in
set_option maxRecDepth 100000 in
theorem Qk1.calls (k : Nat) (a0 : ByteArray) (r : Int) (w : World) (h : Qk1.f k a0 = some r) :
  Calls Tryz.prog 63 #[.string a0] w fun e w' => e = .returned (.int .i64 r) ∧ Drawn0 w w' := by
 have H : ((Qj1.f (a0.size : Int) 1 6).bind fun t478 => (if t478 = true then (if 0 < (a0.size : Int) then (if (bt a0 0) = 48 then (Qk1.j0 k a0 (decide ((a0.size : Int) > 1))) else (Qk1.j0 k a0 false)) else (none)) else (Qk1.j0 k a0 true))) = some r := h
 clear h
 have HC2 := Qa.mk H
 clear H
 go_enter Tryz.func63, Tryz.ntmps63
 go_upto_region 1 with (fail)
 go_cut [18] (fun v18 wc => ∃ (kq : Nat) (x18_1 : Bool), v18 = .bool x18_1 ∧ Qa (Qk1.j0 kq a0 x18_1 = some r) ∧ Qa (kq ≤ k) ∧ Drawn0 w wc)
 case first =>
  have H := HC2.out
  clear HC2
  replace H := Option.bind_eq_some_iff.mp H
  obtain ⟨t478, A30, H⟩ := H
  replace H : (if t478 = true then (if 0 < (a0.size : Int) then (if (bt a0 0) = 48 then (Qk1.j0 k a0 (decide ((a0.size : Int) > 1))) else (Qk1.j0 k a0 false)) else (none)) else (Qk1.j0 k a0 true)) = some r := H
  have A3 := Qa.mk A30
  clear A30
  by_cases c4 : t478 = true
  rotate_left
  ·replace c4 := Bool.eq_false_iff.mpr c4
   subst c4
   have H1 : (Qk1.j0 k a0 true) = some r := by rw [if_neg (show ¬ (false = true) by decide)] at H; exact H
   clear H
   have H := H1
   clear H1
   have H' := Qa.mk H
   clear H
   go_wp2_with (((with_reducible refine Qg (f := 49) rfl ?_); refine goesL_ (some 7) rfl rfl Tryz.func49 (by kernel_rfl) rfl #[.int .i64 (a0.size : Int), .int .i64 1, .int .i64 6] rfl (by (try simp only [List.map_toArray, List.map_cons, List.map_nil]); rfl) ?_; (with_reducible refine (Qj1.calls (a0.size : Int) 1 6 false _ A3.out).mono ?_); rintro e w' ⟨rfl, ⟨nd, rfl⟩⟩; refine ⟨_, rfl, ?_⟩))
   go_meet
   case rel => exact ⟨_, (true), (by rfl), H', ⟨by omega⟩, by repeat (first | exact Drawn0.refl _ | apply Drawn0.step)⟩
  subst c4
  have H1 : (if 0 < (a0.size : Int) then (if (bt a0 0) = 48 then (Qk1.j0 k a0 (decide ((a0.size : Int) > 1))) else (Qk1.j0 k a0 false)) else (none)) = some r := by rw [if_pos rfl] at H; exact H
  clear H
  have H := H1
  clear H1
  by_cases c5 : 0 < (a0.size : Int)
  rotate_left
  ·rw [if_neg c5] at H
   exact absurd H (by simp)
  rw [if_pos c5] at H
  have c5b0 : decide (0 < (a0.size : Int)) = true := decide_eq_true c5
  have c5b1 : decide (0 < a0.size) = true := decide_eq_true (by omega)
  clear c5
  (skip)
  by_cases c7 : (bt a0 0) = 48
  ·rw [if_pos c7] at H
   have c7b0 : ((bt a0 0) == 48) = true := beq_iff_eq.mpr c7
   have c7b1 : ((bt a0 0) != 48) = false := bne_eq_false_iff_eq.mpr c7
   clear c7
   have H' := Qa.mk H
   clear H
   go_wp2_with (((with_reducible refine Qg (f := 49) rfl ?_); refine goesL_ (some 7) rfl rfl Tryz.func49 (by kernel_rfl) rfl #[.int .i64 (a0.size : Int), .int .i64 1, .int .i64 6] rfl (by (try simp only [List.map_toArray, List.map_cons, List.map_nil]); rfl) ?_; (with_reducible refine (Qj1.calls (a0.size : Int) 1 6 true _ A3.out).mono ?_); rintro e w' ⟨rfl, ⟨nd, rfl⟩⟩; refine ⟨_, rfl, ?_⟩; have p6 : 0 ≤ (0 : Int) := (by omega); have q6 : 0 < a0.size := (by have : (0 : Int) < (a0.size : Int) := of_decide_eq_true (by (with_reducible assumption)); omega); have hx6 : ∀ h : 0 < a0.size, ((a0[0]'h).toNat : Int) = bt a0 0 := bt_at a0 0; clear p6; have qi6 : (0 < (a0.size : Int)) = True := eq_true (of_decide_eq_true (by (with_reducible assumption))); replace q6 := eq_true q6))
   go_meet
   case rel => exact ⟨_, (decide ((a0.size : Int) > 1)), (by rfl), H', ⟨by omega⟩, by repeat (first | exact Drawn0.refl _ | apply Drawn0.step)⟩
  rw [if_neg c7] at H
  have c7b0 : ((bt a0 0) == 48) = false := beq_eq_false_iff_ne.mpr c7
  have c7b1 : ((bt a0 0) != 48) = true := bne_iff_ne.mpr c7
  have H' := Qa.mk H
  clear H
  go_wp2_with (((with_reducible refine Qg (f := 49) rfl ?_); refine goesL_ (some 7) rfl rfl Tryz.func49 (by kernel_rfl) rfl #[.int .i64 (a0.size : Int), .int .i64 1, .int .i64 6] rfl (by (try simp only [List.map_toArray, List.map_cons, List.map_nil]); rfl) ?_; (with_reducible refine (Qj1.calls (a0.size : Int) 1 6 true _ A3.out).mono ?_); rintro e w' ⟨rfl, ⟨nd, rfl⟩⟩; refine ⟨_, rfl, ?_⟩; have p6 : 0 ≤ (0 : Int) := (by omega); have q6 : 0 < a0.size := (by have : (0 : Int) < (a0.size : Int) := of_decide_eq_true (by (with_reducible assumption)); omega); have hx6 : ∀ h : 0 < a0.size, ((a0[0]'h).toNat : Int) = bt a0 0 := bt_at a0 0; clear p6; have qi6 : (0 < (a0.size : Int)) = True := eq_true (of_decide_eq_true (by (with_reducible assumption))); replace q6 := eq_true q6))
  go_meet
  case rel => exact ⟨_, (false), (by rfl), H', ⟨by omega⟩, by repeat (first | exact Drawn0.refl _ | apply Drawn0.step)⟩
 case rest =>
  clear HC2
  obtain ⟨kq, x18_1, rfl, HA, HJ1, ⟨mc1, rfl⟩⟩ := hcut
  cases kq with
  | zero => exact absurd HA.out (by simp [Qk1.j0])
  | succ kj1 =>
   have H := HA.out
   clear HA
   simp only [Qk1.j0] at H
   by_cases c8 : x18_1 = true
   ·subst c8
    have H1 : (some (-1)) = some r := by rw [if_pos rfl] at H; exact H
    clear H
    have H := H1
    clear H1
    obtain rfl := Option.some.inj H
    go_wp2
    go_ret
    exact ⟨by rfl, by repeat (first | exact Drawn0.refl _ | apply Drawn0.step)⟩
   replace c8 := Bool.eq_false_iff.mpr c8
   subst c8
   have H1 : (Qk1.l0 kj1 a0 0 0) = some r := by rw [if_neg (show ¬ (false = true) by decide)] at H; exact H
   clear H
   have H := H1
   clear H1
   have H' := Qa.mk H
   clear H
   go_wp2
   go_loopg [3, 4] kj1 (fun kq v3 v4 w' => ∃ (x3_2 : Int) (x4_2 : Int), v3 = .int .i64 x3_2 ∧ v4 = .int .i64 x4_2 ∧ Qa (Qk1.l0 kq a0 x3_2 x4_2 = some r) ∧ Qa (kq ≤ kj1) ∧ Drawn0 w w')
   case atStart => exact ⟨(0), (0), (by rfl), (by rfl), H', ⟨Nat.le_refl _⟩, by repeat (first | exact Drawn0.refl _ | apply Drawn0.step)⟩
   case round =>
    clear H'
    obtain ⟨x3_2, x4_2, rfl, rfl, HA, HK2, ⟨m2, rfl⟩⟩ := hrel
    cases gk with
    | zero => exact absurd HA.out (by simp [Qk1.l0])
    | succ k2 =>
     have H := HA.out
     clear HA
     simp only [Qk1.l0] at H
     by_cases c9 : x4_2 < (a0.size : Int)
     rotate_left
     ·rw [if_neg c9] at H
      have c9b0 : decide (x4_2 < (a0.size : Int)) = false := decide_eq_false c9
      clear c9
      obtain rfl := Option.some.inj H
      go_wp2
      go_ret
      exact ⟨by rfl, by repeat (first | exact Drawn0.refl _ | apply Drawn0.step)⟩
     rw [if_pos c9] at H
     have c9b0 : decide (x4_2 < (a0.size : Int)) = true := decide_eq_true c9
     clear c9
     by_cases c10 : 0 ≤ x4_2
     rotate_left
     ·rw [if_neg c10] at H
      exact absurd H (by simp)
     rw [if_pos c10] at H
     have c10b0 : decide (0 ≤ x4_2) = true := decide_eq_true c10
     clear c10
     by_cases c12 : (bt a0 x4_2) < 48
     ·rw [if_pos c12] at H
      have c12b0 : decide ((bt a0 x4_2) < 48) = true := decide_eq_true c12
      clear c12
      obtain rfl := Option.some.inj H
      have p11 : 0 ≤ (x4_2 : Int) := of_decide_eq_true (by (with_reducible assumption))
      have q11 : x4_2 < (a0.size : Int) := of_decide_eq_true (by (with_reducible assumption))
      have hx11 := bt_at a0 x4_2
      replace p11 := eq_true p11
      replace q11 := eq_true q11
      go_wp2
      go_ret
      exact ⟨by rfl, by repeat (first | exact Drawn0.refl _ | apply Drawn0.step)⟩
     rw [if_neg c12] at H
     have c12b0 : decide ((bt a0 x4_2) < 48) = false := decide_eq_false c12
     clear c12
     by_cases c14 : (bt a0 x4_2) > 57
     ·rw [if_pos c14] at H
      have c14b0 : decide (57 < (bt a0 x4_2)) = true := decide_eq_true c14
      clear c14
      obtain rfl := Option.some.inj H
      have p11 : 0 ≤ (x4_2 : Int) := of_decide_eq_true (by (with_reducible assumption))
      have q11 : x4_2 < (a0.size : Int) := of_decide_eq_true (by (with_reducible assumption))
      have hx11 := bt_at a0 x4_2
      replace p11 := eq_true p11
      replace q11 := eq_true q11
      have p13 : 0 ≤ (x4_2 : Int) := of_decide_eq_true (by (with_reducible assumption))
      have q13 : x4_2 < (a0.size : Int) := of_decide_eq_true (by (with_reducible assumption))
      have hx13 := bt_at a0 x4_2
      replace p13 := eq_true p13
      replace q13 := eq_true q13
      go_wp2
      go_ret
      exact ⟨by rfl, by repeat (first | exact Drawn0.refl _ | apply Drawn0.step)⟩
     rw [if_neg c14] at H
     have c14b0 : decide (57 < (bt a0 x4_2)) = false := decide_eq_false c14
     clear c14
     have H' := Qa.mk H
     clear H
     have p11 : 0 ≤ (x4_2 : Int) := of_decide_eq_true (by (with_reducible assumption))
     have q11 : x4_2 < (a0.size : Int) := of_decide_eq_true (by (with_reducible assumption))
     have hx11 := bt_at a0 x4_2
     replace p11 := eq_true p11
     replace q11 := eq_true q11
     have p13 : 0 ≤ (x4_2 : Int) := of_decide_eq_true (by (with_reducible assumption))
     have q13 : x4_2 < (a0.size : Int) := of_decide_eq_true (by (with_reducible assumption))
     have hx13 := bt_at a0 x4_2
     replace p13 := eq_true p13
     replace q13 := eq_true q13
     have p15 : 0 ≤ (x4_2 : Int) := of_decide_eq_true (by (with_reducible assumption))
     have q15 : x4_2 < (a0.size : Int) := of_decide_eq_true (by (with_reducible assumption))
     have hx15 := bt_at a0 x4_2
     replace p15 := eq_true p15
     replace q15 := eq_true q15
     go_wp2
     (go_roundg k2)
     case measure => have := HJ1.out; have := HK2.out; omega
     case rel => exact ⟨(wrap64 ((wrap64 (10 * x3_2)) + (((bt a0 x4_2) - 48) % 256))), (wrap64 (x4_2 + 1)), (by rfl), (by rfl), H', ⟨by have := HJ1.out; have := HK2.out; omega⟩, by repeat (first | exact Drawn0.refl _ | apply Drawn0.step)⟩
end Go.Proofs.YtohhlkehglahhaaGreatDoor.A
