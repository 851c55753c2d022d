/- What the reference draws from bytes: the contracts of its Draw functions: the state is made, then the printed walk. No condition. -/
import Derived.Test.YtohhlkehglahhaaGreatDoorAx0
import Derived.Test.YtohhlkehglahhaaGreatDoorAx1
import Derived.Test.YtohhlkehglahhaaGreatDoorAx2
import Derived.Test.YtohhlkehglahhaaGreatDoorAx20
import Derived.Test.YtohhlkehglahhaaGreatDoorAx3
import Derived.Test.YtohhlkehglahhaaGreatDoorGivF
import Derived.Test.YtohhlkehglahhaaGreatDoorWW
namespace Go.Proofs.YtohhlkehglahhaaGreatDoor.A
open Go.RowKit Go.Proofs.YtohhlkehglahhaaGreatDoorW.PrintWords Go.Proofs.YtohhlkehglahhaaGreatDoorW.PrintLast Go.Proofs.YtohhlkehglahhaaGreatDoorW.PrintMore Go.Proofs.YtohhlkehglahhaaGreatDoor.X
attribute [local go_sem] max2_int min2_int max_two min_two max_three min_three max_four min_four
set_option linter.unusedVariables false
set_option linter.unusedSimpArgs false
def Qv2.f (k : Nat) (s0_0 : List Int) (s0_1 : Int) (s0_2 : Int) : Option ((List (List Int)) × Int × Int × Int) := (Qc1.f k s0_0 s0_1 s0_2).bind fun bt360 => ((Qe.f s0_0 bt360.2.1 bt360.2.2 18).bind fun bt365 => ((Qe.f s0_0 bt365.2.1 bt365.2.2 9).bind fun bt368 => (some (bt360.1, wrap64 (bt365.1 - (wrap64 (Int.tdiv bt368.1 8))), bt368.2.1, bt368.2.2))))
def Qe2.f (k : Nat) (l0 : List Int) : Option (List (List Int) × Int) := (Qv2.f k l0 0 0).bind fun t => some (t.1, t.2.1)
set_option maxHeartbeats 8000000 in
set_option maxRecDepth 100000 in
theorem Qe2.calls (k : Nat) (A0 : Option Addr) (c0 : Nat) (l0 : List Int) (r1 : List (List Int)) (r2 : Int) (w : World) (hr0 : Kd.C (Kd.int .u8) w A0 l0.length l0) (hc0 : l0.length ≤ c0) (h : Qe2.f k l0 = some (r1, r2)) :
  Calls Tryz.prog 14 #[.slice A0 l0.length c0] w fun e w' => ∃ v0_ : Value, e = .returned (.tuple #[v0_, .int .i64 r2]) ∧ Kd.N (Kd.slice 3 (Kd.int .i64)) 32 w' w.heap.size (fun k_ => (w.heap.size ≤ k_)) v0_ r1 ∧ Below w.heap.size w w' := by
 unfold Qe2.f at h
 obtain ⟨⟨q0, q1, q2, q3⟩, h1, hr⟩ := Option.bind_eq_some_iff.1 h
 clear h
 simp only [Option.some.injEq, Prod.mk.injEq] at hr
 obtain ⟨rfl, rfl⟩ := hr
 obtain ⟨w1, hw1⟩ : ∃ x, x = w.alloc (.cells #[.slice A0 l0.length c0, .int .i64 0, .int .u64 0] 50) := ⟨_, rfl⟩
 have hI : IsS50 w w1 w.heap.size l0 0 0 := by rw [hw1]; exact IsS50.new w w A0 c0 l0 0 0 (Below.refl _ _) hr0
 have hB : Below w.heap.size w w1 := by rw [hw1]; exact below_alloc (Below.refl _ _) _
 have h := h1
 clear h1
 have main : Calls Tryz.prog 14 #[.slice A0 l0.length c0] w fun e w' => ∃ v0_ : Value, e = .returned (.tuple #[v0_, .int .i64 q1]) ∧ Kd.N (Kd.slice 3 (Kd.int .i64)) 32 w' w1.heap.size (fun k_ => (w1.heap.size ≤ k_)) v0_ q0 ∧ IsS50 w w' w.heap.size l0 q2 q3 ∧ Below w.heap.size w w' ∧ Qp w1 w' w.heap.size none := by
  have HI0 := Qa.mk hI
  have HK := Qa.mk (Qp.refl w1 w.heap.size none)
  have HL := Qa.mk hB.size
  clear hI
  have HW0 := Qa.mk hB.size
  have HB := Qa.mk hB
  clear hB
  have H : ((Qc1.f k l0 0 0).bind fun bt360 => ((Qe.f l0 bt360.2.1 bt360.2.2 18).bind fun bt365 => ((Qe.f l0 bt365.2.1 bt365.2.2 9).bind fun bt368 => (some (bt360.1, wrap64 (bt365.1 - (wrap64 (Int.tdiv bt368.1 8))), bt368.2.1, bt368.2.2))))) = some (q0, q1, q2, q3) := h
  clear h
  replace H := Option.bind_eq_some_iff.mp H
  obtain ⟨⟨t360, t363, t364⟩, A20, H⟩ := H
  replace H : ((Qe.f l0 t363 t364 18).bind fun bt365 => ((Qe.f l0 bt365.2.1 bt365.2.2 9).bind fun bt368 => (some (t360, wrap64 (bt365.1 - (wrap64 (Int.tdiv bt368.1 8))), bt368.2.1, bt368.2.2)))) = some (q0, q1, q2, q3) := H
  have A2 := Qa.mk A20
  clear A20
  replace H := Option.bind_eq_some_iff.mp H
  obtain ⟨⟨t365, t366, t367⟩, A30, H⟩ := H
  replace H : ((Qe.f l0 t366 t367 9).bind fun bt368 => (some (t360, wrap64 (t365 - (wrap64 (Int.tdiv bt368.1 8))), bt368.2.1, bt368.2.2))) = some (q0, q1, q2, q3) := H
  have A3 := Qa.mk A30
  clear A30
  replace H := Option.bind_eq_some_iff.mp H
  obtain ⟨⟨t368, t369, t370⟩, A40, H⟩ := H
  replace H : (some (t360, wrap64 (t365 - (wrap64 (Int.tdiv t368 8))), t369, t370)) = some (q0, q1, q2, q3) := H
  have A4 := Qa.mk A40
  clear A40
  simp only [Option.some.injEq, Prod.mk.injEq] at H
  obtain ⟨rfl, rfl, rfl, rfl⟩ := H
  go_enter Tryz.func14, Tryz.ntmps14
  go_upto_region 2 with (fail)
  rw [← hw1]
  have HW1 := Qa.mk hw1
  clear hw1
  go_wp2_with (first | ((with_reducible refine Qg (f := 30) rfl ?_); refine goesL_ (some 9) rfl rfl Tryz.func30 (by kernel_rfl) rfl #[.pointer (some ⟨w.heap.size, 0, none⟩)] rfl (by (try simp only [List.map_toArray, List.map_cons, List.map_nil]); rfl) ?_; (with_reducible refine (Qc1.calls k w.heap.size l0 0 0 t360 t363 t364 w _ ?side1 ?side2 A2.out).mono ?_); (case side1 => repeat ((with_reducible (exact HI0.out)))); (case side2 => repeat ((with_reducible (exact HB.out)))); rintro e w5 ⟨v361, rfl, ho0, hi, hb, hk⟩; refine ⟨_, rfl, ?_⟩; have n0_ := Qa.mk (Kd.N_lower (Kd.N_mono (ok' := fun k_ => (w1.heap.size ≤ k_) ∧ k_ ≠ w.heap.size) ho0 (fun k_ hk_ => ⟨(Nat.le_trans (keep_size (w := w1) (g := w.heap.size) (row := none) (by repeat ((with_reducible (exact HK.out))))) hk_), (IsS50.fresh (by repeat ((with_reducible (exact HI0.out)))) k_ hk_)⟩)) (keep_size (w := w1) (g := w.heap.size) (row := none) (by repeat ((with_reducible (exact HK.out)))))); have n1_ := Qa.mk (Qp.trans (by repeat ((with_reducible (exact HK.out)))) hk (.inl rfl)); have n2_ := Qa.mk (hb); have n3_ := Qa.mk (hi); clear HK; clear HB; clear HI0; have HO362 := n0_; have HK := n1_; have HB := n2_; have HI0 := n3_; clear n0_ n1_ n2_ n3_; (try clear hb); (try clear hb2); (try clear hk); (try clear hi); (try clear ho0)) | ((with_reducible refine Qg (f := 36) rfl ?_); refine goesL_ (some 11) rfl rfl Tryz.func36 (by kernel_rfl) rfl #[.pointer (some ⟨w.heap.size, 0, none⟩), .int .i64 18] rfl (by (try simp only [List.map_toArray, List.map_cons, List.map_nil]); rfl) ?_; (with_reducible refine (Qe.calls w.heap.size l0 t363 t364 18 t365 t366 t367 w _ ?side1 ?side2 A3.out).mono ?_); (case side1 => repeat ((with_reducible (exact HI0.out)))); (case side2 => repeat ((with_reducible (exact HB.out)))); rintro e w6 ⟨rfl, hi, hb, hk⟩; refine ⟨_, rfl, ?_⟩; have n0_ := Qa.mk (Kd.N_mono (Kd.N_keep (Kd.N_mono (ok := fun k_ => (((w1.heap.size ≤ k_)) ∧ k_ ≠ w.heap.size)) (by (with_reducible repeat (fail)); exact HO362.out) (fun k_ hk_ => (⟨hk_, hk_.2⟩ : _ ∧ k_ ≠ w.heap.size))) hk (fun _ h => h.2)) (fun _ h => h.1)); have n1_ := Qa.mk (Qp.trans (by repeat ((with_reducible (exact HK.out)))) hk (.inl rfl)); have n2_ := Qa.mk (hb); have n3_ := Qa.mk (hi); clear HO362; clear HK; clear HB; clear HI0; have HO362 := n0_; have HK := n1_; have HB := n2_; have HI0 := n3_; clear n0_ n1_ n2_ n3_; (try clear hb); (try clear hb2); (try clear hk); (try clear hi)) | ((with_reducible refine Qg (f := 36) rfl ?_); refine goesL_ (some 13) rfl rfl Tryz.func36 (by kernel_rfl) rfl #[.pointer (some ⟨w.heap.size, 0, none⟩), .int .i64 9] rfl (by (try simp only [List.map_toArray, List.map_cons, List.map_nil]); rfl) ?_; (with_reducible refine (Qe.calls w.heap.size l0 t366 t367 9 t368 t369 t370 w _ ?side1 ?side2 A4.out).mono ?_); (case side1 => repeat ((with_reducible (exact HI0.out)))); (case side2 => repeat ((with_reducible (exact HB.out)))); rintro e w7 ⟨rfl, hi, hb, hk⟩; refine ⟨_, rfl, ?_⟩; have n0_ := Qa.mk (Kd.N_mono (Kd.N_keep (Kd.N_mono (ok := fun k_ => (((w1.heap.size ≤ k_)) ∧ k_ ≠ w.heap.size)) (by (with_reducible repeat (fail)); exact HO362.out) (fun k_ hk_ => (⟨hk_, hk_.2⟩ : _ ∧ k_ ≠ w.heap.size))) hk (fun _ h => h.2)) (fun _ h => h.1)); have n1_ := Qa.mk (Qp.trans (by repeat ((with_reducible (exact HK.out)))) hk (.inl rfl)); have n2_ := Qa.mk (hb); have n3_ := Qa.mk (hi); clear HO362; clear HK; clear HB; clear HI0; have HO362 := n0_; have HK := n1_; have HB := n2_; have HI0 := n3_; clear n0_ n1_ n2_ n3_; (try clear hb); (try clear hb2); (try clear hk); (try clear hi)))
  go_ret2
  exact ⟨_, by rfl, by (with_reducible repeat (fail)); exact Kd.N_mono HO362.out (fun _ hk => hk.1), by repeat ((with_reducible (exact HI0.out))), by repeat ((with_reducible (exact HB.out))), by repeat ((with_reducible (exact HK.out)))⟩
 refine main.mono fun e w' ⟨v, he, hN, _, hb, _⟩ => ⟨v, he, Kd.N_mono (Kd.N_lower hN hB.size) (fun k_ hk => Nat.le_trans hB.size hk), hb⟩
def Qu2.f (k : Nat) (s0_0 : List Int) (s0_1 : Int) (s0_2 : Int) : Option ((List (List Int)) × Int × Int × Int × Int) := (Qc1.f k s0_0 s0_1 s0_2).bind fun bt378 => ((Qe.f s0_0 bt378.2.1 bt378.2.2 4).bind fun bt383 => ((Qe.f s0_0 bt383.2.1 bt383.2.2 9).bind fun bt386 => ((Qe.f s0_0 bt386.2.1 bt386.2.2 4).bind fun bt389 => (some (bt378.1, wrap64 (bt383.1 - (wrap64 (Int.tdiv bt386.1 8))), bt389.1, bt389.2.1, bt389.2.2)))))
def Qa2.f (k : Nat) (l0 : List Int) : Option (List (List Int) × Int × Int) := (Qu2.f k l0 0 0).bind fun t => some (t.1, t.2.1, t.2.2.1)
set_option maxHeartbeats 8000000 in
set_option maxRecDepth 100000 in
theorem Qa2.calls (k : Nat) (A0 : Option Addr) (c0 : Nat) (l0 : List Int) (r1 : List (List Int)) (r2 : Int) (r3 : Int) (w : World) (hr0 : Kd.C (Kd.int .u8) w A0 l0.length l0) (hc0 : l0.length ≤ c0) (h : Qa2.f k l0 = some (r1, r2, r3)) :
  Calls Tryz.prog 16 #[.slice A0 l0.length c0] w fun e w' => ∃ v0_ : Value, e = .returned (.tuple #[v0_, .int .i64 r2, .int .i64 r3]) ∧ Kd.N (Kd.slice 3 (Kd.int .i64)) 32 w' w.heap.size (fun k_ => (w.heap.size ≤ k_)) v0_ r1 ∧ Below w.heap.size w w' := by
 unfold Qa2.f at h
 obtain ⟨⟨q0, q1, q2, q3, q4⟩, h1, hr⟩ := Option.bind_eq_some_iff.1 h
 clear h
 simp only [Option.some.injEq, Prod.mk.injEq] at hr
 obtain ⟨rfl, rfl, rfl⟩ := hr
 obtain ⟨w1, hw1⟩ : ∃ x, x = w.alloc (.cells #[.slice A0 l0.length c0, .int .i64 0, .int .u64 0] 50) := ⟨_, rfl⟩
 have hI : IsS50 w w1 w.heap.size l0 0 0 := by rw [hw1]; exact IsS50.new w w A0 c0 l0 0 0 (Below.refl _ _) hr0
 have hB : Below w.heap.size w w1 := by rw [hw1]; exact below_alloc (Below.refl _ _) _
 have h := h1
 clear h1
 have main : Calls Tryz.prog 16 #[.slice A0 l0.length c0] w fun e w' => ∃ v0_ : Value, e = .returned (.tuple #[v0_, .int .i64 q1, .int .i64 q2]) ∧ Kd.N (Kd.slice 3 (Kd.int .i64)) 32 w' w1.heap.size (fun k_ => (w1.heap.size ≤ k_)) v0_ q0 ∧ IsS50 w w' w.heap.size l0 q3 q4 ∧ Below w.heap.size w w' ∧ Qp w1 w' w.heap.size none := by
  have HI0 := Qa.mk hI
  have HK := Qa.mk (Qp.refl w1 w.heap.size none)
  have HL := Qa.mk hB.size
  clear hI
  have HW0 := Qa.mk hB.size
  have HB := Qa.mk hB
  clear hB
  have H : ((Qc1.f k l0 0 0).bind fun bt378 => ((Qe.f l0 bt378.2.1 bt378.2.2 4).bind fun bt383 => ((Qe.f l0 bt383.2.1 bt383.2.2 9).bind fun bt386 => ((Qe.f l0 bt386.2.1 bt386.2.2 4).bind fun bt389 => (some (bt378.1, wrap64 (bt383.1 - (wrap64 (Int.tdiv bt386.1 8))), bt389.1, bt389.2.1, bt389.2.2)))))) = some (q0, q1, q2, q3, q4) := h
  clear h
  replace H := Option.bind_eq_some_iff.mp H
  obtain ⟨⟨t378, t381, t382⟩, A20, H⟩ := H
  replace H : ((Qe.f l0 t381 t382 4).bind fun bt383 => ((Qe.f l0 bt383.2.1 bt383.2.2 9).bind fun bt386 => ((Qe.f l0 bt386.2.1 bt386.2.2 4).bind fun bt389 => (some (t378, wrap64 (bt383.1 - (wrap64 (Int.tdiv bt386.1 8))), bt389.1, bt389.2.1, bt389.2.2))))) = some (q0, q1, q2, q3, q4) := H
  have A2 := Qa.mk A20
  clear A20
  replace H := Option.bind_eq_some_iff.mp H
  obtain ⟨⟨t383, t384, t385⟩, A30, H⟩ := H
  replace H : ((Qe.f l0 t384 t385 9).bind fun bt386 => ((Qe.f l0 bt386.2.1 bt386.2.2 4).bind fun bt389 => (some (t378, wrap64 (t383 - (wrap64 (Int.tdiv bt386.1 8))), bt389.1, bt389.2.1, bt389.2.2)))) = some (q0, q1, q2, q3, q4) := H
  have A3 := Qa.mk A30
  clear A30
  replace H := Option.bind_eq_some_iff.mp H
  obtain ⟨⟨t386, t387, t388⟩, A40, H⟩ := H
  replace H : ((Qe.f l0 t387 t388 4).bind fun bt389 => (some (t378, wrap64 (t383 - (wrap64 (Int.tdiv t386 8))), bt389.1, bt389.2.1, bt389.2.2))) = some (q0, q1, q2, q3, q4) := H
  have A4 := Qa.mk A40
  clear A40
  replace H := Option.bind_eq_some_iff.mp H
  obtain ⟨⟨t389, t390, t391⟩, A50, H⟩ := H
  replace H : (some (t378, wrap64 (t383 - (wrap64 (Int.tdiv t386 8))), t389, t390, t391)) = some (q0, q1, q2, q3, q4) := H
  have A5 := Qa.mk A50
  clear A50
  simp only [Option.some.injEq, Prod.mk.injEq] at H
  obtain ⟨rfl, rfl, rfl, rfl, rfl⟩ := H
  go_enter Tryz.func16, Tryz.ntmps16
  go_upto_region 2 with (fail)
  rw [← hw1]
  have HW1 := Qa.mk hw1
  clear hw1
  go_wp2_with (first | ((with_reducible refine Qg (f := 30) rfl ?_); refine goesL_ (some 10) rfl rfl Tryz.func30 (by kernel_rfl) rfl #[.pointer (some ⟨w.heap.size, 0, none⟩)] rfl (by (try simp only [List.map_toArray, List.map_cons, List.map_nil]); rfl) ?_; (with_reducible refine (Qc1.calls k w.heap.size l0 0 0 t378 t381 t382 w _ ?side1 ?side2 A2.out).mono ?_); (case side1 => repeat ((with_reducible (exact HI0.out)))); (case side2 => repeat ((with_reducible (exact HB.out)))); rintro e w6 ⟨v379, rfl, ho0, hi, hb, hk⟩; refine ⟨_, rfl, ?_⟩; have n0_ := Qa.mk (Kd.N_lower (Kd.N_mono (ok' := fun k_ => (w1.heap.size ≤ k_) ∧ k_ ≠ w.heap.size) ho0 (fun k_ hk_ => ⟨(Nat.le_trans (keep_size (w := w1) (g := w.heap.size) (row := none) (by repeat ((with_reducible (exact HK.out))))) hk_), (IsS50.fresh (by repeat ((with_reducible (exact HI0.out)))) k_ hk_)⟩)) (keep_size (w := w1) (g := w.heap.size) (row := none) (by repeat ((with_reducible (exact HK.out)))))); have n1_ := Qa.mk (Qp.trans (by repeat ((with_reducible (exact HK.out)))) hk (.inl rfl)); have n2_ := Qa.mk (hb); have n3_ := Qa.mk (hi); clear HK; clear HB; clear HI0; have HO380 := n0_; have HK := n1_; have HB := n2_; have HI0 := n3_; clear n0_ n1_ n2_ n3_; (try clear hb); (try clear hb2); (try clear hk); (try clear hi); (try clear ho0)) | ((with_reducible refine Qg (f := 36) rfl ?_); refine goesL_ (some 12) rfl rfl Tryz.func36 (by kernel_rfl) rfl #[.pointer (some ⟨w.heap.size, 0, none⟩), .int .i64 4] rfl (by (try simp only [List.map_toArray, List.map_cons, List.map_nil]); rfl) ?_; (with_reducible refine (Qe.calls w.heap.size l0 t381 t382 4 t383 t384 t385 w _ ?side1 ?side2 A3.out).mono ?_); (case side1 => repeat ((with_reducible (exact HI0.out)))); (case side2 => repeat ((with_reducible (exact HB.out)))); rintro e w7 ⟨rfl, hi, hb, hk⟩; refine ⟨_, rfl, ?_⟩; have n0_ := Qa.mk (Kd.N_mono (Kd.N_keep (Kd.N_mono (ok := fun k_ => (((w1.heap.size ≤ k_)) ∧ k_ ≠ w.heap.size)) (by (with_reducible repeat (fail)); exact HO380.out) (fun k_ hk_ => (⟨hk_, hk_.2⟩ : _ ∧ k_ ≠ w.heap.size))) hk (fun _ h => h.2)) (fun _ h => h.1)); have n1_ := Qa.mk (Qp.trans (by repeat ((with_reducible (exact HK.out)))) hk (.inl rfl)); have n2_ := Qa.mk (hb); have n3_ := Qa.mk (hi); clear HO380; clear HK; clear HB; clear HI0; have HO380 := n0_; have HK := n1_; have HB := n2_; have HI0 := n3_; clear n0_ n1_ n2_ n3_; (try clear hb); (try clear hb2); (try clear hk); (try clear hi)) | ((with_reducible refine Qg (f := 36) rfl ?_); refine goesL_ (some 14) rfl rfl Tryz.func36 (by kernel_rfl) rfl #[.pointer (some ⟨w.heap.size, 0, none⟩), .int .i64 9] rfl (by (try simp only [List.map_toArray, List.map_cons, List.map_nil]); rfl) ?_; (with_reducible refine (Qe.calls w.heap.size l0 t384 t385 9 t386 t387 t388 w _ ?side1 ?side2 A4.out).mono ?_); (case side1 => repeat ((with_reducible (exact HI0.out)))); (case side2 => repeat ((with_reducible (exact HB.out)))); rintro e w8 ⟨rfl, hi, hb, hk⟩; refine ⟨_, rfl, ?_⟩; have n0_ := Qa.mk (Kd.N_mono (Kd.N_keep (Kd.N_mono (ok := fun k_ => (((w1.heap.size ≤ k_)) ∧ k_ ≠ w.heap.size)) (by (with_reducible repeat (fail)); exact HO380.out) (fun k_ hk_ => (⟨hk_, hk_.2⟩ : _ ∧ k_ ≠ w.heap.size))) hk (fun _ h => h.2)) (fun _ h => h.1)); have n1_ := Qa.mk (Qp.trans (by repeat ((with_reducible (exact HK.out)))) hk (.inl rfl)); have n2_ := Qa.mk (hb); have n3_ := Qa.mk (hi); clear HO380; clear HK; clear HB; clear HI0; have HO380 := n0_; have HK := n1_; have HB := n2_; have HI0 := n3_; clear n0_ n1_ n2_ n3_; (try clear hb); (try clear hb2); (try clear hk); (try clear hi)) | ((with_reducible refine Qg (f := 36) rfl ?_); refine goesL_ (some 18) rfl rfl Tryz.func36 (by kernel_rfl) rfl #[.pointer (some ⟨w.heap.size, 0, none⟩), .int .i64 4] rfl (by (try simp only [List.map_toArray, List.map_cons, List.map_nil]); rfl) ?_; (with_reducible refine (Qe.calls w.heap.size l0 t387 t388 4 t389 t390 t391 w _ ?side1 ?side2 A5.out).mono ?_); (case side1 => repeat ((with_reducible (exact HI0.out)))); (case side2 => repeat ((with_reducible (exact HB.out)))); rintro e w9 ⟨rfl, hi, hb, hk⟩; refine ⟨_, rfl, ?_⟩; have n0_ := Qa.mk (Kd.N_mono (Kd.N_keep (Kd.N_mono (ok := fun k_ => (((w1.heap.size ≤ k_)) ∧ k_ ≠ w.heap.size)) (by (with_reducible repeat (fail)); exact HO380.out) (fun k_ hk_ => (⟨hk_, hk_.2⟩ : _ ∧ k_ ≠ w.heap.size))) hk (fun _ h => h.2)) (fun _ h => h.1)); have n1_ := Qa.mk (Qp.trans (by repeat ((with_reducible (exact HK.out)))) hk (.inl rfl)); have n2_ := Qa.mk (hb); have n3_ := Qa.mk (hi); clear HO380; clear HK; clear HB; clear HI0; have HO380 := n0_; have HK := n1_; have HB := n2_; have HI0 := n3_; clear n0_ n1_ n2_ n3_; (try clear hb); (try clear hb2); (try clear hk); (try clear hi)))
  go_ret3
  exact ⟨_, by rfl, by (with_reducible repeat (fail)); exact Kd.N_mono HO380.out (fun _ hk => hk.1), by repeat ((with_reducible (exact HI0.out))), by repeat ((with_reducible (exact HB.out))), by repeat ((with_reducible (exact HK.out)))⟩
 
 -- given: function 77 (slices_Clone_int_int)
 refine main.mono fun e w' ⟨v, he, hN, _, hb, _⟩ => ⟨v, he, Kd.N_mono (Kd.N_lower hN hB.size) (fun k_ hk => Nat.le_trans hB.size hk), hb⟩
def Qt2.f (s0_0 : List Int) (s0_1 : Int) (s0_2 : Int) : Option (Int × Int × Int × Int) := (Qe.f s0_0 s0_1 s0_2 6).bind fun bt426 => ((Qe.f s0_0 bt426.2.1 bt426.2.2 7).bind fun bt429 => (some (bt426.1, bt429.1, bt429.2.1, bt429.2.2)))
def Qs1.f (l0 : List Int) : Option (Int × Int) := (Qt2.f l0 0 0).bind fun t => some (t.1, t.2.1)
set_option maxHeartbeats 8000000 in
set_option maxRecDepth 100000 in
theorem Qs1.calls (A0 : Option Addr) (c0 : Nat) (l0 : List Int) (r1 : Int) (r2 : Int) (w : World) (hr0 : Kd.C (Kd.int .u8) w A0 l0.length l0) (hc0 : l0.length ≤ c0) (h : Qs1.f l0 = some (r1, r2)) :
  Calls Tryz.prog 19 #[.slice A0 l0.length c0] w fun e w' => e = .returned (.tuple #[.int .i64 r1, .int .i64 r2]) ∧ Below w.heap.size w w' := by
 unfold Qs1.f at h
 obtain ⟨⟨q0, q1, q2, q3⟩, h1, hr⟩ := Option.bind_eq_some_iff.1 h
 clear h
 simp only [Option.some.injEq, Prod.mk.injEq] at hr
 obtain ⟨rfl, rfl⟩ := hr
 obtain ⟨w1, hw1⟩ : ∃ x, x = w.alloc (.cells #[.slice A0 l0.length c0, .int .i64 0, .int .u64 0] 50) := ⟨_, rfl⟩
 have hI : IsS50 w w1 w.heap.size l0 0 0 := by rw [hw1]; exact IsS50.new w w A0 c0 l0 0 0 (Below.refl _ _) hr0
 have hB : Below w.heap.size w w1 := by rw [hw1]; exact below_alloc (Below.refl _ _) _
 have h := h1
 clear h1
 have main : Calls Tryz.prog 19 #[.slice A0 l0.length c0] w fun e w' => e = .returned (.tuple #[.int .i64 q0, .int .i64 q1]) ∧ IsS50 w w' w.heap.size l0 q2 q3 ∧ Below w.heap.size w w' ∧ Qp w1 w' w.heap.size none := by
  have HI0 := Qa.mk hI
  have HK := Qa.mk (Qp.refl w1 w.heap.size none)
  have HL := Qa.mk hB.size
  clear hI
  have HW0 := Qa.mk hB.size
  have HB := Qa.mk hB
  clear hB
  have H : ((Qe.f l0 0 0 6).bind fun bt426 => ((Qe.f l0 bt426.2.1 bt426.2.2 7).bind fun bt429 => (some (bt426.1, bt429.1, bt429.2.1, bt429.2.2)))) = some (q0, q1, q2, q3) := h
  clear h
  replace H := Option.bind_eq_some_iff.mp H
  obtain ⟨⟨t426, t427, t428⟩, A20, H⟩ := H
  replace H : ((Qe.f l0 t427 t428 7).bind fun bt429 => (some (t426, bt429.1, bt429.2.1, bt429.2.2))) = some (q0, q1, q2, q3) := H
  have A2 := Qa.mk A20
  clear A20
  replace H := Option.bind_eq_some_iff.mp H
  obtain ⟨⟨t429, t430, t431⟩, A30, H⟩ := H
  replace H : (some (t426, t429, t430, t431)) = some (q0, q1, q2, q3) := H
  have A3 := Qa.mk A30
  clear A30
  simp only [Option.some.injEq, Prod.mk.injEq] at H
  obtain ⟨rfl, rfl, rfl, rfl⟩ := H
  go_enter Tryz.func19, Tryz.ntmps19
  go_upto_region 2 with (fail)
  rw [← hw1]
  have HW1 := Qa.mk hw1
  clear hw1
  go_wp2_with (first | ((with_reducible refine Qg (f := 36) rfl ?_); refine goesL_ (some 9) rfl rfl Tryz.func36 (by kernel_rfl) rfl #[.pointer (some ⟨w.heap.size, 0, none⟩), .int .i64 6] rfl (by (try simp only [List.map_toArray, List.map_cons, List.map_nil]); rfl) ?_; (with_reducible refine (Qe.calls w.heap.size l0 0 0 6 t426 t427 t428 w _ ?side1 ?side2 A2.out).mono ?_); (case side1 => repeat ((with_reducible (exact HI0.out)))); (case side2 => repeat ((with_reducible (exact HB.out)))); rintro e w4 ⟨rfl, hi, hb, hk⟩; refine ⟨_, rfl, ?_⟩; have n0_ := Qa.mk (Qp.trans (by repeat ((with_reducible (exact HK.out)))) hk (.inl rfl)); have n1_ := Qa.mk (hb); have n2_ := Qa.mk (hi); clear HK; clear HB; clear HI0; have HK := n0_; have HB := n1_; have HI0 := n2_; clear n0_ n1_ n2_; (try clear hb); (try clear hb2); (try clear hk); (try clear hi)) | ((with_reducible refine Qg (f := 36) rfl ?_); refine goesL_ (some 11) rfl rfl Tryz.func36 (by kernel_rfl) rfl #[.pointer (some ⟨w.heap.size, 0, none⟩), .int .i64 7] rfl (by (try simp only [List.map_toArray, List.map_cons, List.map_nil]); rfl) ?_; (with_reducible refine (Qe.calls w.heap.size l0 t427 t428 7 t429 t430 t431 w _ ?side1 ?side2 A3.out).mono ?_); (case side1 => repeat ((with_reducible (exact HI0.out)))); (case side2 => repeat ((with_reducible (exact HB.out)))); rintro e w5 ⟨rfl, hi, hb, hk⟩; refine ⟨_, rfl, ?_⟩; have n0_ := Qa.mk (Qp.trans (by repeat ((with_reducible (exact HK.out)))) hk (.inl rfl)); have n1_ := Qa.mk (hb); have n2_ := Qa.mk (hi); clear HK; clear HB; clear HI0; have HK := n0_; have HB := n1_; have HI0 := n2_; clear n0_ n1_ n2_; (try clear hb); (try clear hb2); (try clear hk); (try clear hi)))
  go_ret2
  exact ⟨by rfl, by (try simp only [Int.add_zero]); repeat ((with_reducible (exact HI0.out))), by repeat ((with_reducible (exact HB.out))), by repeat ((with_reducible (exact HK.out)))⟩
 
 -- given: function 20 (Qi1)
 exact main.mono fun e w' ⟨he, _, hb, _⟩ => ⟨he, hb⟩
def Qw2.f (k : Nat) (s0_0 : List Int) (s0_1 : Int) (s0_2 : Int) : Option (ByteArray × Int × Int) := (Qn.f k s0_0 s0_1 s0_2).bind fun bt516 => ((Qy.f k bt516.1).bind fun t521 => ((Qm1.f s0_0 bt516.2.1 bt516.2.2 3).bind fun bt522 => (if bt522.1 = true then ((Ql.f k s0_0 bt522.2.1 bt522.2.2 t521 (⟨#[48, 49, 50, 51, 44, 47, 120]⟩ : ByteArray)).bind fun bt525 => (some (bt525.1, bt525.2.1, bt525.2.2))) else (some (t521, bt522.2.1, bt522.2.2)))))
def Qb2.f (k : Nat) (l0 : List Int) : Option (ByteArray) := (Qw2.f k l0 0 0).bind fun t => some t.1
set_option maxHeartbeats 8000000 in
set_option maxRecDepth 100000 in
theorem Qb2.calls (k : Nat) (A0 : Option Addr) (c0 : Nat) (l0 : List Int) (r1 : ByteArray) (w : World) (hr0 : Kd.C (Kd.int .u8) w A0 l0.length l0) (hc0 : l0.length ≤ c0) (h : Qb2.f k l0 = some r1) :
  Calls Tryz.prog 26 #[.slice A0 l0.length c0] w fun e w' => e = .returned (.string r1) ∧ Below w.heap.size w w' := by
 unfold Qb2.f at h
 obtain ⟨⟨q0, q1, q2⟩, h1, hr⟩ := Option.bind_eq_some_iff.1 h
 clear h
 obtain rfl : q0 = r1 := Option.some.inj hr
 obtain ⟨w1, hw1⟩ : ∃ x, x = w.alloc (.cells #[.slice A0 l0.length c0, .int .i64 0, .int .u64 0] 50) := ⟨_, rfl⟩
 have hI : IsS50 w w1 w.heap.size l0 0 0 := by rw [hw1]; exact IsS50.new w w A0 c0 l0 0 0 (Below.refl _ _) hr0
 have hB : Below w.heap.size w w1 := by rw [hw1]; exact below_alloc (Below.refl _ _) _
 have h := h1
 clear h1
 have main : Calls Tryz.prog 26 #[.slice A0 l0.length c0] w fun e w' => e = .returned (.string q0) ∧ IsS50 w w' w.heap.size l0 q1 q2 ∧ Below w.heap.size w w' ∧ Qp w1 w' w.heap.size none := by
  have HI0 := Qa.mk hI
  have HK := Qa.mk (Qp.refl w1 w.heap.size none)
  have HL := Qa.mk hB.size
  clear hI
  have HW0 := Qa.mk hB.size
  have HB := Qa.mk hB
  clear hB
  have H : ((Qn.f k l0 0 0).bind fun bt516 => ((Qy.f k bt516.1).bind fun t521 => ((Qm1.f l0 bt516.2.1 bt516.2.2 3).bind fun bt522 => (if bt522.1 = true then ((Ql.f k l0 bt522.2.1 bt522.2.2 t521 (⟨#[48, 49, 50, 51, 44, 47, 120]⟩ : ByteArray)).bind fun bt525 => (some (bt525.1, bt525.2.1, bt525.2.2))) else (some (t521, bt522.2.1, bt522.2.2)))))) = some (q0, q1, q2) := h
  clear h
  replace H := Option.bind_eq_some_iff.mp H
  obtain ⟨⟨t516, t519, t520⟩, A20, H⟩ := H
  replace H : ((Qy.f k t516).bind fun t521 => ((Qm1.f l0 t519 t520 3).bind fun bt522 => (if bt522.1 = true then ((Ql.f k l0 bt522.2.1 bt522.2.2 t521 (⟨#[48, 49, 50, 51, 44, 47, 120]⟩ : ByteArray)).bind fun bt525 => (some (bt525.1, bt525.2.1, bt525.2.2))) else (some (t521, bt522.2.1, bt522.2.2))))) = some (q0, q1, q2) := H
  have A2 := Qa.mk A20
  clear A20
  replace H := Option.bind_eq_some_iff.mp H
  obtain ⟨t521, A30, H⟩ := H
  replace H : ((Qm1.f l0 t519 t520 3).bind fun bt522 => (if bt522.1 = true then ((Ql.f k l0 bt522.2.1 bt522.2.2 t521 (⟨#[48, 49, 50, 51, 44, 47, 120]⟩ : ByteArray)).bind fun bt525 => (some (bt525.1, bt525.2.1, bt525.2.2))) else (some (t521, bt522.2.1, bt522.2.2)))) = some (q0, q1, q2) := H
  have A3 := Qa.mk A30
  clear A30
  replace H := Option.bind_eq_some_iff.mp H
  obtain ⟨⟨t522, t523, t524⟩, A40, H⟩ := H
  replace H : (if t522 = true then ((Ql.f k l0 t523 t524 t521 (⟨#[48, 49, 50, 51, 44, 47, 120]⟩ : ByteArray)).bind fun bt525 => (some (bt525.1, bt525.2.1, bt525.2.2))) else (some (t521, t523, t524))) = some (q0, q1, q2) := H
  have A4 := Qa.mk A40
  clear A40
  by_cases c5 : t522 = true
  rotate_left
  ·replace c5 := Bool.eq_false_iff.mpr c5
   subst c5
   have H1 : (some (t521, t523, t524)) = some (q0, q1, q2) := by rw [if_neg (show ¬ (false = true) by decide)] at H; exact H
   clear H
   have H := H1
   clear H1
   simp only [Option.some.injEq, Prod.mk.injEq] at H
   obtain ⟨rfl, rfl, rfl⟩ := H
   go_enter Tryz.func26, Tryz.ntmps26
   go_upto_region 2 with (fail)
   rw [← hw1]
   have HW1 := Qa.mk hw1
   clear hw1
   go_wp2_with (first | ((with_reducible refine Qg (f := 58) rfl ?_); refine goesL_ (some 9) rfl rfl Tryz.func58 (by kernel_rfl) rfl #[.pointer (some ⟨w.heap.size, 0, none⟩)] rfl (by (try simp only [List.map_toArray, List.map_cons, List.map_nil]); rfl) ?_; (with_reducible refine (Qn.calls k w.heap.size l0 0 0 t516 t519 t520 w _ ?side1 ?side2 A2.out).mono ?_); (case side1 => repeat ((with_reducible (exact HI0.out)))); (case side2 => repeat ((with_reducible (exact HB.out)))); rintro e w12 ⟨v517, rfl, ho0, hi, hb, hk⟩; refine ⟨_, rfl, ?_⟩; have n0_ := Qa.mk (Kd.S_lower ho0 (keep_size (w := w1) (g := w.heap.size) (row := none) (by repeat ((with_reducible (exact HK.out)))))); have n1_ := Qa.mk (Qp.trans (by repeat ((with_reducible (exact HK.out)))) hk (.inl rfl)); have n2_ := Qa.mk (hb); have n3_ := Qa.mk (hi); clear HK; clear HB; clear HI0; have HO518 := n0_; have HK := n1_; have HB := n2_; have HI0 := n3_; clear n0_ n1_ n2_ n3_; (try clear hb); (try clear hb2); (try clear hk); (try clear hi); (try clear ho0); obtain ⟨Ao13, co13, eo13⟩ := Kd.S_slice HO518.out; subst eo13) | ((with_reducible refine Qg (f := 57) rfl ?_); refine goesL_ (some 10) rfl rfl Tryz.func57 (by kernel_rfl) rfl #[.slice Ao13 t516.length co13] rfl (by (try simp only [List.map_toArray, List.map_cons, List.map_nil]); rfl) ?_; (with_reducible refine (Qy.calls k _ _ t516 t521 _ ?side1 ?side2 A3.out).mono ?_); (case side1 => repeat ((exact (Kd.S_reads' HO518.out).2.2))); (case side2 => exact (Kd.S_reads' HO518.out).2.1); rintro e w14 ⟨rfl, hb⟩; refine ⟨_, rfl, ?_⟩; have n0_ := Qa.mk (Kd.S_below (by (with_reducible repeat (fail)); exact HO518.out) hb); have n1_ := Qa.mk (IsS50.below (by repeat ((with_reducible (exact HI0.out)))) hb); have n2_ := Qa.mk (Qp.trans (by repeat ((with_reducible (exact HK.out)))) (Qp.of_below hb w.heap.size none) (.inl rfl)); have n3_ := Qa.mk (Qh (by repeat ((with_reducible (exact HB.out)))) hb); clear HO518; clear HI0; clear HK; clear HB; have HO518 := n0_; have HI0 := n1_; have HK := n2_; have HB := n3_; clear n0_ n1_ n2_ n3_; (try clear hb); (try clear hb2); (try clear hk); (try clear hi)) | ((with_reducible refine Qg (f := 32) rfl ?_); refine goesL_ (some 12) rfl rfl Tryz.func32 (by kernel_rfl) rfl #[.pointer (some ⟨w.heap.size, 0, none⟩), .int .i64 3] rfl (by (try simp only [List.map_toArray, List.map_cons, List.map_nil]); rfl) ?_; (with_reducible refine (Qm1.calls w.heap.size l0 t519 t520 3 false t523 t524 w _ ?side1 ?side2 A4.out).mono ?_); (case side1 => repeat ((with_reducible (exact HI0.out)))); (case side2 => repeat ((with_reducible (exact HB.out)))); rintro e w15 ⟨rfl, hi, hb, hk⟩; refine ⟨_, rfl, ?_⟩; have n0_ := Qa.mk (Kd.S_mono (Kd.S_keep (IsS50.apartS (show IsS50 w _ w.heap.size l0 t519 t520 from by repeat ((with_reducible (exact HI0.out)))) (by (with_reducible repeat (fail)); exact HO518.out) (by decide)) hk (fun _ h => h.2)) (fun _ h => h.1)); have n1_ := Qa.mk (Qp.trans (by repeat ((with_reducible (exact HK.out)))) hk (.inl rfl)); have n2_ := Qa.mk (hb); have n3_ := Qa.mk (hi); clear HO518; clear HK; clear HB; clear HI0; have HO518 := n0_; have HK := n1_; have HB := n2_; have HI0 := n3_; clear n0_ n1_ n2_ n3_; (try clear hb); (try clear hb2); (try clear hk); (try clear hi)))
   go_ret
   exact ⟨by rfl, by (try simp only [Int.add_zero]); repeat ((with_reducible (exact HI0.out))), by repeat ((with_reducible (exact HB.out))), by repeat ((with_reducible (exact HK.out)))⟩
  subst c5
  have H1 : ((Ql.f k l0 t523 t524 t521 (⟨#[48, 49, 50, 51, 44, 47, 120]⟩ : ByteArray)).bind fun bt525 => (some (bt525.1, bt525.2.1, bt525.2.2))) = some (q0, q1, q2) := by rw [if_pos rfl] at H; exact H
  clear H
  have H := H1
  clear H1
  replace H := Option.bind_eq_some_iff.mp H
  obtain ⟨⟨t525, t526, t527⟩, A60, H⟩ := H
  replace H : (some (t525, t526, t527)) = some (q0, q1, q2) := H
  have A6 := Qa.mk A60
  clear A60
  simp only [Option.some.injEq, Prod.mk.injEq] at H
  obtain ⟨rfl, rfl, rfl⟩ := H
  go_enter Tryz.func26, Tryz.ntmps26
  go_upto_region 2 with (fail)
  rw [← hw1]
  have HW1 := Qa.mk hw1
  clear hw1
  go_wp2_with (first | ((with_reducible refine Qg (f := 58) rfl ?_); refine goesL_ (some 9) rfl rfl Tryz.func58 (by kernel_rfl) rfl #[.pointer (some ⟨w.heap.size, 0, none⟩)] rfl (by (try simp only [List.map_toArray, List.map_cons, List.map_nil]); rfl) ?_; (with_reducible refine (Qn.calls k w.heap.size l0 0 0 t516 t519 t520 w _ ?side1 ?side2 A2.out).mono ?_); (case side1 => repeat ((with_reducible (exact HI0.out)))); (case side2 => repeat ((with_reducible (exact HB.out)))); rintro e w7 ⟨v517, rfl, ho0, hi, hb, hk⟩; refine ⟨_, rfl, ?_⟩; have n0_ := Qa.mk (Kd.S_lower ho0 (keep_size (w := w1) (g := w.heap.size) (row := none) (by repeat ((with_reducible (exact HK.out)))))); have n1_ := Qa.mk (Qp.trans (by repeat ((with_reducible (exact HK.out)))) hk (.inl rfl)); have n2_ := Qa.mk (hb); have n3_ := Qa.mk (hi); clear HK; clear HB; clear HI0; have HO518 := n0_; have HK := n1_; have HB := n2_; have HI0 := n3_; clear n0_ n1_ n2_ n3_; (try clear hb); (try clear hb2); (try clear hk); (try clear hi); (try clear ho0); obtain ⟨Ao8, co8, eo8⟩ := Kd.S_slice HO518.out; subst eo8) | ((with_reducible refine Qg (f := 57) rfl ?_); refine goesL_ (some 10) rfl rfl Tryz.func57 (by kernel_rfl) rfl #[.slice Ao8 t516.length co8] rfl (by (try simp only [List.map_toArray, List.map_cons, List.map_nil]); rfl) ?_; (with_reducible refine (Qy.calls k _ _ t516 t521 _ ?side1 ?side2 A3.out).mono ?_); (case side1 => repeat ((exact (Kd.S_reads' HO518.out).2.2))); (case side2 => exact (Kd.S_reads' HO518.out).2.1); rintro e w9 ⟨rfl, hb⟩; refine ⟨_, rfl, ?_⟩; have n0_ := Qa.mk (Kd.S_below (by (with_reducible repeat (fail)); exact HO518.out) hb); have n1_ := Qa.mk (IsS50.below (by repeat ((with_reducible (exact HI0.out)))) hb); have n2_ := Qa.mk (Qp.trans (by repeat ((with_reducible (exact HK.out)))) (Qp.of_below hb w.heap.size none) (.inl rfl)); have n3_ := Qa.mk (Qh (by repeat ((with_reducible (exact HB.out)))) hb); clear HO518; clear HI0; clear HK; clear HB; have HO518 := n0_; have HI0 := n1_; have HK := n2_; have HB := n3_; clear n0_ n1_ n2_ n3_; (try clear hb); (try clear hb2); (try clear hk); (try clear hi)) | ((with_reducible refine Qg (f := 32) rfl ?_); refine goesL_ (some 12) rfl rfl Tryz.func32 (by kernel_rfl) rfl #[.pointer (some ⟨w.heap.size, 0, none⟩), .int .i64 3] rfl (by (try simp only [List.map_toArray, List.map_cons, List.map_nil]); rfl) ?_; (with_reducible refine (Qm1.calls w.heap.size l0 t519 t520 3 true t523 t524 w _ ?side1 ?side2 A4.out).mono ?_); (case side1 => repeat ((with_reducible (exact HI0.out)))); (case side2 => repeat ((with_reducible (exact HB.out)))); rintro e w10 ⟨rfl, hi, hb, hk⟩; refine ⟨_, rfl, ?_⟩; have n0_ := Qa.mk (Kd.S_mono (Kd.S_keep (IsS50.apartS (show IsS50 w _ w.heap.size l0 t519 t520 from by repeat ((with_reducible (exact HI0.out)))) (by (with_reducible repeat (fail)); exact HO518.out) (by decide)) hk (fun _ h => h.2)) (fun _ h => h.1)); have n1_ := Qa.mk (Qp.trans (by repeat ((with_reducible (exact HK.out)))) hk (.inl rfl)); have n2_ := Qa.mk (hb); have n3_ := Qa.mk (hi); clear HO518; clear HK; clear HB; clear HI0; have HO518 := n0_; have HK := n1_; have HB := n2_; have HI0 := n3_; clear n0_ n1_ n2_ n3_; (try clear hb); (try clear hb2); (try clear hk); (try clear hi)) | ((with_reducible refine Qg (f := 59) rfl ?_); refine goesL_ (some 15) rfl rfl Tryz.func59 (by kernel_rfl) rfl #[.pointer (some ⟨w.heap.size, 0, none⟩), .string t521, .string (⟨#[48, 49, 50, 51, 44, 47, 120]⟩ : ByteArray)] rfl (by (try simp only [List.map_toArray, List.map_cons, List.map_nil]); rfl) ?_; (with_reducible refine (Ql.calls k w.heap.size l0 t523 t524 t521 (⟨#[48, 49, 50, 51, 44, 47, 120]⟩ : ByteArray) t525 t526 t527 w _ ?side1 ?side2 A6.out).mono ?_); (case side1 => repeat ((with_reducible (exact HI0.out)))); (case side2 => repeat ((with_reducible (exact HB.out)))); rintro e w11 ⟨rfl, hi, hb, hk⟩; refine ⟨_, rfl, ?_⟩; have n0_ := Qa.mk (Kd.S_mono (Kd.S_keep (IsS50.apartS (show IsS50 w _ w.heap.size l0 t523 t524 from by repeat ((with_reducible (exact HI0.out)))) (by (with_reducible repeat (fail)); exact HO518.out) (by decide)) hk (fun _ h => h.2)) (fun _ h => h.1)); have n1_ := Qa.mk (Qp.trans (by repeat ((with_reducible (exact HK.out)))) hk (.inl rfl)); have n2_ := Qa.mk (hb); have n3_ := Qa.mk (hi); clear HO518; clear HK; clear HB; clear HI0; have HO518 := n0_; have HK := n1_; have HB := n2_; have HI0 := n3_; clear n0_ n1_ n2_ n3_; (try clear hb); (try clear hb2); (try clear hk); (try clear hi)))
  go_ret
  exact ⟨by rfl, by (try simp only [Int.add_zero]); repeat ((with_reducible (exact HI0.out))), by repeat ((with_reducible (exact HB.out))), by repeat ((with_reducible (exact HK.out)))⟩
 
 -- given: function 60 (strings_Split)
 exact main.mono fun e w' ⟨he, _, hb, _⟩ => ⟨he, hb⟩
def Qo.j0 : Nat → List (List Int) → Bool → List Int → Int → Int → Option ((List (List Int)) × Int × Int × Int)
 | 0, _, _, _, _, _ => none
 | k + 1, x5, x17, x1000, x1001, x1002 => if x17 = true then ((Qq1.f k x5).bind fun t236 => ((Qd2.f k t236).bind fun t239 => ((Qm1.f x1000 x1001 x1002 2).bind fun bt242 => (if bt242.1 = true then ((Qp1.f k t239).bind fun t245 => (if 0 < (t239.length : Int) then ((Qe.f x1000 bt242.2.1 bt242.2.2 (wrap64 ((t239.length : Int) * ((rd_L2 t239 0).length : Int)))).bind fun bt249 => (if 0 ≤ bt249.1 then (if bt249.1 < (t245.length : Int) then (some (t239, rd t245 bt249.1, bt249.2.1, bt249.2.2)) else (none)) else (none))) else (none))) else ((Qt.f x1000 bt242.2.1 bt242.2.2 (([0, 1, 2, 3, 5, 50, 999, 1000, 1001, (-1)] : List Int))).bind fun bt256 => (some (t239, bt256.1, bt256.2.1, bt256.2.2))))))) else ((Qt.f x1000 x1001 x1002 (([0, 1, 2, 3, 5, 50, 999, 1000, 1001, (-1)] : List Int))).bind fun bt262 => (some (x5, bt262.1, bt262.2.1, bt262.2.2)))
def Qo.f (k : Nat) (s0_0 : List Int) (s0_1 : Int) (s0_2 : Int) : Option ((List (List Int)) × Int × Int × Int) := (Qc1.f k s0_0 s0_1 s0_2).bind fun bt227 => ((Qr.f k bt227.1).bind fun t232 => (if t232 = true then ((Qm1.f s0_0 bt227.2.1 bt227.2.2 6).bind fun bt233 => (Qo.j0 k bt227.1 (!bt233.1) s0_0 bt233.2.1 bt233.2.2)) else (Qo.j0 k bt227.1 false s0_0 bt227.2.1 bt227.2.2)))
def Qo.T6 : Bool × List (List Nat × List Nat) := (true, [([], []), ([], []), ([1], [1]), ([], []), ([], []), ([4], [4]), ([], []), ([6], [6]), ([7], [7]), ([8], [8]), ([5, 9], [5, 9]), ([3, 10, 2], [3, 10]), ([2, 11], [2, 11]), ([12], [12]), ([0, 11, 0], [0]), ([13, 14, 0, 1, 2, 3, 4, 5, 6, 7, 8, 9, 10, 11, 12, 13, 14], [13])])
def Qo.B6 : List Nat := [0, 0, 2, 0, 0, 16, 0, 64, 192, 448, 1008, 2046, 4094, 8190, 4095, 32767]
theorem Qo.tab6 : rtab .any (opsOf Tryz.f5 6) = Qo.T6 := by kernel_rfl
theorem Qo.bits6 : waitsOk Qo.T6.2 Qo.B6 = true := by kernel_rfl
def Qv1.f (k : Nat) (l0 : List Int) : Option (List (List Int) × Int) := (Qo.f k l0 0 0).bind fun t => some (t.1, t.2.1)
set_option maxHeartbeats 8000000 in
set_option maxRecDepth 100000 in
theorem Qv1.calls (k : Nat) (A0 : Option Addr) (c0 : Nat) (l0 : List Int) (r1 : List (List Int)) (r2 : Int) (w : World) (hr0 : Kd.C (Kd.int .u8) w A0 l0.length l0) (hc0 : l0.length ≤ c0) (h : Qv1.f k l0 = some (r1, r2)) :
  Calls Tryz.prog 5 #[.slice A0 l0.length c0] w fun e w' => ∃ v0_ : Value, e = .returned (.tuple #[v0_, .int .i64 r2]) ∧ Kd.N (Kd.slice 3 (Kd.int .i64)) 32 w' w.heap.size (fun k_ => (w.heap.size ≤ k_)) v0_ r1 ∧ Below w.heap.size w w' := by
 unfold Qv1.f at h
 obtain ⟨⟨q0, q1, q2, q3⟩, h1, hr⟩ := Option.bind_eq_some_iff.1 h
 clear h
 simp only [Option.some.injEq, Prod.mk.injEq] at hr
 obtain ⟨rfl, rfl⟩ := hr
 obtain ⟨w1, hw1⟩ : ∃ x, x = w.alloc (.cells #[.slice A0 l0.length c0, .int .i64 0, .int .u64 0] 50) := ⟨_, rfl⟩
 have hI : IsS50 w w1 w.heap.size l0 0 0 := by rw [hw1]; exact IsS50.new w w A0 c0 l0 0 0 (Below.refl _ _) hr0
 have hB : Below w.heap.size w w1 := by rw [hw1]; exact below_alloc (Below.refl _ _) _
 have h := h1
 clear h1
 have main : Calls Tryz.prog 5 #[.slice A0 l0.length c0] w fun e w' => ∃ v0_ : Value, e = .returned (.tuple #[v0_, .int .i64 q1]) ∧ Kd.N (Kd.slice 3 (Kd.int .i64)) 32 w' w1.heap.size (fun k_ => (w1.heap.size ≤ k_)) v0_ q0 ∧ IsS50 w w' w.heap.size l0 q2 q3 ∧ Below w.heap.size w w' ∧ Qp w1 w' w.heap.size none := by
  have HI0 := Qa.mk hI
  have HK := Qa.mk (Qp.refl w1 w.heap.size none)
  have HL := Qa.mk hB.size
  clear hI
  have HW0 := Qa.mk hB.size
  have HB := Qa.mk hB
  clear hB
  have H : ((Qc1.f k l0 0 0).bind fun bt227 => ((Qr.f k bt227.1).bind fun t232 => (if t232 = true then ((Qm1.f l0 bt227.2.1 bt227.2.2 6).bind fun bt233 => (Qo.j0 k bt227.1 (!bt233.1) l0 bt233.2.1 bt233.2.2)) else (Qo.j0 k bt227.1 false l0 bt227.2.1 bt227.2.2)))) = some (q0, q1, q2, q3) := h
  clear h
  replace H := Option.bind_eq_some_iff.mp H
  obtain ⟨⟨t227, t230, t231⟩, A20, H⟩ := H
  replace H : ((Qr.f k t227).bind fun t232 => (if t232 = true then ((Qm1.f l0 t230 t231 6).bind fun bt233 => (Qo.j0 k t227 (!bt233.1) l0 bt233.2.1 bt233.2.2)) else (Qo.j0 k t227 false l0 t230 t231))) = some (q0, q1, q2, q3) := H
  have A2 := Qa.mk A20
  clear A20
  have HC3 := Qa.mk H
  clear H
  go_enter Tryz.func5, Tryz.ntmps5
  go_upto_region 2 with (fail)
  rw [← hw1]
  have HW1 := Qa.mk hw1
  clear hw1
  go_upto_region 3 with (((with_reducible refine Qg (f := 30) rfl ?_); refine goesL_ (some 10) rfl rfl Tryz.func30 (by kernel_rfl) rfl #[.pointer (some ⟨w.heap.size, 0, none⟩)] rfl (by (try simp only [List.map_toArray, List.map_cons, List.map_nil]); rfl) ?_; (with_reducible refine (Qc1.calls k w.heap.size l0 0 0 t227 t230 t231 w _ ?side1 ?side2 A2.out).mono ?_); (case side1 => repeat ((with_reducible (exact HI0.out)))); (case side2 => repeat ((with_reducible (exact HB.out)))); rintro e w4 ⟨v228, rfl, ho0, hi, hb, hk⟩; refine ⟨_, rfl, ?_⟩; have n0_ := Qa.mk (Kd.N_lower (Kd.N_mono (ok' := fun k_ => (w1.heap.size ≤ k_) ∧ k_ ≠ w.heap.size) ho0 (fun k_ hk_ => ⟨(Nat.le_trans (keep_size (w := w1) (g := w.heap.size) (row := none) (by repeat ((with_reducible (exact HK.out))))) hk_), (IsS50.fresh (by repeat ((with_reducible (exact HI0.out)))) k_ hk_)⟩)) (keep_size (w := w1) (g := w.heap.size) (row := none) (by repeat ((with_reducible (exact HK.out)))))); have n1_ := Qa.mk (Qp.trans (by repeat ((with_reducible (exact HK.out)))) hk (.inl rfl)); have n2_ := Qa.mk (hb); have n3_ := Qa.mk (hi); clear HK; clear HB; clear HI0; have HO229 := n0_; have HK := n1_; have HB := n2_; have HI0 := n3_; clear n0_ n1_ n2_ n3_; (try clear hb); (try clear hb2); (try clear hk); (try clear hi); (try clear ho0)))
  (try simp only [Act.put, List.setIfInBounds_toArray, List.set_cons_zero, List.set_cons_succ])
  go_cut [17] (fun v17 wc => ∃ (kq : Nat) (x17_2 : Bool) (x1001_2 : Int) (x1002_2 : Int), v17 = .bool x17_2 ∧ Qa (Qo.j0 kq t227 x17_2 l0 x1001_2 x1002_2 = some (q0, q1, q2, q3)) ∧ Qa (kq ≤ k) ∧ Qa (Kd.N (Kd.slice 3 (Kd.int .i64)) 32 wc w1.heap.size (fun k_ => (w1.heap.size ≤ k_) ∧ k_ ≠ w.heap.size) v228 t227) ∧ Qa (IsS50 w wc w.heap.size l0 x1001_2 x1002_2) ∧ Qa (Qp w1 wc w.heap.size none) ∧ Qa (Below w.heap.size w wc))
  case first =>
   have H := HC3.out
   clear HC3
   replace H := Option.bind_eq_some_iff.mp H
   obtain ⟨t232, A50, H⟩ := H
   replace H : (if t232 = true then ((Qm1.f l0 t230 t231 6).bind fun bt233 => (Qo.j0 k t227 (!bt233.1) l0 bt233.2.1 bt233.2.2)) else (Qo.j0 k t227 false l0 t230 t231)) = some (q0, q1, q2, q3) := H
   have A5 := Qa.mk A50
   clear A50
   by_cases c6 : t232 = true
   rotate_left
   ·replace c6 := Bool.eq_false_iff.mpr c6
    subst c6
    have H1 : (Qo.j0 k t227 false l0 t230 t231) = some (q0, q1, q2, q3) := by rw [if_neg (show ¬ (false = true) by decide)] at H; exact H
    clear H
    have H := H1
    clear H1
    have H' := Qa.mk H
    clear H
    obtain ⟨Ao10, co10, eo10⟩ := Kd.N_slice HO229.out
    subst eo10
    go_wp2_with (((with_reducible refine Qg (f := 31) rfl ?_); refine goesL_ (some 12) rfl rfl Tryz.func31 (by kernel_rfl) rfl #[.slice Ao10 t227.length co10] rfl (by (try simp only [List.map_toArray, List.map_cons, List.map_nil]); rfl) ?_; (with_reducible refine (Qr.calls k _ _ t227 false _ ?side1 ?side2 A5.out).mono ?_); (case side1 => repeat ((exact (Kd.N_reads' HO229.out).2.2))); (case side2 => exact (Kd.N_reads' HO229.out).2.1); rintro e w' ⟨rfl, ⟨nd, rfl⟩⟩; refine ⟨_, rfl, ?_⟩))
    go_meet
    case rel => exact ⟨_, (false), (t230), (t231), (by rfl), H', ⟨by omega⟩, ⟨by (with_reducible repeat ((apply Kd.N_drewN))); exact HO229.out⟩, ⟨by repeat ((with_reducible first | exact HI0.out | apply IsS50.drewN))⟩, ⟨by repeat ((with_reducible first | exact HK.out | apply keep_drewN))⟩, ⟨by repeat ((with_reducible first | exact HB.out | apply Qi))⟩⟩
   subst c6
   have H1 : ((Qm1.f l0 t230 t231 6).bind fun bt233 => (Qo.j0 k t227 (!bt233.1) l0 bt233.2.1 bt233.2.2)) = some (q0, q1, q2, q3) := by rw [if_pos rfl] at H; exact H
   clear H
   have H := H1
   clear H1
   replace H := Option.bind_eq_some_iff.mp H
   obtain ⟨⟨t233, t234, t235⟩, A70, H⟩ := H
   replace H : (Qo.j0 k t227 (!t233) l0 t234 t235) = some (q0, q1, q2, q3) := H
   have A7 := Qa.mk A70
   clear A70
   have H' := Qa.mk H
   clear H
   obtain ⟨Ao8, co8, eo8⟩ := Kd.N_slice HO229.out
   subst eo8
   go_wp2_with (first | ((with_reducible refine Qg (f := 31) rfl ?_); refine goesL_ (some 12) rfl rfl Tryz.func31 (by kernel_rfl) rfl #[.slice Ao8 t227.length co8] rfl (by (try simp only [List.map_toArray, List.map_cons, List.map_nil]); rfl) ?_; (with_reducible refine (Qr.calls k _ _ t227 true _ ?side1 ?side2 A5.out).mono ?_); (case side1 => repeat ((exact (Kd.N_reads' HO229.out).2.2))); (case side2 => exact (Kd.N_reads' HO229.out).2.1); rintro e w' ⟨rfl, ⟨nd, rfl⟩⟩; refine ⟨_, rfl, ?_⟩) | (go_at_call 32; (with_reducible refine (Qm1.calls w.heap.size l0 t230 t231 6 t233 t234 t235 w _ ?side1 ?side2 A7.out).mono ?_); (case side1 => repeat ((with_reducible first | exact HI0.out | apply IsS50.drewN))); (case side2 => repeat ((with_reducible first | exact HB.out | apply Qi))); rintro e w9 ⟨rfl, hi, hb, hk⟩; have n0_ := Qa.mk (Kd.N_mono (Kd.N_keep (Kd.N_mono (ok := fun k_ => (((w1.heap.size ≤ k_)) ∧ k_ ≠ w.heap.size)) (by (with_reducible repeat ((apply Kd.N_drewN))); exact HO229.out) (fun k_ hk_ => (⟨hk_, hk_.2⟩ : _ ∧ k_ ≠ w.heap.size))) hk (fun _ h => h.2)) (fun _ h => h.1)); have n1_ := Qa.mk (Qp.trans (by repeat ((with_reducible first | exact HK.out | apply keep_drewN))) hk (.inl rfl)); have n2_ := Qa.mk (hb); have n3_ := Qa.mk (hi); clear HO229; clear HK; clear HB; clear HI0; have HO229 := n0_; have HK := n1_; have HB := n2_; have HI0 := n3_; clear n0_ n1_ n2_ n3_; (try clear hb); (try clear hb2); (try clear hk); (try clear hi)))
   go_meet
   case rel => exact ⟨_, (!t233), (t234), (t235), (by rfl), H', ⟨by omega⟩, ⟨by (with_reducible repeat (fail)); exact HO229.out⟩, ⟨by repeat ((with_reducible (exact HI0.out)))⟩, ⟨by repeat ((with_reducible (exact HK.out)))⟩, ⟨by repeat ((with_reducible (exact HB.out)))⟩⟩
  case rest =>
   clear HC3
   obtain ⟨kq, x17_2, x1001_2, x1002_2, rfl, HA, HJ2, HO_5, HI0, HK, HB⟩ := hcut
   cases kq with
   | zero => exact absurd HA.out (by simp [Qo.j0])
   | succ kj2 =>
    have H := HA.out
    clear HA
    simp only [Qo.j0] at H
    by_cases c11 : x17_2 = true
    rotate_left
    ·replace c11 := Bool.eq_false_iff.mpr c11
     subst c11
     have H1 : ((Qt.f l0 x1001_2 x1002_2 (([0, 1, 2, 3, 5, 50, 999, 1000, 1001, (-1)] : List Int))).bind fun bt262 => (some (t227, bt262.1, bt262.2.1, bt262.2.2))) = some (q0, q1, q2, q3) := by rw [if_neg (show ¬ (false = true) by decide)] at H; exact H
     clear H
     have H := H1
     clear H1
     obtain ⟨y259, hy259⟩ : ∃ y_ : List Int, y_ = (([0, 1, 2, 3, 5, 50, 999, 1000, 1001, (-1)] : List Int)) := ⟨_, rfl⟩
     replace H : ((Qt.f l0 x1001_2 x1002_2 y259).bind fun bt262 => (some (t227, bt262.1, bt262.2.1, bt262.2.2))) = some (q0, q1, q2, q3) := by (rw [hy259]; with_reducible exact H)
     have Ny259 := Qa.mk hy259
     clear hy259
     replace H := Option.bind_eq_some_iff.mp H
     obtain ⟨⟨t262, t263, t264⟩, A410, H⟩ := H
     replace H : (some (t227, t262, t263, t264)) = some (q0, q1, q2, q3) := H
     have A41 := Qa.mk A410
     clear A410
     simp only [Option.some.injEq, Prod.mk.injEq] at H
     obtain ⟨rfl, rfl, rfl, rfl⟩ := H
     go_wp2_with (first | ((with_reducible refine gate_dst (N := 39) rfl ?_); refine Kd.R_lit (Kd.int .i64) _ 3 ?hg (N := 39) ?hd (xs := ([0, 1, 2, 3, 5, 50, 999, 1000, 1001, (-1)] : List Int)) (inner := [.int .i64 0, .int .i64 1, .int .i64 2, .int .i64 3, .int .i64 5, .int .i64 50, .int .i64 999, .int .i64 1000, .int .i64 1001, .int .i64 (-1)]) (ok := fun _ => True) (okp := fun _ => True) ?hr ?hp (fun _ hk => hk) trivial (Below.refl _ _) (Nat.le_refl _) (by simp) ?_; (case hd => rfl); (case hg => rfl); (case hr => (go_simp; done)); (case hp => exact (Reps.one (show Kd.M (Kd.int .i64) _ _ _ 0 [.int .i64 0] from rfl) (Reps.one (show Kd.M (Kd.int .i64) _ _ _ 1 [.int .i64 1] from rfl) (Reps.one (show Kd.M (Kd.int .i64) _ _ _ 2 [.int .i64 2] from rfl) (Reps.one (show Kd.M (Kd.int .i64) _ _ _ 3 [.int .i64 3] from rfl) (Reps.one (show Kd.M (Kd.int .i64) _ _ _ 5 [.int .i64 5] from rfl) (Reps.one (show Kd.M (Kd.int .i64) _ _ _ 50 [.int .i64 50] from rfl) (Reps.one (show Kd.M (Kd.int .i64) _ _ _ 999 [.int .i64 999] from rfl) (Reps.one (show Kd.M (Kd.int .i64) _ _ _ 1000 [.int .i64 1000] from rfl) (Reps.one (show Kd.M (Kd.int .i64) _ _ _ 1001 [.int .i64 1001] from rfl) (Reps.one (show Kd.M (Kd.int .i64) _ _ _ (-1) [.int .i64 (-1)] from rfl) (Reps.none _ _)))))))))))); intro v260 w42 ho43 hb hg_ hnew_; clear hg_ hnew_; ((rw [← Ny259.out] at ho43)); have n0_ := Qa.mk (Kd.N_elder' (by (with_reducible repeat (fail)); exact HO_5.out) (Kd.R_base ho43) hb); have n1_ := Qa.mk (Kd.R_lower (Kd.R_newM (M := fun k_ => (w1.heap.size ≤ k_)) ho43 (keep_size (w := w1) (g := w.heap.size) (row := none) (by repeat ((with_reducible (exact HK.out))))) (fun k_ h_ => h_)) (keep_size (w := w1) (g := w.heap.size) (row := none) (by repeat ((with_reducible (exact HK.out)))))); have n2_ := Qa.mk (IsS50.below (by repeat ((with_reducible (exact HI0.out)))) hb); have n3_ := Qa.mk (Qp.trans (by repeat ((with_reducible (exact HK.out)))) (Qp.of_below hb w.heap.size none) (.inl rfl)); have n4_ := Qa.mk (Qh (by repeat ((with_reducible (exact HB.out)))) hb); clear HO_5; clear HI0; clear HK; clear HB; have HO_5 := n0_; have HO261 := n1_; have HI0 := n2_; have HK := n3_; have HB := n4_; clear n0_ n1_ n2_ n3_ n4_; clear hb ho43; obtain ⟨Ao44, co44, eo44⟩ := Kd.R_slice HO261.out; subst eo44) | ((with_reducible refine Qg (f := 37) rfl ?_); refine goesL_ (some 40) rfl rfl Tryz.func37 (by kernel_rfl) rfl #[.pointer (some ⟨w.heap.size, 0, none⟩), .slice Ao44 y259.length co44] rfl (by (try simp only [List.map_toArray, List.map_cons, List.map_nil]); rfl) ?_; (with_reducible refine (Qt.calls w.heap.size l0 x1001_2 x1002_2 _ _ y259 t262 t263 t264 w _ ?side1 ?side2 ?side3 ?side4 ?side5 A41.out).mono ?_); (case side1 => repeat ((with_reducible (exact HI0.out)))); (case side2 => repeat ((with_reducible (exact HB.out)))); (case side3 => repeat ((exact (Kd.R_reads' HO261.out).2.2))); (case side4 => exact (Kd.R_reads' HO261.out).2.1); (case side5 => exact far_slice (IsS50.own_ne HI0.out HO261.out (by decide))); rintro e w45 ⟨rfl, hi, hb, hk⟩; refine ⟨_, rfl, ?_⟩; have n0_ := Qa.mk (Kd.N_mono (Kd.N_keep (Kd.N_mono (ok := fun k_ => ((((w1.heap.size ≤ k_)) ∧ k_ ≠ w.heap.size) ∧ some k_ ≠ (.slice Ao44 y259.length co44 : Value).ownBlock)) (by (with_reducible repeat (fail)); exact HO_5.out) (fun k_ hk_ => (⟨hk_, hk_.1.2⟩ : _ ∧ k_ ≠ w.heap.size))) hk (fun _ h => h.2)) (fun _ h => h.1)); have n1_ := Qa.mk (Kd.R_mono (Kd.R_keep (IsS50.apart (show IsS50 w _ w.heap.size l0 x1001_2 x1002_2 from by repeat ((with_reducible (exact HI0.out)))) (by (with_reducible repeat (fail)); exact HO261.out) (by decide)) hk (fun _ h => h.2)) (fun _ h => h.1)); have n2_ := Qa.mk (Qp.trans (by repeat ((with_reducible (exact HK.out)))) hk (.inl rfl)); have n3_ := Qa.mk (hb); have n4_ := Qa.mk (hi); clear HO_5; clear HO261; clear HK; clear HB; clear HI0; have HO_5 := n0_; have HO261 := n1_; have HK := n2_; have HB := n3_; have HI0 := n4_; clear n0_ n1_ n2_ n3_ n4_; (try clear hb); (try clear hb2); (try clear hk); (try clear hi)))
     go_ret2
     exact ⟨_, by rfl, by (with_reducible repeat (fail)); exact Kd.N_mono HO_5.out (fun _ hk => hk.1.1), by repeat ((with_reducible (exact HI0.out))), by repeat ((with_reducible (exact HB.out))), by repeat ((with_reducible (exact HK.out)))⟩
    subst c11
    have H1 : ((Qq1.f kj2 t227).bind fun t236 => ((Qd2.f kj2 t236).bind fun t239 => ((Qm1.f l0 x1001_2 x1002_2 2).bind fun bt242 => (if bt242.1 = true then ((Qp1.f kj2 t239).bind fun t245 => (if 0 < (t239.length : Int) then ((Qe.f l0 bt242.2.1 bt242.2.2 (wrap64 ((t239.length : Int) * ((rd_L2 t239 0).length : Int)))).bind fun bt249 => (if 0 ≤ bt249.1 then (if bt249.1 < (t245.length : Int) then (some (t239, rd t245 bt249.1, bt249.2.1, bt249.2.2)) else (none)) else (none))) else (none))) else ((Qt.f l0 bt242.2.1 bt242.2.2 (([0, 1, 2, 3, 5, 50, 999, 1000, 1001, (-1)] : List Int))).bind fun bt256 => (some (t239, bt256.1, bt256.2.1, bt256.2.2))))))) = some (q0, q1, q2, q3) := by rw [if_pos rfl] at H; exact H
    clear H
    have H := H1
    clear H1
    replace H := Option.bind_eq_some_iff.mp H
    obtain ⟨t236, A120, H⟩ := H
    replace H : ((Qd2.f kj2 t236).bind fun t239 => ((Qm1.f l0 x1001_2 x1002_2 2).bind fun bt242 => (if bt242.1 = true then ((Qp1.f kj2 t239).bind fun t245 => (if 0 < (t239.length : Int) then ((Qe.f l0 bt242.2.1 bt242.2.2 (wrap64 ((t239.length : Int) * ((rd_L2 t239 0).length : Int)))).bind fun bt249 => (if 0 ≤ bt249.1 then (if bt249.1 < (t245.length : Int) then (some (t239, rd t245 bt249.1, bt249.2.1, bt249.2.2)) else (none)) else (none))) else (none))) else ((Qt.f l0 bt242.2.1 bt242.2.2 (([0, 1, 2, 3, 5, 50, 999, 1000, 1001, (-1)] : List Int))).bind fun bt256 => (some (t239, bt256.1, bt256.2.1, bt256.2.2)))))) = some (q0, q1, q2, q3) := H
    have A12 := Qa.mk A120
    clear A120
    replace H := Option.bind_eq_some_iff.mp H
    obtain ⟨t239, A130, H⟩ := H
    replace H : ((Qm1.f l0 x1001_2 x1002_2 2).bind fun bt242 => (if bt242.1 = true then ((Qp1.f kj2 t239).bind fun t245 => (if 0 < (t239.length : Int) then ((Qe.f l0 bt242.2.1 bt242.2.2 (wrap64 ((t239.length : Int) * ((rd_L2 t239 0).length : Int)))).bind fun bt249 => (if 0 ≤ bt249.1 then (if bt249.1 < (t245.length : Int) then (some (t239, rd t245 bt249.1, bt249.2.1, bt249.2.2)) else (none)) else (none))) else (none))) else ((Qt.f l0 bt242.2.1 bt242.2.2 (([0, 1, 2, 3, 5, 50, 999, 1000, 1001, (-1)] : List Int))).bind fun bt256 => (some (t239, bt256.1, bt256.2.1, bt256.2.2))))) = some (q0, q1, q2, q3) := H
    have A13 := Qa.mk A130
    clear A130
    replace H := Option.bind_eq_some_iff.mp H
    obtain ⟨⟨t242, t243, t244⟩, A140, H⟩ := H
    replace H : (if t242 = true then ((Qp1.f kj2 t239).bind fun t245 => (if 0 < (t239.length : Int) then ((Qe.f l0 t243 t244 (wrap64 ((t239.length : Int) * ((rd_L2 t239 0).length : Int)))).bind fun bt249 => (if 0 ≤ bt249.1 then (if bt249.1 < (t245.length : Int) then (some (t239, rd t245 bt249.1, bt249.2.1, bt249.2.2)) else (none)) else (none))) else (none))) else ((Qt.f l0 t243 t244 (([0, 1, 2, 3, 5, 50, 999, 1000, 1001, (-1)] : List Int))).bind fun bt256 => (some (t239, bt256.1, bt256.2.1, bt256.2.2)))) = some (q0, q1, q2, q3) := H
    have A14 := Qa.mk A140
    clear A140
    by_cases c15 : t242 = true
    rotate_left
    ·replace c15 := Bool.eq_false_iff.mpr c15
     subst c15
     have H1 : ((Qt.f l0 t243 t244 (([0, 1, 2, 3, 5, 50, 999, 1000, 1001, (-1)] : List Int))).bind fun bt256 => (some (t239, bt256.1, bt256.2.1, bt256.2.2))) = some (q0, q1, q2, q3) := by rw [if_neg (show ¬ (false = true) by decide)] at H; exact H
     clear H
     have H := H1
     clear H1
     obtain ⟨y253, hy253⟩ : ∃ y_ : List Int, y_ = (([0, 1, 2, 3, 5, 50, 999, 1000, 1001, (-1)] : List Int)) := ⟨_, rfl⟩
     replace H : ((Qt.f l0 t243 t244 y253).bind fun bt256 => (some (t239, bt256.1, bt256.2.1, bt256.2.2))) = some (q0, q1, q2, q3) := by (rw [hy253]; with_reducible exact H)
     have Ny253 := Qa.mk hy253
     clear hy253
     replace H := Option.bind_eq_some_iff.mp H
     obtain ⟨⟨t256, t257, t258⟩, A310, H⟩ := H
     replace H : (some (t239, t256, t257, t258)) = some (q0, q1, q2, q3) := H
     have A31 := Qa.mk A310
     clear A310
     simp only [Option.some.injEq, Prod.mk.injEq] at H
     obtain ⟨rfl, rfl, rfl, rfl⟩ := H
     obtain ⟨Ao32, co32, eo32⟩ := Kd.N_slice HO_5.out
     subst eo32
     go_wp2_with (first | ((with_reducible refine Qg (f := 34) rfl ?_); refine goesL_ (some 19) rfl rfl Tryz.func34 (by kernel_rfl) rfl #[.slice Ao32 t227.length co32] rfl (by (try simp only [List.map_toArray, List.map_cons, List.map_nil]); rfl) ?_; (with_reducible refine (Qq1.calls kj2 _ _ t227 t236 _ ?side1 ?side2 A12.out).mono ?_); (case side1 => repeat ((exact (Kd.N_reads' HO_5.out).2.2))); (case side2 => exact (Kd.N_reads' HO_5.out).2.1); rintro e w33 ⟨v237, rfl, ho0, hb⟩; refine ⟨_, rfl, ?_⟩; have n0_ := Qa.mk (Kd.N_elder' (by (with_reducible repeat (fail)); exact HO_5.out) (by (exact Kd.S_base ho0)) hb); have n1_ := Qa.mk (Kd.N_lower (Kd.N_mono (ok' := fun k_ => (w1.heap.size ≤ k_) ∧ some k_ ≠ (.slice Ao32 t227.length co32 : Value).ownBlock ∧ k_ ≠ w.heap.size) (Kd.S_N (Kd.S_bound ho0)) (fun k_ hk_ => ⟨(Nat.le_trans (keep_size (w := w1) (g := w.heap.size) (row := none) (by repeat ((with_reducible (exact HK.out))))) hk_.2.1), (Kd.fresh' (Kd.N_lt (by (with_reducible repeat (fail)); exact HO_5.out)) k_ hk_.2.1), (IsS50.fresh (by repeat ((with_reducible (exact HI0.out)))) k_ hk_.2.1)⟩)) (keep_size (w := w1) (g := w.heap.size) (row := none) (by repeat ((with_reducible (exact HK.out)))))); have n2_ := Qa.mk (IsS50.below (by repeat ((with_reducible (exact HI0.out)))) hb); have n3_ := Qa.mk (Qp.trans (by repeat ((with_reducible (exact HK.out)))) (Qp.of_below hb w.heap.size none) (.inl rfl)); have n4_ := Qa.mk (Qh (by repeat ((with_reducible (exact HB.out)))) hb); clear HO_5; clear HI0; clear HK; clear HB; have HO_5 := n0_; have HO238 := n1_; have HI0 := n2_; have HK := n3_; have HB := n4_; clear n0_ n1_ n2_ n3_ n4_; (try clear hb); (try clear hb2); (try clear hk); (try clear hi); (try clear ho0); obtain ⟨Ao34, co34, eo34⟩ := Kd.N_slice HO238.out; subst eo34) | ((with_reducible refine Qg (f := 33) rfl ?_); refine goesL_ (some 20) rfl rfl Tryz.func33 (by kernel_rfl) rfl #[.slice Ao34 t236.length co34] rfl (by (try simp only [List.map_toArray, List.map_cons, List.map_nil]); rfl) ?_; (with_reducible refine (Qd2.calls kj2 _ _ t236 t239 _ ?side1 ?side2 A13.out).mono ?_); (case side1 => repeat ((exact (Kd.N_reads' HO238.out).2.2))); (case side2 => exact (Kd.N_reads' HO238.out).2.1); rintro e w35 ⟨v240, rfl, ho0, hb⟩; refine ⟨_, rfl, ?_⟩; have n0_ := Qa.mk (Kd.N_elder' (by (with_reducible repeat (fail)); exact HO_5.out) (by (exact Kd.S_base ho0)) hb); have n1_ := Qa.mk (Kd.N_elder' (by (with_reducible repeat (fail)); exact HO238.out) (by (exact Kd.S_base ho0)) hb); have n2_ := Qa.mk (Kd.N_lower (Kd.N_mono (ok' := fun k_ => (w1.heap.size ≤ k_) ∧ some k_ ≠ (.slice Ao32 t227.length co32 : Value).ownBlock ∧ some k_ ≠ (.slice Ao34 t236.length co34 : Value).ownBlock ∧ k_ ≠ w.heap.size) (Kd.S_N (Kd.S_bound ho0)) (fun k_ hk_ => ⟨(Nat.le_trans (keep_size (w := w1) (g := w.heap.size) (row := none) (by repeat ((with_reducible (exact HK.out))))) hk_.2.1), (Kd.fresh' (Kd.N_lt (by (with_reducible repeat (fail)); exact HO_5.out)) k_ hk_.2.1), (Kd.fresh' (Kd.N_lt (by (with_reducible repeat (fail)); exact HO238.out)) k_ hk_.2.1), (IsS50.fresh (by repeat ((with_reducible (exact HI0.out)))) k_ hk_.2.1)⟩)) (keep_size (w := w1) (g := w.heap.size) (row := none) (by repeat ((with_reducible (exact HK.out)))))); have n3_ := Qa.mk (IsS50.below (by repeat ((with_reducible (exact HI0.out)))) hb); have n4_ := Qa.mk (Qp.trans (by repeat ((with_reducible (exact HK.out)))) (Qp.of_below hb w.heap.size none) (.inl rfl)); have n5_ := Qa.mk (Qh (by repeat ((with_reducible (exact HB.out)))) hb); clear HO_5; clear HO238; clear HI0; clear HK; clear HB; have HO_5 := n0_; have HO238 := n1_; have HO241 := n2_; have HI0 := n3_; have HK := n4_; have HB := n5_; clear n0_ n1_ n2_ n3_ n4_ n5_; (try clear hb); (try clear hb2); (try clear hk); (try clear hi); (try clear ho0)) | ((with_reducible refine Qg (f := 32) rfl ?_); refine goesL_ (some 22) rfl rfl Tryz.func32 (by kernel_rfl) rfl #[.pointer (some ⟨w.heap.size, 0, none⟩), .int .i64 2] rfl (by (try simp only [List.map_toArray, List.map_cons, List.map_nil]); rfl) ?_; (with_reducible refine (Qm1.calls w.heap.size l0 x1001_2 x1002_2 2 false t243 t244 w _ ?side1 ?side2 A14.out).mono ?_); (case side1 => repeat ((with_reducible (exact HI0.out)))); (case side2 => repeat ((with_reducible (exact HB.out)))); rintro e w36 ⟨rfl, hi, hb, hk⟩; refine ⟨_, rfl, ?_⟩; have n0_ := Qa.mk (Kd.N_mono (Kd.N_keep (Kd.N_mono (ok := fun k_ => (((((w1.heap.size ≤ k_)) ∧ k_ ≠ w.heap.size) ∧ some k_ ≠ (.slice Ao34 t236.length co34 : Value).ownBlock) ∧ some k_ ≠ (v240 : Value).ownBlock)) (by (with_reducible repeat (fail)); exact HO_5.out) (fun k_ hk_ => (⟨hk_, hk_.1.1.2⟩ : _ ∧ k_ ≠ w.heap.size))) hk (fun _ h => h.2)) (fun _ h => h.1)); have n1_ := Qa.mk (Kd.N_mono (Kd.N_keep (Kd.N_mono (ok := fun k_ => ((((w1.heap.size ≤ k_)) ∧ (some k_ ≠ (.slice Ao32 t227.length co32 : Value).ownBlock ∧ k_ ≠ w.heap.size)) ∧ some k_ ≠ (v240 : Value).ownBlock)) (by (with_reducible repeat (fail)); exact HO238.out) (fun k_ hk_ => (⟨hk_, hk_.1.2.2⟩ : _ ∧ k_ ≠ w.heap.size))) hk (fun _ h => h.2)) (fun _ h => h.1)); have n2_ := Qa.mk (Kd.N_mono (Kd.N_keep (Kd.N_mono (ok := fun k_ => (((w1.heap.size ≤ k_)) ∧ (some k_ ≠ (.slice Ao32 t227.length co32 : Value).ownBlock ∧ (some k_ ≠ (.slice Ao34 t236.length co34 : Value).ownBlock ∧ k_ ≠ w.heap.size)))) (by (with_reducible repeat (fail)); exact HO241.out) (fun k_ hk_ => (⟨hk_, hk_.2.2.2⟩ : _ ∧ k_ ≠ w.heap.size))) hk (fun _ h => h.2)) (fun _ h => h.1)); have n3_ := Qa.mk (Qp.trans (by repeat ((with_reducible (exact HK.out)))) hk (.inl rfl)); have n4_ := Qa.mk (hb); have n5_ := Qa.mk (hi); clear HO_5; clear HO238; clear HO241; clear HK; clear HB; clear HI0; have HO_5 := n0_; have HO238 := n1_; have HO241 := n2_; have HK := n3_; have HB := n4_; have HI0 := n5_; clear n0_ n1_ n2_ n3_ n4_ n5_; (try clear hb); (try clear hb2); (try clear hk); (try clear hi)) | ((with_reducible refine gate_dst (N := 39) rfl ?_); refine Kd.R_lit (Kd.int .i64) _ 3 ?hg (N := 39) ?hd (xs := ([0, 1, 2, 3, 5, 50, 999, 1000, 1001, (-1)] : List Int)) (inner := [.int .i64 0, .int .i64 1, .int .i64 2, .int .i64 3, .int .i64 5, .int .i64 50, .int .i64 999, .int .i64 1000, .int .i64 1001, .int .i64 (-1)]) (ok := fun _ => True) (okp := fun _ => True) ?hr ?hp (fun _ hk => hk) trivial (Below.refl _ _) (Nat.le_refl _) (by simp) ?_; (case hd => rfl); (case hg => rfl); (case hr => (go_simp; done)); (case hp => exact (Reps.one (show Kd.M (Kd.int .i64) _ _ _ 0 [.int .i64 0] from rfl) (Reps.one (show Kd.M (Kd.int .i64) _ _ _ 1 [.int .i64 1] from rfl) (Reps.one (show Kd.M (Kd.int .i64) _ _ _ 2 [.int .i64 2] from rfl) (Reps.one (show Kd.M (Kd.int .i64) _ _ _ 3 [.int .i64 3] from rfl) (Reps.one (show Kd.M (Kd.int .i64) _ _ _ 5 [.int .i64 5] from rfl) (Reps.one (show Kd.M (Kd.int .i64) _ _ _ 50 [.int .i64 50] from rfl) (Reps.one (show Kd.M (Kd.int .i64) _ _ _ 999 [.int .i64 999] from rfl) (Reps.one (show Kd.M (Kd.int .i64) _ _ _ 1000 [.int .i64 1000] from rfl) (Reps.one (show Kd.M (Kd.int .i64) _ _ _ 1001 [.int .i64 1001] from rfl) (Reps.one (show Kd.M (Kd.int .i64) _ _ _ (-1) [.int .i64 (-1)] from rfl) (Reps.none _ _)))))))))))); intro v254 w37 ho38 hb hg_ hnew_; clear hg_ hnew_; ((rw [← Ny253.out] at ho38)); have n0_ := Qa.mk (Kd.N_elder' (by (with_reducible repeat (fail)); exact HO_5.out) (Kd.R_base ho38) hb); have n1_ := Qa.mk (Kd.N_elder' (by (with_reducible repeat (fail)); exact HO238.out) (Kd.R_base ho38) hb); have n2_ := Qa.mk (Kd.N_elder' (by (with_reducible repeat (fail)); exact HO241.out) (Kd.R_base ho38) hb); have n3_ := Qa.mk (Kd.R_lower (Kd.R_newM (M := fun k_ => (w1.heap.size ≤ k_)) ho38 (keep_size (w := w1) (g := w.heap.size) (row := none) (by repeat ((with_reducible (exact HK.out))))) (fun k_ h_ => h_)) (keep_size (w := w1) (g := w.heap.size) (row := none) (by repeat ((with_reducible (exact HK.out)))))); have n4_ := Qa.mk (IsS50.below (by repeat ((with_reducible (exact HI0.out)))) hb); have n5_ := Qa.mk (Qp.trans (by repeat ((with_reducible (exact HK.out)))) (Qp.of_below hb w.heap.size none) (.inl rfl)); have n6_ := Qa.mk (Qh (by repeat ((with_reducible (exact HB.out)))) hb); clear HO_5; clear HO238; clear HO241; clear HI0; clear HK; clear HB; have HO_5 := n0_; have HO238 := n1_; have HO241 := n2_; have HO255 := n3_; have HI0 := n4_; have HK := n5_; have HB := n6_; clear n0_ n1_ n2_ n3_ n4_ n5_ n6_; clear hb ho38; obtain ⟨Ao39, co39, eo39⟩ := Kd.R_slice HO255.out; subst eo39) | ((with_reducible refine Qg (f := 37) rfl ?_); refine goesL_ (some 40) rfl rfl Tryz.func37 (by kernel_rfl) rfl #[.pointer (some ⟨w.heap.size, 0, none⟩), .slice Ao39 y253.length co39] rfl (by (try simp only [List.map_toArray, List.map_cons, List.map_nil]); rfl) ?_; (with_reducible refine (Qt.calls w.heap.size l0 t243 t244 _ _ y253 t256 t257 t258 w _ ?side1 ?side2 ?side3 ?side4 ?side5 A31.out).mono ?_); (case side1 => repeat ((with_reducible (exact HI0.out)))); (case side2 => repeat ((with_reducible (exact HB.out)))); (case side3 => repeat ((exact (Kd.R_reads' HO255.out).2.2))); (case side4 => exact (Kd.R_reads' HO255.out).2.1); (case side5 => exact far_slice (IsS50.own_ne HI0.out HO255.out (by decide))); rintro e w40 ⟨rfl, hi, hb, hk⟩; refine ⟨_, rfl, ?_⟩; have n0_ := Qa.mk (Kd.N_mono (Kd.N_keep (Kd.N_mono (ok := fun k_ => ((((((w1.heap.size ≤ k_)) ∧ k_ ≠ w.heap.size) ∧ some k_ ≠ (.slice Ao34 t236.length co34 : Value).ownBlock) ∧ some k_ ≠ (v240 : Value).ownBlock) ∧ some k_ ≠ (.slice Ao39 y253.length co39 : Value).ownBlock)) (by (with_reducible repeat (fail)); exact HO_5.out) (fun k_ hk_ => (⟨hk_, hk_.1.1.1.2⟩ : _ ∧ k_ ≠ w.heap.size))) hk (fun _ h => h.2)) (fun _ h => h.1)); have n1_ := Qa.mk (Kd.N_mono (Kd.N_keep (Kd.N_mono (ok := fun k_ => (((((w1.heap.size ≤ k_)) ∧ (some k_ ≠ (.slice Ao32 t227.length co32 : Value).ownBlock ∧ k_ ≠ w.heap.size)) ∧ some k_ ≠ (v240 : Value).ownBlock) ∧ some k_ ≠ (.slice Ao39 y253.length co39 : Value).ownBlock)) (by (with_reducible repeat (fail)); exact HO238.out) (fun k_ hk_ => (⟨hk_, hk_.1.1.2.2⟩ : _ ∧ k_ ≠ w.heap.size))) hk (fun _ h => h.2)) (fun _ h => h.1)); have n2_ := Qa.mk (Kd.N_mono (Kd.N_keep (Kd.N_mono (ok := fun k_ => ((((w1.heap.size ≤ k_)) ∧ (some k_ ≠ (.slice Ao32 t227.length co32 : Value).ownBlock ∧ (some k_ ≠ (.slice Ao34 t236.length co34 : Value).ownBlock ∧ k_ ≠ w.heap.size))) ∧ some k_ ≠ (.slice Ao39 y253.length co39 : Value).ownBlock)) (by (with_reducible repeat (fail)); exact HO241.out) (fun k_ hk_ => (⟨hk_, hk_.1.2.2.2⟩ : _ ∧ k_ ≠ w.heap.size))) hk (fun _ h => h.2)) (fun _ h => h.1)); have n3_ := Qa.mk (Kd.R_mono (Kd.R_keep (IsS50.apart (show IsS50 w _ w.heap.size l0 t243 t244 from by repeat ((with_reducible (exact HI0.out)))) (by (with_reducible repeat (fail)); exact HO255.out) (by decide)) hk (fun _ h => h.2)) (fun _ h => h.1)); have n4_ := Qa.mk (Qp.trans (by repeat ((with_reducible (exact HK.out)))) hk (.inl rfl)); have n5_ := Qa.mk (hb); have n6_ := Qa.mk (hi); clear HO_5; clear HO238; clear HO241; clear HO255; clear HK; clear HB; clear HI0; have HO_5 := n0_; have HO238 := n1_; have HO241 := n2_; have HO255 := n3_; have HK := n4_; have HB := n5_; have HI0 := n6_; clear n0_ n1_ n2_ n3_ n4_ n5_ n6_; (try clear hb); (try clear hb2); (try clear hk); (try clear hi)))
     go_ret2
     exact ⟨_, by rfl, by (with_reducible repeat (fail)); exact Kd.N_mono HO241.out (fun _ hk => hk.1.1), by repeat ((with_reducible (exact HI0.out))), by repeat ((with_reducible (exact HB.out))), by repeat ((with_reducible (exact HK.out)))⟩
    subst c15
    have H1 : ((Qp1.f kj2 t239).bind fun t245 => (if 0 < (t239.length : Int) then ((Qe.f l0 t243 t244 (wrap64 ((t239.length : Int) * ((rd_L2 t239 0).length : Int)))).bind fun bt249 => (if 0 ≤ bt249.1 then (if bt249.1 < (t245.length : Int) then (some (t239, rd t245 bt249.1, bt249.2.1, bt249.2.2)) else (none)) else (none))) else (none))) = some (q0, q1, q2, q3) := by rw [if_pos rfl] at H; exact H
    clear H
    have H := H1
    clear H1
    replace H := Option.bind_eq_some_iff.mp H
    obtain ⟨t245, A160, H⟩ := H
    replace H : (if 0 < (t239.length : Int) then ((Qe.f l0 t243 t244 (wrap64 ((t239.length : Int) * ((rd_L2 t239 0).length : Int)))).bind fun bt249 => (if 0 ≤ bt249.1 then (if bt249.1 < (t245.length : Int) then (some (t239, rd t245 bt249.1, bt249.2.1, bt249.2.2)) else (none)) else (none))) else (none)) = some (q0, q1, q2, q3) := H
    have A16 := Qa.mk A160
    clear A160
    by_cases c17 : 0 < (t239.length : Int)
    rotate_left
    ·rw [if_neg c17] at H
     exact absurd H (by simp)
    rw [if_pos c17] at H
    have c17b0 : decide (0 < (t239.length : Int)) = true := decide_eq_true c17
    have c17b1 : decide (0 < t239.length) = true := decide_eq_true (by omega)
    clear c17
    replace H := Option.bind_eq_some_iff.mp H
    obtain ⟨⟨t249, t250, t251⟩, A180, H⟩ := H
    replace H : (if 0 ≤ t249 then (if t249 < (t245.length : Int) then (some (t239, rd t245 t249, t250, t251)) else (none)) else (none)) = some (q0, q1, q2, q3) := H
    have A18 := Qa.mk A180
    clear A180
    by_cases c19 : 0 ≤ t249
    rotate_left
    ·rw [if_neg c19] at H
     exact absurd H (by simp)
    rw [if_pos c19] at H
    have c19b0 : decide (0 ≤ t249) = true := decide_eq_true c19
    clear c19
    by_cases c20 : t249 < (t245.length : Int)
    rotate_left
    ·rw [if_neg c20] at H
     exact absurd H (by simp)
    rw [if_pos c20] at H
    have c20b0 : decide (t249 < (t245.length : Int)) = true := decide_eq_true c20
    clear c20
    simp only [Option.some.injEq, Prod.mk.injEq] at H
    obtain ⟨rfl, rfl, rfl, rfl⟩ := H
    obtain ⟨Ao21, co21, eo21⟩ := Kd.N_slice HO_5.out
    subst eo21
    try go_wp2_with (first | ((with_reducible refine Qg (f := 34) rfl ?_); refine goesL_ (some 19) rfl rfl Tryz.func34 (by kernel_rfl) rfl #[.slice Ao21 t227.length co21] rfl (by (try simp only [List.map_toArray, List.map_cons, List.map_nil]); rfl) ?_; (with_reducible refine (Qq1.calls kj2 _ _ t227 t236 _ ?side1 ?side2 A12.out).mono ?_); (case side1 => repeat ((exact (Kd.N_reads' HO_5.out).2.2))); (case side2 => exact (Kd.N_reads' HO_5.out).2.1); rintro e w22 ⟨v237, rfl, ho0, hb⟩; refine ⟨_, rfl, ?_⟩; have n0_ := Qa.mk (Kd.N_elder' (by (with_reducible repeat (fail)); exact HO_5.out) (by (exact Kd.S_base ho0)) hb); have n1_ := Qa.mk (Kd.N_lower (Kd.N_mono (ok' := fun k_ => (w1.heap.size ≤ k_) ∧ some k_ ≠ (.slice Ao21 t227.length co21 : Value).ownBlock ∧ k_ ≠ w.heap.size) (Kd.S_N (Kd.S_bound ho0)) (fun k_ hk_ => ⟨(Nat.le_trans (keep_size (w := w1) (g := w.heap.size) (row := none) (by repeat ((with_reducible (exact HK.out))))) hk_.2.1), (Kd.fresh' (Kd.N_lt (by (with_reducible repeat (fail)); exact HO_5.out)) k_ hk_.2.1), (IsS50.fresh (by repeat ((with_reducible (exact HI0.out)))) k_ hk_.2.1)⟩)) (keep_size (w := w1) (g := w.heap.size) (row := none) (by repeat ((with_reducible (exact HK.out)))))); have n2_ := Qa.mk (IsS50.below (by repeat ((with_reducible (exact HI0.out)))) hb); have n3_ := Qa.mk (Qp.trans (by repeat ((with_reducible (exact HK.out)))) (Qp.of_below hb w.heap.size none) (.inl rfl)); have n4_ := Qa.mk (Qh (by repeat ((with_reducible (exact HB.out)))) hb); clear HO_5; clear HI0; clear HK; clear HB; have HO_5 := n0_; have HO238 := n1_; have HI0 := n2_; have HK := n3_; have HB := n4_; clear n0_ n1_ n2_ n3_ n4_; (try clear hb); (try clear hb2); (try clear hk); (try clear hi); (try clear ho0); obtain ⟨Ao23, co23, eo23⟩ := Kd.N_slice HO238.out; subst eo23) | ((with_reducible refine Qg (f := 33) rfl ?_); refine goesL_ (some 20) rfl rfl Tryz.func33 (by kernel_rfl) rfl #[.slice Ao23 t236.length co23] rfl (by (try simp only [List.map_toArray, List.map_cons, List.map_nil]); rfl) ?_; (with_reducible refine (Qd2.calls kj2 _ _ t236 t239 _ ?side1 ?side2 A13.out).mono ?_); (case side1 => repeat ((exact (Kd.N_reads' HO238.out).2.2))); (case side2 => exact (Kd.N_reads' HO238.out).2.1); rintro e w24 ⟨v240, rfl, ho0, hb⟩; refine ⟨_, rfl, ?_⟩; have n0_ := Qa.mk (Kd.N_elder' (by (with_reducible repeat (fail)); exact HO_5.out) (by (exact Kd.S_base ho0)) hb); have n1_ := Qa.mk (Kd.N_elder' (by (with_reducible repeat (fail)); exact HO238.out) (by (exact Kd.S_base ho0)) hb); have n2_ := Qa.mk (Kd.N_lower (Kd.N_mono (ok' := fun k_ => (w1.heap.size ≤ k_) ∧ some k_ ≠ (.slice Ao21 t227.length co21 : Value).ownBlock ∧ some k_ ≠ (.slice Ao23 t236.length co23 : Value).ownBlock ∧ k_ ≠ w.heap.size) (Kd.S_N (Kd.S_bound ho0)) (fun k_ hk_ => ⟨(Nat.le_trans (keep_size (w := w1) (g := w.heap.size) (row := none) (by repeat ((with_reducible (exact HK.out))))) hk_.2.1), (Kd.fresh' (Kd.N_lt (by (with_reducible repeat (fail)); exact HO_5.out)) k_ hk_.2.1), (Kd.fresh' (Kd.N_lt (by (with_reducible repeat (fail)); exact HO238.out)) k_ hk_.2.1), (IsS50.fresh (by repeat ((with_reducible (exact HI0.out)))) k_ hk_.2.1)⟩)) (keep_size (w := w1) (g := w.heap.size) (row := none) (by repeat ((with_reducible (exact HK.out)))))); have n3_ := Qa.mk (IsS50.below (by repeat ((with_reducible (exact HI0.out)))) hb); have n4_ := Qa.mk (Qp.trans (by repeat ((with_reducible (exact HK.out)))) (Qp.of_below hb w.heap.size none) (.inl rfl)); have n5_ := Qa.mk (Qh (by repeat ((with_reducible (exact HB.out)))) hb); clear HO_5; clear HO238; clear HI0; clear HK; clear HB; have HO_5 := n0_; have HO238 := n1_; have HO241 := n2_; have HI0 := n3_; have HK := n4_; have HB := n5_; clear n0_ n1_ n2_ n3_ n4_ n5_; (try clear hb); (try clear hb2); (try clear hk); (try clear hi); (try clear ho0)) | ((with_reducible refine Qg (f := 32) rfl ?_); refine goesL_ (some 22) rfl rfl Tryz.func32 (by kernel_rfl) rfl #[.pointer (some ⟨w.heap.size, 0, none⟩), .int .i64 2] rfl (by (try simp only [List.map_toArray, List.map_cons, List.map_nil]); rfl) ?_; (with_reducible refine (Qm1.calls w.heap.size l0 x1001_2 x1002_2 2 true t243 t244 w _ ?side1 ?side2 A14.out).mono ?_); (case side1 => repeat ((with_reducible (exact HI0.out)))); (case side2 => repeat ((with_reducible (exact HB.out)))); rintro e w25 ⟨rfl, hi, hb, hk⟩; refine ⟨_, rfl, ?_⟩; have n0_ := Qa.mk (Kd.N_mono (Kd.N_keep (Kd.N_mono (ok := fun k_ => (((((w1.heap.size ≤ k_)) ∧ k_ ≠ w.heap.size) ∧ some k_ ≠ (.slice Ao23 t236.length co23 : Value).ownBlock) ∧ some k_ ≠ (v240 : Value).ownBlock)) (by (with_reducible repeat (fail)); exact HO_5.out) (fun k_ hk_ => (⟨hk_, hk_.1.1.2⟩ : _ ∧ k_ ≠ w.heap.size))) hk (fun _ h => h.2)) (fun _ h => h.1)); have n1_ := Qa.mk (Kd.N_mono (Kd.N_keep (Kd.N_mono (ok := fun k_ => ((((w1.heap.size ≤ k_)) ∧ (some k_ ≠ (.slice Ao21 t227.length co21 : Value).ownBlock ∧ k_ ≠ w.heap.size)) ∧ some k_ ≠ (v240 : Value).ownBlock)) (by (with_reducible repeat (fail)); exact HO238.out) (fun k_ hk_ => (⟨hk_, hk_.1.2.2⟩ : _ ∧ k_ ≠ w.heap.size))) hk (fun _ h => h.2)) (fun _ h => h.1)); have n2_ := Qa.mk (Kd.N_mono (Kd.N_keep (Kd.N_mono (ok := fun k_ => (((w1.heap.size ≤ k_)) ∧ (some k_ ≠ (.slice Ao21 t227.length co21 : Value).ownBlock ∧ (some k_ ≠ (.slice Ao23 t236.length co23 : Value).ownBlock ∧ k_ ≠ w.heap.size)))) (by (with_reducible repeat (fail)); exact HO241.out) (fun k_ hk_ => (⟨hk_, hk_.2.2.2⟩ : _ ∧ k_ ≠ w.heap.size))) hk (fun _ h => h.2)) (fun _ h => h.1)); have n3_ := Qa.mk (Qp.trans (by repeat ((with_reducible (exact HK.out)))) hk (.inl rfl)); have n4_ := Qa.mk (hb); have n5_ := Qa.mk (hi); clear HO_5; clear HO238; clear HO241; clear HK; clear HB; clear HI0; have HO_5 := n0_; have HO238 := n1_; have HO241 := n2_; have HK := n3_; have HB := n4_; have HI0 := n5_; clear n0_ n1_ n2_ n3_ n4_ n5_; (try clear hb); (try clear hb2); (try clear hk); (try clear hi)))
    have n0_ := Qa.mk (Kd.N_drew HO_5.out)
    have n1_ := Qa.mk (Kd.N_drew HO238.out)
    have n2_ := Qa.mk (Kd.N_drew HO241.out)
    have n3_ := Qa.mk (IsS50.drew HI0.out)
    have n4_ := Qa.mk (keep_drew HK.out)
    have n5_ := Qa.mk (below_drew1 HB.out)
    clear HO_5 HO238 HO241 HI0 HK HB
    have HO_5 := n0_
    have HO238 := n1_
    have HO241 := n2_
    have HI0 := n3_
    have HK := n4_
    have HB := n5_
    clear n0_ n1_ n2_ n3_ n4_ n5_
    obtain ⟨Ao27, co27, eo27⟩ := Kd.N_slice HO241.out
    ((subst eo27))
    have p248 : 0 ≤ (0 : Int) := (by omega)
    have q248 : 0 < (t239.length : Int) := of_decide_eq_true (by (with_reducible assumption))
    obtain ⟨ad248, A248_0, c248_0, e248, hx248_0, hl248_0, hi248_0⟩ := at_L2 (Kd.N_reads' HO241.out).2.2 0 p248 q248
    cases e248
    obtain ⟨ce248, hce248, hMe248, hcc248⟩ := Kd.N_get HO241.out [] 0 p248 (by (exact q248))
    obtain ⟨ua248_0, uc248_0, rfl, ul248_0, ge248_0⟩ := Kd.FK_slice_open hMe248
    have hv248_0 := hcc248 0 _ rfl
    rw [Nat.add_zero, show ((Kd.slice 3 (Kd.int .i64))).sz = 1 from rfl, Nat.mul_one] at hv248_0
    replace hv248_0 := Option.some.inj (hv248_0.symm.trans hx248_0)
    injection hv248_0 with hva_ hvn_ hvc_
    rw [hva_] at ge248_0
    rw [hvc_] at ul248_0
    have HL248_0 := Qa.mk (show Kd.V (Kd.int .i64) 3 _ w1.heap.size _ _ (rd_L2 t239 0) from Kd.V_mk ul248_0 ge248_0)
    clear hva_ hvn_ hvc_ ge248_0 ul248_0 hcc248 hce248
    have qi248 : (0 < t239.length) = True := eq_true (by omega)
    (try rw [show ((0 : Int)).toNat = 0 from rfl] at hx248_0)
    (try rw [Addr.add_zero'] at hx248_0)
    have HR248_0 := Qa.mk hi248_0
    have HC248_0 := Qa.mk hl248_0
    clear hi248_0 hl248_0
    replace p248 := eq_true p248
    replace q248 := eq_true q248
    refine start_ (n := 16) (S := fun w' => w'.cell? ad248 = some (.slice A248_0 (rd_L2 t239 0).length c248_0)) (ds := []) #[false, false, false, false, false, false, false, false, false, false, false, false, false, false, false, false] (by kernel_rfl) rfl rfl hx248_0 (fun hHeld => ?_); refine with_tabW Qo.tab6 Qo.bits6 (fun HT_ HW_ => ?_)
    generalize w25.drew = w26 at HO_5 HO238 HO241 HI0 HK HB HL248_0 HR248_0 hx248_0 hHeld ⊢
    refine pure_ (i := 0) (N := some 23) (v := ?_) (a' := ?_) #[true, false, false, false, false, false, false, false, false, false, false, false, false, false, false, false] rfl rfl (any_of HT_.out (by kernel_rfl)) (fun _ _ _ h => h) (Or.inl ⟨by rfl, ?_⟩) ?_ ?_
    rotate_left
    ·intro w'
     go_simp
     with_reducible rfl
    rotate_left
    ·simp only [Act.put, List.setIfInBounds_toArray, List.set_cons_zero, List.set_cons_succ, i64_w, i32_w]
     rfl
    refine pure_ (i := 1) (N := some 24) (v := ?_) (a' := ?_) #[true, true, false, false, false, false, false, false, false, false, false, false, false, false, false, false] rfl rfl (any_of HT_.out (by kernel_rfl)) (fun _ _ _ h => h) (Or.inl ⟨by rfl, ?_⟩) ?_ ?_
    rotate_left
    ·intro w'
     go_simp
     with_reducible rfl
    rotate_left
    ·simp only [Act.put, List.setIfInBounds_toArray, List.set_cons_zero, List.set_cons_succ, i64_w, i32_w]
     rfl
    refine pure_ (i := 3) (N := some 26) (v := ?_) (a' := ?_) #[true, true, false, true, false, false, false, false, false, false, false, false, false, false, false, false] rfl rfl (any_of HT_.out (by kernel_rfl)) (fun _ _ _ h => h) (Or.inl ⟨by rfl, ?_⟩) ?_ ?_
    rotate_left
    ·intro w'
     go_simp
     with_reducible rfl
    rotate_left
    ·simp only [Act.put, List.setIfInBounds_toArray, List.set_cons_zero, List.set_cons_succ, i64_w, i32_w]
     rfl
    refine pure_ (i := 4) (N := some 27) (v := ?_) (a' := ?_) #[true, true, false, true, true, false, false, false, false, false, false, false, false, false, false, false] rfl rfl (any_of HT_.out (by kernel_rfl)) (fun _ _ _ h => h) (Or.inl ⟨by rfl, ?_⟩) ?_ ?_
    rotate_left
    ·intro w'
     go_simp
     with_reducible rfl
    rotate_left
    ·simp only [Act.put, List.setIfInBounds_toArray, List.set_cons_zero, List.set_cons_succ, i64_w, i32_w]
     rfl
    refine pure_ (i := 5) (N := some 28) (v := ?_) (a' := ?_) #[true, true, false, true, true, true, false, false, false, false, false, false, false, false, false, false] rfl rfl (any_of HT_.out (by kernel_rfl)) (fun _ _ _ h => h) (Or.inl ⟨by rfl, ?_⟩) ?_ ?_
    rotate_left
    ·intro w'
     go_simp
     with_reducible rfl
    rotate_left
    ·simp only [Act.put, List.setIfInBounds_toArray, List.set_cons_zero, List.set_cons_succ, i64_w, i32_w]
     rfl
    refine pure_ (i := 6) (N := some 29) (v := ?_) (a' := ?_) #[true, true, false, true, true, true, true, false, false, false, false, false, false, false, false, false] rfl rfl (any_of HT_.out (by kernel_rfl)) (fun _ _ _ h => h) (Or.inl ⟨by rfl, ?_⟩) ?_ ?_
    rotate_left
    ·intro w'
     go_simp
     with_reducible rfl
    rotate_left
    ·simp only [Act.put, List.setIfInBounds_toArray, List.set_cons_zero, List.set_cons_succ, i64_w, i32_w]
     rfl
    refine pure_ (i := 7) (N := some 30) (v := ?_) (a' := ?_) #[true, true, false, true, true, true, true, true, false, false, false, false, false, false, false, false] rfl rfl (any_of HT_.out (by kernel_rfl)) (fun _ _ _ h => h) (Or.inl ⟨by rfl, ?_⟩) ?_ ?_
    rotate_left
    ·intro w'
     go_simp
     with_reducible rfl
    rotate_left
    ·simp only [Act.put, List.setIfInBounds_toArray, List.set_cons_zero, List.set_cons_succ, i64_w, i32_w]
     rfl
    refine take_ (i := 8) (N := some 31) (v := ?_) (a' := ?_) #[true, true, false, true, true, true, true, true, true, false, false, false, false, false, false, false] rfl rfl (take_ofW HT_.out HW_.out (by kernel_rfl)) (fun _ _ _ h => h) (Or.inl ⟨by rfl, ?_⟩) hHeld ?_ ?_
    rotate_left
    ·rintro w' s0
     go_simp
     with_reducible rfl
    rotate_left
    ·simp only [Act.put, List.setIfInBounds_toArray, List.set_cons_zero, List.set_cons_succ, i64_w, i32_w]
     rfl
    refine pure_ (i := 9) (N := some 32) (v := ?_) (a' := ?_) #[true, true, false, true, true, true, true, true, true, true, false, false, false, false, false, false] rfl rfl (any_of HT_.out (by kernel_rfl)) (fun _ _ _ h => h) (Or.inl ⟨by rfl, ?_⟩) ?_ ?_
    rotate_left
    ·intro w'
     go_simp
     with_reducible rfl
    rotate_left
    ·simp only [Act.put, List.setIfInBounds_toArray, List.set_cons_zero, List.set_cons_succ, i64_w, i32_w]
     rfl
    refine pure_ (i := 10) (N := some 33) (v := ?_) (a' := ?_) #[true, true, false, true, true, true, true, true, true, true, true, false, false, false, false, false] rfl rfl (any_of HT_.out (by kernel_rfl)) (fun _ _ _ h => h) (Or.inl ⟨by rfl, ?_⟩) ?_ ?_
    rotate_left
    ·intro w'
     go_simp
     with_reducible rfl
    rotate_left
    ·simp only [Act.put, List.setIfInBounds_toArray, List.set_cons_zero, List.set_cons_succ, i64_w, i32_w]
     rfl
    refine one_ (i := 2) (N := some 25) #[true, true, true, true, true, true, true, true, true, true, true, false, false, false, false, false] rfl rfl (one_of HT_.out (by kernel_rfl)) (by decide) (fun K hK => ?_)
    refine goes_ Tryz.func35 (by kernel_rfl) rfl #[.slice (some ad248) t239.length co27] (by rfl) rfl rfl (by (try simp only [List.map_toArray, List.map_cons, List.map_nil]); rfl) ?_
    with_reducible refine (Qp1.calls kj2 _ _ t239 t245 _ ?side1 ?side2 A16.out).mono ?_
    (case side1 => repeat ((exact (Kd.N_reads' HO241.out).2.2)))
    (case side2 => exact (Kd.N_reads' HO241.out).2.1)
    rintro e w28 ⟨v246, rfl, ho0, hb⟩
    have HS0_ := (hb.cell (World.block_lt_of_cell? _ _ (hHeld))).trans (hHeld)
    refine ⟨_, rfl, ?_⟩
    have n0_ := Qa.mk (Kd.N_elder' (by (with_reducible repeat (fail)); exact HO_5.out) (Kd.R_base ho0) hb)
    have n1_ := Qa.mk (Kd.N_elder' (by (with_reducible repeat (fail)); exact HO238.out) (Kd.R_base ho0) hb)
    have n2_ := Qa.mk (Kd.N_elder' (by (with_reducible repeat (fail)); exact HO241.out) (Kd.R_base ho0) hb)
    have n3_ := Qa.mk (Kd.V_elder' (by (with_reducible repeat (fail)); exact HL248_0.out) (Kd.R_base ho0) hb)
    have n4_ := Qa.mk (Kd.R_lower (Kd.R_newM (M := fun k_ => (w1.heap.size ≤ k_)) ho0 (keep_size (w := w1) (g := w.heap.size) (row := none) (by repeat ((with_reducible (exact HK.out))))) (fun k_ h_ => h_)) (keep_size (w := w1) (g := w.heap.size) (row := none) (by repeat ((with_reducible (exact HK.out))))))
    have n5_ := Qa.mk (IsS50.below (by repeat ((with_reducible (exact HI0.out)))) hb)
    have n6_ := Qa.mk (Kd.C_below (by repeat ((with_reducible exact HR248_0.out))) hb)
    have n7_ := Qa.mk (Qp.trans (by repeat ((with_reducible (exact HK.out)))) (Qp.of_below hb w.heap.size none) (.inl rfl))
    have n8_ := Qa.mk (Qh (by repeat ((with_reducible (exact HB.out)))) hb)
    clear HO_5 HO238 HO241 HL248_0 HI0 HR248_0 HK HB
    have HO_5 := n0_
    have HO238 := n1_
    have HO241 := n2_
    have HL248_0 := n3_
    have HO247 := n4_
    have HI0 := n5_
    have HR248_0 := n6_
    have HK := n7_
    have HB := n8_
    clear n0_ n1_ n2_ n3_ n4_ n5_ n6_ n7_ n8_ hb ho0
    refine hK.out _ _ HS0_ (fun hHeld => ?_)
    clear hK K
    refine norm_ (a' := ?_) ?_ ?_
    rotate_left
    ·show Act.put _ (some 25) _ = _
     simp only [Act.put, List.setIfInBounds_toArray, List.set_cons_zero, List.set_cons_succ, i64_w, i32_w]
     rfl
    refine one_ (i := 11) (N := some 34) #[true, true, true, true, true, true, true, true, true, true, true, true, false, false, false, false] rfl rfl (one_of HT_.out (by kernel_rfl)) (by decide) (fun K hK => ?_)
    refine goes_ Tryz.func36 (by kernel_rfl) rfl #[.pointer (some ⟨w.heap.size, 0, none⟩), .int .i64 (wrap64 ((t239.length : Int) * ((rd_L2 t239 0).length : Int)))] (by rfl) rfl rfl (by (try simp only [List.map_toArray, List.map_cons, List.map_nil]); rfl) ?_
    with_reducible refine (Qe.calls w.heap.size l0 t243 t244 (wrap64 ((t239.length : Int) * ((rd_L2 t239 0).length : Int))) t249 t250 t251 w _ ?side1 ?side2 A18.out).mono ?_
    (case side1 => repeat ((with_reducible (exact HI0.out))))
    (case side2 => repeat ((with_reducible (exact HB.out))))
    rintro e w29 ⟨rfl, hi, hb, hk⟩
    have HS0_ := keep_cell hk (hHeld) (by (exact Kd.own_blk (IsS50.own_neN HI0.out HO241.out (by decide))))
    refine ⟨_, rfl, ?_⟩
    have n0_ := Qa.mk (Kd.N_mono (Kd.N_keep (Kd.N_mono (ok := fun k_ => ((((((w1.heap.size ≤ k_)) ∧ k_ ≠ w.heap.size) ∧ some k_ ≠ (.slice Ao23 t236.length co23 : Value).ownBlock) ∧ some k_ ≠ (.slice (some ad248) t239.length co27 : Value).ownBlock) ∧ some k_ ≠ (v246 : Value).ownBlock)) (by (with_reducible repeat (fail)); exact HO_5.out) (fun k_ hk_ => (⟨hk_, hk_.1.1.1.2⟩ : _ ∧ k_ ≠ w.heap.size))) hk (fun _ h => h.2)) (fun _ h => h.1))
    have n1_ := Qa.mk (Kd.N_mono (Kd.N_keep (Kd.N_mono (ok := fun k_ => (((((w1.heap.size ≤ k_)) ∧ (some k_ ≠ (.slice Ao21 t227.length co21 : Value).ownBlock ∧ k_ ≠ w.heap.size)) ∧ some k_ ≠ (.slice (some ad248) t239.length co27 : Value).ownBlock) ∧ some k_ ≠ (v246 : Value).ownBlock)) (by (with_reducible repeat (fail)); exact HO238.out) (fun k_ hk_ => (⟨hk_, hk_.1.1.2.2⟩ : _ ∧ k_ ≠ w.heap.size))) hk (fun _ h => h.2)) (fun _ h => h.1))
    have n2_ := Qa.mk (Kd.N_mono (Kd.N_keep (Kd.N_mono (ok := fun k_ => ((((w1.heap.size ≤ k_)) ∧ (some k_ ≠ (.slice Ao21 t227.length co21 : Value).ownBlock ∧ (some k_ ≠ (.slice Ao23 t236.length co23 : Value).ownBlock ∧ k_ ≠ w.heap.size))) ∧ some k_ ≠ (v246 : Value).ownBlock)) (by (with_reducible repeat (fail)); exact HO241.out) (fun k_ hk_ => (⟨hk_, hk_.1.2.2.2⟩ : _ ∧ k_ ≠ w.heap.size))) hk (fun _ h => h.2)) (fun _ h => h.1))
    have n3_ := Qa.mk (Kd.V_mono (Kd.V_keep (Kd.V_mono (ok := fun k_ => (((((w1.heap.size ≤ k_)) ∧ (some k_ ≠ (.slice Ao21 t227.length co21 : Value).ownBlock ∧ (some k_ ≠ (.slice Ao23 t236.length co23 : Value).ownBlock ∧ k_ ≠ w.heap.size))) ∧ some k_ ≠ (.slice (some ad248) t239.length co27 : Value).ownBlock) ∧ some k_ ≠ (v246 : Value).ownBlock)) (by (with_reducible repeat (fail)); exact HL248_0.out) (fun k_ hk_ => (⟨hk_, hk_.1.1.2.2.2⟩ : _ ∧ k_ ≠ w.heap.size))) hk (fun _ h => h.2)) (fun _ h => h.1))
    have n4_ := Qa.mk (Kd.R_mono (Kd.R_keep (IsS50.apart (show IsS50 w _ w.heap.size l0 t243 t244 from by repeat ((with_reducible (exact HI0.out)))) (by (with_reducible repeat (fail)); exact HO247.out) (by decide)) hk (fun _ h => h.2)) (fun _ h => h.1))
    have n5_ := Qa.mk (Qp.trans (by repeat ((with_reducible (exact HK.out)))) hk (.inl rfl))
    have n6_ := Qa.mk (hb)
    have n7_ := Qa.mk (hi)
    clear HO_5 HO238 HO241 HL248_0 HO247 HK HB HI0
    have HO_5 := n0_
    have HO238 := n1_
    have HO241 := n2_
    have HL248_0 := n3_
    have HO247 := n4_
    have HK := n5_
    have HB := n6_
    have HI0 := n7_
    clear n0_ n1_ n2_ n3_ n4_ n5_ n6_ n7_ hb hk hi
    obtain ⟨Ao30, co30, eo30⟩ := Kd.R_slice HO247.out
    ((subst eo30))
    have p252 : 0 ≤ (t249 : Int) := of_decide_eq_true (by (with_reducible assumption))
    have q252 : t249 < (t245.length : Int) := of_decide_eq_true (by (with_reducible assumption))
    obtain ⟨ad252, e252, hx252_0⟩ := Kd.at_int (Kd.R_reads' HO247.out).2.2 t249 p252 q252
    cases e252
    replace p252 := eq_true p252
    replace q252 := eq_true q252
    refine hK.out _ _ HS0_ (fun hHeld => ?_)
    clear hK K
    refine norm_ (a' := ?_) ?_ ?_
    rotate_left
    ·show Act.put _ (some 34) _ = _
     simp only [Act.put, List.setIfInBounds_toArray, List.set_cons_zero, List.set_cons_succ, i64_w, i32_w]
     rfl
    refine pure_ (i := 12) (N := some 35) (v := ?_) (a' := ?_) #[true, true, true, true, true, true, true, true, true, true, true, true, true, false, false, false] rfl rfl (any_of HT_.out (by kernel_rfl)) (fun _ _ _ h => h) (Or.inl ⟨by rfl, ?_⟩) ?_ ?_
    rotate_left
    ·intro w'
     go_simp
     with_reducible rfl
    rotate_left
    ·simp only [Act.put, List.setIfInBounds_toArray, List.set_cons_zero, List.set_cons_succ, i64_w, i32_w]
     rfl
    refine pure_ (i := 14) (N := some 2) (v := ?_) (a' := ?_) #[true, true, true, true, true, true, true, true, true, true, true, true, true, false, true, false] rfl rfl (any_of HT_.out (by kernel_rfl)) (fun _ _ _ h => h) (Or.inl ⟨by rfl, ?_⟩) ?_ ?_
    rotate_left
    ·intro w'
     go_simp
     with_reducible rfl
    rotate_left
    ·simp only [Act.put, List.setIfInBounds_toArray, List.set_cons_zero, List.set_cons_succ, i64_w, i32_w]
     rfl
    refine one_ (i := 13) (N := some 36) #[true, true, true, true, true, true, true, true, true, true, true, true, true, true, true, false] rfl rfl (one_of HT_.out (by kernel_rfl)) (by decide) (fun K hK => ?_)
    refine value_ (v := .int .i64 (rd t245 t249)) rfl rfl (by (go_simp; with_reducible rfl)) ?_
    refine hK.out _ _ hHeld (fun hHeld => ?_)
    clear hK K
    refine norm_ (a' := ?_) ?_ ?_
    rotate_left
    ·show Act.put _ (some 36) _ = _
     simp only [Act.put, List.setIfInBounds_toArray, List.set_cons_zero, List.set_cons_succ, i64_w, i32_w]
     rfl
    refine pure_ (i := 15) (N := some 3) (v := ?_) (a' := ?_) #[true, true, true, true, true, true, true, true, true, true, true, true, true, true, true, true] rfl rfl (any_of HT_.out (by kernel_rfl)) (fun _ _ _ h => h) (Or.inl ⟨by rfl, ?_⟩) ?_ ?_
    rotate_left
    ·intro w'
     go_simp
     with_reducible rfl
    rotate_left
    ·simp only [Act.put, List.setIfInBounds_toArray, List.set_cons_zero, List.set_cons_succ, i64_w, i32_w]
     rfl
    refine done_ (done_of HT_.out (by kernel_rfl)) ?_
    try go_wp2
    go_ret2
    exact ⟨_, by rfl, by (with_reducible repeat (fail)); exact Kd.N_mono HO241.out (fun _ hk => hk.1.1), by repeat ((with_reducible (exact HI0.out))), by repeat ((with_reducible (exact HB.out))), by repeat ((with_reducible (exact HK.out)))⟩
 refine main.mono fun e w' ⟨v, he, hN, _, hb, _⟩ => ⟨v, he, Kd.N_mono (Kd.N_lower hN hB.size) (fun k_ hk => Nat.le_trans hB.size hk), hb⟩
end Go.Proofs.YtohhlkehglahhaaGreatDoor.A
