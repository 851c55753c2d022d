-- Printed: Lean checks it.
import Derived.Test.YtohhlkehglahhaaGreatDoorAx0
namespace Go.Proofs.YtohhlkehglahhaaGreatDoor.A
open Go.RowKit Go.Proofs.YtohhlkehglahhaaGreatDoorW.PrintWords Go.Proofs.YtohhlkehglahhaaGreatDoorW.PrintLast Go.Proofs.YtohhlkehglahhaaGreatDoorW.PrintMore Go.Proofs.YtohhlkehglahhaaGreatDoor.X
attribute [local go_sem] max2_int min2_int max_two min_two max_three min_three max_four min_four
set_option linter.unusedVariables false
set_option linter.unusedSimpArgs false
def Qx2.f (l0 : List Int) (l1 : List Int) : Option (Bool) := if (l0.length : Int) > 1048576 then (some true) else (some (decide ((l1.length : Int) > (wrap64 (1048576 - (l0.length : Int))))))
set_option maxHeartbeats 8000000 in
set_option maxRecDepth 100000 in
theorem Qx2.calls (A0 : Option Addr) (c0 : Nat) (l0 : List Int) (A1 : Option Addr) (c1 : Nat) (l1 : List Int) (r : Bool) (w : World) (hr0 : Kd.C (Kd.int .u8) w A0 l0.length l0) (hc0 : l0.length ≤ c0) (hr1 : Kd.C (Kd.int .u8) w A1 l1.length l1) (hc1 : l1.length ≤ c1) (h : Qx2.f l0 l1 = some r) :
  Calls Tryz.prog 4 #[.slice A0 l0.length c0, .slice A1 l1.length c1] w fun e w' => e = .returned (.bool r) ∧ Drawn0 w w' := by
 have HR0 := Qa.mk hr0
 have HC0 := Qa.mk hc0
 clear hr0 hc0
 have HR1 := Qa.mk hr1
 have HC1 := Qa.mk hc1
 clear hr1 hc1
 have H : (if (l0.length : Int) > 1048576 then (some true) else (some (decide ((l1.length : Int) > (wrap64 (1048576 - (l0.length : Int))))))) = some r := h
 clear h
 by_cases c3 : (l0.length : Int) > 1048576
 ·rw [if_pos c3] at H
  have c3b0 : decide (1048576 < (l0.length : Int)) = true := decide_eq_true c3
  have c3b1 : decide (1048576 < l0.length) = true := decide_eq_true (by omega)
  clear c3
  obtain rfl := Option.some.inj H
  go_enter Tryz.func4, Tryz.ntmps4
  go_wp2
  go_ret
  exact ⟨by rfl, by repeat ((exact Drawn0.refl _))⟩
 rw [if_neg c3] at H
 have c3b0 : decide (1048576 < (l0.length : Int)) = false := decide_eq_false c3
 have c3b1 : decide (1048576 < l0.length) = false := decide_eq_false (by omega)
 clear c3
 obtain rfl := Option.some.inj H
 go_enter Tryz.func4, Tryz.ntmps4
 go_wp2
 go_ret
 exact ⟨by rfl, by repeat ((exact Drawn0.refl _))⟩
def IsS50 (w0 W : World) (g : Nat) (f0 : List Int) (f1 : Int) (f2 : Int) : Prop := ∃ A0 c0, W.heap[g]? = some (.cells #[.slice A0 f0.length c0, .int .i64 f1, .int .u64 f2] 50 (0, 0)) ∧ w0.heap.size ≤ g ∧ Kd.C (Kd.int .u8) w0 A0 f0.length f0
theorem IsS50.grown {w0 W : World} {g : Nat} {f0 : List Int} {f1 : Int} {f2 : Int} {W1 : World} {row : Option Nat} (h : IsS50 w0 W g f0 f1 f2) (hw : W.grownBy W1 row) (hne : some g ≠ row) : IsS50 w0 W1 g f0 f1 f2 := by
 obtain ⟨A0, c0, hb, hg, hr0⟩ := h
 exact ⟨A0, c0, blk_grown hb hw hne, hg, hr0⟩
theorem IsS50.own_neN {w0 W : World} {g : Nat} {f0 : List Int} {f1 : Int} {f2 : Int} {α : Type} {d : Kd α} {e : Nat} {base : Nat} {ok : Nat → Prop} {v : Value} {xs : List α} (h : IsS50 w0 W g f0 f1 f2) (ho : Kd.N d e W base ok v xs) (ht : e ≠ 50) : some g ≠ v.ownBlock := by
 obtain ⟨A0, c0, hb, hg, hr0⟩ := h
 exact Kd.N_ne ho hb ht
theorem IsS50.fresh {w0 W : World} {g : Nat} {f0 : List Int} {f1 : Int} {f2 : Int} (h : IsS50 w0 W g f0 f1 f2) : ∀ k, W.heap.size ≤ k → k ≠ g := by
 obtain ⟨A0, c0, hb, hg, hr0⟩ := h
 exact Kd.freshB hb
theorem IsS50.kept {w0 W : World} {g : Nat} {f0 : List Int} {f1 : Int} {f2 : Int} {W1 : World} {S : Nat → Prop} (h : IsS50 w0 W g f0 f1 f2) (hk : Kept W W1 S) (hne : ¬ S g) : IsS50 w0 W1 g f0 f1 f2 := by
 obtain ⟨A0, c0, hb, hg, hr0⟩ := h
 exact ⟨A0, c0, blk_kept hb hk hne, hg, hr0⟩
theorem IsS50.below {w0 W : World} {g : Nat} {f0 : List Int} {f1 : Int} {f2 : Int} {W1 : World} (h : IsS50 w0 W g f0 f1 f2) (hw : Below W.heap.size W W1) : IsS50 w0 W1 g f0 f1 f2 := h.grown (grown_of_below hw none) (by simp)
theorem IsS50.alloc {w0 W : World} {g : Nat} {f0 : List Int} {f1 : Int} {f2 : Int} (h : IsS50 w0 W g f0 f1 f2) (o : Obj) : IsS50 w0 (W.alloc o) g f0 f1 f2 := h.below (below_alloc (Below.refl _ _) o)
theorem IsS50.drewN {w0 W : World} {g : Nat} {f0 : List Int} {f1 : Int} {f2 : Int} (h : IsS50 w0 W g f0 f1 f2) (m : Nat) : IsS50 w0 (W.drewN m) g f0 f1 f2 := h
theorem IsS50.drew {w0 W : World} {g : Nat} {f0 : List Int} {f1 : Int} {f2 : Int} (h : IsS50 w0 W g f0 f1 f2) : IsS50 w0 W.drew g f0 f1 f2 := h
theorem IsS50.at_ {w0 W : World} {g : Nat} {f0 : List Int} {f1 : Int} {f2 : Int} {w' : World} {m : Nat} (hq : W.drewN m = w') (h : IsS50 w0 W g f0 f1 f2) : IsS50 w0 w' g f0 f1 f2 := by subst hq; exact IsS50.drewN h m
theorem IsS50.apart {w0 W : World} {g : Nat} {f0 : List Int} {f1 : Int} {f2 : Int} {α : Type} {d : Kd α} {e : Nat} {base : Nat} {ok : Nat → Prop} {v : Value} {xs : List α} (h : IsS50 w0 W g f0 f1 f2) (ho : d.R e W base ok v xs) (ht : ∀ q, q ∈ e :: d.E → q ≠ 50) : d.R e W base (fun k => ok k ∧ k ≠ g) v xs := by
 obtain ⟨A0, c0, hb, hg, hr0⟩ := h
 exact Kd.R_types ho hb ht
theorem IsS50.own_ne {w0 W : World} {g : Nat} {f0 : List Int} {f1 : Int} {f2 : Int} {α : Type} {d : Kd α} {e : Nat} {base : Nat} {ok : Nat → Prop} {v : Value} {xs : List α} (h : IsS50 w0 W g f0 f1 f2) (ho : d.R e W base ok v xs) (ht : e ≠ 50) : some g ≠ v.ownBlock := by
 obtain ⟨A0, c0, hb, hg, hr0⟩ := h
 exact Kd.R_ne ho hb ht
theorem IsS50.apartS {w0 W : World} {g : Nat} {f0 : List Int} {f1 : Int} {f2 : Int} {α : Type} {d : Kd α} {e : Nat} {base : Nat} {ok : Nat → Prop} {v : Value} {xs : List α} (h : IsS50 w0 W g f0 f1 f2) (ho : d.S e W base ok v xs) (ht : ∀ q, q ∈ e :: d.E → q ≠ 50) : d.S e W base (fun k => ok k ∧ k ≠ g) v xs := by
 obtain ⟨A0, c0, hb, hg, hr0⟩ := h
 exact Kd.S_types ho hb ht
theorem IsS50.own_neS {w0 W : World} {g : Nat} {f0 : List Int} {f1 : Int} {f2 : Int} {α : Type} {d : Kd α} {e : Nat} {base : Nat} {ok : Nat → Prop} {v : Value} {xs : List α} (h : IsS50 w0 W g f0 f1 f2) (ho : d.S e W base ok v xs) (ht : e ≠ 50) : some g ≠ v.ownBlock := by
 obtain ⟨A0, c0, hb, hg, hr0⟩ := h
 exact Kd.S_ne ho hb ht
theorem IsS50.lt {w0 W : World} {g : Nat} {f0 : List Int} {f1 : Int} {f2 : Int} (h : IsS50 w0 W g f0 f1 f2) : g < W.heap.size := by
 obtain ⟨A0, c0, hb, hg, hr0⟩ := h
 exact blk_lt hb
theorem IsS50.ge {w0 W : World} {g : Nat} {f0 : List Int} {f1 : Int} {f2 : Int} (h : IsS50 w0 W g f0 f1 f2) : w0.heap.size ≤ g := by
 obtain ⟨A0, c0, hb, hg, hr0⟩ := h
 exact hg
theorem IsS50.far {w0 W : World} {g : Nat} {f0 : List Int} {f1 : Int} {f2 : Int} {p : Addr} (h : IsS50 w0 W g f0 f1 f2) (hne : g ≠ p.block) (u : Value) : IsS50 w0 (W.setCell p u) g f0 f1 f2 := by
 obtain ⟨A0, c0, hb, hg, hr0⟩ := h
 exact ⟨A0, c0, blk_far hb hne u, hg, hr0⟩
theorem cellS50_0 {W : World} {g : Nat} {A0 : Option Addr} {c0 : Nat} {f0 : List Int} {f1 : Int} {f2 : Int} (h : W.heap[g]? = some (.cells #[.slice A0 f0.length c0, .int .i64 f1, .int .u64 f2] 50 (0, 0))) : W.cell? ⟨g, 0, none⟩ = some (.slice A0 f0.length c0) := (blk_cell h 0).trans rfl
theorem cellS50_1 {W : World} {g : Nat} {A0 : Option Addr} {c0 : Nat} {f0 : List Int} {f1 : Int} {f2 : Int} (h : W.heap[g]? = some (.cells #[.slice A0 f0.length c0, .int .i64 f1, .int .u64 f2] 50 (0, 0))) : W.cell? ⟨g, 1, none⟩ = some (.int .i64 f1) := (blk_cell h 1).trans rfl
theorem IsS50.set_1 {w0 W : World} {g : Nat} {f0 : List Int} {f1 : Int} {f2 : Int} (h : IsS50 w0 W g f0 f1 f2) (x : Int) : IsS50 w0 (W.setCell ⟨g, 1, none⟩ (.int .i64 x)) g f0 x f2 := by
 obtain ⟨A0, c0, hb, hg, hr0⟩ := h
 exact ⟨A0, c0, by simpa using blk_set hb 1 (.int .i64 x), hg, hr0⟩
theorem cellS50_2 {W : World} {g : Nat} {A0 : Option Addr} {c0 : Nat} {f0 : List Int} {f1 : Int} {f2 : Int} (h : W.heap[g]? = some (.cells #[.slice A0 f0.length c0, .int .i64 f1, .int .u64 f2] 50 (0, 0))) : W.cell? ⟨g, 2, none⟩ = some (.int .u64 f2) := (blk_cell h 2).trans rfl
theorem IsS50.set_2 {w0 W : World} {g : Nat} {f0 : List Int} {f1 : Int} {f2 : Int} (h : IsS50 w0 W g f0 f1 f2) (x : Int) : IsS50 w0 (W.setCell ⟨g, 2, none⟩ (.int .u64 x)) g f0 f1 x := by
 obtain ⟨A0, c0, hb, hg, hr0⟩ := h
 exact ⟨A0, c0, by simpa using blk_set hb 2 (.int .u64 x), hg, hr0⟩
theorem IsS50.new (w0 W : World) (A0 : Option Addr) (c0 : Nat) (f0 : List Int) (f1 : Int) (f2 : Int) (hB : Below w0.heap.size w0 W) (hr0 : Kd.C (Kd.int .u8) w0 A0 f0.length f0) : IsS50 w0 (W.alloc (.cells #[.slice A0 f0.length c0, .int .i64 f1, .int .u64 f2] 50)) W.heap.size f0 f1 f2 := ⟨A0, c0, by simpa using heap_alloc_new W _, hB.size, hr0⟩
def Qh2.f (s0_0 : List Int) (s0_1 : Int) (s0_2 : Int) : Option (Int × Int × Int) := if s0_1 < (s0_0.length : Int) then (if 0 ≤ s0_1 then (if (wrap64 (s0_1 + 1)) ≤ (s0_0.length : Int) then (some (wrap64 (rd s0_0 s0_1), wrap64 (s0_1 + 1), IntKind.u64.wrap ((IntKind.u64.wrap ((IntKind.u64.wrap (s0_2 * 6364136223846793005)) + (IntKind.u64.wrap (wrap64 (rd s0_0 s0_1))))) + 1442695040888963407))) else (some (wrap64 (Go.bits .and .u64 ((IntKind.u64.wrap ((IntKind.u64.wrap ((IntKind.u64.wrap (s0_2 * 6364136223846793005)) + (IntKind.u64.wrap (wrap64 (rd s0_0 s0_1))))) + 1442695040888963407)) / 1099511627776) 255), wrap64 (s0_1 + 1), IntKind.u64.wrap ((IntKind.u64.wrap ((IntKind.u64.wrap (s0_2 * 6364136223846793005)) + (IntKind.u64.wrap (wrap64 (rd s0_0 s0_1))))) + 1442695040888963407)))) else (none)) else (if (wrap64 (s0_1 + 1)) ≤ (s0_0.length : Int) then (some (0, wrap64 (s0_1 + 1), IntKind.u64.wrap ((IntKind.u64.wrap ((IntKind.u64.wrap (s0_2 * 6364136223846793005)) + 0)) + 1442695040888963407))) else (some (wrap64 (Go.bits .and .u64 ((IntKind.u64.wrap ((IntKind.u64.wrap ((IntKind.u64.wrap (s0_2 * 6364136223846793005)) + 0)) + 1442695040888963407)) / 1099511627776) 255), wrap64 (s0_1 + 1), IntKind.u64.wrap ((IntKind.u64.wrap ((IntKind.u64.wrap (s0_2 * 6364136223846793005)) + 0)) + 1442695040888963407))))
set_option maxHeartbeats 8000000 in
set_option maxRecDepth 100000 in
theorem Qh2.calls (g : Nat) (s0_0 : List Int) (s0_1 : Int) (s0_2 : Int) (r1 : Int) (r2 : Int) (r3 : Int) (w0 w : World) (hI : IsS50 w0 w g s0_0 s0_1 s0_2) (hB : Below w0.heap.size w0 w) (h : Qh2.f s0_0 s0_1 s0_2 = some (r1, r2, r3)) :
  Calls Tryz.prog 66 #[.pointer (some ⟨g, 0, none⟩)] w fun e w' => e = .returned (.int .i64 r1) ∧ IsS50 w0 w' g s0_0 r2 r3 ∧ Below w0.heap.size w0 w' ∧ Qp w w' g none := by
 have HI0 := Qa.mk hI
 have HK := Qa.mk (Qp.refl w g none)
 have HL := Qa.mk hB.size
 clear hI
 have HW0 := Qa.mk hB.size
 have HB := Qa.mk hB
 clear hB
 have H : (if s0_1 < (s0_0.length : Int) then (if 0 ≤ s0_1 then (if (wrap64 (s0_1 + 1)) ≤ (s0_0.length : Int) then (some (wrap64 (rd s0_0 s0_1), wrap64 (s0_1 + 1), IntKind.u64.wrap ((IntKind.u64.wrap ((IntKind.u64.wrap (s0_2 * 6364136223846793005)) + (IntKind.u64.wrap (wrap64 (rd s0_0 s0_1))))) + 1442695040888963407))) else (some (wrap64 (Go.bits .and .u64 ((IntKind.u64.wrap ((IntKind.u64.wrap ((IntKind.u64.wrap (s0_2 * 6364136223846793005)) + (IntKind.u64.wrap (wrap64 (rd s0_0 s0_1))))) + 1442695040888963407)) / 1099511627776) 255), wrap64 (s0_1 + 1), IntKind.u64.wrap ((IntKind.u64.wrap ((IntKind.u64.wrap (s0_2 * 6364136223846793005)) + (IntKind.u64.wrap (wrap64 (rd s0_0 s0_1))))) + 1442695040888963407)))) else (none)) else (if (wrap64 (s0_1 + 1)) ≤ (s0_0.length : Int) then (some (0, wrap64 (s0_1 + 1), IntKind.u64.wrap ((IntKind.u64.wrap ((IntKind.u64.wrap (s0_2 * 6364136223846793005)) + 0)) + 1442695040888963407))) else (some (wrap64 (Go.bits .and .u64 ((IntKind.u64.wrap ((IntKind.u64.wrap ((IntKind.u64.wrap (s0_2 * 6364136223846793005)) + 0)) + 1442695040888963407)) / 1099511627776) 255), wrap64 (s0_1 + 1), IntKind.u64.wrap ((IntKind.u64.wrap ((IntKind.u64.wrap (s0_2 * 6364136223846793005)) + 0)) + 1442695040888963407))))) = some (r1, r2, r3) := h
 clear h
 by_cases c2 : s0_1 < (s0_0.length : Int)
 rotate_left
 ·rw [if_neg c2] at H
  have c2b0 : decide (s0_1 < (s0_0.length : Int)) = false := decide_eq_false c2
  clear c2
  by_cases c7 : (wrap64 (s0_1 + 1)) ≤ (s0_0.length : Int)
  ·rw [if_pos c7] at H
   have c7b0 : decide ((wrap64 (s0_1 + 1)) ≤ (s0_0.length : Int)) = true := decide_eq_true c7
   clear c7
   simp only [Option.some.injEq, Prod.mk.injEq] at H
   obtain ⟨rfl, rfl, rfl⟩ := H
   obtain ⟨ASz8_0, cSz8_0, HGz8, hgz8, HSz8_0⟩ := HI0.out
   have hcz8_0 := cellS50_0 HGz8
   have hcz8_1 := cellS50_1 HGz8
   have hcz8_2 := cellS50_2 HGz8
   have hfz8_1 := blk_frozen HGz8 1
   have hfz8_2 := blk_frozen HGz8 2
   clear HGz8 hgz8
   go_enter Tryz.func66, Tryz.ntmps66
   go_wp2
   repeat (go_quiet (fail); try go_wp2)
   go_ret
   exact ⟨by rfl, by (try simp only [Int.add_zero]); repeat ((with_reducible first | exact HI0.out | apply IsS50.drewN | apply IsS50.set_1 | apply IsS50.set_2)), by repeat ((with_reducible first | exact HB.out | apply Qi | refine below_set ?_ (IsS50.ge HI0.out))), by repeat ((with_reducible first | exact HK.out | apply Qp.set_ | apply keep_drewN))⟩
  rw [if_neg c7] at H
  have c7b0 : decide ((wrap64 (s0_1 + 1)) ≤ (s0_0.length : Int)) = false := decide_eq_false c7
  clear c7
  simp only [Option.some.injEq, Prod.mk.injEq] at H
  obtain ⟨rfl, rfl, rfl⟩ := H
  obtain ⟨ASz9_0, cSz9_0, HGz9, hgz9, HSz9_0⟩ := HI0.out
  have hcz9_0 := cellS50_0 HGz9
  have hcz9_1 := cellS50_1 HGz9
  have hcz9_2 := cellS50_2 HGz9
  have hfz9_1 := blk_frozen HGz9 1
  have hfz9_2 := blk_frozen HGz9 2
  clear HGz9 hgz9
  go_enter Tryz.func66, Tryz.ntmps66
  go_wp2
  repeat (go_quiet (fail); try go_wp2)
  go_ret
  exact ⟨by (simp [errW_none, errW_some] <;> rfl), by (try simp only [Int.add_zero]); repeat ((with_reducible first | exact HI0.out | apply IsS50.drewN | apply IsS50.set_1 | apply IsS50.set_2)), by repeat ((with_reducible first | exact HB.out | apply Qi | refine below_set ?_ (IsS50.ge HI0.out))), by repeat ((with_reducible first | exact HK.out | apply Qp.set_ | apply keep_drewN))⟩
 rw [if_pos c2] at H
 have c2b0 : decide (s0_1 < (s0_0.length : Int)) = true := decide_eq_true c2
 clear c2
 by_cases c3 : 0 ≤ s0_1
 rotate_left
 ·rw [if_neg c3] at H
  exact absurd H (by simp)
 rw [if_pos c3] at H
 have c3b0 : decide (0 ≤ s0_1) = true := decide_eq_true c3
 clear c3
 by_cases c4 : (wrap64 (s0_1 + 1)) ≤ (s0_0.length : Int)
 ·rw [if_pos c4] at H
  have c4b0 : decide ((wrap64 (s0_1 + 1)) ≤ (s0_0.length : Int)) = true := decide_eq_true c4
  clear c4
  simp only [Option.some.injEq, Prod.mk.injEq] at H
  obtain ⟨rfl, rfl, rfl⟩ := H
  obtain ⟨ASz5_0, cSz5_0, HGz5, hgz5, HSz5_0⟩ := HI0.out
  have hcz5_0 := cellS50_0 HGz5
  have hcz5_1 := cellS50_1 HGz5
  have hcz5_2 := cellS50_2 HGz5
  have hfz5_1 := blk_frozen HGz5 1
  have hfz5_2 := blk_frozen HGz5 2
  clear HGz5 hgz5
  have p101 : 0 ≤ (s0_1 : Int) := of_decide_eq_true (by (with_reducible assumption))
  have q101 : s0_1 < (s0_0.length : Int) := of_decide_eq_true (by (with_reducible assumption))
  obtain ⟨ad101, e101, hx101_0⟩ := Kd.at_int HSz5_0 s0_1 p101 q101
  cases e101
  replace hx101_0 := pw_cell_below HB.out hx101_0
  replace p101 := eq_true p101
  replace q101 := eq_true q101
  go_enter Tryz.func66, Tryz.ntmps66
  go_wp2
  repeat (go_quiet (fail); try go_wp2)
  go_ret
  exact ⟨by rfl, by (try simp only [Int.add_zero]); repeat ((with_reducible first | exact HI0.out | apply IsS50.drewN | apply IsS50.set_1 | apply IsS50.set_2)), by repeat ((with_reducible first | exact HB.out | apply Qi | refine below_set ?_ (IsS50.ge HI0.out))), by repeat ((with_reducible first | exact HK.out | apply Qp.set_ | apply keep_drewN))⟩
 rw [if_neg c4] at H
 have c4b0 : decide ((wrap64 (s0_1 + 1)) ≤ (s0_0.length : Int)) = false := decide_eq_false c4
 clear c4
 simp only [Option.some.injEq, Prod.mk.injEq] at H
 obtain ⟨rfl, rfl, rfl⟩ := H
 obtain ⟨ASz6_0, cSz6_0, HGz6, hgz6, HSz6_0⟩ := HI0.out
 have hcz6_0 := cellS50_0 HGz6
 have hcz6_1 := cellS50_1 HGz6
 have hcz6_2 := cellS50_2 HGz6
 have hfz6_1 := blk_frozen HGz6 1
 have hfz6_2 := blk_frozen HGz6 2
 clear HGz6 hgz6
 have p101 : 0 ≤ (s0_1 : Int) := of_decide_eq_true (by (with_reducible assumption))
 have q101 : s0_1 < (s0_0.length : Int) := of_decide_eq_true (by (with_reducible assumption))
 obtain ⟨ad101, e101, hx101_0⟩ := Kd.at_int HSz6_0 s0_1 p101 q101
 cases e101
 replace hx101_0 := pw_cell_below HB.out hx101_0
 replace p101 := eq_true p101
 replace q101 := eq_true q101
 go_enter Tryz.func66, Tryz.ntmps66
 go_wp2
 repeat (go_quiet (fail); try go_wp2)
 go_ret
 exact ⟨by rfl, by (try simp only [Int.add_zero]); repeat ((with_reducible first | exact HI0.out | apply IsS50.drewN | apply IsS50.set_1 | apply IsS50.set_2)), by repeat ((with_reducible first | exact HB.out | apply Qi | refine below_set ?_ (IsS50.ge HI0.out))), by repeat ((with_reducible first | exact HK.out | apply Qp.set_ | apply keep_drewN))⟩
def Qe.f (s0_0 : List Int) (s0_1 : Int) (s0_2 : Int) (a1 : Int) : Option (Int × Int × Int) := if a1 ≤ 1 then (some (0, s0_1, s0_2)) else ((Qh2.f s0_0 s0_1 s0_2).bind fun bt102 => (if a1 > 200 then ((Qh2.f s0_0 bt102.2.1 bt102.2.2).bind fun bt105 => (if a1 = 0 then (none) else (some (Int.tmod (wrap64 ((wrap64 (bt102.1 * 256)) + bt105.1)) a1, bt105.2.1, bt105.2.2)))) else (if a1 = 0 then (none) else (some (Int.tmod bt102.1 a1, bt102.2.1, bt102.2.2)))))
set_option maxHeartbeats 8000000 in
set_option maxRecDepth 100000 in
theorem Qe.calls (g : Nat) (s0_0 : List Int) (s0_1 : Int) (s0_2 : Int) (a1 : Int) (r1 : Int) (r2 : Int) (r3 : Int) (w0 w : World) (hI : IsS50 w0 w g s0_0 s0_1 s0_2) (hB : Below w0.heap.size w0 w) (h : Qe.f s0_0 s0_1 s0_2 a1 = some (r1, r2, r3)) :
  Calls Tryz.prog 36 #[.pointer (some ⟨g, 0, none⟩), .int .i64 a1] w fun e w' => e = .returned (.int .i64 r1) ∧ IsS50 w0 w' g s0_0 r2 r3 ∧ Below w0.heap.size w0 w' ∧ Qp w w' g none := by
 have HI0 := Qa.mk hI
 have HK := Qa.mk (Qp.refl w g none)
 have HL := Qa.mk hB.size
 clear hI
 have HW0 := Qa.mk hB.size
 have HB := Qa.mk hB
 clear hB
 have H : (if a1 ≤ 1 then (some (0, s0_1, s0_2)) else ((Qh2.f s0_0 s0_1 s0_2).bind fun bt102 => (if a1 > 200 then ((Qh2.f s0_0 bt102.2.1 bt102.2.2).bind fun bt105 => (if a1 = 0 then (none) else (some (Int.tmod (wrap64 ((wrap64 (bt102.1 * 256)) + bt105.1)) a1, bt105.2.1, bt105.2.2)))) else (if a1 = 0 then (none) else (some (Int.tmod bt102.1 a1, bt102.2.1, bt102.2.2)))))) = some (r1, r2, r3) := h
 clear h
 by_cases c3 : a1 ≤ 1
 ·rw [if_pos c3] at H
  have c3b0 : decide (a1 ≤ 1) = true := decide_eq_true c3
  clear c3
  simp only [Option.some.injEq, Prod.mk.injEq] at H
  obtain ⟨rfl, rfl, rfl⟩ := H
  go_enter Tryz.func36, Tryz.ntmps36
  go_wp2
  go_ret
  exact ⟨by rfl, by (try simp only [Int.add_zero]); repeat ((with_reducible (exact HI0.out))), by repeat ((with_reducible (exact HB.out))), by repeat ((with_reducible (exact HK.out)))⟩
 rw [if_neg c3] at H
 have c3b0 : decide (a1 ≤ 1) = false := decide_eq_false c3
 clear c3
 replace H := Option.bind_eq_some_iff.mp H
 obtain ⟨⟨t102, t103, t104⟩, A40, H⟩ := H
 replace H : (if a1 > 200 then ((Qh2.f s0_0 t103 t104).bind fun bt105 => (if a1 = 0 then (none) else (some (Int.tmod (wrap64 ((wrap64 (t102 * 256)) + bt105.1)) a1, bt105.2.1, bt105.2.2)))) else (if a1 = 0 then (none) else (some (Int.tmod t102 a1, t103, t104)))) = some (r1, r2, r3) := H
 have A4 := Qa.mk A40
 clear A40
 by_cases c5 : a1 > 200
 rotate_left
 ·rw [if_neg c5] at H
  have c5b0 : decide (200 < a1) = false := decide_eq_false c5
  clear c5
  by_cases c10 : a1 = 0
  ·rw [if_pos c10] at H
   exact absurd H (by simp)
  rw [if_neg c10] at H
  have c10b0 : (a1 == 0) = false := beq_eq_false_iff_ne.mpr c10
  have c10b1 : (a1 != 0) = true := bne_iff_ne.mpr c10
  simp only [Option.some.injEq, Prod.mk.injEq] at H
  obtain ⟨rfl, rfl, rfl⟩ := H
  go_enter Tryz.func36, Tryz.ntmps36
  go_wp2_with (((with_reducible refine Qg (f := 66) rfl ?_); refine goesL_ (some 9) rfl rfl Tryz.func66 (by kernel_rfl) rfl #[.pointer (some ⟨g, 0, none⟩)] rfl (by (try simp only [List.map_toArray, List.map_cons, List.map_nil]); rfl) ?_; (with_reducible refine (Qh2.calls g s0_0 s0_1 s0_2 t102 t103 t104 w0 _ ?side1 ?side2 A4.out).mono ?_); (case side1 => repeat ((with_reducible (exact HI0.out)))); (case side2 => repeat ((with_reducible (exact HB.out)))); rintro e w11 ⟨rfl, hi, hb, hk⟩; refine ⟨_, rfl, ?_⟩; have n0_ := Qa.mk (Qp.trans (by repeat ((with_reducible (exact HK.out)))) hk (.inl rfl)); have n1_ := Qa.mk (hb); have n2_ := Qa.mk (hi); clear HK; clear HB; clear HI0; have HK := n0_; have HB := n1_; have HI0 := n2_; clear n0_ n1_ n2_; (try clear hb); (try clear hb2); (try clear hk); (try clear hi)))
  go_ret
  exact ⟨by rfl, by (try simp only [Int.add_zero]); repeat ((with_reducible (exact HI0.out))), by repeat ((with_reducible (exact HB.out))), by repeat ((with_reducible (exact HK.out)))⟩
 rw [if_pos c5] at H
 have c5b0 : decide (200 < a1) = true := decide_eq_true c5
 clear c5
 replace H := Option.bind_eq_some_iff.mp H
 obtain ⟨⟨t105, t106, t107⟩, A60, H⟩ := H
 replace H : (if a1 = 0 then (none) else (some (Int.tmod (wrap64 ((wrap64 (t102 * 256)) + t105)) a1, t106, t107))) = some (r1, r2, r3) := H
 have A6 := Qa.mk A60
 clear A60
 by_cases c7 : a1 = 0
 ·rw [if_pos c7] at H
  exact absurd H (by simp)
 rw [if_neg c7] at H
 have c7b0 : (a1 == 0) = false := beq_eq_false_iff_ne.mpr c7
 have c7b1 : (a1 != 0) = true := bne_iff_ne.mpr c7
 simp only [Option.some.injEq, Prod.mk.injEq] at H
 obtain ⟨rfl, rfl, rfl⟩ := H
 go_enter Tryz.func36, Tryz.ntmps36
 go_wp2_with (first | ((with_reducible refine Qg (f := 66) rfl ?_); refine goesL_ (some 9) rfl rfl Tryz.func66 (by kernel_rfl) rfl #[.pointer (some ⟨g, 0, none⟩)] rfl (by (try simp only [List.map_toArray, List.map_cons, List.map_nil]); rfl) ?_; (with_reducible refine (Qh2.calls g s0_0 s0_1 s0_2 t102 t103 t104 w0 _ ?side1 ?side2 A4.out).mono ?_); (case side1 => repeat ((with_reducible (exact HI0.out)))); (case side2 => repeat ((with_reducible (exact HB.out)))); rintro e w8 ⟨rfl, hi, hb, hk⟩; refine ⟨_, rfl, ?_⟩; have n0_ := Qa.mk (Qp.trans (by repeat ((with_reducible (exact HK.out)))) hk (.inl rfl)); have n1_ := Qa.mk (hb); have n2_ := Qa.mk (hi); clear HK; clear HB; clear HI0; have HK := n0_; have HB := n1_; have HI0 := n2_; clear n0_ n1_ n2_; (try clear hb); (try clear hb2); (try clear hk); (try clear hi)) | ((with_reducible refine Qg (f := 66) rfl ?_); refine goesL_ (some 15) rfl rfl Tryz.func66 (by kernel_rfl) rfl #[.pointer (some ⟨g, 0, none⟩)] rfl (by (try simp only [List.map_toArray, List.map_cons, List.map_nil]); rfl) ?_; (with_reducible refine (Qh2.calls g s0_0 t103 t104 t105 t106 t107 w0 _ ?side1 ?side2 A6.out).mono ?_); (case side1 => repeat ((with_reducible (exact HI0.out)))); (case side2 => repeat ((with_reducible (exact HB.out)))); rintro e w9 ⟨rfl, hi, hb, hk⟩; refine ⟨_, rfl, ?_⟩; have n0_ := Qa.mk (Qp.trans (by repeat ((with_reducible (exact HK.out)))) hk (.inl rfl)); have n1_ := Qa.mk (hb); have n2_ := Qa.mk (hi); clear HK; clear HB; clear HI0; have HK := n0_; have HB := n1_; have HI0 := n2_; clear n0_ n1_ n2_; (try clear hb); (try clear hb2); (try clear hk); (try clear hi)))
 go_ret
 exact ⟨by rfl, by (try simp only [Int.add_zero]); repeat ((with_reducible (exact HI0.out))), by repeat ((with_reducible (exact HB.out))), by repeat ((with_reducible (exact HK.out)))⟩
def Qm1.f (s0_0 : List Int) (s0_1 : Int) (s0_2 : Int) (a1 : Int) : Option (Bool × Int × Int) := (Qe.f s0_0 s0_1 s0_2 a1).bind fun bt108 => (some ((bt108.1 == 0), bt108.2.1, bt108.2.2))
set_option maxHeartbeats 8000000 in
set_option maxRecDepth 100000 in
theorem Qm1.calls (g : Nat) (s0_0 : List Int) (s0_1 : Int) (s0_2 : Int) (a1 : Int) (r1 : Bool) (r2 : Int) (r3 : Int) (w0 w : World) (hI : IsS50 w0 w g s0_0 s0_1 s0_2) (hB : Below w0.heap.size w0 w) (h : Qm1.f s0_0 s0_1 s0_2 a1 = some (r1, r2, r3)) :
  Calls Tryz.prog 32 #[.pointer (some ⟨g, 0, none⟩), .int .i64 a1] w fun e w' => e = .returned (.bool r1) ∧ IsS50 w0 w' g s0_0 r2 r3 ∧ Below w0.heap.size w0 w' ∧ Qp w w' g none := by
 have HI0 := Qa.mk hI
 have HK := Qa.mk (Qp.refl w g none)
 have HL := Qa.mk hB.size
 clear hI
 have HW0 := Qa.mk hB.size
 have HB := Qa.mk hB
 clear hB
 have H : ((Qe.f s0_0 s0_1 s0_2 a1).bind fun bt108 => (some ((bt108.1 == 0), bt108.2.1, bt108.2.2))) = some (r1, r2, r3) := h
 clear h
 replace H := Option.bind_eq_some_iff.mp H
 obtain ⟨⟨t108, t109, t110⟩, A30, H⟩ := H
 replace H : (some ((t108 == 0), t109, t110)) = some (r1, r2, r3) := H
 have A3 := Qa.mk A30
 clear A30
 simp only [Option.some.injEq, Prod.mk.injEq] at H
 obtain ⟨rfl, rfl, rfl⟩ := H
 go_enter Tryz.func32, Tryz.ntmps32
 go_wp2_with (((with_reducible refine Qg (f := 36) rfl ?_); refine goesL_ (some 7) rfl rfl Tryz.func36 (by kernel_rfl) rfl #[.pointer (some ⟨g, 0, none⟩), .int .i64 a1] rfl (by (try simp only [List.map_toArray, List.map_cons, List.map_nil]); rfl) ?_; (with_reducible refine (Qe.calls g s0_0 s0_1 s0_2 a1 t108 t109 t110 w0 _ ?side1 ?side2 A3.out).mono ?_); (case side1 => repeat ((with_reducible (exact HI0.out)))); (case side2 => repeat ((with_reducible (exact HB.out)))); rintro e w4 ⟨rfl, hi, hb, hk⟩; refine ⟨_, rfl, ?_⟩; have n0_ := Qa.mk (Qp.trans (by repeat ((with_reducible (exact HK.out)))) hk (.inl rfl)); have n1_ := Qa.mk (hb); have n2_ := Qa.mk (hi); clear HK; clear HB; clear HI0; have HK := n0_; have HB := n1_; have HI0 := n2_; clear n0_ n1_ n2_; (try clear hb); (try clear hb2); (try clear hk); (try clear hi)))
 go_ret
 exact ⟨by rfl, by (try simp only [Int.add_zero]); repeat ((with_reducible (exact HI0.out))), by repeat ((with_reducible (exact HB.out))), by repeat ((with_reducible (exact HK.out)))⟩
def Qi2.f (l0 : List Int) : Option (List Int) := (some (([] : List Int) : List Int)).bind fun y111 => (if y111.length + l0.length < 17592186044416 then (some (y111 ++ l0)) else (none))
set_option maxHeartbeats 8000000 in
set_option maxRecDepth 100000 in
theorem Qi2.calls (A0 : Option Addr) (c0 : Nat) (l0 : List Int) (r : List Int) (w : World) (hr0 : Kd.C (Kd.int .i64) w A0 l0.length l0) (hc0 : l0.length ≤ c0) (h : Qi2.f l0 = some r) :
  Calls Tryz.prog 51 #[.slice A0 l0.length c0] w fun e w' => ∃ v0_ : Value, e = .returned (v0_) ∧ Kd.R (Kd.int .i64) 3 w' w.heap.size (fun _ => True) v0_ r ∧ Below w.heap.size w w' := by
 have HR0 := Qa.mk hr0
 have HC0 := Qa.mk hc0
 clear hr0 hc0
 have HB := Qa.mk (Below.refl w.heap.size w)
 have H : ((some (([] : List Int) : List Int)).bind fun y111 => (if y111.length + l0.length < 17592186044416 then (some (y111 ++ l0)) else (none))) = some r := h
 clear h
 obtain ⟨y111, hy111⟩ : ∃ y_ : List Int, y_ = (([] : List Int)) := ⟨_, rfl⟩
 replace H : (if y111.length + l0.length < 17592186044416 then (some (y111 ++ l0)) else (none)) = some r := by (have H2_ := (Option.bind_some _ _).symm.trans H; rw [hy111]; with_reducible exact H2_)
 have Ny111 := Qa.mk hy111
 clear hy111
 by_cases c2 : y111.length + l0.length < 17592186044416
 rotate_left
 ·rw [if_neg c2] at H
  exact absurd H (by simp)
 rw [if_pos c2] at H
 have LMc2 := Qa.mk c2
 clear c2
 obtain ⟨y114, hy114⟩ : ∃ y_ : List Int, y_ = (y111 ++ l0) := ⟨_, rfl⟩
 replace H : (some y114) = some r := by (rw [hy114]; with_reducible exact H)
 have Ny114 := Qa.mk hy114
 clear hy114
 obtain rfl := Option.some.inj H
 go_enter Tryz.func51, Tryz.ntmps51
 go_wp2_with (first | ((with_reducible refine gate_dst (N := 3) rfl ?_); refine Kd.R_lit (Kd.int .i64) _ 3 ?hg (N := 3) ?hd (xs := ([] : List Int)) (inner := []) (ok := fun _ => True) (okp := fun _ => True) ?hr ?hp (fun _ hk => hk) trivial (Below.refl _ _) (Nat.le_refl _) (by simp) ?_; (case hd => rfl); (case hg => rfl); (case hr => (go_simp; done)); (case hp => exact (Reps.none _ _)); intro v112 w3 ho4 hb hg_ hnew_; clear hg_ hnew_; ((rw [← Ny111.out] at ho4)); have n0_ := Qa.mk (Kd.R_lower ho4 (Qq (by repeat ((with_reducible (exact HB.out)))))); have n1_ := Qa.mk (Qh (by repeat ((with_reducible (exact HB.out)))) hb); clear HB; have HO113 := n0_; have HB := n1_; clear n0_ n1_; clear hb ho4) | ((with_reducible refine gate_builtin (b := .append) (xs := #[.tmp 3, .tmp 4]) rfl ?_); at_builtin; refine Kd.R_append_rows (Kd.int .i64) (w0 := w) w.heap.size rfl (.tmp 3) (.tmp 4) 32 3 (.int .i64 0) 8 rfl Tryz.underlying32 info3 rfl (by decide) (by omega) v112 y111 l0 _ _ _ (fun _ => True) (fun _ => False) rfl rfl ?aO ?aR (fun _ _ h => h) (fun _ h => h.elim) ?aF ?aB ?aS ?aL ?_; (case aR => repeat ((exact (Kd.C_below HR0.out HB.out)))); (case aB => exact (by repeat ((with_reducible (exact HB.out))))); (case aF => exact (fun _ _ => trivial)); (case aO => exact (by (with_reducible repeat (fail)); exact HO113.out)); (case aS => exact (Qq (by repeat ((with_reducible (exact HB.out)))))); (case aL => have := LMc2.out; omega); intro v115 w5 ho hb hg hat; rw [← Ny114.out] at ho; have n0_ := Qa.mk (hb); have n1_ := Qa.mk (ho); clear HB; clear HO113; have HB := n0_; have HO116 := n1_; clear n0_ n1_; clear ho hb hg hat))
 go_ret
 exact ⟨_, by rfl, by (with_reducible repeat (fail)); exact HO116.out, by repeat ((with_reducible (exact HB.out)))⟩
mutual
def Qf1.l0 : Nat → List Int → List Int → Int → Int → Option (List Int)
 | 0, _, _, _, _ => none
 | k + 1, x3, x8, x9, x10 => if x10 < x9 then (if 0 ≤ x10 then (if x10 < (x8.length : Int) then (Qf1.l1 k x3 (rd x8 x10) (x3.length : Int) x8 x9 x10) else (none)) else (none)) else (some x3)
def Qf1.l1 : Nat → List Int → Int → Int → List Int → Int → Int → Option (List Int)
 | 0, _, _, _, _, _, _ => none
 | k + 1, x3, x5, x6, x8, x9, x10 => if x6 > 0 then (if 0 ≤ (wrap64 (x6 - 1)) then (if (wrap64 (x6 - 1)) < (x3.length : Int) then (if (rd x3 (wrap64 (x6 - 1))) > x5 then (Qf1.l1 k x3 x5 (wrap64 (x6 - 1)) x8 x9 x10) else (if 0 ≤ x6 then (if x6 ≤ (x3.length : Int) then ((Qi2.f (x3.take (x6 : Int).toNat)).bind fun t123 => (if t123.length < 17592186044416 then ((some (t123 ++ [x5] : List Int)).bind fun y126 => ((some (x3.drop (x6 : Int).toNat : List Int)).bind fun y129 => (if y126.length + y129.length < 17592186044416 then (Qf1.l0 k (y126 ++ y129) x8 x9 (wrap64 (x10 + 1))) else (none)))) else (none))) else (none)) else (none))) else (none)) else (none)) else (if 0 ≤ x6 then (if x6 ≤ (x3.length : Int) then ((Qi2.f (x3.take (x6 : Int).toNat)).bind fun t140 => (if t140.length < 17592186044416 then ((some (t140 ++ [x5] : List Int)).bind fun y143 => ((some (x3.drop (x6 : Int).toNat : List Int)).bind fun y146 => (if y143.length + y146.length < 17592186044416 then (Qf1.l0 k (y143 ++ y146) x8 x9 (wrap64 (x10 + 1))) else (none)))) else (none))) else (none)) else (none))
end
def Qf1.f (k : Nat) (l0 : List Int) : Option (List Int) := Qf1.l0 k ([] : List Int) l0 (l0.length : Int) 0
set_option maxHeartbeats 8000000 in
set_option maxRecDepth 100000 in
theorem Qf1.calls (k : Nat) (A0 : Option Addr) (c0 : Nat) (l0 : List Int) (r : List Int) (w : World) (hr0 : Kd.C (Kd.int .i64) w A0 l0.length l0) (hc0 : l0.length ≤ c0) (h : Qf1.f k l0 = some r) :
  Calls Tryz.prog 65 #[.slice A0 l0.length c0] w fun e w' => ∃ v0_ : Value, e = .returned (v0_) ∧ Kd.R (Kd.int .i64) 3 w' w.heap.size (fun _ => True) v0_ r ∧ Below w.heap.size w w' := by
 have HR0 := Qa.mk hr0
 have HC0 := Qa.mk hc0
 clear hr0 hc0
 have HB := Qa.mk (Below.refl w.heap.size w)
 have H : (Qf1.l0 k ([] : List Int) l0 (l0.length : Int) 0) = some r := h
 clear h
 have H' := Qa.mk H
 clear H
 go_enter Tryz.func65, Tryz.ntmps65
 go_wp2
 go_loopg [3, 10] k (fun kq v3 v10 w' => ∃ (x3_1 : List Int) (x10_1 : Int), v10 = .int .i64 x10_1 ∧ Qa (Qf1.l0 kq x3_1 l0 (l0.length : Int) x10_1 = some r) ∧ Qa (kq ≤ k) ∧ Qa (Kd.R (Kd.int .i64) 3 w' w.heap.size (fun _ => True) v3 x3_1) ∧ Qa (Below w.heap.size w w'))
 case atStart => exact ⟨(([] : List Int)), (0), (by rfl), H', ⟨Nat.le_refl _⟩, ⟨by (exact Kd.R_nil _ _ _ _ _)⟩, ⟨by repeat ((with_reducible (exact HB.out)))⟩⟩
 case round =>
  clear H'
  obtain ⟨x3_1, x10_1, rfl, HA, HK1, HO_3, HB⟩ := hrel
  cases gk with
  | zero => exact absurd HA.out (by simp [Qf1.l0])
  | succ k1 =>
   have H := HA.out
   clear HA
   simp only [Qf1.l0] at H
   by_cases c2 : x10_1 < (l0.length : Int)
   rotate_left
   ·rw [if_neg c2] at H
    have c2b0 : decide (x10_1 < (l0.length : Int)) = false := decide_eq_false c2
    clear c2
    obtain rfl := Option.some.inj H
    go_wp2
    go_ret
    exact ⟨_, by rfl, by (with_reducible repeat (fail)); exact HO_3.out, by repeat ((with_reducible (exact HB.out)))⟩
   rw [if_pos c2] at H
   have c2b0 : decide (x10_1 < (l0.length : Int)) = true := decide_eq_true c2
   clear c2
   by_cases c3 : 0 ≤ x10_1
   rotate_left
   ·rw [if_neg c3] at H
    exact absurd H (by simp)
   rw [if_pos c3] at H
   have c3b0 : decide (0 ≤ x10_1) = true := decide_eq_true c3
   clear c3
   by_cases c4 : x10_1 < (l0.length : Int)
   rotate_left
   ·rw [if_neg c4] at H
    exact absurd H (by simp)
   rw [if_pos c4] at H
   have c4b0 : decide (x10_1 < (l0.length : Int)) = true := decide_eq_true c4
   clear c4
   have H' := Qa.mk H
   clear H
   have p117 : 0 ≤ (x10_1 : Int) := of_decide_eq_true (by (with_reducible assumption))
   have q117 : x10_1 < (l0.length : Int) := of_decide_eq_true (by (with_reducible assumption))
   obtain ⟨ad117, e117, hx117_0⟩ := Kd.at_int HR0.out x10_1 p117 q117
   cases e117
   replace hx117_0 := (HB.out.cell (World.block_lt_of_cell? w _ hx117_0)).trans hx117_0
   replace p117 := eq_true p117
   replace q117 := eq_true q117
   obtain ⟨Ao5, co5, eo5⟩ := Kd.R_slice HO_3.out
   subst eo5
   go_wp2
   go_loopg [6] k1 (fun kq v6 w' => ∃ (x6_2 : Int), v6 = .int .i64 x6_2 ∧ Qa (Qf1.l1 kq x3_1 (rd l0 x10_1) x6_2 l0 (l0.length : Int) x10_1 = some r) ∧ Qa (kq ≤ k1) ∧ Qa (Kd.R (Kd.int .i64) 3 w' w.heap.size (fun _ => True) (.slice Ao5 x3_1.length co5) x3_1) ∧ Qa (Below w.heap.size w w'))
   case atStart => exact ⟨((x3_1.length : Int)), (by rfl), H', ⟨Nat.le_refl _⟩, ⟨by (with_reducible repeat (fail)); exact HO_3.out⟩, ⟨by repeat ((with_reducible (exact HB.out)))⟩⟩
   case round =>
    clear H' c2b0 c3b0 c4b0 hx117_0 p117 q117
    obtain ⟨x6_2, rfl, HA, HK2, HO_3, HB⟩ := hrel
    cases gk with
    | zero => exact absurd HA.out (by simp [Qf1.l1])
    | succ k2 =>
     have H := HA.out
     clear HA
     simp only [Qf1.l1] at H
     by_cases c6 : x6_2 > 0
     rotate_left
     ·rw [if_neg c6] at H
      have c6b0 : decide (0 < x6_2) = false := decide_eq_false c6
      clear c6
      by_cases c23 : 0 ≤ x6_2
      rotate_left
      ·rw [if_neg c23] at H
       exact absurd H (by simp)
      rw [if_pos c23] at H
      have c23b0 := eq_true c23
      have c23b1 : decide (0 ≤ x6_2) = true := decide_eq_true c23
      clear c23
      by_cases c24 : x6_2 ≤ (x3_1.length : Int)
      rotate_left
      ·rw [if_neg c24] at H
       exact absurd H (by simp)
      rw [if_pos c24] at H
      have c24b0 := eq_true c24
      have c24b1 : decide (x6_2 ≤ (x3_1.length : Int)) = true := decide_eq_true c24
      clear c24
      obtain ⟨y136, hy136⟩ : ∃ y_ : List Int, y_ = (x3_1.take (x6_2 : Int).toNat) := ⟨_, rfl⟩
      replace H : ((Qi2.f y136).bind fun t140 => (if t140.length < 17592186044416 then ((some (t140 ++ [(rd l0 x10_1)] : List Int)).bind fun y143 => ((some (x3_1.drop (x6_2 : Int).toNat : List Int)).bind fun y146 => (if y143.length + y146.length < 17592186044416 then (Qf1.l0 k2 (y143 ++ y146) l0 (l0.length : Int) (wrap64 (x10_1 + 1))) else (none)))) else (none))) = some r := by (rw [hy136]; with_reducible exact H)
      have Ny136 := Qa.mk hy136
      clear hy136
      replace H := Option.bind_eq_some_iff.mp H
      obtain ⟨t140, A250, H⟩ := H
      replace H : (if t140.length < 17592186044416 then ((some (t140 ++ [(rd l0 x10_1)] : List Int)).bind fun y143 => ((some (x3_1.drop (x6_2 : Int).toNat : List Int)).bind fun y146 => (if y143.length + y146.length < 17592186044416 then (Qf1.l0 k2 (y143 ++ y146) l0 (l0.length : Int) (wrap64 (x10_1 + 1))) else (none)))) else (none)) = some r := H
      have A25 := Qa.mk A250
      clear A250
      by_cases c26 : t140.length < 17592186044416
      rotate_left
      ·rw [if_neg c26] at H
       exact absurd H (by simp)
      rw [if_pos c26] at H
      have LMc26 := Qa.mk c26
      clear c26
      obtain ⟨y143, hy143⟩ : ∃ y_ : List Int, y_ = (t140 ++ [(rd l0 x10_1)]) := ⟨_, rfl⟩
      replace H : ((some (x3_1.drop (x6_2 : Int).toNat : List Int)).bind fun y146 => (if y143.length + y146.length < 17592186044416 then (Qf1.l0 k2 (y143 ++ y146) l0 (l0.length : Int) (wrap64 (x10_1 + 1))) else (none))) = some r := by (have H2_ := (Option.bind_some _ _).symm.trans H; rw [hy143]; with_reducible exact H2_)
      have Ny143 := Qa.mk hy143
      clear hy143
      have c27b0 := eq_true (of_decide_eq_true (by (with_reducible assumption)) : 0 ≤ x6_2)
      have c28b0 := eq_true (of_decide_eq_true (by (with_reducible assumption)) : x6_2 ≤ (x3_1.length : Int))
      obtain ⟨y146, hy146⟩ : ∃ y_ : List Int, y_ = (x3_1.drop (x6_2 : Int).toNat) := ⟨_, rfl⟩
      replace H : (if y143.length + y146.length < 17592186044416 then (Qf1.l0 k2 (y143 ++ y146) l0 (l0.length : Int) (wrap64 (x10_1 + 1))) else (none)) = some r := by (have H2_ := (Option.bind_some _ _).symm.trans H; rw [hy146]; with_reducible exact H2_)
      have Ny146 := Qa.mk hy146
      clear hy146
      by_cases c29 : y143.length + y146.length < 17592186044416
      rotate_left
      ·rw [if_neg c29] at H
       exact absurd H (by simp)
      rw [if_pos c29] at H
      have LMc29 := Qa.mk c29
      clear c29
      obtain ⟨y150, hy150⟩ : ∃ y_ : List Int, y_ = (y143 ++ y146) := ⟨_, rfl⟩
      replace H : (Qf1.l0 k2 y150 l0 (l0.length : Int) (wrap64 (x10_1 + 1))) = some r := by (rw [hy150]; with_reducible exact H)
      have Ny150 := Qa.mk hy150
      clear hy150
      have H' := Qa.mk H
      clear H
      have q30 : (x6_2 : Int) ≤ ((x3_1.length : Int) : Int) := of_decide_eq_true (by (with_reducible assumption))
      obtain ⟨i030, hi030, _, hsz30, _⟩ := info_parts info3
      have hroom30 : x3_1.length ≤ co5 := (Kd.R_reads' HO_3.out).2.1
      have hC30 : Kd.C (Kd.int .i64) _ Ao5 x3_1.length x3_1 := (Kd.R_reads' HO_3.out).2.2
      have hcut30 := cut_to (P := Tryz.prog) 32 3 .i64 Tryz.underlying32 hi030 Ao5 x3_1.length co5 x6_2 (of_decide_eq_true (by (with_reducible assumption))) q30 hroom30
      have hr30 := Kd.C_take (m := (x6_2 : Int).toNat) hC30 (by omega)
      have hy30 : y136.length = (x6_2 : Int).toNat := (by rw [Ny136.out, List.length_take]; omega)
      rw [← Ny136.out] at hr30
      rw [← hy30] at hcut30
      have HR139 := Qa.mk hr30
      have HC139 := Qa.mk (show y136.length ≤ co5 from by omega)
      clear hr30 hC30 hroom30 hi030 hsz30
      have KY30 := Qa.mk hy30
      clear hy30
      have KL30 := Qa.mk (show (x6_2 : Int).toNat ≤ x3_1.length from by omega)
      replace q30 := eq_true q30
      go_wp2_with (first | ((with_reducible refine Qg (f := 51) rfl ?_); refine goesL_ (some 32) rfl rfl Tryz.func51 (by kernel_rfl) rfl #[.slice Ao5 y136.length co5] rfl (by (try simp only [List.map_toArray, List.map_cons, List.map_nil]); rfl) ?_; (with_reducible refine (Qi2.calls _ _ y136 t140 _ ?side1 ?side2 A25.out).mono ?_); (case side1 => repeat ((exact (by repeat ((with_reducible exact HR139.out)))))); (case side2 => exact HC139.out); rintro e w31 ⟨v141, rfl, ho0, hb⟩; refine ⟨_, rfl, ?_⟩; have n0_ := Qa.mk (Kd.R_elder' (by (with_reducible repeat (fail)); exact HO_3.out) (Kd.R_base ho0) hb); have n1_ := Qa.mk (Kd.R_lower (Kd.R_new' ho0 (Kd.R_lt (by (with_reducible repeat (fail)); exact HO_3.out))) (Qq (by repeat ((with_reducible (exact HB.out)))))); have n2_ := Qa.mk (Kd.C_below (by repeat ((with_reducible exact HR139.out))) hb); have n3_ := Qa.mk (Qh (by repeat ((with_reducible (exact HB.out)))) hb); clear HO_3; clear HR139; clear HB; have HO_3 := n0_; have HO142 := n1_; have HR139 := n2_; have HB := n3_; clear n0_ n1_ n2_ n3_; (try clear hb); (try clear hb2); (try clear hk); (try clear hi); (try clear ho0)) | ((with_reducible refine gate_builtin (b := .append) (xs := #[.tmp 32, .tmp 34]) rfl ?_); at_builtin; refine Kd.R_append (Kd.int .i64) (w0 := w) w.heap.size rfl (.tmp 32) (.tmp 34) 32 3 (.int .i64 0) 8 rfl Tryz.underlying32 info3 rfl (by decide) (by omega) v141 t140 (rd l0 x10_1) [.int .i64 (rd l0 x10_1)] (fun k_ => some k_ ≠ (.slice Ao5 x3_1.length co5 : Value).ownBlock) (fun _ => False) rfl rfl ?aP (fun _ hk => hk.elim) ?aF ?aO ?aB ?aS ?aL ?_; (case aP => exact rfl); (case aB => exact (by repeat ((with_reducible (exact HB.out))))); (case aF => exact (fun k_ hk => Kd.fresh' (Kd.R_lt (by (with_reducible repeat (fail)); exact HO_3.out)) k_ hk)); (case aO => exact (by (with_reducible repeat (fail)); exact Kd.R_mono HO142.out (fun _ hk => hk.2))); (case aS => exact (Qq (by repeat ((with_reducible (exact HB.out)))))); (case aL => have := LMc26.out; omega); intro v144 w32 ho hb hg hat; rw [← Ny143.out] at ho; have n0_ := Qa.mk (Kd.R_after (ok := (fun _ => True)) (by (with_reducible repeat (fail)); exact HO_3.out) hg hat); have n1_ := Qa.mk (hb); have n2_ := Qa.mk ((show Kd.C (Kd.int .i64) w32 Ao5 y136.length y136 from by rw [Ny136.out]; exact Kd.C_take (m := (x6_2 : Int).toNat) ((Kd.R_reads' (Kd.R_after (ok := (fun _ => True)) (by (with_reducible repeat (fail)); exact HO_3.out) hg hat)).2.2) KL30.out)); have n3_ := Qa.mk (ho); clear HO_3; clear HB; clear HR139; clear HO142; have HO_3 := n0_; have HB := n1_; have HR139 := n2_; have HO145 := n3_; clear n0_ n1_ n2_ n3_; clear ho hb hg hat; have q33 : (x6_2 : Int) ≤ ((x3_1.length : Int) : Int) := of_decide_eq_true (by (with_reducible assumption)); obtain ⟨i033, hi033, _, hsz33, _⟩ := info_parts info3; have hroom33 : x3_1.length ≤ co5 := (Kd.R_reads' HO_3.out).2.1; have hC33 : Kd.C (Kd.int .i64) _ Ao5 x3_1.length x3_1 := (Kd.R_reads' HO_3.out).2.2; have q033 : (0 : Int) ≤ (x6_2 : Int) := of_decide_eq_true (by (with_reducible assumption)); have hcut33 := cut_from (P := Tryz.prog) 32 3 .i64 Tryz.underlying32 hi033 1 hsz33 Ao5 x3_1.length co5 x6_2 q033 q33; have hr33 := Kd.C_drop (m := (x6_2 : Int).toNat) (c := co5) hC33 (by omega) hroom33; obtain ⟨A33, hA33⟩ : ∃ A1, A1 = (if co5 = (x6_2 : Int).toNat then Ao5 else (Ao5 : Option Addr).map (·.add ((x6_2 : Int).toNat * 1))) := ⟨_, rfl⟩; obtain ⟨c33, hc33⟩ : ∃ c1, c1 = co5 - (x6_2 : Int).toNat := ⟨_, rfl⟩; have hy33 : y146.length = x3_1.length - (x6_2 : Int).toNat := (by rw [Ny146.out, List.length_drop] <;> omega); rw [show (x3_1).drop (x6_2 : Int).toNat = y146 from Ny146.out.symm] at hr33; replace hr33 : Kd.C (Kd.int .i64) _ A33 y146.length y146 := (by rw [hA33]; exact hr33); rw [← hy33, ← hA33, ← hc33] at hcut33; have HR149 := Qa.mk hr33; have HC149 := Qa.mk (show y146.length ≤ c33 from by rw [hy33, hc33]; exact Nat.sub_le_sub_right hroom33 _); clear hr33 hC33 hroom33 hi033 hsz33 hc33; have KY33 := Qa.mk hy33; have KA33 := Qa.mk hA33; clear hy33 hA33; have KL33 := Qa.mk (show (x6_2 : Int).toNat ≤ x3_1.length from by omega); replace q33 := eq_true q33) | ((with_reducible refine gate_builtin (b := .append) (xs := #[.tmp 36, .tmp 39]) rfl ?_); at_builtin; refine Kd.R_append_rows (Kd.int .i64) (w0 := w) w.heap.size rfl (.tmp 36) (.tmp 39) 32 3 (.int .i64 0) 8 rfl Tryz.underlying32 info3 rfl (by decide) (by omega) v144 y143 y146 _ _ _ (fun k_ => some k_ ≠ (.slice Ao5 x3_1.length co5 : Value).ownBlock) (fun _ => False) rfl rfl ?aO ?aR (fun _ _ h => h) (fun _ h => h.elim) ?aF ?aB ?aS ?aL ?_; (case aR => repeat ((exact (by repeat ((exact HR149.out)))))); (case aB => exact (by repeat ((with_reducible (exact HB.out))))); (case aF => exact (fun k_ hk => Kd.fresh' (Kd.R_lt (by (with_reducible repeat (fail)); exact HO_3.out)) k_ hk)); (case aO => exact (by (with_reducible repeat (fail)); exact HO145.out)); (case aS => exact (Qq (by repeat ((with_reducible (exact HB.out)))))); (case aL => have := LMc29.out; omega); intro v151 w34 ho hb hg hat; rw [← Ny150.out] at ho; have n0_ := Qa.mk (Kd.R_after (ok := (fun _ => True)) (by (with_reducible repeat (fail)); exact HO_3.out) hg hat); have n1_ := Qa.mk (hb); have n2_ := Qa.mk ((show Kd.C (Kd.int .i64) w34 Ao5 y136.length y136 from by rw [Ny136.out]; exact Kd.C_take (m := (x6_2 : Int).toNat) ((Kd.R_reads' (Kd.R_after (ok := (fun _ => True)) (by (with_reducible repeat (fail)); exact HO_3.out) hg hat)).2.2) KL30.out)); have n3_ := Qa.mk ((show Kd.C (Kd.int .i64) w34 A33 y146.length y146 from by rw [Ny146.out, KA33.out]; exact Kd.C_drop (m := (x6_2 : Int).toNat) (c := co5) ((Kd.R_reads' (Kd.R_after (ok := (fun _ => True)) (by (with_reducible repeat (fail)); exact HO_3.out) hg hat)).2.2) KL33.out ((Kd.R_reads' (Kd.R_after (ok := (fun _ => True)) (by (with_reducible repeat (fail)); exact HO_3.out) hg hat)).2.1))); have n4_ := Qa.mk (ho); clear HO_3; clear HB; clear HR139; clear HR149; clear HO145; have HO_3 := n0_; have HB := n1_; have HR139 := n2_; have HR149 := n3_; have HO152 := n4_; clear n0_ n1_ n2_ n3_ n4_; clear ho hb hg hat))
      (go_roundg k2)
      case measure => have := HK1.out; have := HK2.out; omega
      case rel => exact ⟨(y150), (wrap64 (x10_1 + 1)), (by rfl), H', ⟨by have := HK1.out; have := HK2.out; omega⟩, ⟨by (with_reducible repeat (fail)); exact Kd.R_mono HO152.out (fun _ hk => trivial)⟩, ⟨by repeat ((with_reducible (exact HB.out)))⟩⟩
     rw [if_pos c6] at H
     have c6b0 : decide (0 < x6_2) = true := decide_eq_true c6
     clear c6
     obtain ⟨ji7, hji7⟩ : ∃ j_ : Int, (wrap64 (x6_2 - 1)) = j_ := ⟨_, rfl⟩
     replace H : (if 0 ≤ (ji7) then (if (ji7) < (x3_1.length : Int) then (if (rd x3_1 (ji7)) > (rd l0 x10_1) then (Qf1.l1 k2 x3_1 (rd l0 x10_1) ji7 l0 (l0.length : Int) x10_1) else (if 0 ≤ x6_2 then (if x6_2 ≤ (x3_1.length : Int) then ((Qi2.f (x3_1.take (x6_2 : Int).toNat)).bind fun t123 => (if t123.length < 17592186044416 then ((some (t123 ++ [(rd l0 x10_1)] : List Int)).bind fun y126 => ((some (x3_1.drop (x6_2 : Int).toNat : List Int)).bind fun y129 => (if y126.length + y129.length < 17592186044416 then (Qf1.l0 k2 (y126 ++ y129) l0 (l0.length : Int) (wrap64 (x10_1 + 1))) else (none)))) else (none))) else (none)) else (none))) else (none)) else (none)) = some r := by (rw [hji7] at H; exact H)
     have hji7w : (IntKind.i64.wrap (x6_2 - 1)) = ji7 := (i64_w _).trans hji7
     by_cases c8 : 0 ≤ (ji7)
     rotate_left
     ·rw [if_neg c8] at H
      exact absurd H (by simp)
     rw [if_pos c8] at H
     have c8b0 : decide (0 ≤ (ji7)) = true := decide_eq_true c8
     clear c8
     by_cases c9 : (ji7) < (x3_1.length : Int)
     rotate_left
     ·rw [if_neg c9] at H
      exact absurd H (by simp)
     rw [if_pos c9] at H
     have c9b0 : decide ((ji7) < (x3_1.length : Int)) = true := decide_eq_true c9
     clear c9
     by_cases c10 : (rd x3_1 (ji7)) > (rd l0 x10_1)
     ·rw [if_pos c10] at H
      have c10b0 : decide ((rd l0 x10_1) < (rd x3_1 (ji7))) = true := decide_eq_true c10
      clear c10
      have H' := Qa.mk H
      clear H
      have p118 : 0 ≤ ((ji7) : Int) := of_decide_eq_true (by (with_reducible assumption))
      have q118 : (ji7) < (x3_1.length : Int) := of_decide_eq_true (by (with_reducible assumption))
      obtain ⟨ad118, e118, hx118_0⟩ := Kd.at_int (Kd.R_reads' HO_3.out).2.2 (ji7) p118 q118
      cases e118
      replace p118 := eq_true p118
      replace q118 := eq_true q118
      go_wp2
      (go_roundg k2)
      case measure => have := HK1.out; have := HK2.out; omega
      case rel => exact ⟨(ji7), (by rfl), H', ⟨by have := HK1.out; have := HK2.out; omega⟩, ⟨by (with_reducible repeat (fail)); exact HO_3.out⟩, ⟨by repeat ((with_reducible (exact HB.out)))⟩⟩
     rw [if_neg c10] at H
     have c10b0 : decide ((rd l0 x10_1) < (rd x3_1 (ji7))) = false := decide_eq_false c10
     clear c10
     by_cases c11 : 0 ≤ x6_2
     rotate_left
     ·rw [if_neg c11] at H
      exact absurd H (by simp)
     rw [if_pos c11] at H
     have c11b0 := eq_true c11
     have c11b1 : decide (0 ≤ x6_2) = true := decide_eq_true c11
     clear c11
     by_cases c12 : x6_2 ≤ (x3_1.length : Int)
     rotate_left
     ·rw [if_neg c12] at H
      exact absurd H (by simp)
     rw [if_pos c12] at H
     have c12b0 := eq_true c12
     have c12b1 : decide (x6_2 ≤ (x3_1.length : Int)) = true := decide_eq_true c12
     clear c12
     obtain ⟨y119, hy119⟩ : ∃ y_ : List Int, y_ = (x3_1.take (x6_2 : Int).toNat) := ⟨_, rfl⟩
     replace H : ((Qi2.f y119).bind fun t123 => (if t123.length < 17592186044416 then ((some (t123 ++ [(rd l0 x10_1)] : List Int)).bind fun y126 => ((some (x3_1.drop (x6_2 : Int).toNat : List Int)).bind fun y129 => (if y126.length + y129.length < 17592186044416 then (Qf1.l0 k2 (y126 ++ y129) l0 (l0.length : Int) (wrap64 (x10_1 + 1))) else (none)))) else (none))) = some r := by (rw [hy119]; with_reducible exact H)
     have Ny119 := Qa.mk hy119
     clear hy119
     replace H := Option.bind_eq_some_iff.mp H
     obtain ⟨t123, A130, H⟩ := H
     replace H : (if t123.length < 17592186044416 then ((some (t123 ++ [(rd l0 x10_1)] : List Int)).bind fun y126 => ((some (x3_1.drop (x6_2 : Int).toNat : List Int)).bind fun y129 => (if y126.length + y129.length < 17592186044416 then (Qf1.l0 k2 (y126 ++ y129) l0 (l0.length : Int) (wrap64 (x10_1 + 1))) else (none)))) else (none)) = some r := H
     have A13 := Qa.mk A130
     clear A130
     by_cases c14 : t123.length < 17592186044416
     rotate_left
     ·rw [if_neg c14] at H
      exact absurd H (by simp)
     rw [if_pos c14] at H
     have LMc14 := Qa.mk c14
     clear c14
     obtain ⟨y126, hy126⟩ : ∃ y_ : List Int, y_ = (t123 ++ [(rd l0 x10_1)]) := ⟨_, rfl⟩
     replace H : ((some (x3_1.drop (x6_2 : Int).toNat : List Int)).bind fun y129 => (if y126.length + y129.length < 17592186044416 then (Qf1.l0 k2 (y126 ++ y129) l0 (l0.length : Int) (wrap64 (x10_1 + 1))) else (none))) = some r := by (have H2_ := (Option.bind_some _ _).symm.trans H; rw [hy126]; with_reducible exact H2_)
     have Ny126 := Qa.mk hy126
     clear hy126
     have c15b0 := eq_true (of_decide_eq_true (by (with_reducible assumption)) : 0 ≤ x6_2)
     have c16b0 := eq_true (of_decide_eq_true (by (with_reducible assumption)) : x6_2 ≤ (x3_1.length : Int))
     obtain ⟨y129, hy129⟩ : ∃ y_ : List Int, y_ = (x3_1.drop (x6_2 : Int).toNat) := ⟨_, rfl⟩
     replace H : (if y126.length + y129.length < 17592186044416 then (Qf1.l0 k2 (y126 ++ y129) l0 (l0.length : Int) (wrap64 (x10_1 + 1))) else (none)) = some r := by (have H2_ := (Option.bind_some _ _).symm.trans H; rw [hy129]; with_reducible exact H2_)
     have Ny129 := Qa.mk hy129
     clear hy129
     by_cases c17 : y126.length + y129.length < 17592186044416
     rotate_left
     ·rw [if_neg c17] at H
      exact absurd H (by simp)
     rw [if_pos c17] at H
     have LMc17 := Qa.mk c17
     clear c17
     obtain ⟨y133, hy133⟩ : ∃ y_ : List Int, y_ = (y126 ++ y129) := ⟨_, rfl⟩
     replace H : (Qf1.l0 k2 y133 l0 (l0.length : Int) (wrap64 (x10_1 + 1))) = some r := by (rw [hy133]; with_reducible exact H)
     have Ny133 := Qa.mk hy133
     clear hy133
     have H' := Qa.mk H
     clear H
     have p118 : 0 ≤ ((ji7) : Int) := of_decide_eq_true (by (with_reducible assumption))
     have q118 : (ji7) < (x3_1.length : Int) := of_decide_eq_true (by (with_reducible assumption))
     obtain ⟨ad118, e118, hx118_0⟩ := Kd.at_int (Kd.R_reads' HO_3.out).2.2 (ji7) p118 q118
     cases e118
     replace p118 := eq_true p118
     replace q118 := eq_true q118
     have q18 : (x6_2 : Int) ≤ ((x3_1.length : Int) : Int) := of_decide_eq_true (by (with_reducible assumption))
     obtain ⟨i018, hi018, _, hsz18, _⟩ := info_parts info3
     have hroom18 : x3_1.length ≤ co5 := (Kd.R_reads' HO_3.out).2.1
     have hC18 : Kd.C (Kd.int .i64) _ (some ad118) x3_1.length x3_1 := (Kd.R_reads' HO_3.out).2.2
     have hcut18 := cut_to (P := Tryz.prog) 32 3 .i64 Tryz.underlying32 hi018 (some ad118) x3_1.length co5 x6_2 (of_decide_eq_true (by (with_reducible assumption))) q18 hroom18
     have hr18 := Kd.C_take (m := (x6_2 : Int).toNat) hC18 (by omega)
     have hy18 : y119.length = (x6_2 : Int).toNat := (by rw [Ny119.out, List.length_take]; omega)
     rw [← Ny119.out] at hr18
     rw [← hy18] at hcut18
     have HR122 := Qa.mk hr18
     have HC122 := Qa.mk (show y119.length ≤ co5 from by omega)
     clear hr18 hC18 hroom18 hi018 hsz18
     have KY18 := Qa.mk hy18
     clear hy18
     have KL18 := Qa.mk (show (x6_2 : Int).toNat ≤ x3_1.length from by omega)
     replace q18 := eq_true q18
     go_wp2_with (first | ((with_reducible refine Qg (f := 51) rfl ?_); refine goesL_ (some 32) rfl rfl Tryz.func51 (by kernel_rfl) rfl #[.slice (some ad118) y119.length co5] rfl (by (try simp only [List.map_toArray, List.map_cons, List.map_nil]); rfl) ?_; (with_reducible refine (Qi2.calls _ _ y119 t123 _ ?side1 ?side2 A13.out).mono ?_); (case side1 => repeat ((exact (by repeat ((with_reducible exact HR122.out)))))); (case side2 => exact HC122.out); rintro e w19 ⟨v124, rfl, ho0, hb⟩; refine ⟨_, rfl, ?_⟩; have n0_ := Qa.mk (Kd.R_elder' (by (with_reducible repeat (fail)); exact HO_3.out) (Kd.R_base ho0) hb); have n1_ := Qa.mk (Kd.R_lower (Kd.R_new' ho0 (Kd.R_lt (by (with_reducible repeat (fail)); exact HO_3.out))) (Qq (by repeat ((with_reducible (exact HB.out)))))); have n2_ := Qa.mk (Kd.C_below (by repeat ((with_reducible exact HR122.out))) hb); have n3_ := Qa.mk (Qh (by repeat ((with_reducible (exact HB.out)))) hb); clear HO_3; clear HR122; clear HB; have HO_3 := n0_; have HO125 := n1_; have HR122 := n2_; have HB := n3_; clear n0_ n1_ n2_ n3_; (try clear hb); (try clear hb2); (try clear hk); (try clear hi); (try clear ho0)) | ((with_reducible refine gate_builtin (b := .append) (xs := #[.tmp 32, .tmp 34]) rfl ?_); at_builtin; refine Kd.R_append (Kd.int .i64) (w0 := w) w.heap.size rfl (.tmp 32) (.tmp 34) 32 3 (.int .i64 0) 8 rfl Tryz.underlying32 info3 rfl (by decide) (by omega) v124 t123 (rd l0 x10_1) [.int .i64 (rd l0 x10_1)] (fun k_ => some k_ ≠ (.slice (some ad118) x3_1.length co5 : Value).ownBlock) (fun _ => False) rfl rfl ?aP (fun _ hk => hk.elim) ?aF ?aO ?aB ?aS ?aL ?_; (case aP => exact rfl); (case aB => exact (by repeat ((with_reducible (exact HB.out))))); (case aF => exact (fun k_ hk => Kd.fresh' (Kd.R_lt (by (with_reducible repeat (fail)); exact HO_3.out)) k_ hk)); (case aO => exact (by (with_reducible repeat (fail)); exact Kd.R_mono HO125.out (fun _ hk => hk.2))); (case aS => exact (Qq (by repeat ((with_reducible (exact HB.out)))))); (case aL => have := LMc14.out; omega); intro v127 w20 ho hb hg hat; rw [← Ny126.out] at ho; have n0_ := Qa.mk (Kd.R_after (ok := (fun _ => True)) (by (with_reducible repeat (fail)); exact HO_3.out) hg hat); have n1_ := Qa.mk (hb); have n2_ := Qa.mk ((show Kd.C (Kd.int .i64) w20 (some ad118) y119.length y119 from by rw [Ny119.out]; exact Kd.C_take (m := (x6_2 : Int).toNat) ((Kd.R_reads' (Kd.R_after (ok := (fun _ => True)) (by (with_reducible repeat (fail)); exact HO_3.out) hg hat)).2.2) KL18.out)); have n3_ := Qa.mk (ho); clear HO_3; clear HB; clear HR122; clear HO125; have HO_3 := n0_; have HB := n1_; have HR122 := n2_; have HO128 := n3_; clear n0_ n1_ n2_ n3_; clear ho hb hg hat; have q21 : (x6_2 : Int) ≤ ((x3_1.length : Int) : Int) := of_decide_eq_true (by (with_reducible assumption)); obtain ⟨i021, hi021, _, hsz21, _⟩ := info_parts info3; have hroom21 : x3_1.length ≤ co5 := (Kd.R_reads' HO_3.out).2.1; have hC21 : Kd.C (Kd.int .i64) _ (some ad118) x3_1.length x3_1 := (Kd.R_reads' HO_3.out).2.2; have q021 : (0 : Int) ≤ (x6_2 : Int) := of_decide_eq_true (by (with_reducible assumption)); have hcut21 := cut_from (P := Tryz.prog) 32 3 .i64 Tryz.underlying32 hi021 1 hsz21 (some ad118) x3_1.length co5 x6_2 q021 q21; have hr21 := Kd.C_drop (m := (x6_2 : Int).toNat) (c := co5) hC21 (by omega) hroom21; obtain ⟨A21, hA21⟩ : ∃ A1, A1 = (if co5 = (x6_2 : Int).toNat then (some ad118) else ((some ad118) : Option Addr).map (·.add ((x6_2 : Int).toNat * 1))) := ⟨_, rfl⟩; obtain ⟨c21, hc21⟩ : ∃ c1, c1 = co5 - (x6_2 : Int).toNat := ⟨_, rfl⟩; have hy21 : y129.length = x3_1.length - (x6_2 : Int).toNat := (by rw [Ny129.out, List.length_drop] <;> omega); rw [show (x3_1).drop (x6_2 : Int).toNat = y129 from Ny129.out.symm] at hr21; replace hr21 : Kd.C (Kd.int .i64) _ A21 y129.length y129 := (by rw [hA21]; exact hr21); rw [← hy21, ← hA21, ← hc21] at hcut21; have HR132 := Qa.mk hr21; have HC132 := Qa.mk (show y129.length ≤ c21 from by rw [hy21, hc21]; exact Nat.sub_le_sub_right hroom21 _); clear hr21 hC21 hroom21 hi021 hsz21 hc21; have KY21 := Qa.mk hy21; have KA21 := Qa.mk hA21; clear hy21 hA21; have KL21 := Qa.mk (show (x6_2 : Int).toNat ≤ x3_1.length from by omega); replace q21 := eq_true q21) | ((with_reducible refine gate_builtin (b := .append) (xs := #[.tmp 36, .tmp 39]) rfl ?_); at_builtin; refine Kd.R_append_rows (Kd.int .i64) (w0 := w) w.heap.size rfl (.tmp 36) (.tmp 39) 32 3 (.int .i64 0) 8 rfl Tryz.underlying32 info3 rfl (by decide) (by omega) v127 y126 y129 _ _ _ (fun k_ => some k_ ≠ (.slice (some ad118) x3_1.length co5 : Value).ownBlock) (fun _ => False) rfl rfl ?aO ?aR (fun _ _ h => h) (fun _ h => h.elim) ?aF ?aB ?aS ?aL ?_; (case aR => repeat ((exact (by repeat ((exact HR132.out)))))); (case aB => exact (by repeat ((with_reducible (exact HB.out))))); (case aF => exact (fun k_ hk => Kd.fresh' (Kd.R_lt (by (with_reducible repeat (fail)); exact HO_3.out)) k_ hk)); (case aO => exact (by (with_reducible repeat (fail)); exact HO128.out)); (case aS => exact (Qq (by repeat ((with_reducible (exact HB.out)))))); (case aL => have := LMc17.out; omega); intro v134 w22 ho hb hg hat; rw [← Ny133.out] at ho; have n0_ := Qa.mk (Kd.R_after (ok := (fun _ => True)) (by (with_reducible repeat (fail)); exact HO_3.out) hg hat); have n1_ := Qa.mk (hb); have n2_ := Qa.mk ((show Kd.C (Kd.int .i64) w22 (some ad118) y119.length y119 from by rw [Ny119.out]; exact Kd.C_take (m := (x6_2 : Int).toNat) ((Kd.R_reads' (Kd.R_after (ok := (fun _ => True)) (by (with_reducible repeat (fail)); exact HO_3.out) hg hat)).2.2) KL18.out)); have n3_ := Qa.mk ((show Kd.C (Kd.int .i64) w22 A21 y129.length y129 from by rw [Ny129.out, KA21.out]; exact Kd.C_drop (m := (x6_2 : Int).toNat) (c := co5) ((Kd.R_reads' (Kd.R_after (ok := (fun _ => True)) (by (with_reducible repeat (fail)); exact HO_3.out) hg hat)).2.2) KL21.out ((Kd.R_reads' (Kd.R_after (ok := (fun _ => True)) (by (with_reducible repeat (fail)); exact HO_3.out) hg hat)).2.1))); have n4_ := Qa.mk (ho); clear HO_3; clear HB; clear HR122; clear HR132; clear HO128; have HO_3 := n0_; have HB := n1_; have HR122 := n2_; have HR132 := n3_; have HO135 := n4_; clear n0_ n1_ n2_ n3_ n4_; clear ho hb hg hat))
     (go_roundg k2)
     case measure => have := HK1.out; have := HK2.out; omega
     case rel => exact ⟨(y133), (wrap64 (x10_1 + 1)), (by rfl), H', ⟨by have := HK1.out; have := HK2.out; omega⟩, ⟨by (with_reducible repeat (fail)); exact Kd.R_mono HO135.out (fun _ hk => trivial)⟩, ⟨by repeat ((with_reducible (exact HB.out)))⟩⟩
def Qq1.l0 : Nat → List (List Int) → List (List Int) → Int → Int → Option ((List (List Int)))
 | 0, _, _, _, _ => none
 | k + 1, x3, x6, x7, x8 => if x8 < x7 then (if 0 ≤ x8 then (if x8 < (x6.length : Int) then ((Qf1.f k (rd_L2 x6 x8)).bind fun t154 => (if x3.length < 5864062014805 then (Qq1.l0 k (x3 ++ [t154]) x6 x7 (wrap64 (x8 + 1))) else (none))) else (none)) else (none)) else (some x3)
def Qq1.f (k : Nat) (l0 : List (List Int)) : Option ((List (List Int))) := Qq1.l0 k ([] : List (List Int)) l0 (l0.length : Int) 0
set_option maxHeartbeats 8000000 in
set_option maxRecDepth 100000 in
theorem Qq1.calls (k : Nat) (A0 : Option Addr) (c0 : Nat) (l0 : List (List Int)) (r : List (List Int)) (w : World) (hr0 : Kd.C (Kd.slice 3 (Kd.int .i64)) w A0 l0.length l0) (hc0 : l0.length ≤ c0) (h : Qq1.f k l0 = some r) :
  Calls Tryz.prog 34 #[.slice A0 l0.length c0] w fun e w' => ∃ v0_ : Value, e = .returned (v0_) ∧ Kd.S (Kd.slice 3 (Kd.int .i64)) 32 w' w.heap.size (fun _ => True) v0_ r ∧ Below w.heap.size w w' := by
 have HR0 := Qa.mk hr0
 have HC0 := Qa.mk hc0
 clear hr0 hc0
 have HB := Qa.mk (Below.refl w.heap.size w)
 have H : (Qq1.l0 k ([] : List (List Int)) l0 (l0.length : Int) 0) = some r := h
 clear h
 have H' := Qa.mk H
 clear H
 go_enter Tryz.func34, Tryz.ntmps34
 go_wp2
 go_loopg [3, 8] k (fun kq v3 v8 w' => ∃ (x3_1 : List (List Int)) (x8_1 : Int), v8 = .int .i64 x8_1 ∧ Qa (Qq1.l0 kq x3_1 l0 (l0.length : Int) x8_1 = some r) ∧ Qa (kq ≤ k) ∧ Qa (Kd.S (Kd.slice 3 (Kd.int .i64)) 32 w' w.heap.size (fun _ => True) v3 x3_1) ∧ Qa (Below w.heap.size w w'))
 case atStart => exact ⟨(([] : List (List Int))), (0), (by rfl), H', ⟨Nat.le_refl _⟩, ⟨by (exact Kd.S_nil _ _ _ _ _)⟩, ⟨by repeat ((with_reducible (exact HB.out)))⟩⟩
 case round =>
  clear H'
  obtain ⟨x3_1, x8_1, rfl, HA, HK1, HO_3, HB⟩ := hrel
  cases gk with
  | zero => exact absurd HA.out (by simp [Qq1.l0])
  | succ k1 =>
   have H := HA.out
   clear HA
   simp only [Qq1.l0] at H
   by_cases c2 : x8_1 < (l0.length : Int)
   rotate_left
   ·rw [if_neg c2] at H
    have c2b0 : decide (x8_1 < (l0.length : Int)) = false := decide_eq_false c2
    clear c2
    obtain rfl := Option.some.inj H
    go_wp2
    go_ret
    exact ⟨_, by rfl, by (with_reducible repeat (fail)); exact HO_3.out, by repeat ((with_reducible (exact HB.out)))⟩
   rw [if_pos c2] at H
   have c2b0 : decide (x8_1 < (l0.length : Int)) = true := decide_eq_true c2
   clear c2
   by_cases c3 : 0 ≤ x8_1
   rotate_left
   ·rw [if_neg c3] at H
    exact absurd H (by simp)
   rw [if_pos c3] at H
   have c3b0 : decide (0 ≤ x8_1) = true := decide_eq_true c3
   clear c3
   by_cases c4 : x8_1 < (l0.length : Int)
   rotate_left
   ·rw [if_neg c4] at H
    exact absurd H (by simp)
   rw [if_pos c4] at H
   have c4b0 : decide (x8_1 < (l0.length : Int)) = true := decide_eq_true c4
   clear c4
   replace H := Option.bind_eq_some_iff.mp H
   obtain ⟨t154, A50, H⟩ := H
   replace H : (if x3_1.length < 5864062014805 then (Qq1.l0 k1 (x3_1 ++ [t154]) l0 (l0.length : Int) (wrap64 (x8_1 + 1))) else (none)) = some r := H
   have A5 := Qa.mk A50
   clear A50
   by_cases c6 : x3_1.length < 5864062014805
   rotate_left
   ·rw [if_neg c6] at H
    exact absurd H (by simp)
   rw [if_pos c6] at H
   have LMc6 := Qa.mk c6
   clear c6
   obtain ⟨y157, hy157⟩ : ∃ y_ : List (List Int), y_ = (x3_1 ++ [t154]) := ⟨_, rfl⟩
   replace H : (Qq1.l0 k1 y157 l0 (l0.length : Int) (wrap64 (x8_1 + 1))) = some r := by (rw [hy157]; with_reducible exact H)
   have Ny157 := Qa.mk hy157
   clear hy157
   have H' := Qa.mk H
   clear H
   have p153 : 0 ≤ (x8_1 : Int) := of_decide_eq_true (by (with_reducible assumption))
   have q153 : x8_1 < (l0.length : Int) := of_decide_eq_true (by (with_reducible assumption))
   obtain ⟨ad153, A153_0, c153_0, e153, hx153_0, hl153_0, hi153_0⟩ := at_L2 HR0.out x8_1 p153 q153
   cases e153
   replace hx153_0 := (HB.out.cell (World.block_lt_of_cell? w _ hx153_0)).trans hx153_0
   have HR153_0 := Qa.mk hi153_0
   have HC153_0 := Qa.mk hl153_0
   clear hi153_0 hl153_0
   replace p153 := eq_true p153
   replace q153 := eq_true q153
   go_wp2_with (first | ((with_reducible refine Qg (f := 65) rfl ?_); refine goesL_ (some 14) rfl rfl Tryz.func65 (by kernel_rfl) rfl #[.slice A153_0 (rd_L2 l0 x8_1).length c153_0] rfl (by (try simp only [List.map_toArray, List.map_cons, List.map_nil]); rfl) ?_; (with_reducible refine (Qf1.calls k1 _ _ (rd_L2 l0 x8_1) t154 _ ?side1 ?side2 A5.out).mono ?_); (case side1 => repeat ((exact (Kd.C_below HR153_0.out HB.out)))); (case side2 => exact HC153_0.out); rintro e w7 ⟨v155, rfl, ho0, hb⟩; refine ⟨_, rfl, ?_⟩; have n0_ := Qa.mk (Kd.S_elder' (by (with_reducible repeat (fail)); exact HO_3.out) (Kd.R_base ho0) hb); have n1_ := Qa.mk (Kd.R_lower ho0 (Qq (by repeat ((with_reducible (exact HB.out)))))); have n2_ := Qa.mk (Qh (by repeat ((with_reducible (exact HB.out)))) hb); clear HO_3; clear HB; have HO_3 := n0_; have HO156 := n1_; have HB := n2_; clear n0_ n1_ n2_; (try clear hb); (try clear hb2); (try clear hk); (try clear hi); (try clear ho0); obtain ⟨Ao9, co9, eo9⟩ := Kd.R_slice HO156.out; subst eo9) | ((with_reducible refine gate_builtin (b := .append) (xs := #[.tmp 12, .tmp 15]) rfl ?_); at_builtin; refine Kd.S_append (Kd.slice 3 (Kd.int .i64)) (w0 := w) w.heap.size rfl (.tmp 12) (.tmp 15) 24 32 (.slice none 0 0) 24 rfl Tryz.underlying24 info32 rfl (by decide) (by omega) u3 x3_1 t154 [.slice Ao9 t154.length co9] (fun _ => True) (fun k_ => some k_ = (.slice Ao9 t154.length co9 : Value).ownBlock) rfl rfl ?aP (fun k_ hk_ => ((Kd.R_mono (ok' := fun k_ => ((fun _ => True)) k_ ∧ some k_ ≠ (u3 : Value).ownBlock) (Kd.R_apart' (HO156.out) (Kd.S_typed HO_3.out) (by decide)) (fun k_ hk => ⟨trivial, hk.2⟩))).1 k_ hk_.symm) ?aF ?aO ?aB ?aS ?aL ?_; (case aP => exact Kd.M_row (Kd.R_mono (Kd.R_tight rfl (Kd.R_mono (ok' := fun k_ => ((fun _ => True)) k_ ∧ some k_ ≠ (u3 : Value).ownBlock) (Kd.R_apart' (HO156.out) (Kd.S_typed HO_3.out) (by decide)) (fun k_ hk => ⟨trivial, hk.2⟩))) (fun _ h_ => h_))); (case aB => exact (by repeat ((with_reducible (exact HB.out))))); (case aF => exact (fun _ _ => trivial)); (case aO => exact (by (with_reducible repeat (fail)); exact Kd.S_mono HO_3.out (fun k_ hk => ⟨trivial, fun e_ => hk.2 e_⟩))); (case aS => exact (Qq (by repeat ((with_reducible (exact HB.out)))))); (case aL => have := LMc6.out; omega); intro v158 w8 ho hb hg hat; rw [← Ny157.out] at ho; have n0_ := Qa.mk (hb); have n1_ := Qa.mk (ho); clear HB; clear HO_3; clear HO156; have HB := n0_; have HO159 := n1_; clear n0_ n1_; clear ho hb hg hat))
   (go_roundg k1)
   case measure => have := HK1.out; omega
   case rel => exact ⟨(y157), (wrap64 (x8_1 + 1)), (by rfl), H', ⟨by have := HK1.out; omega⟩, ⟨by (with_reducible repeat (fail)); exact HO159.out⟩, ⟨by repeat ((with_reducible (exact HB.out)))⟩⟩
end Go.Proofs.YtohhlkehglahhaaGreatDoor.A
