/- slices.Clone and slices.Grow (from nil) of whole numbers: their contracts, by hand (the kit's print does not hold a slice against nil). No condition. -/
import Derived.Test.YtohhlkehglahhaaGreatDoorProg
import Derived.Test.YtohhlkehglahhaaGreatDoorX
import Derived.Test.YtohhlkehglahhaaGreatDoorWW
import Derived.Lib.SliceRun
namespace Go.Proofs.YtohhlkehglahhaaGreatDoor.A
open Go.RowKit Go.Proofs.YtohhlkehglahhaaGreatDoorW.PrintWords Go.Proofs.YtohhlkehglahhaaGreatDoorW.PrintLast Go.Proofs.YtohhlkehglahhaaGreatDoorW.PrintMore Go.Proofs.YtohhlkehglahhaaGreatDoor.X
set_option linter.unusedVariables false
set_option linter.unusedSimpArgs false
def slices_Clone_int_int.f (l0 : List Int) : Option (List Int) := if l0.length < 17592186044416 then some l0 else none
def slices_Grow_int_int.f (l0 : List Int) (a1 : Int) : Option (List Int) := if l0.length = 0 ∧ 0 ≤ a1 ∧ a1 < 17592186044416 then some [] else none
theorem nil_eq (w : World) (a : Option Addr) (n c n' c' : Nat) : (binOp .eql 32 (.slice a n c) (.slice none n' c')).run Tryz.prog w = .ok (.bool a.isNone) w := Lib.run_eql_slice_nil w _ _ a n c n' c' Tryz.underlying32
set_option maxHeartbeats 2000000 in
theorem slices_Clone_int_int.calls (A0 : Option Addr) (c0 : Nat) (l0 : List Int) (r : List Int) (w : World) (hr0 : Kd.C (Kd.int .i64) w A0 l0.length l0) (hc0 : l0.length ≤ c0) (h : slices_Clone_int_int.f l0 = some r) :
  Calls Tryz.prog 77 #[.slice A0 l0.length c0] w fun e w' => ∃ v0_ : Value, e = .returned (v0_) ∧ Kd.R (Kd.int .i64) 3 w' w.heap.size (fun _ => True) v0_ r ∧ Below w.heap.size w w' := by
 unfold slices_Clone_int_int.f at h
 by_cases hl : l0.length < 17592186044416
 ·rw [if_pos hl] at h
  obtain rfl := Option.some.inj h
  clear h
  have LM := Qa.mk hl
  have HR := Qa.mk hr0
  have HQ := nil_eq
  clear hl hr0 hc0
  cases A0 with
  | none =>
   have hz : l0 = [] := by
    cases l0 with
    | nil => rfl
    | cons x xs =>
     obtain ⟨_, _, hh⟩ := HR.out
     obtain ⟨_, h4, _⟩ := hh (by simp)
     cases h4
   subst hz
   go_enter Tryz.func77, Tryz.ntmps77
   go_wp2
   go_ret
   exact ⟨_, rfl, Kd.R_nil _ _ _ _ _, Below.refl _ _⟩
  | some ad =>
   have HB := Qa.mk (Below.refl w.heap.size w)
   go_enter Tryz.func77, Tryz.ntmps77
   go_wp2_with (first | ((with_reducible refine gate_dst (N := 5) rfl ?_); refine Kd.R_lit (Kd.int .i64) _ 3 ?hg (N := 5) ?hd (xs := ([] : List Int)) (inner := []) (ok := fun _ => True) (okp := fun _ => True) ?hr ?hp (fun _ hk => hk) trivial (Below.refl _ _) (Nat.le_refl _) (by simp) ?_; (case hd => rfl); (case hg => rfl); (case hr => first | (go_simp; done) | (go_simp; rfl)); (case hp => exact (Reps.none _ _)); intro v113 w3 ho4 hb hg_ hnew_; clear hg_ hnew_; have HO := Qa.mk ho4; have HB2 := Qa.mk hb; clear ho4 hb) | ((with_reducible refine gate_builtin (b := .append) (xs := #[.tmp 5, .tmp 6]) rfl ?_); at_builtin; refine Kd.R_append_rows (Kd.int .i64) (w0 := w) w.heap.size rfl (.tmp 5) (.tmp 6) 32 3 (.int .i64 0) 8 rfl Tryz.underlying32 (by kernel_rfl) rfl (by decide) (by omega) v113 [] l0 _ _ _ (fun _ => True) (fun _ => False) rfl rfl ?aO ?aR (fun _ _ h => h) (fun _ h => h.elim) ?aF ?aB ?aS ?aL ?_; (case aR => exact Kd.C_below HR.out HB2.out); (case aB => exact HB2.out); (case aF => exact (fun _ _ => trivial)); (case aO => exact HO.out); (case aS => exact HB2.out.size); (case aL => have := LM.out; simp; omega); intro v116 w5 ho hb hg hat; have HO2 := Qa.mk ho; have HB3 := Qa.mk hb; clear ho hb hg hat))
   go_ret
   exact ⟨_, rfl, by have := HO2.out; simpa using this, HB3.out⟩
 ·rw [if_neg hl] at h
  cases h
set_option maxHeartbeats 2000000 in
theorem slices_Grow_int_int.calls (A0 : Option Addr) (c0 : Nat) (l0 : List Int) (a1 : Int) (r : List Int) (w : World) (hr0 : A0 = none) (hc0 : c0 = 0) (h : slices_Grow_int_int.f l0 a1 = some r) :
  Calls Tryz.prog 73 #[.slice A0 l0.length c0, .int .i64 a1] w fun e w' => ∃ v0_ : Value, e = .returned (v0_) ∧ Kd.R (Kd.int .i64) 3 w' w.heap.size (fun _ => True) v0_ r ∧ Below w.heap.size w w' := by
 subst hr0 hc0
 unfold slices_Grow_int_int.f at h
 by_cases hl : l0.length = 0 ∧ 0 ≤ a1 ∧ a1 < 17592186044416
 ·rw [if_pos hl] at h
  obtain rfl := Option.some.inj h
  clear h
  obtain ⟨h0, h1, h2⟩ := hl
  rw [h0]
  clear h0
  have e0 : wrap64 (((0 : Nat) : Int) - ((0 : Nat) : Int)) = 0 := by unfold wrap64; omega
  have e1 : wrap64 a1 = a1 := by unfold wrap64; omega
  have e2 : wrap64 (a1 - 0) = a1 := by unfold wrap64; omega
  have L2 := Qa.mk h2
  clear h2
  by_cases hz : 0 < a1
  ·go_enter Tryz.func73, Tryz.ntmps73
   go_wp2_with (first | ((with_reducible refine gate_builtin (b := .append) (xs := #[.tmp 20, .tmp 21]) rfl ?_); at_builtin; refine Kd.R_append_zeros (Kd.int .i64) (w0 := w) w.heap.size rfl (.tmp 20) (.tmp 21) 32 3 3 (.int .i64 0) 8 rfl Tryz.underlying32 (k := .i64) Tryz.underlying3 (by kernel_rfl) rfl (by decide) (by omega) (.slice none 0 0) [] 0 (kx := .i64) a1 (fun _ => True) rfl ?ax ?az ?aF ?aO ?a0 ?aB ?aS ?aL ?_; (case ax => first | rfl | (show Value.int .i64 (wrap64 a1) = Value.int .i64 a1; rw [e1])); (case az => rfl); (case aF => exact fun _ _ => trivial); (case aO => exact Kd.R_nil _ _ _ _ _); (case a0 => omega); (case aB => exact Below.refl _ _); (case aS => exact Nat.le_refl _); (case aL => have := L2.out; simp only [List.length_nil]; omega); intro v1 w1 ho hb hg hat; obtain ⟨AA, cc, hv⟩ := Kd.R_slice ho; subst hv; have HO := Qa.mk ho; have HB := Qa.mk hb; clear ho hb hg hat))
   go_ret
   exact ⟨_, rfl, by have := Kd.R_take HO.out (Nat.zero_le _); simpa using this, HB.out⟩
  ·have hz0 : a1 = 0 := by omega
   subst hz0
   go_enter Tryz.func73, Tryz.ntmps73
   go_wp2
   go_ret
   exact ⟨_, rfl, Kd.R_nil _ _ _ _ _, Below.refl _ _⟩
 ·rw [if_neg hl] at h
  cases h
end Go.Proofs.YtohhlkehglahhaaGreatDoor.A
