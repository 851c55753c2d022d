/- slices.Clone and slices.Grow (from nil) of whole numbers: their contracts, by hand (the kit's print does not hold a slice against nil). No condition. -/
import Derived.Test.YteohjnmiifmldaaGreatDoorProg
import Derived.Test.YteohjnmiifmldaaGreatDoorX
import Derived.Test.YteohjnmiifmldaaGreatDoorWMore
import Derived.Test.YteohjnmiifmldaaGreatDoorWZeros
import Derived.Lib.SliceRun
namespace Go.Proofs.YteohjnmiifmldaaGreatDoor.A
open Go.RowKit Go.Proofs.YteohjnmiifmldaaGreatDoorW.PrintWords Go.Proofs.YteohjnmiifmldaaGreatDoorW.PrintLast Go.Proofs.YteohjnmiifmldaaGreatDoorW.PrintMore Go.Proofs.YteohjnmiifmldaaGreatDoor.X
set_option linter.unusedVariables false
set_option linter.unusedSimpArgs false

def slices_Grow_int_int.f (l0 : List Int) (a1 : Int) : Option (List Int) := if l0.length = 0 ∧ 0 ≤ a1 ∧ a1 < 17592186044416 then some [] else none
set_option maxHeartbeats 2000000 in
theorem slices_Grow_int_int.calls (A0 : Option Addr) (c0 : Nat) (l0 : List Int) (a1 : Int) (r : List Int) (w : World) (hr0 : A0 = none) (hc0 : c0 = 0) (h : slices_Grow_int_int.f l0 a1 = some r) :
    Calls Tryz.prog 60 #[.slice A0 l0.length c0, .int .i64 a1] w fun e w' => ∃ v0_ : Value, e = .returned (v0_) ∧ Kd.R (Kd.int .i64) 3 w' w.heap.size (fun _ => True) v0_ r ∧ Below w.heap.size w w' := by
  subst hr0 hc0
  unfold slices_Grow_int_int.f at h
  by_cases hl : l0.length = 0 ∧ 0 ≤ a1 ∧ a1 < 17592186044416
  · rw [if_pos hl] at h
    obtain rfl := Option.some.inj h
    clear h
    obtain ⟨h0, h1, h2⟩ := hl
    rw [h0]
    clear h0
    have e0 : wrap64 (((0 : Nat) : Int) - ((0 : Nat) : Int)) = 0 := by unfold wrap64; omega
    have e1 : wrap64 a1 = a1 := by unfold wrap64; omega
    have e2 : wrap64 (a1 - 0) = a1 := by unfold wrap64; omega
    have L2 := Aside0.mk h2
    clear h2
    by_cases hz : 0 < a1
    · go_enter Tryz.func60, Tryz.ntmps60
      go_wp2_with (first | ((with_reducible refine gate_builtin (b := .append) (xs := #[.tmp 20, .tmp 21]) rfl ?_); at_builtin; refine Kd.R_append_zeros (Kd.int .i64) (w0 := w) w.heap.size rfl (.tmp 20) (.tmp 21) 39 3 3 (.int .i64 0) 8 rfl Tryz.underlying39 (k := .i64) Tryz.underlying3 (by kernel_rfl) rfl (by decide) (by omega) (.slice none 0 0) [] 0 (kx := .i64) a1 (fun _ => True) rfl ?ax ?az ?aF ?aO ?a0 ?aB ?aS ?aL ?_; (case ax => first | rfl | (show Value.int .i64 (wrap64 a1) = Value.int .i64 a1; rw [e1])); (case az => rfl); (case aF => exact fun _ _ => trivial); (case aO => exact Kd.R_nil _ _ _ _ _); (case a0 => omega); (case aB => exact Below.refl _ _); (case aS => exact Nat.le_refl _); (case aL => have := L2.out; simp only [List.length_nil]; omega); intro v1 w1 ho hb hg hat; obtain ⟨AA, cc, hv⟩ := Kd.R_slice ho; subst hv; have HO := Aside0.mk ho; have HB := Aside0.mk hb; clear ho hb hg hat))
      go_ret
      exact ⟨_, rfl, by have := Kd.R_take HO.out (Nat.zero_le _); simpa using this, HB.out⟩
    · have hz0 : a1 = 0 := by omega
      subst hz0
      go_enter Tryz.func60, Tryz.ntmps60
      go_wp2
      go_ret
      exact ⟨_, rfl, Kd.R_nil _ _ _ _ _, Below.refl _ _⟩
  · rw [if_neg hl] at h
    cases h
end Go.Proofs.YteohjnmiifmldaaGreatDoor.A
