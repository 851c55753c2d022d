/- strings.Split at a separator of one byte, as the print takes it, over the shelf's; what it needs of memory is TabOK. No condition. -/
import Derived.Test.YteohjnmiifmldaaGreatDoorGivN
import Derived.Test.YteohjnmiifmldaaGreatDoorShelf
import Derived.Test.YteohjnmiifmldaaGreatDoorWMore
import Derived.Test.YteohjnmiifmldaaGreatDoorX
import Derived.Lib.SplitLaws
namespace Go.Proofs.YteohjnmiifmldaaGreatDoor.A
open Go.RowKit Go.Proofs.YteohjnmiifmldaaGreatDoorW.PrintWords Go.Proofs.YteohjnmiifmldaaGreatDoorW.PrintLast Go.Proofs.YteohjnmiifmldaaGreatDoorW.PrintMore Go.Proofs.YteohjnmiifmldaaGreatDoor.X
set_option linter.unusedVariables false
set_option linter.unusedSimpArgs false

def strings_Split.f (a0 a1 : ByteArray) : Option (List ByteArray) := if a1.size = 1 ∧ a0.size < 4294967281 then some (Lib.splitB a1 0 (Lib.countB a0 a1) a0) else none
theorem strings_Split.calls (a0 a1 : ByteArray) (r : List ByteArray) (w : World) (hU : TabOK w) (h : strings_Split.f a0 a1 = some r) :
    Calls Tryz.prog 46 #[.string a0, .string a1] w fun e w' => ∃ v0_ : Value, e = .returned (v0_) ∧ Kd.R Kd.string 9 w' w.heap.size (fun _ => True) v0_ r ∧ Below w.heap.size w w' := by
  unfold strings_Split.f at h
  by_cases c : a1.size = 1 ∧ a0.size < 4294967281
  · rw [if_pos c] at h
    obtain rfl := Option.some.inj h
    obtain ⟨m, hm⟩ := hU.max
    have h1 : 1 ≤ a1.size := by rw [c.1]; exact Nat.le_refl _
    have hlen := Lib.splitB_all a1 h1 0 _ a0 rfl
    have hcnt := Lib.countB_le a1 h1 a0.size a0 (Nat.le_refl _)
    refine (Tryz.strings_Split a0 a1 m w c.2 hm h1).mono fun e' w' ⟨he, hw⟩ => ⟨_, he, ?_, ?_⟩
    · subst hw
      refine Kd.R_of_own ?_ (fun _ _ => trivial)
      rw [← hlen]
      have ho := World.ownsRow_lit (base := w.heap.size) (e := 9) (size := 1) w ((Lib.splitB a1 0 (Lib.countB a0 a1) a0).map Value.string).toArray (Lib.splitB a1 0 (Lib.countB a0 a1) a0).length (Nat.le_refl _) (by have := c.2; simp only [maxLen]; omega) (by simp)
      simpa [encs] using ho
    · subst hw
      exact (Below.refl w.heap.size w).alloc (Nat.le_refl _) _
  · rw [if_neg c] at h
    cases h
end Go.Proofs.YteohjnmiifmldaaGreatDoor.A
