/- slices.Sort of whole numbers that are the call's own: its contract in the print's words, out of the shelf's. No condition. -/
import Derived.Test.YtohhlkehglahhaaGreatDoorShelf
import Derived.Test.YtohhlkehglahhaaGreatDoorWW
import Derived.Test.YtohhlkehglahhaaGreatDoorX
import Derived.Sort.OwnSortedInts
namespace Go.Proofs.YtohhlkehglahhaaGreatDoor.A
open Go.RowKit Go.Proofs.YtohhlkehglahhaaGreatDoorW.PrintWords Go.Proofs.YtohhlkehglahhaaGreatDoorW.PrintLast Go.Proofs.YtohhlkehglahhaaGreatDoorW.PrintMore Go.Proofs.YtohhlkehglahhaaGreatDoor.X
set_option linter.unusedVariables false
set_option linter.unusedSimpArgs false
def sortL (l : List Int) : List Int := l.mergeSort fun x y => decide (x ≤ y)
def slices_Sort_int_int.f (l0 : List Int) : Option (List Int) := if l0.length < 17592186044416 then some (sortL l0) else none
theorem sortL_len (l : List Int) : (sortL l).length = l.length := List.length_mergeSort _
theorem slices_Sort_int_int.calls (P0_ : Nat → Prop) (u9000_ : Value) (l0 : List Int) (r : List Int) (w0 w : World) (hB : Below w0.heap.size w0 w) (ho0 : Kd.R (Kd.int .i64) 3 w w0.heap.size P0_ u9000_ l0) (h : slices_Sort_int_int.f l0 = some r) :
    Calls Tryz.prog 75 #[u9000_] w fun e w' => e = .returned (.tuple #[]) ∧ Kd.R (Kd.int .i64) 3 w' w0.heap.size (fun k_ => (P0_ k_ ∨ w.heap.size ≤ k_)) u9000_ r ∧ Below w0.heap.size w0 w' ∧ Kept w w' (fun k_ => P0_ k_) := by
  unfold slices_Sort_int_int.f at h
  by_cases hl : l0.length < 17592186044416
  · rw [if_pos hl] at h
    obtain rfl := Option.some.inj h
    have ho := Kd.own_of_R (enc := Value.int .i64) (h1 := fun _ => rfl) ho0
    rcases ho.2 with ⟨rfl, hn⟩ | ⟨g, cap, cur, rfl, hg, hb, h1, h2, h3, h4⟩
    · have hz : l0 = [] := List.eq_nil_of_length_eq_zero hn
      subst hz
      refine (Tryz.slices_Sort_int_none none 0 w).mono ?_
      rintro e w' ⟨rfl, rfl⟩
      have e0 : sortL [] = [] := List.eq_nil_of_length_eq_zero (sortL_len [])
      rw [e0]
      exact ⟨rfl, Kd.R_nil _ _ _ _ _, hB, Kept.refl _ _⟩
    · have hlt : g < w.heap.size := (Array.getElem?_eq_some_iff.1 hb).1
      refine (Tryz.slices_Sort_int g 0 cap l0 w (Go.holds_of_blockI hb (by rw [Nat.mul_one] at h4; exact h4)) hlt (by omega)).mono ?_
      rintro e w' ⟨rfl, n, os, rfl⟩
      have hgr := Go.grownBy_sortedI (w := w) (g := g) (n := n) (os := os) (sortL l0).toArray
      have hown := Go.ownsRow_sortedI (n := n) (os := os) (sortL_len l0) hg hb h1 h2 h3
      refine ⟨rfl, Kd.R_of_own (enc := Value.int .i64) (h1 := fun _ => rfl) (by rw [sortL_len]; exact hown) (fun k hk => .inl (ho0.1 k hk)), hB.grown hgr hB.size (fun k hk => ?_), Kept.of_grown hgr (Kept.refl _ _) (fun k hk => .inl (ho0.1 k ?_))⟩
      · injection hk with hk; subst hk; exact hg
      · injection hk with hk; subst hk; rfl
  · rw [if_neg hl] at h
    cases h
end Go.Proofs.YtohhlkehglahhaaGreatDoor.A
