/- isRow of the program: a text of 1 to 60 soldiers, nothing of which is left when '<' and '>' are trimmed: its contract, by hand, over the shelf's strings.Trim. No condition. -/
import Derived.Test.YtkipdkkiojbbeaaDoorAx1
import Derived.Test.YtkipdkkiojbbeaaDoorShelf
import Derived.Test.YtkipdkkiojbbeaaDoorX
import Derived.Shelf.Strings.SlTrimAscii
namespace Go.Proofs.YtkipdkkiojbbeaaDoor.A
open Go.RowKit Go.Proofs.YtkipdkkiojbbeaaDoorW.PrintWords Go.Proofs.YtkipdkkiojbbeaaDoorW.PrintLast Go.Proofs.YtkipdkkiojbbeaaDoorW.PrintMore Go.Proofs.YtkipdkkiojbbeaaDoor.X
set_option linter.unusedVariables false
set_option linter.unusedSimpArgs false

def isFace (b : UInt8) : Bool := ([60, 62] : List UInt8).contains b
def rowB (s : ByteArray) : Bool := decide (1 ≤ s.size ∧ s.size ≤ 60) && s.data.toList.all isFace
def impl_isRow.f (a0 : ByteArray) : Option Bool := if a0.size ≤ 9223372036854775807 then some (rowB a0) else none
theorem dropWhile_empty {α : Type} (p : α → Bool) (l : List α) : (l.dropWhile p).isEmpty = l.all p := by
  induction l with
  | nil => rfl
  | cons a l ih =>
    rw [List.dropWhile_cons, List.all_cons]
    cases h : p a with
    | true => simpa using ih
    | false => rfl
theorem dropWhile_all {α : Type} (p : α → Bool) (l : List α) : (l.dropWhile p).all p = l.all p := by
  induction l with
  | nil => rfl
  | cons a l ih =>
    rw [List.dropWhile_cons, List.all_cons]
    cases h : p a with
    | true => simpa using ih
    | false => simp [h]
theorem trim_empty (l : List UInt8) : (Lib.trimS l [60, 62]).isEmpty = l.all isFace := by
  unfold Lib.trimS Lib.trimLeftS Lib.trimRightS
  rw [dropWhile_empty]
  show (l.reverse.dropWhile isFace).reverse.all isFace = l.all isFace
  rw [List.all_reverse, dropWhile_all, List.all_reverse]
theorem in_is' (a l h : Int) : impl_in.f a l h = some (decide (l ≤ a ∧ a ≤ h)) := by
  unfold impl_in.f
  by_cases h1 : l ≤ a
  · rw [if_pos h1]; simp [h1]
  · rw [if_neg h1]; simp [h1]
set_option maxHeartbeats 2000000 in
theorem impl_isRow.calls (a0 : ByteArray) (r : Bool) (w : World) (h : impl_isRow.f a0 = some r) : Calls Tryd.prog 42 #[.string a0] w fun e w' => e = .returned (.bool r) ∧ Below w.heap.size w w' := by
  unfold impl_isRow.f at h
  by_cases hm : a0.size ≤ 9223372036854775807
  · rw [if_pos hm] at h
    obtain rfl := Option.some.inj h
    clear h
    have HM := Aside0.mk hm
    clear hm
    by_cases c : 1 ≤ a0.size ∧ a0.size ≤ 60
    · have E : impl_in.f (a0.size : Int) 1 60 = some true := by rw [in_is']; simp only [Option.some.injEq, decide_eq_true_eq]; omega
      have HE := Aside0.mk E
      clear E
      have hr : rowB a0 = a0.data.toList.all isFace := by unfold rowB; rw [decide_eq_true c]; rfl
      rw [hr]
      have ht := trim_empty a0.data.toList
      have HA : Aside0 (∀ (j : Nat) b, (⟨#[60, 62]⟩ : ByteArray).data.toList[j]? = some b → b.toNat < 128) := ⟨ascii_of_all (by decide)⟩
      cases hl : Lib.trimS a0.data.toList [60, 62] with
      | nil =>
        rw [hl] at ht
        have hb : a0.data.toList.all isFace = true := ht.symm
        rw [hb]
        have HL := Aside0.mk hl
        clear hl ht hb hr c
        go_enter Tryd.func42, Tryd.ntmps42
        go_wp2_with (first | (go_at_call 35; (with_reducible refine (impl_in.calls _ _ _ true _ HE.out).mono ?_); rintro e w1 ⟨rfl, ⟨nd, rfl⟩⟩) | (go_at_call 48; (refine (Any.strings_Trim_laid Tryd.lays160 (by kernel_rfl) a0 ⟨#[60, 62]⟩ _ HM.out (by decide) HA.out).mono ?_); rintro e w2 ⟨rfl, hb⟩; have HB := Aside0.mk hb; clear hb; have hz : (Lib.trimS a0.data.toList (⟨#[60, 62]⟩ : ByteArray).data.toList) = [] := HL.out; rw [hz]; clear hz))
        go_ret
        exact ⟨rfl, below_step (pw_below_drewN (Below.refl _ _) nd) HB.out⟩
      | cons x xs =>
        rw [hl] at ht
        have hb : a0.data.toList.all isFace = false := ht.symm
        rw [hb]
        have HL := Aside0.mk hl
        clear hl ht hb hr c
        go_enter Tryd.func42, Tryd.ntmps42
        go_wp2_with (first | (go_at_call 35; (with_reducible refine (impl_in.calls _ _ _ true _ HE.out).mono ?_); rintro e w1 ⟨rfl, ⟨nd, rfl⟩⟩) | (go_at_call 48; (refine (Any.strings_Trim_laid Tryd.lays160 (by kernel_rfl) a0 ⟨#[60, 62]⟩ _ HM.out (by decide) HA.out).mono ?_); rintro e w2 ⟨rfl, hb⟩; have HB := Aside0.mk hb; clear hb; have hz : (Lib.trimS a0.data.toList (⟨#[60, 62]⟩ : ByteArray).data.toList) = x :: xs := HL.out; rw [hz]; clear hz))
        go_ret
        exact ⟨rfl, below_step (pw_below_drewN (Below.refl _ _) nd) HB.out⟩
    · have E : impl_in.f (a0.size : Int) 1 60 = some false := by rw [in_is']; simp only [Option.some.injEq, decide_eq_false_iff_not]; omega
      have HE := Aside0.mk E
      clear E
      have hr : rowB a0 = false := by unfold rowB; rw [decide_eq_false c]; rfl
      rw [hr]
      clear hr c
      go_enter Tryd.func42, Tryd.ntmps42
      go_wp2_with (go_at_call 35; (with_reducible refine (impl_in.calls _ _ _ false _ HE.out).mono ?_); rintro e w1 ⟨rfl, ⟨nd, rfl⟩⟩)
      go_ret
      exact ⟨rfl, pw_below_drewN (Below.refl _ _) nd⟩
  · rw [if_neg hm] at h
    cases h
end Go.Proofs.YtkipdkkiojbbeaaDoor.A
