/- The law FnExactPlayWindows is true at all arguments: the program and the reference come to one result; no condition. -/
import Derived.Test.YtkhlnhnpaijhjaaDoorAx4
import Derived.Test.YtkhlnhnpaijhjaaDoorAx7
import Derived.Test.YtkhlnhnpaijhjaaDoorAx8
import Derived.Test.YtkhlnhnpaijhjaaDoorPureCopy
import Derived.Test.YtkhlnhnpaijhjaaDoorPurePlay
namespace Go.Proofs.YtkhlnhnpaijhjaaDoor.Pure
open Go.RowKit Go.Proofs.YtkhlnhnpaijhjaaDoor.A Go.Proofs.YtkhlnhnpaijhjaaDoorW.PrintWords Go.Proofs.YtkhlnhnpaijhjaaDoorW.PrintLast Go.Proofs.YtkhlnhnpaijhjaaDoorW.PrintMore
set_option linter.unusedVariables false
set_option linter.unusedSimpArgs false
namespace LFnExactPlayWindows
theorem both (a0 : ByteArray) (a1 : Int) (l2 : List Int) (s0 : a0.size ≤ 1048576) : ∃ r : ByteArray × Bool, ∀ k, 6000 < k → impl_PlayWindows.f k a0 a1 l2 = some r ∧ spec_PlayWindows.f k a0 a1 l2 = some r := by
  unfold impl_PlayWindows.f spec_PlayWindows.f
  have J0 : ∀ k, 6000 < k → impl_PlayWindows.j0 k a0 a1 l2 true = some ((⟨#[]⟩ : ByteArray), false) ∧ spec_PlayWindows.j0 k a0 a1 l2 true = some ((⟨#[]⟩ : ByteArray), false) := fun k hk => by
    obtain ⟨k, rfl⟩ := fuel0 (show 0 < k by omega)
    exact ⟨rfl, rfl⟩
  by_cases h : ordB a0 = true
  · obtain ⟨l, rfl, h1, h2⟩ := one_row a0 h
    by_cases c : 1 ≤ a1 ∧ a1 ≤ ((enc l).size : Int)
    · obtain ⟨w, rfl⟩ : ∃ m : Nat, a1 = m := ⟨a1.toNat, by omega⟩
      have c' := c
      rw [enc_size] at c'
      have e2 : wrap64 (((enc l).size : Int) - (w : Int)) = (l.length : Int) - w := by rw [enc_size, w_in (by omega) (by omega)]
      by_cases c3 : (l2.length : Int) > 100
      · refine ⟨(⟨#[]⟩, false), fun k hk => ?_⟩
        rw [sgood_ok _ k (by omega), iord_ok _ (by omega), Option.bind_some, Option.bind_some, if_pos h, if_pos h, in_eq, l1_eq, Option.bind_some, decide_eq_true c, if_pos rfl, decide_eq_true c3, Option.bind_some, if_pos rfl, if_pos c3]
        exact J0 k hk
      · have J1 : ∀ k, 6000 < k → impl_PlayWindows.j0 (k + 1) (enc l) (w : Int) l2 false = impl_PlayWindows.l0 k (enc l) (w : Int) l2 (l2.length : Int) 0 ∧ spec_PlayWindows.j0 (k + 1) (enc l) (w : Int) l2 false = spec_PlayWindows.l0 k (enc l) (w : Int) l2 (l2.length : Int) 0 := fun k hk => ⟨rfl, rfl⟩
        have c0 : ((0 : Nat) : Int) = 0 := rfl
        cases ha : l2.all fun x => decide (0 ≤ x ∧ x ≤ (l.length : Int) - w) with
        | true =>
          obtain ⟨r, hr⟩ := pw_all l2 w l.length (by omega) (by omega) (by omega) h2 l2.length 0 l (by omega) rfl (fun x hx => by
            rw [List.drop_zero] at hx
            have := List.all_eq_true.1 ha x hx
            simpa using this)
          rw [c0] at hr
          refine ⟨(enc r, true), fun k hk => ?_⟩
          obtain ⟨k, rfl⟩ := fuel0 (show 0 < k by omega)
          rw [sgood_ok _ (k + 1) (by omega), iord_ok _ (by omega), Option.bind_some, Option.bind_some, if_pos h, if_pos h, in_eq, l1_eq, Option.bind_some, decide_eq_true c, if_pos rfl, decide_eq_false c3, Option.bind_some, if_pos rfl, if_neg c3, e2, all_ok l2 _ _ (by omega) (k + 1) (by omega), Option.bind_some, ha, Bool.not_true]
          by_cases hk' : 6000 < k
          · rw [(J1 k hk').1, (J1 k hk').2]
            exact ⟨(hr k (by omega)).2, (hr k (by omega)).1⟩
          · obtain rfl : k = 6000 := by omega
            exact ⟨(hr 6000 (by omega)).2, (hr 6000 (by omega)).1⟩
        | false =>
          have hf := pw_fail l2 w l.length (by omega) (by omega) (by omega) h2 l2.length 0 l (by omega) rfl (by rw [List.drop_zero]; exact ha)
          rw [c0] at hf
          refine ⟨(⟨#[]⟩, false), fun k hk => ?_⟩
          obtain ⟨k, rfl⟩ := fuel0 (show 0 < k by omega)
          rw [sgood_ok _ (k + 1) (by omega), iord_ok _ (by omega), Option.bind_some, Option.bind_some, if_pos h, if_pos h, in_eq, l1_eq, Option.bind_some, decide_eq_true c, if_pos rfl, decide_eq_false c3, Option.bind_some, if_pos rfl, if_neg c3, e2, all_ok l2 _ _ (by omega) (k + 1) (by omega), Option.bind_some, ha, Bool.not_false, (J0 (k + 1) hk).2]
          exact ⟨hf k (by omega), rfl⟩
    · refine ⟨(⟨#[]⟩, false), fun k hk => ?_⟩
      rw [sgood_ok _ k (by omega), iord_ok _ (by omega), Option.bind_some, Option.bind_some, if_pos h, if_pos h, in_eq, l1_eq, Option.bind_some, decide_eq_false c, if_neg Bool.false_ne_true, Option.bind_some, if_neg Bool.false_ne_true]
      exact J0 k hk
  · refine ⟨(⟨#[]⟩, false), fun k hk => ?_⟩
    rw [sgood_ok _ k (by omega), iord_ok _ (by omega), Option.bind_some, Option.bind_some, if_neg h, if_neg h]
    exact J0 k hk
end LFnExactPlayWindows
open LFnExactPlayWindows
theorem FnExactPlayWindows : laws_FnExactPlayWindows.Pure := by
  intro a0 a1 l2 _ _ _ _ _
  by_cases g0 : (a0.size : Int) > 1048576
  · refine ⟨7000, ?_⟩
    unfold laws_FnExactPlayWindows.f
    rw [if_pos g0]
  by_cases g2 : (l2.length : Int) > 1048576
  · refine ⟨7000, ?_⟩
    unfold laws_FnExactPlayWindows.f
    rw [if_neg g0]
    rw [if_pos g2]
  obtain ⟨r, hr⟩ := both a0 a1 l2 (by omega)
  refine ⟨2000000, ?_⟩
  unfold laws_FnExactPlayWindows.f
  rw [if_neg g0, if_neg g2, toS_ok l2 (by omega) 2000000 (by omega), Option.bind_some, (hr 2000000 (by omega)).2, Option.bind_some, Option.bind_some, (hr 2000000 (by omega)).1, Option.bind_some, if_pos rfl, bne_self_eq_false]
  simp only [laws_FnExactPlayWindows.j0]
  rw [if_neg Bool.false_ne_true, toS_ok l2 (by omega) 1999999 (by omega), Option.bind_some, eq_ok l2 (by omega) 1999999 (by omega), Option.bind_some, if_pos rfl]
end Go.Proofs.YtkhlnhnpaijhjaaDoor.Pure
