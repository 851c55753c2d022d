/- The law FnExactTurnFirst is true at all arguments: the program and the reference come to one result; no condition. -/
import Derived.Test.YtkhlnhnpaijhjaaDoorAx4
import Derived.Test.YtkhlnhnpaijhjaaDoorAx5
import Derived.Test.YtkhlnhnpaijhjaaDoorAx6
import Derived.Test.YtkhlnhnpaijhjaaDoorAx7
import Derived.Test.YtkhlnhnpaijhjaaDoorPureTurn
namespace Go.Proofs.YtkhlnhnpaijhjaaDoor.Pure
open Go.RowKit Go.Proofs.YtkhlnhnpaijhjaaDoor.A Go.Proofs.YtkhlnhnpaijhjaaDoorW.PrintWords Go.Proofs.YtkhlnhnpaijhjaaDoorW.PrintLast Go.Proofs.YtkhlnhnpaijhjaaDoorW.PrintMore
set_option linter.unusedVariables false
set_option linter.unusedSimpArgs false
namespace LFnExactTurnFirst
theorem both (a0 : ByteArray) (a1 : Int) (s0 : a0.size ≤ 1048576) : ∃ r : ByteArray × Bool, ∀ k, 6000 < k → impl_TurnFirst.f a0 a1 = some r ∧ spec_TurnFirst.f k a0 a1 = some r := by
  unfold impl_TurnFirst.f spec_TurnFirst.f
  by_cases h : ordB a0 = true
  · obtain ⟨l, rfl, h1, h2⟩ := one_row a0 h
    by_cases c : 1 ≤ a1 ∧ a1 ≤ ((enc l).size : Int)
    · obtain ⟨m, rfl⟩ : ∃ m : Nat, a1 = m := ⟨a1.toNat, by omega⟩
      have c' := c
      rw [enc_size] at c'
      refine ⟨(enc (flipL l 0 (m - 1)), true), fun k hk => ?_⟩
      have c0 : ((0 : Nat) : Int) = 0 := rfl
      have e1 := turnAll_ok l 0 (m - 1) (by omega) (by omega) (by omega)
      have e2 := odTurn_ok k 0 (m - 1) l (by omega) (by omega) (by omega) (by omega)
      rw [c0] at e1 e2
      rw [sgood_ok _ k (by omega), iord_ok _ (by omega), Option.bind_some, Option.bind_some, if_pos h, if_pos h, in_eq, l1_eq, Option.bind_some, decide_eq_true c, if_pos rfl, Option.bind_some, if_pos rfl, w_down (by omega) (by omega), e1, e2]
      exact ⟨rfl, rfl⟩
    · refine ⟨(⟨#[]⟩, false), fun k hk => ?_⟩
      rw [sgood_ok _ k (by omega), iord_ok _ (by omega), Option.bind_some, Option.bind_some, if_pos h, if_pos h, in_eq, l1_eq, Option.bind_some, decide_eq_false c, if_neg Bool.false_ne_true, Option.bind_some, if_neg Bool.false_ne_true]
      exact ⟨rfl, rfl⟩
  · refine ⟨(⟨#[]⟩, false), fun k hk => ?_⟩
    rw [sgood_ok _ k (by omega), iord_ok _ (by omega), Option.bind_some, Option.bind_some, if_neg h, if_neg h]
    exact ⟨rfl, rfl⟩
end LFnExactTurnFirst
open LFnExactTurnFirst
theorem FnExactTurnFirst : laws_FnExactTurnFirst.Pure := by
  intro a0 a1 _ _
  by_cases g0 : (a0.size : Int) > 1048576
  · refine ⟨7000, ?_⟩
    unfold laws_FnExactTurnFirst.f
    rw [if_pos g0]
  obtain ⟨r, hr⟩ := both a0 a1 (by omega)
  refine ⟨7000, ?_⟩
  unfold laws_FnExactTurnFirst.f
  rw [if_neg g0, (hr 7000 (by omega)).1, (hr 7000 (by omega)).2, Option.bind_some, Option.bind_some]
  rw [if_pos rfl, bne_self_eq_false, if_neg Bool.false_ne_true]
end Go.Proofs.YtkhlnhnpaijhjaaDoor.Pure
