/- The law FnExactTurnRun is true at all arguments: the program and the reference come to one result; no condition. -/
import Derived.Test.YtkhlnhnpaijhjaaDoorAx4
import Derived.Test.YtkhlnhnpaijhjaaDoorAx6
import Derived.Test.YtkhlnhnpaijhjaaDoorAx7
import Derived.Test.YtkhlnhnpaijhjaaDoorPureTurn
namespace Go.Proofs.YtkhlnhnpaijhjaaDoor.Pure
open Go.RowKit Go.Proofs.YtkhlnhnpaijhjaaDoor.A Go.Proofs.YtkhlnhnpaijhjaaDoorW.PrintWords Go.Proofs.YtkhlnhnpaijhjaaDoorW.PrintLast Go.Proofs.YtkhlnhnpaijhjaaDoorW.PrintMore
set_option linter.unusedVariables false
set_option linter.unusedSimpArgs false
namespace LFnExactTurnRun
theorem both (a0 : ByteArray) (a1 : Int) (a2 : Int) (s0 : a0.size ≤ 1048576) : ∃ r : ByteArray × Bool, ∀ k, 6000 < k → impl_TurnRun.f a0 a1 a2 = some r ∧ spec_TurnRun.f k a0 a1 a2 = some r := by
  unfold impl_TurnRun.f impl_isRun.f spec_TurnRun.f
  by_cases h : ordB a0 = true
  · obtain ⟨l, rfl, h1, h2⟩ := one_row a0 h
    have hd : wrap64 (((enc l).size : Int) - 1) = ((l.length - 1 : Nat) : Int) := by rw [enc_size]; exact w_down (by omega) (by omega)
    by_cases c : 0 ≤ a1 ∧ a1 ≤ ((l.length - 1 : Nat) : Int)
    · by_cases c2 : a1 ≤ a2 ∧ a2 ≤ ((l.length - 1 : Nat) : Int)
      · obtain ⟨f, rfl⟩ : ∃ m : Nat, a1 = m := ⟨a1.toNat, by omega⟩
        obtain ⟨t, rfl⟩ : ∃ m : Nat, a2 = m := ⟨a2.toNat, by omega⟩
        refine ⟨(enc (flipL l f t), true), fun k hk => ?_⟩
        rw [sgood_ok _ k (by omega), iord_ok _ (by omega), Option.bind_some, Option.bind_some, if_pos h, if_pos h, hd, in_eq, in_eq, l1_eq, l1_eq, Option.bind_some, decide_eq_true c, if_pos rfl, Option.bind_some, decide_eq_true c2, Option.bind_some, if_pos rfl, turnAll_ok l f t (by omega) (by omega) (by omega), Option.bind_some, Option.bind_some, if_pos rfl, Option.bind_some, if_pos rfl, odTurn_ok k f t l (by omega) (by omega) (by omega) (by omega), Option.bind_some]
        exact ⟨rfl, rfl⟩
      · refine ⟨(⟨#[]⟩, false), fun k hk => ?_⟩
        rw [sgood_ok _ k (by omega), iord_ok _ (by omega), Option.bind_some, Option.bind_some, if_pos h, if_pos h, hd, in_eq, in_eq, l1_eq, l1_eq, Option.bind_some, decide_eq_true c, if_pos rfl, Option.bind_some, decide_eq_false c2, Option.bind_some, if_neg Bool.false_ne_true, Option.bind_some, if_pos rfl, Option.bind_some, if_neg Bool.false_ne_true]
        exact ⟨rfl, rfl⟩
    · refine ⟨(⟨#[]⟩, false), fun k hk => ?_⟩
      rw [sgood_ok _ k (by omega), iord_ok _ (by omega), Option.bind_some, Option.bind_some, if_pos h, if_pos h, hd, in_eq, l1_eq, Option.bind_some, decide_eq_false c, if_neg Bool.false_ne_true, Option.bind_some, if_neg Bool.false_ne_true, Option.bind_some, if_neg Bool.false_ne_true]
      exact ⟨rfl, rfl⟩
  · refine ⟨(⟨#[]⟩, false), fun k hk => ?_⟩
    rw [sgood_ok _ k (by omega), iord_ok _ (by omega), Option.bind_some, Option.bind_some, if_neg h, if_neg h]
    exact ⟨rfl, rfl⟩
end LFnExactTurnRun
open LFnExactTurnRun
theorem FnExactTurnRun : laws_FnExactTurnRun.Pure := by
  intro a0 a1 a2 _ _ _
  by_cases g0 : (a0.size : Int) > 1048576
  · refine ⟨7000, ?_⟩
    unfold laws_FnExactTurnRun.f
    rw [if_pos g0]
  obtain ⟨r, hr⟩ := both a0 a1 a2 (by omega)
  refine ⟨7000, ?_⟩
  unfold laws_FnExactTurnRun.f
  rw [if_neg g0, (hr 7000 (by omega)).1, (hr 7000 (by omega)).2, Option.bind_some, Option.bind_some]
  rw [if_pos rfl, bne_self_eq_false, if_neg Bool.false_ne_true]
end Go.Proofs.YtkhlnhnpaijhjaaDoor.Pure
