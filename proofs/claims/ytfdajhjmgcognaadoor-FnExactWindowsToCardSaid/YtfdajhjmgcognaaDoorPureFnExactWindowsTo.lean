/- The law FnExactWindowsTo is true at all arguments: the program and the reference come to one result; no condition. -/
import Derived.Test.YtfdajhjmgcognaaDoorAx6
import Derived.Test.YtfdajhjmgcognaaDoorAx7
import Derived.Test.YtfdajhjmgcognaaDoorPureWin
namespace Go.Proofs.YtfdajhjmgcognaaDoor.Pure
open Go.RowKit Go.Proofs.YtfdajhjmgcognaaDoor.A Go.Proofs.YtfdajhjmgcognaaDoorW.PrintWords Go.Proofs.YtfdajhjmgcognaaDoorW.PrintLast Go.Proofs.YtfdajhjmgcognaaDoorW.PrintMore
set_option linter.unusedVariables false
set_option linter.unusedSimpArgs false
namespace LFnExactWindowsTo
theorem both (a0 : ByteArray) (a1 : ByteArray) (a2 : Int) (s0 : a0.size ≤ 1048576) (s1 : a1.size ≤ 1048576) : ∃ r : List Int × Bool, r.1.length ≤ 1000 ∧ ∀ k, 6000 < k → impl_WindowsTo.f k a0 a1 a2 = some r ∧ spec_WindowsTo.f k a0 a1 a2 = some r := by
  unfold impl_WindowsTo.f spec_WindowsTo.f spec_odWide.f
  by_cases h : twoB a0 a1 = true
  · obtain ⟨A, B, rfl, rfl, hA, h1, hB⟩ := two_rows a0 a1 h
    by_cases c : 1 ≤ a2 ∧ a2 ≤ ((enc A).size : Int)
    · obtain ⟨n, rfl⟩ : ∃ n : Nat, a2 = n := ⟨a2.toNat, by omega⟩
      rw [enc_size] at c
      obtain ⟨o, b, o1, o2⟩ := windows A B hA hB n (by omega) (by omega)
      refine ⟨(if b = true then o else [], b), ?_, fun k hk => ?_⟩
      · cases b
        · simp
        · show o.length ≤ 1000
          omega
      rw [two_ok _ _ k (by omega), areo_ok _ _ (by omega) (by omega), Option.bind_some, Option.bind_some, if_pos h, if_pos h, in_eq, l1_eq, Option.bind_some, Option.bind_some, enc_size, decide_eq_true c, if_pos rfl, Option.bind_some, if_pos rfl, (o2 k (by omega)).1, (o2 k (by omega)).2, Option.bind_some, Option.bind_some]
      cases b <;> exact ⟨rfl, rfl⟩
    · refine ⟨([], false), by simp, fun k hk => ?_⟩
      rw [two_ok _ _ k (by omega), areo_ok _ _ (by omega) (by omega), Option.bind_some, Option.bind_some, if_pos h, if_pos h, in_eq, l1_eq, Option.bind_some, Option.bind_some, decide_eq_false c, if_neg Bool.false_ne_true, Option.bind_some, if_neg Bool.false_ne_true]
      exact ⟨rfl, rfl⟩
  · refine ⟨([], false), by simp, fun k hk => ?_⟩
    rw [two_ok a0 a1 k (by omega), areo_ok a0 a1 (by omega) (by omega), Option.bind_some, Option.bind_some, if_neg h, if_neg h]
    exact ⟨rfl, rfl⟩
end LFnExactWindowsTo
open LFnExactWindowsTo
theorem FnExactWindowsTo : laws_FnExactWindowsTo.Pure := by
  intro a0 a1 a2 _ _ _
  by_cases g0 : (a0.size : Int) > 1048576
  · refine ⟨7000, ?_⟩
    unfold laws_FnExactWindowsTo.f
    rw [if_pos g0]
  by_cases g1 : (a1.size : Int) > 1048576
  · refine ⟨7000, ?_⟩
    unfold laws_FnExactWindowsTo.f
    rw [if_neg g0]
    rw [if_pos g1]
  obtain ⟨r, hl, hr⟩ := both a0 a1 a2 (by omega) (by omega)
  obtain ⟨ys, hy⟩ := marks r.1 (by omega)
  have Q := fun k (hk : 1000 < k) => eq_ok r.1 (by omega) k (by omega)
  refine ⟨7000, ?_⟩
  have bf : (r.2 != r.2) = false := bne_self_eq_false _
  unfold laws_FnExactWindowsTo.f
  rw [if_neg g0, if_neg g1, (hr 7000 (by omega)).1, (hr 7000 (by omega)).2, Option.bind_some, Option.bind_some, Q 7000 (by omega), Option.bind_some, if_pos rfl, bf]
  simp only [laws_FnExactWindowsTo.j0]
  rw [if_neg Bool.false_ne_true, (hy 6999 (by omega)).1, Option.bind_some, (hy 6999 (by omega)).2, Option.bind_some, if_neg (by omega), if_pos rfl, (hr 6999 (by omega)).1, Option.bind_some, Q 6999 (by omega), Option.bind_some, if_pos rfl, bf]
  simp only [laws_FnExactWindowsTo.j1]
  rw [if_neg Bool.false_ne_true, (hy 6998 (by omega)).2, Option.bind_some, if_neg (by omega), if_pos rfl]
end Go.Proofs.YtfdajhjmgcognaaDoor.Pure
