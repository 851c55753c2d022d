/- The law FnExactIdleOrders is true at every number: the idle orders of both are one plan, and its list is own memory; no condition. -/
import Derived.Test.YtapaajmpeieijaaPureChase
namespace Go.Proofs.Ytapaajmpeieijaa.Pure
open Go.RowKit Go.Proofs.Ytapaajmpeieijaa.A Go.Proofs.YtapaajmpeieijaaW.PrintWords Go.Proofs.YtapaajmpeieijaaW.PrintLast Go.Proofs.YtapaajmpeieijaaW.PrintMore
set_option linter.unusedVariables false
set_option linter.unusedSimpArgs false
namespace LFnExactIdleOrders
theorem impl_idle_ok (n : Nat) (hn : n ≤ 100) (k : Nat) (hk : 200 < k) : impl_idle.f k (n : Int) = some (nwith (fun _ => false) n 0 [] false true) := by
  unfold impl_idle.f
  rw [if_pos (by omega), if_pos (by omega), Int.toNat_natCast, plan_ok _ (by rw [List.length_replicate]; omega) true k (by rw [List.length_replicate]; omega), Option.bind_some, List.length_replicate]
  have e : (fun j => (List.replicate n false).getD j false) = fun _ => false := by
    funext j
    rw [List.getD_eq_getElem?_getD, List.getElem?_replicate]
    split <;> rfl
  rw [e]
theorem spec_idle_ok (n : Nat) (h1 : 1 ≤ n) (hn : n ≤ 100) (k : Nat) (hk : 200 < k) : spec_odIdle.f k (n : Int) = some (nwith (fun _ => false) n 0 [] false true) := by
  unfold spec_odIdle.f
  rw [make_ok n (by omega) k (by omega), Option.bind_some, chase_ok _ _ rfl (by rw [List.length_replicate]; omega) (by rw [List.length_replicate]; omega) true k (by rw [List.length_replicate]; omega), Option.bind_some, List.length_replicate]
  have e : dif (List.replicate n false) (List.replicate n false) = fun _ => false := by
    funext j
    unfold dif
    exact bne_self_eq_false _
  rw [e]

theorem both (a0 : Int) : ∃ r : List Int × Bool, r.1.length ≤ 1000 ∧ ∀ k, 200 < k → impl_IdleOrders.f k a0 = some r ∧ spec_IdleOrders.f k a0 = some r := by
  unfold impl_IdleOrders.f impl_isOrderedMany.f spec_IdleOrders.f spec_odSoldiers.f
  simp only [in_eq, l1_eq, Option.bind_some]
  by_cases h : 1 ≤ a0 ∧ a0 ≤ 40
  · obtain ⟨n, rfl⟩ : ∃ n : Nat, a0 = n := ⟨a0.toNat, by omega⟩
    cases e : (nwith (fun _ => false) n 0 [] false true).2 with
    | true =>
      refine ⟨((nwith (fun _ => false) n 0 [] false true).1, true), ?_, fun k hk => ?_⟩
      · have := nwith_len (fun _ => false) n 0 [] false true
        simp only [List.length_nil] at this
        show (nwith (fun _ => false) n 0 [] false true).1.length ≤ 1000
        omega
      · rw [if_pos (decide_eq_true h), if_pos (decide_eq_true h), impl_idle_ok n (by omega) k hk, spec_idle_ok n (by omega) (by omega) k hk, Option.bind_some, e, if_pos rfl]
        exact ⟨rfl, rfl⟩
    | false =>
      refine ⟨([], false), by simp, fun k hk => ?_⟩
      rw [if_pos (decide_eq_true h), if_pos (decide_eq_true h), impl_idle_ok n (by omega) k hk, spec_idle_ok n (by omega) (by omega) k hk, Option.bind_some, e, if_neg Bool.false_ne_true]
      exact ⟨rfl, rfl⟩
  · refine ⟨([], false), by simp, fun k hk => ?_⟩
    rw [if_neg (by simpa using h), if_neg (by simpa using h)]
    exact ⟨rfl, rfl⟩
end LFnExactIdleOrders
open LFnExactIdleOrders
theorem FnExactIdleOrders : laws_FnExactIdleOrders.Pure := by
  intro a0 _
  obtain ⟨r, hl, hr⟩ := both a0
  obtain ⟨ys, hy⟩ := marks r.1 (by omega)
  have Q := fun k (hk : 1000 < k) => eq_ok r.1 (by omega) k (by omega)
  refine ⟨2000, ?_⟩
  have bf : (r.2 != r.2) = false := bne_self_eq_false _
  unfold laws_FnExactIdleOrders.f
  rw [(hr 2000 (by omega)).1, (hr 2000 (by omega)).2, Option.bind_some, Option.bind_some, Q 2000 (by omega), Option.bind_some, if_pos rfl, bf]
  simp only [laws_FnExactIdleOrders.j0]
  rw [if_neg Bool.false_ne_true, (hy 1999 (by omega)).1, Option.bind_some, (hy 1999 (by omega)).2, Option.bind_some, if_neg (by omega), if_pos rfl, (hr 1999 (by omega)).1, Option.bind_some, Q 1999 (by omega), Option.bind_some, if_pos rfl, bf]
  simp only [laws_FnExactIdleOrders.j1]
  rw [if_neg Bool.false_ne_true, (hy 1998 (by omega)).2, Option.bind_some, if_neg (by omega), if_pos rfl]

end Go.Proofs.Ytapaajmpeieijaa.Pure
