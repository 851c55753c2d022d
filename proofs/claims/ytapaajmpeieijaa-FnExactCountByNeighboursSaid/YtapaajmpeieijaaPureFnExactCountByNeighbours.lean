/- The law FnExactCountByNeighbours is true at every number: the idle orders of both are one plan; no condition. -/
import Derived.Test.YtapaajmpeieijaaPureChase
namespace Go.Proofs.Ytapaajmpeieijaa.Pure
open Go.RowKit Go.Proofs.Ytapaajmpeieijaa.A Go.Proofs.YtapaajmpeieijaaW.PrintWords Go.Proofs.YtapaajmpeieijaaW.PrintLast Go.Proofs.YtapaajmpeieijaaW.PrintMore
set_option linter.unusedVariables false
set_option linter.unusedSimpArgs false
namespace LFnExactCountByNeighbours
theorem impl_idle_ok (n : Nat) (hn : n ≤ 100) (k : Nat) (hk : 200 < k) : impl_idle.f k (n : Int) = some (nwith (fun _ => false) n 0 [] false true) := by
  unfold impl_idle.f
  rw [if_pos (by omega), if_pos (by omega), Int.toNat_natCast, plan_ok _ (by rw [List.length_replicate]; omega) true k (by rw [List.length_replicate]; omega), Option.bind_some, List.length_replicate]
  have e : (fun j => (List.replicate n false).getD j false) = fun _ => false := by
    funext j
    rw [List.getD_eq_getElem?_getD, List.getElem?_replicate]
    split <;> rfl
  rw [e]
theorem spec_idle_ok (n : Nat) (h1 : 1 ≤ n) (hn : n ≤ 100) (k : Nat) (hk : 200 < k) : spec_odIdle.f k (n : Int) = some (nwith (fun _ => false) n 0 [] false true) := by
  unfold spec_odIdle.f
  rw [make_ok n (by omega) k (by omega), Option.bind_some, chase_ok _ _ rfl (by rw [List.length_replicate]; omega) (by rw [List.length_replicate]; omega) true k (by rw [List.length_replicate]; omega), Option.bind_some, List.length_replicate]
  have e : dif (List.replicate n false) (List.replicate n false) = fun _ => false := by
    funext j
    unfold dif
    exact bne_self_eq_false _
  rw [e]

theorem both (a0 : Int) : ∃ r, ∀ k, 200 < k → impl_CountByNeighbours.f k a0 = some r ∧ spec_CountByNeighbours.f k a0 = some r := by
  unfold impl_CountByNeighbours.f impl_isOrderedMany.f spec_CountByNeighbours.f spec_odSoldiers.f
  simp only [in_eq, l1_eq, Option.bind_some]
  by_cases h : 1 ≤ a0 ∧ a0 ≤ 40
  · obtain ⟨n, rfl⟩ : ∃ n : Nat, a0 = n := ⟨a0.toNat, by omega⟩
    obtain ⟨r, hr⟩ : ∃ r, (if (nwith (fun _ => false) n 0 [] false true).2 = true then (if 0 ≤ (wrap64 ((n : Int) - 1)) then (some (shl .i64 1 (wrap64 ((n : Int) - 1)), true)) else (none)) else (if 0 ≤ (n : Int) then (some (shl .i64 1 (n : Int), true)) else (none))) = some r := by
      rw [if_pos (show 0 ≤ wrap64 ((n : Int) - 1) by rw [w_in (by omega) (by omega)]; omega), if_pos (show (0 : Int) ≤ n by omega)]
      split <;> exact ⟨_, rfl⟩
    refine ⟨r, fun k hk => ?_⟩
    rw [if_pos (decide_eq_true h), if_pos (decide_eq_true h), impl_idle_ok n (by omega) k hk, spec_idle_ok n (by omega) (by omega) k hk, Option.bind_some]
    exact ⟨hr, hr⟩
  · refine ⟨(0, false), fun k hk => ?_⟩
    rw [if_neg (by simpa using h), if_neg (by simpa using h)]
    exact ⟨rfl, rfl⟩
end LFnExactCountByNeighbours
open LFnExactCountByNeighbours
theorem FnExactCountByNeighbours : laws_FnExactCountByNeighbours.Pure := by
  intro a0 _
  obtain ⟨r, hr⟩ := both a0
  obtain ⟨h1, h2⟩ := hr 201 (by omega)
  refine ⟨201, ?_⟩
  unfold laws_FnExactCountByNeighbours.f
  rw [h1, h2, Option.bind_some, Option.bind_some, if_pos rfl, show (r.2 != r.2) = false from bne_self_eq_false _, if_neg Bool.false_ne_true]

end Go.Proofs.Ytapaajmpeieijaa.Pure
