/- The law FnExactPlayNeighbours is true at all arguments: the program and the reference come to one result; no condition. -/
import Derived.Test.YtpgefdbolcacoaaDoorAx1
import Derived.Test.YtpgefdbolcacoaaDoorAx2
import Derived.Test.YtpgefdbolcacoaaDoorAx4
import Derived.Test.YtpgefdbolcacoaaDoorPureCopy
import Derived.Test.YtpgefdbolcacoaaDoorPurePlay
namespace Go.Proofs.YtpgefdbolcacoaaDoor.Pure
open Go.RowKit Go.Proofs.YtpgefdbolcacoaaDoor.A Go.Proofs.YtpgefdbolcacoaaDoorW.PrintWords Go.Proofs.YtpgefdbolcacoaaDoorW.PrintLast Go.Proofs.YtpgefdbolcacoaaDoorW.PrintMore
set_option linter.unusedVariables false
set_option linter.unusedSimpArgs false
namespace LFnExactPlayNeighbours
theorem both (a0 : ByteArray) (l1 : List Int) (s0 : a0.size ≤ 1048576) : ∃ r : ByteArray × Bool, ∀ k, 6000 < k → impl_PlayNeighbours.f k a0 l1 = some r ∧ spec_PlayNeighbours.f k a0 l1 = some r := by
  unfold impl_PlayNeighbours.f spec_PlayNeighbours.f
  have J0 : ∀ k, 6000 < k → impl_PlayNeighbours.j0 k a0 l1 true = some ((⟨#[]⟩ : ByteArray), false) := fun k hk => by
    obtain ⟨k, rfl⟩ := fuel0 (show 0 < k by omega)
    rfl
  by_cases h : ordB a0 = true
  · obtain ⟨l, rfl, h1, h2⟩ := one_row a0 h
    have e2 : wrap64 (((enc l).size : Int) - 1) = (l.length : Int) - 1 := by rw [enc_size, w_in (by omega) (by omega)]
    by_cases c3 : (l1.length : Int) > 100
    · refine ⟨(⟨#[]⟩, false), fun k hk => ?_⟩
      rw [sgood_ok _ k (by omega), iord_ok _ (by omega), Option.bind_some, Option.bind_some, if_pos h, if_pos h, decide_eq_true c3, if_pos c3]
      exact ⟨J0 k hk, rfl⟩
    · have c0 : ((0 : Nat) : Int) = 0 := rfl
      cases ha : l1.all fun x => decide (0 ≤ x ∧ x ≤ (l.length : Int) - 1) with
      | true =>
        obtain ⟨r, hr⟩ := pn_all l1 l.length (by omega) h1 h2 l1.length 0 l (by omega) rfl (fun x hx => by
          rw [List.drop_zero] at hx
          have := List.all_eq_true.1 ha x hx
          simpa using this)
        rw [c0] at hr
        refine ⟨(enc r, true), fun k hk => ?_⟩
        obtain ⟨k, rfl⟩ := fuel0 (show 0 < k by omega)
        rw [sgood_ok _ (k + 1) (by omega), iord_ok _ (by omega), Option.bind_some, Option.bind_some, if_pos h, if_pos h, decide_eq_false c3, if_neg c3, e2, all_ok l1 _ _ (by omega) (k + 1) (by omega), Option.bind_some, ha, if_pos rfl]
        unfold spec_odPlay.f
        rw [(hr (k + 1) (by omega)).1]
        exact ⟨(hr k (by omega)).2, rfl⟩
      | false =>
        have hf := pn_fail l1 l.length (by omega) h1 h2 l1.length 0 l (by omega) rfl (by rw [List.drop_zero]; exact ha)
        rw [c0] at hf
        refine ⟨(⟨#[]⟩, false), fun k hk => ?_⟩
        obtain ⟨k, rfl⟩ := fuel0 (show 0 < k by omega)
        rw [sgood_ok _ (k + 1) (by omega), iord_ok _ (by omega), Option.bind_some, Option.bind_some, if_pos h, if_pos h, decide_eq_false c3, if_neg c3, e2, all_ok l1 _ _ (by omega) (k + 1) (by omega), Option.bind_some, ha, if_neg Bool.false_ne_true]
        exact ⟨hf k (by omega), rfl⟩
  · refine ⟨(⟨#[]⟩, false), fun k hk => ?_⟩
    rw [sgood_ok _ k (by omega), iord_ok _ (by omega), Option.bind_some, Option.bind_some, if_neg h, if_neg h]
    exact ⟨J0 k hk, rfl⟩
end LFnExactPlayNeighbours
open LFnExactPlayNeighbours
theorem FnExactPlayNeighbours : laws_FnExactPlayNeighbours.Pure := by
  intro a0 l1 _ _ _ _
  by_cases g0 : (a0.size : Int) > 1048576
  · refine ⟨7000, ?_⟩
    unfold laws_FnExactPlayNeighbours.f
    rw [if_pos g0]
  by_cases g1 : (l1.length : Int) > 1048576
  · refine ⟨7000, ?_⟩
    unfold laws_FnExactPlayNeighbours.f
    rw [if_neg g0]
    rw [if_pos g1]
  obtain ⟨r, hr⟩ := both a0 l1 (by omega)
  refine ⟨2000000, ?_⟩
  unfold laws_FnExactPlayNeighbours.f
  rw [if_neg g0, if_neg g1, toS_ok l1 (by omega) 2000000 (by omega), Option.bind_some, (hr 2000000 (by omega)).2, Option.bind_some, Option.bind_some, (hr 2000000 (by omega)).1, Option.bind_some, if_pos rfl, bne_self_eq_false]
  simp only [laws_FnExactPlayNeighbours.j0]
  rw [if_neg Bool.false_ne_true, toS_ok l1 (by omega) 1999999 (by omega), Option.bind_some, eq_ok l1 (by omega) 1999999 (by omega), Option.bind_some, if_pos rfl]
end Go.Proofs.YtpgefdbolcacoaaDoor.Pure
