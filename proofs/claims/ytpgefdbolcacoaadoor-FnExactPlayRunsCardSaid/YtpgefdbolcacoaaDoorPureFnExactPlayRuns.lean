/- The law FnExactPlayRuns is true at all arguments: runs played one after the other lead both to one row; no condition. -/
import Derived.Test.YtpgefdbolcacoaaDoorAx5
import Derived.Test.YtpgefdbolcacoaaDoorAx6
import Derived.Test.YtpgefdbolcacoaaDoorAx7
import Derived.Test.YtpgefdbolcacoaaDoorPureCopySS
import Derived.Test.YtpgefdbolcacoaaDoorPurePlay
namespace Go.Proofs.YtpgefdbolcacoaaDoor.Pure
open Go.RowKit Go.Proofs.YtpgefdbolcacoaaDoor.A Go.Proofs.YtpgefdbolcacoaaDoorW.PrintWords Go.Proofs.YtpgefdbolcacoaaDoorW.PrintLast Go.Proofs.YtpgefdbolcacoaaDoorW.PrintMore
set_option linter.unusedVariables false
set_option linter.unusedSimpArgs false
theorem pr_loop (s : List (List Int)) (n : Nat) (hs : s.length ≤ 100) (hn1 : 1 ≤ n) (hn : n ≤ 40) (d : Nat) : ∀ (i : Nat) (l : List Bool), i + d = s.length → l.length = n →
    ∃ r : ByteArray × Bool, ∀ k, 100 + d < k → spec_PlayRuns.l0 k (enc l) s (s.length : Int) (i : Int) = some r ∧ impl_PlayRuns.l0 k (enc l) s (s.length : Int) (i : Int) = some r := by
  induction d with
  | zero =>
    intro i l h hl
    refine ⟨(enc l, true), fun k hk => ?_⟩
    obtain ⟨k, rfl⟩ := fuel0 (show 0 < k by omega)
    simp only [spec_PlayRuns.l0, impl_PlayRuns.l0]
    rw [if_neg (by omega), if_neg (by omega)]
    exact ⟨rfl, rfl⟩
  | succ d ih =>
    intro i l h hl
    have hi : i < s.length := by omega
    obtain ⟨R, hR⟩ : ∃ R, rd_L3 s (i : Int) = R := ⟨_, rfl⟩
    have e2 : wrap64 (((enc l).size : Int) - 1) = (n : Int) - 1 := by rw [enc_size, w_in (by omega) (by omega), hl]
    by_cases c2 : (R.length : Int) = 2
    case neg =>
      refine ⟨(⟨#[]⟩, false), fun k hk => ?_⟩
      obtain ⟨k, rfl⟩ := fuel0 (show 0 < k by omega)
      refine ⟨?_, ?_⟩
      · simp only [spec_PlayRuns.l0]
        rw [if_pos (by omega), if_pos (by omega), if_pos (by omega), hR, if_neg c2]
      · simp only [impl_PlayRuns.l0]
        rw [if_pos (by omega), if_pos (by omega), if_pos (by omega), hR, if_neg c2]
    obtain ⟨x, hx⟩ : ∃ x, rd R 0 = x := ⟨_, rfl⟩
    obtain ⟨y, hy⟩ : ∃ y, rd R 1 = y := ⟨_, rfl⟩
    by_cases c3 : 0 ≤ x ∧ x ≤ (n : Int) - 1
    case neg =>
      have is : impl_isRun.f (enc l) x y = some false := by
        unfold impl_isRun.f
        rw [e2, in_eq, Option.bind_some, decide_eq_false c3, if_neg Bool.false_ne_true]
      refine ⟨(⟨#[]⟩, false), fun k hk => ?_⟩
      obtain ⟨k, rfl⟩ := fuel0 (show 0 < k by omega)
      refine ⟨?_, ?_⟩
      · simp only [spec_PlayRuns.l0]
        rw [if_pos (by omega), if_pos (by omega), if_pos (by omega), hR, if_pos c2, if_pos (by omega), hx, e2, l1_eq, Option.bind_some, decide_eq_false c3, if_neg Bool.false_ne_true]
      · simp only [impl_PlayRuns.l0]
        rw [if_pos (by omega), if_pos (by omega), if_pos (by omega), hR, if_pos c2, if_pos (by omega), if_pos (by omega), hx, hy, is, Option.bind_some, if_neg Bool.false_ne_true]
    by_cases c4 : x ≤ y ∧ y ≤ (n : Int) - 1
    case neg =>
      have is : impl_isRun.f (enc l) x y = some false := by
        unfold impl_isRun.f
        rw [e2, in_eq, in_eq, Option.bind_some, decide_eq_true c3, if_pos rfl, Option.bind_some, decide_eq_false c4]
      refine ⟨(⟨#[]⟩, false), fun k hk => ?_⟩
      obtain ⟨k, rfl⟩ := fuel0 (show 0 < k by omega)
      refine ⟨?_, ?_⟩
      · simp only [spec_PlayRuns.l0]
        rw [if_pos (by omega), if_pos (by omega), if_pos (by omega), hR, if_pos c2, if_pos (by omega), hx, hy, e2, l1_eq, l1_eq, Option.bind_some, decide_eq_true c3, if_pos rfl, if_pos (by omega), Option.bind_some, decide_eq_false c4, if_neg Bool.false_ne_true]
      · simp only [impl_PlayRuns.l0]
        rw [if_pos (by omega), if_pos (by omega), if_pos (by omega), hR, if_pos c2, if_pos (by omega), if_pos (by omega), hx, hy, is, Option.bind_some, if_neg Bool.false_ne_true]
    obtain ⟨f, hf⟩ : ∃ m : Nat, x = (m : Int) := ⟨x.toNat, by omega⟩
    obtain ⟨t, ht⟩ : ∃ m : Nat, y = (m : Int) := ⟨y.toNat, by omega⟩
    have is : impl_isRun.f (enc l) x y = some true := by
      unfold impl_isRun.f
      rw [e2, in_eq, in_eq, Option.bind_some, decide_eq_true c3, if_pos rfl, Option.bind_some, decide_eq_true c4]
    obtain ⟨r, hr⟩ := ih (i + 1) (flipL l f t) (by omega) (by rw [flip_len]; exact hl)
    refine ⟨r, fun k hk => ?_⟩
    obtain ⟨k, rfl⟩ := fuel0 (show 0 < k by omega)
    obtain ⟨g1, g2⟩ := hr k (by omega)
    refine ⟨?_, ?_⟩
    · simp only [spec_PlayRuns.l0]
      rw [if_pos (by omega), if_pos (by omega), if_pos (by omega), hR, if_pos c2, if_pos (by omega), hx, hy, e2, l1_eq, l1_eq, Option.bind_some, decide_eq_true c3, if_pos rfl, if_pos (by omega), Option.bind_some, decide_eq_true c4, if_pos rfl, hf, ht, odTurn_ok k f t l (by omega) (by omega) (by omega) (by omega), Option.bind_some, w_up (by omega)]
      exact g1
    · simp only [impl_PlayRuns.l0]
      rw [if_pos (by omega), if_pos (by omega), if_pos (by omega), hR, if_pos c2, if_pos (by omega), if_pos (by omega), hx, hy, is, Option.bind_some, if_pos rfl, hf, ht, turnAll_ok l f t (by omega) (by omega) (by omega), Option.bind_some, w_up (by omega)]
      exact g2
theorem both_runs (a0 : ByteArray) (l1 : List (List Int)) (s0 : a0.size ≤ 1048576) : ∃ r : ByteArray × Bool, ∀ k, 6000 < k → impl_PlayRuns.f k a0 l1 = some r ∧ spec_PlayRuns.f k a0 l1 = some r := by
  unfold impl_PlayRuns.f spec_PlayRuns.f
  have J0 : ∀ k, 6000 < k → impl_PlayRuns.j0 k a0 l1 true = some ((⟨#[]⟩ : ByteArray), false) ∧ spec_PlayRuns.j0 k a0 l1 true = some ((⟨#[]⟩ : ByteArray), false) := fun k hk => by
    obtain ⟨k, rfl⟩ := fuel0 (show 0 < k by omega)
    exact ⟨rfl, rfl⟩
  by_cases h : ordB a0 = true
  · obtain ⟨l, rfl, h1, h2⟩ := one_row a0 h
    by_cases c3 : (l1.length : Int) > 100
    · refine ⟨(⟨#[]⟩, false), fun k hk => ?_⟩
      rw [sgood_ok _ k (by omega), iord_ok _ (by omega), Option.bind_some, Option.bind_some, if_pos h, if_pos h, decide_eq_true c3]
      exact J0 k hk
    · have c0 : ((0 : Nat) : Int) = 0 := rfl
      obtain ⟨r, hr⟩ := pr_loop l1 l.length (by omega) h1 h2 l1.length 0 l (by omega) rfl
      rw [c0] at hr
      refine ⟨r, fun k hk => ?_⟩
      obtain ⟨k, rfl⟩ := fuel0 (show 0 < k by omega)
      rw [sgood_ok _ (k + 1) (by omega), iord_ok _ (by omega), Option.bind_some, Option.bind_some, if_pos h, if_pos h, decide_eq_false c3]
      exact ⟨(hr k (by omega)).2, (hr k (by omega)).1⟩
  · refine ⟨(⟨#[]⟩, false), fun k hk => ?_⟩
    rw [sgood_ok _ k (by omega), iord_ok _ (by omega), Option.bind_some, Option.bind_some, if_neg h, if_neg h]
    exact J0 k hk
theorem FnExactPlayRuns (a0 : ByteArray) (l1 : List (List Int)) (w0 : a0.size ≤ 140737488351232) (m1 : l1.length ≤ maxLen) (y1 : l1.length * 24 ≤ 140737488351232) (ok1 : ∀ x ∈ l1, x.length ≤ maxLen ∧ ∀ a ∈ x, (Lit.int .i64 a).wf = true) : ∃ k, laws_FnExactPlayRuns.f k a0 l1 = some true := by
  refine ⟨5000000, ?_⟩
  unfold laws_FnExactPlayRuns.f
  by_cases g0 : (a0.size : Int) > 1048576
  · rw [if_pos g0]
  rw [if_neg g0]
  obtain ⟨q, hq, hq2⟩ := sz_ok l1 (fun r hr => by have := (ok1 r hr).1; unfold maxLen at this; omega) (by unfold maxLen at m1; omega) 5000000 (by omega)
  rw [hq, Option.bind_some]
  by_cases hneg : q < 0
  · rw [if_pos hneg]
  rw [if_neg hneg]
  rcases hq2 with h | ⟨h1, h2⟩
  · exact absurd h hneg
  obtain ⟨r, hr⟩ := both_runs a0 l1 (by omega)
  rw [toSS_ok l1 1048576 (by omega) h1 h2 5000000 (by omega), Option.bind_some, (hr 5000000 (by omega)).2, Option.bind_some, Option.bind_some, (hr 5000000 (by omega)).1, Option.bind_some, if_pos rfl, bne_self_eq_false]
  simp only [laws_FnExactPlayRuns.j0]
  rw [if_neg Bool.false_ne_true, toSS_ok l1 1048576 (by omega) h1 h2 4999999 (by omega), Option.bind_some, eqSS_ok l1 1048576 (by omega) (by omega) h2 4999999 (by omega), Option.bind_some, if_pos rfl]
end Go.Proofs.YtpgefdbolcacoaaDoor.Pure
