/- The law FnOrdersTurnOfAll is true of all arguments: runs and first orders lead from row to row as few as told, and orders are carried out one after the other; no condition. -/
import Derived.Test.YtkipdkkiojbbeaaDoorAx10
import Derived.Test.YtkipdkkiojbbeaaDoorPureOrdR
namespace Go.Proofs.YtkipdkkiojbbeaaDoor.Pure
open Go.RowKit Go.Proofs.YtkipdkkiojbbeaaDoor.A Go.Proofs.YtkipdkkiojbbeaaDoorW.PrintWords Go.Proofs.YtkipdkkiojbbeaaDoorW.PrintLast Go.Proofs.YtkipdkkiojbbeaaDoorW.PrintMore Go.Proofs.YtkipdkkiojbbeaaDoor.Ord
set_option linter.unusedVariables false
set_option linter.unusedSimpArgs false
namespace LFnOrdersTurnOfAll
theorem nn (b : Bool) : (b != b) = false := by cases b <;> rfl
theorem F : ¬ (false = true) := by decide
theorem ord_enc (l : List Bool) (h1 : 1 ≤ l.length) (h2 : l.length ≤ 40) : ordB (enc l) = true := by
  unfold ordB
  rw [row_enc l h1 (by omega), enc_size, decide_eq_true (by omega)]
  rfl
theorem turnRun_enc (l : List Bool) (f t : Nat) (hft : f ≤ t) (ht : t < l.length) (h40 : l.length ≤ 40) : impl_TurnRun.f (enc l) (f : Int) (t : Int) = some (enc (flipL l f t), true) := by
  have hd : wrap64 (((enc l).size : Int) - 1) = ((l.length - 1 : Nat) : Int) := by rw [enc_size]; exact w_down (by omega) (by omega)
  unfold impl_TurnRun.f impl_isRun.f
  rw [iord_ok _ (by rw [enc_size]; omega), Option.bind_some, if_pos (ord_enc l (by omega) h40), hd, in_eq, in_eq, Option.bind_some, decide_eq_true (show 0 ≤ (f : Int) ∧ (f : Int) ≤ ((l.length - 1 : Nat) : Int) by omega), if_pos rfl, Option.bind_some, decide_eq_true (show (f : Int) ≤ (t : Int) ∧ (t : Int) ≤ ((l.length - 1 : Nat) : Int) by omega), Option.bind_some, if_pos rfl, turnAll_ok l f t hft ht (by omega), Option.bind_some]
theorem turnFirst_enc (l : List Bool) (m : Nat) (hm : 1 ≤ m) (hl : m ≤ l.length) (h40 : l.length ≤ 40) : impl_TurnFirst.f (enc l) (m : Int) = some (enc (flipL l 0 (m - 1)), true) := by
  have c0 : ((0 : Nat) : Int) = 0 := rfl
  have e1 := turnAll_ok l 0 (m - 1) (by omega) (by omega) (by omega)
  rw [c0] at e1
  unfold impl_TurnFirst.f
  rw [iord_ok _ (by rw [enc_size]; omega), Option.bind_some, if_pos (ord_enc l (by omega) h40), in_eq, Option.bind_some, enc_size, decide_eq_true (show 1 ≤ (m : Int) ∧ (m : Int) ≤ (l.length : Int) by omega), if_pos rfl, w_down (by omega) (by omega), e1, Option.bind_some]
theorem turnRun_val (a0 : ByteArray) (a1 a2 : Int) (s0 : a0.size ≤ 1048576) : ∃ r : ByteArray × Bool, (∀ k, 6000 < k → impl_TurnRun.f a0 a1 a2 = some r ∧ spec_TurnRun.f k a0 a1 a2 = some r) ∧
    (r.2 = true → ∃ (l : List Bool) (f t : Nat), a0 = enc l ∧ l.length ≤ 40 ∧ a1 = (f : Int) ∧ a2 = (t : Int) ∧ f ≤ t ∧ t < l.length ∧ r.1 = enc (flipL l f t)) := by
  unfold impl_TurnRun.f impl_isRun.f spec_TurnRun.f
  by_cases h : ordB a0 = true
  · obtain ⟨l, rfl, h1, h2⟩ := one_row a0 h
    have hd : wrap64 (((enc l).size : Int) - 1) = ((l.length - 1 : Nat) : Int) := by rw [enc_size]; exact w_down (by omega) (by omega)
    by_cases c : 0 ≤ a1 ∧ a1 ≤ ((l.length - 1 : Nat) : Int)
    · by_cases c2 : a1 ≤ a2 ∧ a2 ≤ ((l.length - 1 : Nat) : Int)
      · obtain ⟨f, rfl⟩ : ∃ m : Nat, a1 = m := ⟨a1.toNat, by omega⟩
        obtain ⟨t, rfl⟩ : ∃ m : Nat, a2 = m := ⟨a2.toNat, by omega⟩
        refine ⟨(enc (flipL l f t), true), fun k hk => ?_, fun _ => ⟨l, f, t, rfl, h2, rfl, rfl, by omega, by omega, rfl⟩⟩
        rw [sgood_ok _ k (by omega), iord_ok _ (by omega), Option.bind_some, Option.bind_some, if_pos h, if_pos h, hd, in_eq, in_eq, l1_eq, l1_eq, Option.bind_some, decide_eq_true c, if_pos rfl, Option.bind_some, decide_eq_true c2, Option.bind_some, if_pos rfl, turnAll_ok l f t (by omega) (by omega) (by omega), Option.bind_some, Option.bind_some, if_pos rfl, Option.bind_some, if_pos rfl, odTurn_ok k f t l (by omega) (by omega) (by omega) (by omega), Option.bind_some]
        exact ⟨rfl, rfl⟩
      · refine ⟨(⟨#[]⟩, false), fun k hk => ?_, fun h => absurd h Bool.false_ne_true⟩
        rw [sgood_ok _ k (by omega), iord_ok _ (by omega), Option.bind_some, Option.bind_some, if_pos h, if_pos h, hd, in_eq, in_eq, l1_eq, l1_eq, Option.bind_some, decide_eq_true c, if_pos rfl, Option.bind_some, decide_eq_false c2, Option.bind_some, if_neg Bool.false_ne_true, Option.bind_some, if_pos rfl, Option.bind_some, if_neg Bool.false_ne_true]
        exact ⟨rfl, rfl⟩
    · refine ⟨(⟨#[]⟩, false), fun k hk => ?_, fun h => absurd h Bool.false_ne_true⟩
      rw [sgood_ok _ k (by omega), iord_ok _ (by omega), Option.bind_some, Option.bind_some, if_pos h, if_pos h, hd, in_eq, l1_eq, Option.bind_some, decide_eq_false c, if_neg Bool.false_ne_true, Option.bind_some, if_neg Bool.false_ne_true, Option.bind_some, if_neg Bool.false_ne_true]
      exact ⟨rfl, rfl⟩
  · refine ⟨(⟨#[]⟩, false), fun k hk => ?_, fun h => absurd h Bool.false_ne_true⟩
    rw [sgood_ok _ k (by omega), iord_ok _ (by omega), Option.bind_some, Option.bind_some, if_neg h, if_neg h]
    exact ⟨rfl, rfl⟩
theorem turnFirst_val (a0 : ByteArray) (a1 : Int) (s0 : a0.size ≤ 1048576) : ∃ r : ByteArray × Bool, (∀ k, 6000 < k → impl_TurnFirst.f a0 a1 = some r ∧ spec_TurnFirst.f k a0 a1 = some r) ∧
    (r.2 = true → ∃ (l : List Bool) (m : Nat), a0 = enc l ∧ l.length ≤ 40 ∧ a1 = (m : Int) ∧ 1 ≤ m ∧ m ≤ l.length ∧ r.1 = enc (flipL l 0 (m - 1))) := by
  unfold impl_TurnFirst.f spec_TurnFirst.f
  by_cases h : ordB a0 = true
  · obtain ⟨l, rfl, h1, h2⟩ := one_row a0 h
    by_cases c : 1 ≤ a1 ∧ a1 ≤ ((enc l).size : Int)
    · obtain ⟨m, rfl⟩ : ∃ m : Nat, a1 = m := ⟨a1.toNat, by omega⟩
      have c' := c
      rw [enc_size] at c'
      refine ⟨(enc (flipL l 0 (m - 1)), true), fun k hk => ?_, fun _ => ⟨l, m, rfl, h2, rfl, by omega, by omega, rfl⟩⟩
      have c0 : ((0 : Nat) : Int) = 0 := rfl
      have e1 := turnAll_ok l 0 (m - 1) (by omega) (by omega) (by omega)
      have e2 := odTurn_ok k 0 (m - 1) l (by omega) (by omega) (by omega) (by omega)
      rw [c0] at e1 e2
      rw [sgood_ok _ k (by omega), iord_ok _ (by omega), Option.bind_some, Option.bind_some, if_pos h, if_pos h, in_eq, l1_eq, Option.bind_some, decide_eq_true c, if_pos rfl, Option.bind_some, if_pos rfl, w_down (by omega) (by omega), e1, e2]
      exact ⟨rfl, rfl⟩
    · refine ⟨(⟨#[]⟩, false), fun k hk => ?_, fun h => absurd h Bool.false_ne_true⟩
      rw [sgood_ok _ k (by omega), iord_ok _ (by omega), Option.bind_some, Option.bind_some, if_pos h, if_pos h, in_eq, l1_eq, Option.bind_some, decide_eq_false c, if_neg Bool.false_ne_true, Option.bind_some, if_neg Bool.false_ne_true]
      exact ⟨rfl, rfl⟩
  · refine ⟨(⟨#[]⟩, false), fun k hk => ?_, fun h => absurd h Bool.false_ne_true⟩
    rw [sgood_ok _ k (by omega), iord_ok _ (by omega), Option.bind_some, Option.bind_some, if_neg h, if_neg h]
    exact ⟨rfl, rfl⟩
theorem turnAround_val (a0 : ByteArray) (a1 : Int) (s0 : a0.size ≤ 1048576) : ∃ r : ByteArray × Bool, (∀ k, 6000 < k → impl_TurnAround.f a0 a1 = some r ∧ spec_TurnAround.f k a0 a1 = some r) ∧
    (r.2 = true → ∃ (l : List Bool) (i : Nat), a0 = enc l ∧ l.length ≤ 40 ∧ a1 = (i : Int) ∧ i < l.length ∧ r.1 = enc (around l i)) := by
  unfold impl_TurnAround.f spec_TurnAround.f
  by_cases h : ordB a0 = true
  · obtain ⟨l, rfl, h1, h2⟩ := one_row a0 h
    have hd : wrap64 (((enc l).size : Int) - 1) = ((l.length - 1 : Nat) : Int) := by rw [enc_size]; exact w_down (by omega) (by omega)
    by_cases c : 0 ≤ a1 ∧ a1 ≤ ((l.length - 1 : Nat) : Int)
    · obtain ⟨i, rfl⟩ : ∃ m : Nat, a1 = m := ⟨a1.toNat, by omega⟩
      refine ⟨(enc (around l i), true), fun k hk => ?_, fun _ => ⟨l, i, rfl, h2, rfl, by omega, rfl⟩⟩
      rw [sgood_ok _ k (by omega), iord_ok _ (by omega), Option.bind_some, Option.bind_some, if_pos h, if_pos h, hd, in_eq, l1_eq, Option.bind_some, decide_eq_true c, if_pos rfl, turnAround_ok l i (by omega) (by omega), Option.bind_some, Option.bind_some, if_pos rfl, odAround_ok k i l (by omega) (by omega) (by omega), Option.bind_some]
      exact ⟨rfl, rfl⟩
    · refine ⟨(⟨#[]⟩, false), fun k hk => ?_, fun h => absurd h Bool.false_ne_true⟩
      rw [sgood_ok _ k (by omega), iord_ok _ (by omega), Option.bind_some, Option.bind_some, if_pos h, if_pos h, hd, in_eq, l1_eq, Option.bind_some, decide_eq_false c, if_neg Bool.false_ne_true, Option.bind_some, if_neg Bool.false_ne_true]
      exact ⟨rfl, rfl⟩
  · refine ⟨(⟨#[]⟩, false), fun k hk => ?_, fun h => absurd h Bool.false_ne_true⟩
    rw [sgood_ok _ k (by omega), iord_ok _ (by omega), Option.bind_some, Option.bind_some, if_neg h, if_neg h]
    exact ⟨rfl, rfl⟩

theorem pr_loop (s : List (List Int)) (n : Nat) (hs : s.length ≤ 100) (hn1 : 1 ≤ n) (hn : n ≤ 40) (d : Nat) : ∀ (i : Nat) (l : List Bool), i + d = s.length → l.length = n →
    ∃ r : ByteArray × Bool, (∀ k, 100 + d < k → spec_PlayRuns.l0 k (enc l) s (s.length : Int) (i : Int) = some r ∧ impl_PlayRuns.l0 k (enc l) s (s.length : Int) (i : Int) = some r) ∧ (r.2 = true → ∀ k, d < k → laws_FnOrdersTurnOfAll.l4 k r.1 (enc l) s (s.length : Int) (i : Int) = some true) := by
  induction d with
  | zero =>
    intro i l h hl
    refine ⟨(enc l, true), fun k hk => ?_, fun _ k hk => ?_⟩
    rotate_left
    · obtain ⟨k, rfl⟩ := fuel0 (show 0 < k by omega)
      simp only [laws_FnOrdersTurnOfAll.l4]
      rw [if_neg (by omega), beq_self_eq_true]
    obtain ⟨k, rfl⟩ := fuel0 (show 0 < k by omega)
    simp only [spec_PlayRuns.l0, impl_PlayRuns.l0]
    rw [if_neg (by omega), if_neg (by omega)]
    exact ⟨rfl, rfl⟩
  | succ d ih =>
    intro i l h hl
    have hi : i < s.length := by omega
    obtain ⟨R, hR⟩ : ∃ R, rd_L3 s (i : Int) = R := ⟨_, rfl⟩
    have e2 : wrap64 (((enc l).size : Int) - 1) = (n : Int) - 1 := by rw [enc_size, w_in (by omega) (by omega), hl]
    by_cases c2 : (R.length : Int) = 2
    case neg =>
      refine ⟨(⟨#[]⟩, false), fun k hk => ?_, fun h => absurd h Bool.false_ne_true⟩
      obtain ⟨k, rfl⟩ := fuel0 (show 0 < k by omega)
      refine ⟨?_, ?_⟩
      · simp only [spec_PlayRuns.l0]
        rw [if_pos (by omega), if_pos (by omega), if_pos (by omega), hR, if_neg c2]
      · simp only [impl_PlayRuns.l0]
        rw [if_pos (by omega), if_pos (by omega), if_pos (by omega), hR, if_neg c2]
    obtain ⟨x, hx⟩ : ∃ x, rd R 0 = x := ⟨_, rfl⟩
    obtain ⟨y, hy⟩ : ∃ y, rd R 1 = y := ⟨_, rfl⟩
    by_cases c3 : 0 ≤ x ∧ x ≤ (n : Int) - 1
    case neg =>
      have is : impl_isRun.f (enc l) x y = some false := by
        unfold impl_isRun.f
        rw [e2, in_eq, Option.bind_some, decide_eq_false c3, if_neg Bool.false_ne_true]
      refine ⟨(⟨#[]⟩, false), fun k hk => ?_, fun h => absurd h Bool.false_ne_true⟩
      obtain ⟨k, rfl⟩ := fuel0 (show 0 < k by omega)
      refine ⟨?_, ?_⟩
      · simp only [spec_PlayRuns.l0]
        rw [if_pos (by omega), if_pos (by omega), if_pos (by omega), hR, if_pos c2, if_pos (by omega), hx, e2, l1_eq, Option.bind_some, decide_eq_false c3, if_neg Bool.false_ne_true]
      · simp only [impl_PlayRuns.l0]
        rw [if_pos (by omega), if_pos (by omega), if_pos (by omega), hR, if_pos c2, if_pos (by omega), if_pos (by omega), hx, hy, is, Option.bind_some, if_neg Bool.false_ne_true]
    by_cases c4 : x ≤ y ∧ y ≤ (n : Int) - 1
    case neg =>
      have is : impl_isRun.f (enc l) x y = some false := by
        unfold impl_isRun.f
        rw [e2, in_eq, in_eq, Option.bind_some, decide_eq_true c3, if_pos rfl, Option.bind_some, decide_eq_false c4]
      refine ⟨(⟨#[]⟩, false), fun k hk => ?_, fun h => absurd h Bool.false_ne_true⟩
      obtain ⟨k, rfl⟩ := fuel0 (show 0 < k by omega)
      refine ⟨?_, ?_⟩
      · simp only [spec_PlayRuns.l0]
        rw [if_pos (by omega), if_pos (by omega), if_pos (by omega), hR, if_pos c2, if_pos (by omega), hx, hy, e2, l1_eq, l1_eq, Option.bind_some, decide_eq_true c3, if_pos rfl, if_pos (by omega), Option.bind_some, decide_eq_false c4, if_neg Bool.false_ne_true]
      · simp only [impl_PlayRuns.l0]
        rw [if_pos (by omega), if_pos (by omega), if_pos (by omega), hR, if_pos c2, if_pos (by omega), if_pos (by omega), hx, hy, is, Option.bind_some, if_neg Bool.false_ne_true]
    obtain ⟨f, hf⟩ : ∃ m : Nat, x = (m : Int) := ⟨x.toNat, by omega⟩
    obtain ⟨t, ht⟩ : ∃ m : Nat, y = (m : Int) := ⟨y.toNat, by omega⟩
    have is : impl_isRun.f (enc l) x y = some true := by
      unfold impl_isRun.f
      rw [e2, in_eq, in_eq, Option.bind_some, decide_eq_true c3, if_pos rfl, Option.bind_some, decide_eq_true c4]
    obtain ⟨r, hr, hr4⟩ := ih (i + 1) (flipL l f t) (by omega) (by rw [flip_len]; exact hl)
    refine ⟨r, fun k hk => ?_, fun h k hk => ?_⟩
    rotate_left
    · obtain ⟨k, rfl⟩ := fuel0 (show 0 < k by omega)
      simp only [laws_FnOrdersTurnOfAll.l4]
      rw [if_pos (by omega), if_pos (by omega), if_pos (by omega), hR, if_pos (by omega), if_pos (by omega), hx, hy, hf, ht, turnRun_enc l f t (by omega) (by omega) (by omega), Option.bind_some, if_pos rfl, w_up (by omega)]
      exact hr4 h k (by omega)
    obtain ⟨k, rfl⟩ := fuel0 (show 0 < k by omega)
    obtain ⟨g1, g2⟩ := hr k (by omega)
    refine ⟨?_, ?_⟩
    · simp only [spec_PlayRuns.l0]
      rw [if_pos (by omega), if_pos (by omega), if_pos (by omega), hR, if_pos c2, if_pos (by omega), hx, hy, e2, l1_eq, l1_eq, Option.bind_some, decide_eq_true c3, if_pos rfl, if_pos (by omega), Option.bind_some, decide_eq_true c4, if_pos rfl, hf, ht, odTurn_ok k f t l (by omega) (by omega) (by omega) (by omega), Option.bind_some, w_up (by omega)]
      exact g1
    · simp only [impl_PlayRuns.l0]
      rw [if_pos (by omega), if_pos (by omega), if_pos (by omega), hR, if_pos c2, if_pos (by omega), if_pos (by omega), hx, hy, is, Option.bind_some, if_pos rfl, hf, ht, turnAll_ok l f t (by omega) (by omega) (by omega), Option.bind_some, w_up (by omega)]
      exact g2
theorem both_runs (a0 : ByteArray) (l1 : List (List Int)) (s0 : a0.size ≤ 1048576) : ∃ r : ByteArray × Bool, (∀ k, 6000 < k → impl_PlayRuns.f k a0 l1 = some r ∧ spec_PlayRuns.f k a0 l1 = some r) ∧ (r.2 = true → ∀ k, 100 < k → laws_FnOrdersTurnOfAll.l4 k r.1 a0 l1 (l1.length : Int) 0 = some true) := by
  unfold impl_PlayRuns.f spec_PlayRuns.f
  have J0 : ∀ k, 6000 < k → impl_PlayRuns.j0 k a0 l1 true = some ((⟨#[]⟩ : ByteArray), false) ∧ spec_PlayRuns.j0 k a0 l1 true = some ((⟨#[]⟩ : ByteArray), false) := fun k hk => by
    obtain ⟨k, rfl⟩ := fuel0 (show 0 < k by omega)
    exact ⟨rfl, rfl⟩
  by_cases h : ordB a0 = true
  · obtain ⟨l, rfl, h1, h2⟩ := one_row a0 h
    by_cases c3 : (l1.length : Int) > 100
    · refine ⟨(⟨#[]⟩, false), fun k hk => ?_, fun h => absurd h Bool.false_ne_true⟩
      rw [sgood_ok _ k (by omega), iord_ok _ (by omega), Option.bind_some, Option.bind_some, if_pos h, if_pos h, decide_eq_true c3]
      exact J0 k hk
    · have c0 : ((0 : Nat) : Int) = 0 := rfl
      obtain ⟨r, hr, hr4⟩ := pr_loop l1 l.length (by omega) h1 h2 l1.length 0 l (by omega) rfl
      rw [c0] at hr hr4
      refine ⟨r, fun k hk => ?_, fun h k hk => hr4 h k (by omega)⟩
      obtain ⟨k, rfl⟩ := fuel0 (show 0 < k by omega)
      rw [sgood_ok _ (k + 1) (by omega), iord_ok _ (by omega), Option.bind_some, Option.bind_some, if_pos h, if_pos h, decide_eq_false c3]
      exact ⟨(hr k (by omega)).2, (hr k (by omega)).1⟩
  · refine ⟨(⟨#[]⟩, false), fun k hk => ?_, fun h => absurd h Bool.false_ne_true⟩
    rw [sgood_ok _ k (by omega), iord_ok _ (by omega), Option.bind_some, Option.bind_some, if_neg h, if_neg h]
    exact J0 k hk

theorem bt_flip (l : List Bool) (f t i : Nat) (hi : i < l.length) : (bt (enc (flipL l f t)) (i : Int) != bt (enc l) (i : Int)) = decide (f ≤ i ∧ i ≤ t) := by
  rw [bt_at _ i (by rw [flip_len]; exact hi), bt_at l i hi, flip_getD _ _ _ _ hi]
  cases l.getD i false <;> cases decide (f ≤ i ∧ i ≤ t) <;> rfl
section
variable (l : List Bool) (h40 : l.length ≤ 40)
include h40
theorem l1_ok (f t : Nat) (x5 : ByteArray) (x6 : Int) (x7 : ByteArray) (x8 : List (List Int)) (x54 : ByteArray) (x55 : Bool) (x58 : ByteArray) (x59 : Bool) (x62 : ByteArray) (x63 : Bool) (K : Nat)
    (hrest : ∀ k, K < k → laws_FnOrdersTurnOfAll.j7 k x5 x6 x7 x8 x54 x55 x58 x59 x62 x63 = some true) (d : Nat) : ∀ (k i : Nat), i + d = l.length → K + d + 1 < k →
    laws_FnOrdersTurnOfAll.l1 k (enc l) (f : Int) (t : Int) x5 x6 x7 x8 (enc (flipL l f t)) x54 x55 x58 x59 x62 x63 (enc l) (i : Int) = some true := by
  induction d with
  | zero =>
    intro k i h hk
    obtain ⟨k, rfl⟩ := fuel0 (show 0 < k by omega)
    simp only [laws_FnOrdersTurnOfAll.l1]
    rw [if_neg (by rw [enc_size]; omega)]
    exact hrest k (by omega)
  | succ d ih =>
    intro k i h hk
    obtain ⟨k, rfl⟩ := fuel0 (show 0 < k by omega)
    simp only [laws_FnOrdersTurnOfAll.l1]
    rw [if_pos (by rw [enc_size]; omega), if_pos (by omega), if_pos (by rw [enc_size, flip_len]; omega), if_pos (by rw [enc_size]; omega), bt_flip l f t i (by omega)]
    by_cases c : (i : Int) ≥ (f : Int)
    · rw [if_pos c, decide_eq_decide.2 (show (f ≤ i ∧ i ≤ t) ↔ ((i : Int) ≤ (t : Int)) by omega), nn, if_neg F, w_up (by omega)]
      exact ih k (i + 1) (by omega) (by omega)
    · rw [if_neg c, decide_eq_false (show ¬ (f ≤ i ∧ i ≤ t) by omega), nn, if_neg F, w_up (by omega)]
      exact ih k (i + 1) (by omega) (by omega)
theorem l2_ok (m : Nat) (hm : 1 ≤ m) (x7 : ByteArray) (x8 : List (List Int)) (x58 : ByteArray) (x59 : Bool) (x62 : ByteArray) (x63 : Bool) (K : Nat)
    (hrest : ∀ k, K < k → laws_FnOrdersTurnOfAll.j9 k (enc l) (m : Int) x7 x8 x58 x59 x62 x63 = some true) (d : Nat) : ∀ (k i : Nat), i + d = l.length → K + d + 1 < k →
    laws_FnOrdersTurnOfAll.l2 k (enc l) (m : Int) x7 x8 (enc (flipL l 0 (m - 1))) x58 x59 x62 x63 (enc l) (i : Int) = some true := by
  induction d with
  | zero =>
    intro k i h hk
    obtain ⟨k, rfl⟩ := fuel0 (show 0 < k by omega)
    simp only [laws_FnOrdersTurnOfAll.l2]
    rw [if_neg (by rw [enc_size]; omega)]
    exact hrest k (by omega)
  | succ d ih =>
    intro k i h hk
    obtain ⟨k, rfl⟩ := fuel0 (show 0 < k by omega)
    simp only [laws_FnOrdersTurnOfAll.l2]
    rw [if_pos (by rw [enc_size]; omega), if_pos (by omega), if_pos (by rw [enc_size, flip_len]; omega), if_pos (by rw [enc_size]; omega), bt_flip l 0 (m - 1) i (by omega)]
    rw [decide_eq_decide.2 (show (0 ≤ i ∧ i ≤ m - 1) ↔ ((i : Int) < (m : Int)) by omega), nn, if_neg F, w_up (by omega)]
    exact ih k (i + 1) (by omega) (by omega)
theorem l3_ok (p : Nat) (hp : p < l.length) (x7 : ByteArray) (x8 : List (List Int)) (x62 : ByteArray) (x63 : Bool) (K : Nat)
    (hrest : ∀ k, K < k → laws_FnOrdersTurnOfAll.j11 k x7 x8 x62 x63 = some true) (d : Nat) : ∀ (k i : Nat), i + d = l.length → K + d + 1 < k →
    laws_FnOrdersTurnOfAll.l3 k (enc l) (p : Int) x7 x8 (enc (around l p)) x62 x63 (enc l) (i : Int) = some true := by
  induction d with
  | zero =>
    intro k i h hk
    obtain ⟨k, rfl⟩ := fuel0 (show 0 < k by omega)
    simp only [laws_FnOrdersTurnOfAll.l3]
    rw [if_neg (by rw [enc_size]; omega)]
    exact hrest k (by omega)
  | succ d ih =>
    intro k i h hk
    obtain ⟨k, rfl⟩ := fuel0 (show 0 < k by omega)
    have w1 : wrap64 ((p : Int) - 1) = (p : Int) - 1 := by unfold wrap64; omega
    have w2 : wrap64 ((p : Int) + 1) = (p : Int) + 1 := by unfold wrap64; omega
    simp only [laws_FnOrdersTurnOfAll.l3]
    unfold around
    rw [if_pos (by rw [enc_size]; omega), if_pos (by omega), if_pos (by rw [enc_size, flip_len]; omega), if_pos (by rw [enc_size]; omega), bt_flip l _ _ i (by omega), w1, w2]
    by_cases c : (i : Int) ≥ (p : Int) - 1
    · rw [if_pos c, decide_eq_decide.2 (show (p - 1 ≤ i ∧ i ≤ min (l.length - 1) (p + 1)) ↔ ((i : Int) ≤ (p : Int) + 1) by omega), nn, if_neg F, w_up (by omega)]
      exact ih k (i + 1) (by omega) (by omega)
    · rw [if_neg c, decide_eq_false (show ¬ (p - 1 ≤ i ∧ i ≤ min (l.length - 1) (p + 1)) by omega), nn, if_neg F, w_up (by omega)]
      exact ih k (i + 1) (by omega) (by omega)
end
theorem j11_ok (x7 : ByteArray) (x8 : List (List Int)) (x62 : ByteArray) (x63 : Bool) (h : x63 = true → ∀ k, 100 < k → laws_FnOrdersTurnOfAll.l4 k x62 x7 x8 (x8.length : Int) 0 = some true) (k : Nat) (hk : 200 < k) : laws_FnOrdersTurnOfAll.j11 k x7 x8 x62 x63 = some true := by
  obtain ⟨k, rfl⟩ := fuel0 (show 0 < k by omega)
  simp only [laws_FnOrdersTurnOfAll.j11]
  cases x63 with
  | true => rw [if_pos rfl]; exact h rfl k (by omega)
  | false => rw [if_neg F]
theorem j9_ok (x5 : ByteArray) (x6 : Int) (x7 : ByteArray) (x8 : List (List Int)) (x58 : ByteArray) (x59 : Bool) (x62 : ByteArray) (x63 : Bool)
    (h3 : x59 = true → ∃ (l : List Bool) (i : Nat), x5 = enc l ∧ l.length ≤ 40 ∧ x6 = (i : Int) ∧ i < l.length ∧ x58 = enc (around l i))
    (h : ∀ k, 200 < k → laws_FnOrdersTurnOfAll.j11 k x7 x8 x62 x63 = some true) (k : Nat) (hk : 300 < k) : laws_FnOrdersTurnOfAll.j9 k x5 x6 x7 x8 x58 x59 x62 x63 = some true := by
  obtain ⟨k, rfl⟩ := fuel0 (show 0 < k by omega)
  simp only [laws_FnOrdersTurnOfAll.j9]
  cases x59 with
  | true =>
    obtain ⟨l, i, rfl, h40, rfl, hi, rfl⟩ := h3 rfl
    rw [if_pos rfl]
    have := l3_ok l h40 i hi x7 x8 x62 x63 200 h l.length k 0 (by omega) (by omega)
    exact this
  | false => rw [if_neg F]; exact h k (by omega)
theorem j7_ok (x5 : ByteArray) (x6 : Int) (x7 : ByteArray) (x8 : List (List Int)) (x54 : ByteArray) (x55 : Bool) (x58 : ByteArray) (x59 : Bool) (x62 : ByteArray) (x63 : Bool)
    (h2 : x55 = true → ∃ (l : List Bool) (m : Nat), x5 = enc l ∧ l.length ≤ 40 ∧ x6 = (m : Int) ∧ 1 ≤ m ∧ m ≤ l.length ∧ x54 = enc (flipL l 0 (m - 1)))
    (h : ∀ k, 300 < k → laws_FnOrdersTurnOfAll.j9 k x5 x6 x7 x8 x58 x59 x62 x63 = some true) (k : Nat) (hk : 400 < k) : laws_FnOrdersTurnOfAll.j7 k x5 x6 x7 x8 x54 x55 x58 x59 x62 x63 = some true := by
  obtain ⟨k, rfl⟩ := fuel0 (show 0 < k by omega)
  simp only [laws_FnOrdersTurnOfAll.j7]
  cases x55 with
  | true =>
    obtain ⟨l, m, rfl, h40, rfl, hm, hl, rfl⟩ := h2 rfl
    rw [if_pos rfl]
    have := l2_ok l h40 m hm x7 x8 x58 x59 x62 x63 300 h l.length k 0 (by omega) (by omega)
    exact this
  | false => rw [if_neg F]; exact h k (by omega)
theorem j5_ok (x2 : ByteArray) (x3 x4 : Int) (x5 : ByteArray) (x6 : Int) (x7 : ByteArray) (x8 : List (List Int)) (x50 : ByteArray) (x51 : Bool) (x54 : ByteArray) (x55 : Bool) (x58 : ByteArray) (x59 : Bool) (x62 : ByteArray) (x63 : Bool)
    (h1 : x51 = true → ∃ (l : List Bool) (f t : Nat), x2 = enc l ∧ l.length ≤ 40 ∧ x3 = (f : Int) ∧ x4 = (t : Int) ∧ f ≤ t ∧ t < l.length ∧ x50 = enc (flipL l f t))
    (h : ∀ k, 400 < k → laws_FnOrdersTurnOfAll.j7 k x5 x6 x7 x8 x54 x55 x58 x59 x62 x63 = some true) (k : Nat) (hk : 500 < k) : laws_FnOrdersTurnOfAll.j5 k x2 x3 x4 x5 x6 x7 x8 x50 x51 x54 x55 x58 x59 x62 x63 false = some true := by
  obtain ⟨k, rfl⟩ := fuel0 (show 0 < k by omega)
  simp only [laws_FnOrdersTurnOfAll.j5]
  rw [if_neg F]
  cases x51 with
  | true =>
    obtain ⟨l, f, t, rfl, h40, rfl, rfl, hft, ht, rfl⟩ := h1 rfl
    rw [if_pos rfl]
    have := l1_ok l h40 f t x5 x6 x7 x8 x54 x55 x58 x59 x62 x63 400 h l.length k 0 (by omega) (by omega)
    exact this
  | false => rw [if_neg F]; exact h k (by omega)
theorem most_val (n : Int) : ∃ r, impl_MostRuns.f n = some r ∧ spec_MostRuns.f n = some r := by
  unfold impl_MostRuns.f spec_MostRuns.f impl_isOrderedMany.f spec_odSoldiers.f
  rw [in_eq, l1_eq, Option.bind_some, Option.bind_some]
  cases decide (1 ≤ n ∧ n ≤ 40) <;> exact ⟨_, rfl, rfl⟩
theorem near_is (x y : Nat) (n1 : y ≤ x + 1) (n2 : x ≤ y + 1) : ¬ (y : Int) < (x : Int) - 1 ∧ ¬ (y : Int) > (x : Int) + 1 := by omega
theorem most_at (n : Nat) (h1 : 1 ≤ n) (h40 : n ≤ 40) : impl_MostRuns.f (n : Int) = some ((((n + 1) / 2 : Nat) : Int), true) := by
  unfold impl_MostRuns.f impl_isOrderedMany.f
  have w1 : wrap64 ((n : Int) + 1) = ((n + 1 : Nat) : Int) := w_up (by omega)
  have e : Int.tdiv ((n + 1 : Nat) : Int) 2 = (((n + 1) / 2 : Nat) : Int) := by
    rw [Int.tdiv_eq_ediv_of_nonneg (by omega)]
    omega
  rw [in_eq, Option.bind_some, Option.bind_some, decide_eq_true (by omega), if_pos rfl, w1, e, w_in (by omega) (by omega)]
theorem j4_ok (a2 a5 a7 : ByteArray) (a3 a4 a6 a9 : Int) (l8 : List (List Int)) (s2 : a2.size ≤ 1048576) (s5 : a5.size ≤ 1048576) (s7 : a7.size ≤ 1048576) (k : Nat) (hk : 6001 < k) : laws_FnOrdersTurnOfAll.j4 k a2 a3 a4 a5 a6 a7 l8 a9 = some true := by
  obtain ⟨k, rfl⟩ := fuel0 (show 0 < k by omega)
  obtain ⟨r1, p1, z1⟩ := turnRun_val a2 a3 a4 s2
  obtain ⟨r2, p2, z2⟩ := turnFirst_val a5 a6 s5
  obtain ⟨r3, p3, z3⟩ := turnAround_val a5 a6 s5
  obtain ⟨r4, p4, z4⟩ := both_runs a7 l8 s7
  obtain ⟨r5, p5, q5⟩ := most_val a9
  simp only [laws_FnOrdersTurnOfAll.j4]
  rw [(p1 k (by omega)).1, Option.bind_some, (p1 k (by omega)).2, Option.bind_some, (p2 k (by omega)).1, Option.bind_some, (p2 k (by omega)).2, Option.bind_some, (p3 k (by omega)).1, Option.bind_some, (p3 k (by omega)).2, Option.bind_some, (p4 k (by omega)).1, Option.bind_some, (p4 k (by omega)).2, Option.bind_some, p5, Option.bind_some, q5, Option.bind_some]
  rw [nn r1.2, if_neg F, if_pos rfl, nn r2.2, if_neg F, if_pos rfl, nn r3.2, if_neg F, if_pos rfl, nn r4.2, if_neg F, if_pos rfl, nn r5.2, if_neg F, bne_self_eq_false]
  exact j5_ok _ _ _ _ _ _ _ _ _ _ _ _ _ _ _ z1 (fun k hk => j7_ok _ _ _ _ _ _ _ _ _ _ z2 (fun k hk => j9_ok _ _ _ _ _ _ _ _ z3 (fun k hk => j11_ok _ _ _ _ z4 k hk) k hk) k hk) k (by omega)
/-! ### the first part -/
theorem msame_loop (a : List Int) (h8 : a.length ≤ 1000000) (d : Nat) : ∀ (k i : Nat), i + d = a.length → d < k → laws_mSame.l0 k a a (a.length : Int) (i : Int) = some true := by
  induction d with
  | zero =>
    intro k i h hk
    obtain ⟨k, rfl⟩ := fuel0 (show 0 < k by omega)
    simp only [laws_mSame.l0]
    rw [if_neg (by omega)]
  | succ d ih =>
    intro k i h hk
    obtain ⟨k, rfl⟩ := fuel0 (show 0 < k by omega)
    simp only [laws_mSame.l0]
    rw [if_pos (by omega), if_pos (by omega), if_pos (by omega), if_pos (by omega), if_pos trivial, w_up (by omega)]
    exact ih k (i + 1) (by omega) (by omega)
theorem msame_ok (a : List Int) (h8 : a.length ≤ 1000000) (k : Nat) (hk : a.length < k) : laws_mSame.f k a a = some true := by
  unfold laws_mSame.f
  rw [if_pos rfl]
  exact msame_loop a h8 a.length k 0 (by omega) hk
theorem mrows_loop (a : List (List Int)) (h8 : a.length ≤ 1000000) (hr : ∀ x ∈ a, x.length ≤ 1000) (d : Nat) : ∀ (k i : Nat), i + d = a.length → d + 1001 < k → laws_mRows.l0 k a a (a.length : Int) (i : Int) = some true := by
  induction d with
  | zero =>
    intro k i h hk
    obtain ⟨k, rfl⟩ := fuel0 (show 0 < k by omega)
    simp only [laws_mRows.l0]
    rw [if_neg (by omega)]
  | succ d ih =>
    intro k i h hk
    obtain ⟨k, rfl⟩ := fuel0 (show 0 < k by omega)
    have hx : (rd_L3 a (i : Int)).length ≤ 1000 := by
      unfold rd_L3
      rw [Int.toNat_natCast, List.getD_eq_getElem?_getD, List.getElem?_eq_getElem (by omega)]
      exact hr _ (List.getElem_mem _)
    simp only [laws_mRows.l0]
    rw [if_pos (by omega), if_pos (by omega), if_pos (by omega), if_pos (by omega), msame_ok _ (by omega) k (by omega), Option.bind_some, if_pos rfl, w_up (by omega)]
    exact ih k (i + 1) (by omega) (by omega)
theorem mrows_ok (a : List (List Int)) (h8 : a.length ≤ 1000000) (hr : ∀ x ∈ a, x.length ≤ 1000) (k : Nat) (hk : a.length + 1001 < k) : laws_mRows.f k a a = some true := by
  unfold laws_mRows.f
  rw [if_pos rfl]
  exact mrows_loop a h8 hr a.length k 0 (by omega) hk
theorem rd_nat (P : List Nat) (i : Nat) (h : i < P.length) : rd (P.map fun p : Nat => (p : Int)) (i : Int) = ((P[i] : Nat) : Int) := by
  unfold rd
  rw [Int.toNat_natCast, List.getD_eq_getElem?_getD, List.getElem?_eq_getElem (by rw [List.length_map]; exact h), List.getElem_map]
  rfl
theorem rises_loop (P : List Nat) (hP : P.Pairwise (· < ·)) (h8 : P.length ≤ 1000000) (d : Nat) : ∀ (k i : Nat), 1 ≤ i → i + d = P.length + 1 → d < k → laws_mRises.l0 k (P.map fun p : Nat => (p : Int)) (i : Int) = some true := by
  induction d with
  | zero =>
    intro k i h1 h hk
    obtain ⟨k, rfl⟩ := fuel0 (show 0 < k by omega)
    simp only [laws_mRises.l0]
    rw [if_neg (by rw [List.length_map]; omega)]
  | succ d ih =>
    intro k i h1 h hk
    obtain ⟨k, rfl⟩ := fuel0 (show 0 < k by omega)
    have hlen : ((P.map fun p : Nat => (p : Int)).length : Int) = (P.length : Int) := by rw [List.length_map]
    by_cases c : i < P.length
    · have w1 : wrap64 ((i : Int) - 1) = ((i - 1 : Nat) : Int) := w_down (by omega) (by omega)
      have lt : P[i - 1] < P[i] := List.pairwise_iff_getElem.1 hP (i - 1) i (by omega) c (by omega)
      simp only [laws_mRises.l0]
      rw [w1, hlen, rd_nat P (i - 1) (by omega), rd_nat P i c, if_pos (by omega), if_pos (by omega), if_pos (by omega), if_pos (by omega), if_neg (by omega), w_up (by omega)]
      exact ih k (i + 1) (by omega) (by omega) (by omega)
    · simp only [laws_mRises.l0]
      rw [hlen, if_neg (by omega)]
theorem play_loop (s : List (List Int)) (n : Nat) (hs : s.length ≤ 100) (h40 : n ≤ 40) : ∀ (Q : List (Nat × Nat)) (k i : Nat) (l : List Bool), s.drop i = Q.map runE → (∀ p ∈ Q, p.1 ≤ p.2 ∧ p.2 < n) → l.length = n → Q.length < k →
    impl_PlayRuns.l0 k (enc l) s (s.length : Int) (i : Int) = some (enc (flips Q l), true) := by
  intro Q
  induction Q with
  | nil =>
    intro k i l hd hp hl hk
    obtain ⟨k, rfl⟩ := fuel0 (show 0 < k by omega)
    have : s.length ≤ i := List.drop_eq_nil_iff.1 hd
    simp only [impl_PlayRuns.l0]
    rw [if_neg (by omega)]
    rfl
  | cons p Q ih =>
    intro k i l hd hp hl hk
    obtain ⟨k, rfl⟩ := fuel0 (show 0 < k by omega)
    have hi : i < s.length := by
      apply Classical.byContradiction
      intro h
      rw [List.drop_eq_nil_of_le (by omega)] at hd
      cases hd
    rw [List.drop_eq_getElem_cons hi, List.map_cons] at hd
    obtain ⟨e1, e2⟩ := List.cons.inj hd
    have hR : rd_L3 s (i : Int) = [(p.1 : Int), (p.2 : Int)] := by
      unfold rd_L3
      rw [Int.toNat_natCast, List.getD_eq_getElem?_getD, List.getElem?_eq_getElem hi]
      exact e1
    have hq := hp p List.mem_cons_self
    have is : impl_isRun.f (enc l) (p.1 : Int) (p.2 : Int) = some true := by
      have hd : wrap64 (((enc l).size : Int) - 1) = ((l.length - 1 : Nat) : Int) := by rw [enc_size]; exact w_down (by omega) (by omega)
      unfold impl_isRun.f
      rw [hd, in_eq, in_eq, Option.bind_some, decide_eq_true (show 0 ≤ (p.1 : Int) ∧ (p.1 : Int) ≤ ((l.length - 1 : Nat) : Int) by omega), if_pos rfl, Option.bind_some, decide_eq_true (show (p.1 : Int) ≤ (p.2 : Int) ∧ (p.2 : Int) ≤ ((l.length - 1 : Nat) : Int) by omega)]
    have r0 : rd [(p.1 : Int), (p.2 : Int)] 0 = (p.1 : Int) := rfl
    have r1 : rd [(p.1 : Int), (p.2 : Int)] 1 = (p.2 : Int) := rfl
    have r2 : (([(p.1 : Int), (p.2 : Int)] : List Int).length : Int) = 2 := rfl
    have h := ih k (i + 1) (flipL l p.1 p.2) e2 (fun x hx => hp x (List.mem_cons_of_mem _ hx)) (by rw [flip_len]; exact hl) (by rw [List.length_cons] at hk; omega)
    simp only [impl_PlayRuns.l0]
    rw [if_pos (by omega), if_pos (by omega), if_pos (by omega), hR, r0, r1, r2, if_pos rfl, if_pos (by omega), if_pos (by omega), is, Option.bind_some, if_pos rfl, turnAll_ok l p.1 p.2 (by omega) (by omega) (by omega), Option.bind_some, w_up (by omega)]
    exact h
section
variable (A B : List Bool) (hA : A.length = B.length) (h1 : 1 ≤ B.length) (hB : B.length ≤ 40)
include hA h1 hB
theorem two_enc : twoB (enc A) (enc B) = true := by
  unfold twoB
  rw [ord_enc A (by omega) (by omega), ord_enc B h1 hB, enc_size, enc_size, hA, beq_self_eq_true]
  rfl
theorem runs_val (k : Nat) (hk : 1000 < k) : impl_RunsTo.f k (enc A) (enc B) = some (runsUp (enc A) (enc B) B.length, true) ∧ spec_RunsTo.f k (enc A) (enc B) = some (runsUp (enc A) (enc B) B.length, true) := by
  obtain ⟨D, d1, d2, d3⟩ := differ_ok A B hA hB
  have h := two_enc A B hA h1 hB
  have hs := enc_size A
  have hs2 := enc_size B
  unfold impl_RunsTo.f spec_RunsTo.f spec_odRuns.f
  rw [two_ok _ _ k (by omega), areo_ok _ _ (by omega) (by omega), Option.bind_some, Option.bind_some, if_pos h, if_pos h, d3 k (by omega), Option.bind_some, parts_ok A B hA hB k (by omega) D d1 d2, if_pos (plain_ok A B hA hB), enc_size, hA]
  exact ⟨rfl, rfl⟩
theorem few_val (k : Nat) (hk : 1000 < k) : impl_FewestRuns.f k (enc A) (enc B) = some (((runsUp (enc A) (enc B) B.length).length : Int), true) ∧ spec_FewestRuns.f k (enc A) (enc B) = some (((runsUp (enc A) (enc B) B.length).length : Int), true) := by
  have h := two_enc A B hA h1 hB
  have hs := enc_size A
  unfold impl_FewestRuns.f spec_FewestRuns.f spec_odRuns.f
  rw [(runs_val A B hA h1 hB k hk).1, Option.bind_some, two_ok _ _ k (by omega), Option.bind_some, if_pos h, if_pos (plain_ok A B hA hB), enc_size, hA]
  exact ⟨rfl, rfl⟩
theorem firsts_val (k : Nat) (hk : 1000 < k) : impl_FirstsTo.f k (enc A) (enc B) = some (firstsUp (enc A) (enc B) B.length, true) ∧ spec_FirstsTo.f k (enc A) (enc B) = some (firstsUp (enc A) (enc B) B.length, true) := by
  obtain ⟨D, d1, d2, d3⟩ := differ_ok A B hA hB
  have h := two_enc A B hA h1 hB
  have hs := enc_size A
  have hs2 := enc_size B
  unfold impl_FirstsTo.f spec_FirstsTo.f spec_odFirsts.f
  rw [two_ok _ _ k (by omega), areo_ok _ _ (by omega) (by omega), Option.bind_some, Option.bind_some, if_pos h, if_pos h, d3 k (by omega), Option.bind_some, if_pos (by omega), enc_size, hA, firsts A B hA hB k (by omega) D d1 d2, if_pos (plain_ok A B hA hB)]
  exact ⟨rfl, rfl⟩
theorem least_val (k : Nat) (hk : 1000 < k) : impl_FewestFirst.f k (enc A) (enc B) = some (((firstsUp (enc A) (enc B) B.length).length : Int), true) ∧ spec_FewestFirst.f k (enc A) (enc B) = some (((firstsUp (enc A) (enc B) B.length).length : Int), true) := by
  have h := two_enc A B hA h1 hB
  have hs := enc_size A
  unfold impl_FewestFirst.f spec_FewestFirst.f spec_odFirsts.f
  rw [(firsts_val A B hA h1 hB k hk).1, Option.bind_some, two_ok _ _ k (by omega), Option.bind_some, if_pos h, if_pos (plain_ok A B hA hB), enc_size, hA]
  exact ⟨rfl, rfl⟩
theorem play_val (k : Nat) (hk : 1000 < k) : impl_PlayRuns.f k (enc A) (runsUp (enc A) (enc B) B.length) = some (enc B, true) := by
  obtain ⟨P, e, hl, hp, hf⟩ := runs_lead A B hA hB
  have hh := starts_half (dif A B) B.length
  have hlen : (runsUp (enc A) (enc B) B.length).length = P.length := by rw [e, List.length_map]
  obtain ⟨k, rfl⟩ := fuel0 (show 0 < k by omega)
  have g := play_loop (runsUp (enc A) (enc B) B.length) B.length (by omega) hB P k 0 A (by rw [List.drop_zero]; exact e) hp hA (by omega)
  unfold impl_PlayRuns.f
  rw [iord_ok _ (by rw [enc_size]; omega), Option.bind_some, if_pos (ord_enc A (by omega) (by omega)), decide_eq_false (by omega)]
  rw [hf] at g
  exact g
theorem l0_ok (x2 : ByteArray) (x3 x4 : Int) (x5 : ByteArray) (x6 : Int) (x7 : ByteArray) (x8 : List (List Int)) (x9 : Int) (s2 : x2.size ≤ 1048576) (s5 : x5.size ≤ 1048576) (s7 : x7.size ≤ 1048576) (S : List Int) :
    ∀ (Q : List Nat) (k i : Nat) (l : List Bool), S.drop i = Q.map (fun p : Nat => (p : Int)) → S.length ≤ 100 → (∀ p ∈ Q, 1 ≤ p ∧ p ≤ B.length) → heads Q l = B → l.length = B.length → 7000 + Q.length < k →
    laws_FnOrdersTurnOfAll.l0 k (enc A) (enc B) x2 x3 x4 x5 x6 x7 x8 x9 ((runsUp (enc A) (enc B) B.length).length : Int) (enc l) S (S.length : Int) (i : Int) = some true := by
  intro Q
  induction Q with
  | nil =>
    intro k i l hd h100 hp hb hl hk
    obtain ⟨k, rfl⟩ := fuel0 (show 0 < k by omega)
    have hle : S.length ≤ i := List.drop_eq_nil_iff.1 hd
    have hb' : l = B := hb
    subst hb'
    simp only [laws_FnOrdersTurnOfAll.l0]
    rw [if_neg (by omega), if_pos trivial, enc_size]
    by_cases c : (A.length : Int) > 1
    · have w1 : wrap64 ((A.length : Int) / 2) = ((A.length / 2 : Nat) : Int) := by unfold wrap64; omega
      have hv := few_val (flipL A 0 (A.length / 2)) l (by rw [flip_len]; exact hA) h1 hB k (by omega)
      obtain ⟨P, e, hl1, _, _⟩ := runs_lead A l hA hB
      obtain ⟨P', e', hl2, _, _⟩ := runs_lead (flipL A 0 (A.length / 2)) l (by rw [flip_len]; exact hA) hB
      obtain ⟨n1, n2⟩ := runs_near A l hA h1 (A.length / 2) (by omega)
      have hh := starts_half (dif A l) l.length
      have g1 : (runsUp (enc A) (enc l) l.length).length = starts (dif A l) l.length := by rw [e, List.length_map, hl1]
      have g2 : (runsUp (enc (flipL A 0 (A.length / 2))) (enc l) l.length).length = starts (dif (flipL A 0 (A.length / 2)) l) l.length := by rw [e', List.length_map, hl2]
      have c0 : ((0 : Nat) : Int) = 0 := rfl
      have ht := turnRun_enc A 0 (A.length / 2) (by omega) (by omega) (by omega)
      rw [c0] at ht
      have w2 : wrap64 (((starts (dif A l) l.length : Nat) : Int) - 1) = ((starts (dif A l) l.length : Nat) : Int) - 1 := by unfold wrap64; omega
      have w3 : wrap64 (((starts (dif A l) l.length : Nat) : Int) + 1) = ((starts (dif A l) l.length : Nat) : Int) + 1 := by unfold wrap64; omega
      rw [if_pos c, w1, ht, Option.bind_some, hv.1, Option.bind_some, if_pos rfl, if_pos rfl, g1, g2, w2, w3, if_neg (near_is _ _ n1 n2).1, if_neg (near_is _ _ n1 n2).2]
      exact j4_ok _ _ _ _ _ _ _ _ s2 s5 s7 k (by omega)
    · rw [if_neg c]
      exact j4_ok _ _ _ _ _ _ _ _ s2 s5 s7 k (by omega)
  | cons p Q ih =>
    intro k i l hd h100 hp hb hl hk
    obtain ⟨k, rfl⟩ := fuel0 (show 0 < k by omega)
    have hi : i < S.length := by
      apply Classical.byContradiction
      intro h
      rw [List.drop_eq_nil_of_le (by omega)] at hd
      cases hd
    rw [List.drop_eq_getElem_cons hi, List.map_cons] at hd
    obtain ⟨e1, e2⟩ := List.cons.inj hd
    have hR : rd S (i : Int) = (p : Int) := by
      unfold rd
      rw [Int.toNat_natCast, List.getD_eq_getElem?_getD, List.getElem?_eq_getElem hi]
      exact e1
    have hq := hp p List.mem_cons_self
    simp only [laws_FnOrdersTurnOfAll.l0]
    rw [if_pos (by omega), if_pos (by omega), if_pos (by omega), hR, turnFirst_enc l p hq.1 (by omega) (by omega), Option.bind_some, if_pos rfl, w_up (by omega)]
    exact ih k (i + 1) (flipL l 0 (p - 1)) e2 h100 (fun x hx => hp x (List.mem_cons_of_mem _ hx)) hb (by rw [flip_len]; exact hl) (by rw [List.length_cons] at hk; omega)
theorem good_ok (x2 : ByteArray) (x3 x4 : Int) (x5 : ByteArray) (x6 : Int) (x7 : ByteArray) (x8 : List (List Int)) (x9 : Int) (s2 : x2.size ≤ 1048576) (s5 : x5.size ≤ 1048576) (s7 : x7.size ≤ 1048576) (k : Nat) (hk : 8000 < k) :
    laws_FnOrdersTurnOfAll.j0 k (enc A) (enc B) x2 x3 x4 x5 x6 x7 x8 x9 false = some true := by
  obtain ⟨k, rfl⟩ := fuel0 (show 0 < k by omega)
  have v1 := runs_val A B hA h1 hB k (by omega)
  have v2 := few_val A B hA h1 hB k (by omega)
  have v3 := firsts_val A B hA h1 hB k (by omega)
  have v4 := least_val A B hA h1 hB k (by omega)
  have z1 := runs_len (enc A) (enc B) B.length
  have z2 := firsts_len (enc A) (enc B) B.length
  have t1 := mrows_ok (runsUp (enc A) (enc B) B.length) (by omega) (fun x hx => by have := runs_two (enc A) (enc B) B.length x hx; omega) k (by omega)
  have t2 := msame_ok (firstsUp (enc A) (enc B) B.length) (by omega) k (by omega)
  simp only [laws_FnOrdersTurnOfAll.j0]
  rw [if_neg F, v1.1, Option.bind_some, v1.2, Option.bind_some, v2.1, Option.bind_some, v2.2, Option.bind_some, v3.1, Option.bind_some, v3.2, Option.bind_some, v4.1, Option.bind_some, v4.2, Option.bind_some]
  dsimp only
  rw [nn true, if_neg F, t1, Option.bind_some, if_pos rfl, if_neg F, if_pos rfl, if_neg F, t2, Option.bind_some, if_pos rfl, if_neg F, if_pos rfl, if_neg F, if_neg F]
  obtain ⟨k, rfl⟩ := fuel0 (show 0 < k by omega)
  obtain ⟨P, e, hl, hp, hf⟩ := runs_lead A B hA hB
  obtain ⟨Q, e', hl', hp', hs', hf'⟩ := firsts_lead A B hA hB
  have hh := starts_half (dif A B) B.length
  have hm := starts_ends (dif A B) B.length h1
  have g1 : (runsUp (enc A) (enc B) B.length).length = starts (dif A B) B.length := by rw [e, List.length_map, hl]
  have g2 : (firstsUp (enc A) (enc B) B.length).length = ends (dif A B) B.length B.length := by rw [e', List.length_map, hl']
  have hQ : Q.length = ends (dif A B) B.length B.length := hl'
  have t3 : laws_mRises.f k (firstsUp (enc A) (enc B) B.length) = some true := by
    unfold laws_mRises.f
    rw [e']
    exact rises_loop Q hs' (by omega) Q.length k 1 (by omega) (by omega) (by omega)
  have w : wrap64 (2 * ((starts (dif A B) B.length : Nat) : Int)) = 2 * ((starts (dif A B) B.length : Nat) : Int) := by unfold wrap64; omega
  have hmost := most_at A.length (by omega) (by omega)
  simp only [laws_FnOrdersTurnOfAll.j1]
  rw [if_neg F]
  (first | rw [if_pos rfl] | rw [if_pos trivial])
  rw [play_val A B hA h1 hB k (by omega), Option.bind_some, enc_size, hmost, Option.bind_some]
  dsimp only
  (first | rw [if_pos rfl] | rw [if_pos trivial])
  (first | rw [if_pos rfl] | rw [if_pos trivial])
  (first | rw [if_pos rfl] | rw [if_pos trivial])
  (first | rw [if_pos rfl] | rw [if_pos trivial])
  rw [if_neg (by omega)]
  (first | rw [if_pos rfl] | rw [if_pos trivial])
  rw [t3, Option.bind_some]
  (first | rw [if_pos rfl] | rw [if_pos trivial])
  rw [if_neg (by omega), decide_eq_false (by rw [g1, g2, w]; omega)]
  obtain ⟨k, rfl⟩ := fuel0 (show 0 < k by omega)
  simp only [laws_FnOrdersTurnOfAll.j2]
  rw [if_neg F]
  have := l0_ok A B hA h1 hB x2 x3 x4 x5 x6 x7 x8 x9 s2 s5 s7 (firstsUp (enc A) (enc B) B.length) Q k 0 A (by rw [List.drop_zero]; exact e') (by omega) hp' hf' hA (by omega)
  exact this
end
theorem bad_ok (a0 a1 x2 : ByteArray) (x3 x4 : Int) (x5 : ByteArray) (x6 : Int) (x7 : ByteArray) (x8 : List (List Int)) (x9 : Int) (h : ¬ twoB a0 a1 = true) (s0 : a0.size ≤ 1048576) (s1 : a1.size ≤ 1048576) (s2 : x2.size ≤ 1048576) (s5 : x5.size ≤ 1048576) (s7 : x7.size ≤ 1048576) (k : Nat) (hk : 8000 < k) :
    laws_FnOrdersTurnOfAll.j0 k a0 a1 x2 x3 x4 x5 x6 x7 x8 x9 false = some true := by
  obtain ⟨k, rfl⟩ := fuel0 (show 0 < k by omega)
  have v1 : impl_RunsTo.f k a0 a1 = some ([], false) := by
    unfold impl_RunsTo.f
    rw [areo_ok a0 a1 (by omega) (by omega), Option.bind_some, if_neg h]
  have v2 : spec_RunsTo.f k a0 a1 = some ([], false) := by
    unfold spec_RunsTo.f
    rw [two_ok a0 a1 k (by omega), Option.bind_some, if_neg h]
  have v3 : impl_FewestRuns.f k a0 a1 = some (0, false) := by
    unfold impl_FewestRuns.f
    rw [v1]
    rfl
  have v4 : spec_FewestRuns.f k a0 a1 = some (0, false) := by
    unfold spec_FewestRuns.f
    rw [two_ok a0 a1 k (by omega), Option.bind_some, if_neg h]
  have v5 : impl_FirstsTo.f k a0 a1 = some ([], false) := by
    unfold impl_FirstsTo.f
    rw [areo_ok a0 a1 (by omega) (by omega), Option.bind_some, if_neg h]
  have v6 : spec_FirstsTo.f k a0 a1 = some ([], false) := by
    unfold spec_FirstsTo.f
    rw [two_ok a0 a1 k (by omega), Option.bind_some, if_neg h]
  have v7 : impl_FewestFirst.f k a0 a1 = some (0, false) := by
    unfold impl_FewestFirst.f
    rw [v5]
    rfl
  have v8 : spec_FewestFirst.f k a0 a1 = some (0, false) := by
    unfold spec_FewestFirst.f
    rw [two_ok a0 a1 k (by omega), Option.bind_some, if_neg h]
  have t1 := mrows_ok [] (by simp) (by simp) k (by simp; omega)
  have t2 := msame_ok [] (by simp) k (by simp; omega)
  simp only [laws_FnOrdersTurnOfAll.j0]
  rw [if_neg F, v1, Option.bind_some, v2, Option.bind_some, v3, Option.bind_some, v4, Option.bind_some, v5, Option.bind_some, v6, Option.bind_some, v7, Option.bind_some, v8, Option.bind_some]
  dsimp only
  rw [nn false, if_neg F, t1, Option.bind_some, if_pos rfl, if_neg F, if_pos rfl, if_neg F, t2, Option.bind_some, if_pos rfl, if_neg F, if_pos rfl, if_neg F, if_neg F]
  obtain ⟨k, rfl⟩ := fuel0 (show 0 < k by omega)
  simp only [laws_FnOrdersTurnOfAll.j1]
  rw [if_neg F, if_neg F]
  exact j4_ok _ _ _ _ _ _ _ _ s2 s5 s7 k (by omega)
end LFnOrdersTurnOfAll
open LFnOrdersTurnOfAll
theorem turn_all (a0 a1 a2 : ByteArray) (a3 a4 : Int) (a5 : ByteArray) (a6 : Int) (a7 : ByteArray) (l8 : List (List Int)) (a9 : Int) : laws_FnOrdersTurnOfAll.f 10000 a0 a1 a2 a3 a4 a5 a6 a7 l8 a9 = some true := by
  unfold laws_FnOrdersTurnOfAll.f
  have J : laws_FnOrdersTurnOfAll.j0 10000 a0 a1 a2 a3 a4 a5 a6 a7 l8 a9 true = some true := by
    obtain ⟨k, hk⟩ : ∃ k : Nat, 10000 = k + 1 := ⟨9999, rfl⟩
    rw [hk]
    simp only [laws_FnOrdersTurnOfAll.j0]
    rw [if_pos trivial]
  by_cases g0 : (a0.size : Int) > 1048576
  · rw [if_pos g0]; exact J
  rw [if_neg g0]
  by_cases g1 : (a1.size : Int) > 1048576
  · rw [if_pos g1]; exact J
  rw [if_neg g1]
  by_cases g2 : (a2.size : Int) > 1048576
  · rw [if_pos g2]; exact J
  rw [if_neg g2]
  by_cases g5 : (a5.size : Int) > 1048576
  · rw [if_pos g5]; exact J
  rw [if_neg g5]
  by_cases g7 : (a7.size : Int) > 1048576
  · rw [if_pos g7]; exact J
  rw [if_neg g7]
  cases c : decide ((l8.length : Int) > 10000) with
  | true => exact J
  | false =>
    by_cases h : twoB a0 a1 = true
    · obtain ⟨A, B, rfl, rfl, hA, h1, hB⟩ := two_rows a0 a1 h
      exact good_ok A B hA h1 hB _ _ _ _ _ _ _ _ (by omega) (by omega) (by omega) 10000 (by omega)
    · exact bad_ok _ _ _ _ _ _ _ _ _ _ h (by omega) (by omega) (by omega) (by omega) (by omega) 10000 (by omega)
theorem FnOrdersTurnOfAll {P0 P1 P2 P3 P4 P5 P6 P7 P8 Q8 R8 P9 : Prop} (a0 a1 a2 : ByteArray) (a3 a4 : Int) (a5 : ByteArray) (a6 : Int) (a7 : ByteArray) (l8 : List (List Int)) (a9 : Int) (w0 : P0) (w1 : P1) (w2 : P2) (w3 : P3) (w4 : P4) (w5 : P5) (w6 : P6) (w7 : P7) (m8 : P8) (y8 : Q8) (ok8 : R8) (w9 : P9) : ∃ k, true = true ∧ laws_FnOrdersTurnOfAll.f k a0 a1 a2 a3 a4 a5 a6 a7 l8 a9 = some true :=
  ⟨10000, rfl, turn_all a0 a1 a2 a3 a4 a5 a6 a7 l8 a9⟩
end Go.Proofs.YtkipdkkiojbbeaaDoor.Pure
