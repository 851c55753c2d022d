/- The law FnExactWaitsFor is true at every two numbers: both lists are the greatest distance less each soldier's; what is handed back is new each time; no condition. -/
import Derived.Test.YtapaajmpeieijaaPureCommon
namespace Go.Proofs.Ytapaajmpeieijaa.Pure
open Go.RowKit Go.Proofs.Ytapaajmpeieijaa.A Go.Proofs.YtapaajmpeieijaaW.PrintWords Go.Proofs.YtapaajmpeieijaaW.PrintLast Go.Proofs.YtapaajmpeieijaaW.PrintMore
set_option linter.unusedVariables false
set_option linter.unusedSimpArgs false
namespace LFnExactWaitsFor

theorem tail (a0 a1 : Int) (l : List Int) (b : Bool) (K : Nat) (hs : ∀ k, K ≤ k → spec_WaitsFor.f k a0 a1 = some (l, b)) (hi : ∀ k, K ≤ k → impl_WaitsFor.f k a0 a1 = some (l, b)) (hl : l.length < 1000000000) :
    ∃ k, laws_FnExactWaitsFor.f k a0 a1 = some true := by
  obtain ⟨ys, hm⟩ := marks l hl
  obtain ⟨k, hk, hk2⟩ : ∃ k, K ≤ k ∧ l.length < k := ⟨max K (l.length + 1), by omega, by omega⟩
  refine ⟨k + 2, ?_⟩
  have m1 := hm (k + 1) (by omega)
  have m0 := hm k (by omega)
  unfold laws_FnExactWaitsFor.f
  rw [hs _ (by omega), Option.bind_some, hi _ (by omega), Option.bind_some, eq_ok l hl _ (by omega), Option.bind_some]
  simp only [if_true, bne_self_eq_false]
  simp only [laws_FnExactWaitsFor.j0]
  rw [if_neg (by simp), m1.1, Option.bind_some, m1.2, Option.bind_some, if_neg (by omega), if_pos rfl, hi _ (by omega), Option.bind_some, eq_ok l hl _ (by omega), Option.bind_some]
  simp only [if_true, bne_self_eq_false]
  simp only [laws_FnExactWaitsFor.j1]
  rw [if_neg (by simp), m0.2, Option.bind_some, if_neg (by omega), if_pos rfl]

theorem most_eq (a b : Int) : spec_l1Most.f a b = some (max a b) := by
  unfold spec_l1Most.f
  by_cases h : a > b
  · rw [if_pos h]; congr 1; omega
  · rw [if_neg h]; congr 1; omega
theorem least_eq (a b : Int) : spec_l1Least.f a b = some (min a b) := by
  unfold spec_l1Least.f
  by_cases h : a < b
  · rw [if_pos h]; congr 1; omega
  · rw [if_neg h]; congr 1; omega
/-- how far two are apart -/
def dist (i a : Int) : Int := max (i - a) (a - i)
theorem abs_eq (i a : Int) (hi : 0 ≤ i ∧ i ≤ 100) (ha : 0 ≤ a ∧ a ≤ 100) : spec_l1Abs.f (wrap64 (i - a)) = some (dist i a) := by
  unfold spec_l1Abs.f
  rw [w_in (by omega) (by omega), w_in (x := -(i - a)) (by omega) (by omega), most_eq, Option.bind_some]
  unfold dist; congr 1; omega
theorem away_eq (i a : Int) (hi : 0 ≤ i ∧ i ≤ 100) (ha : 0 ≤ a ∧ a ≤ 100) : impl_away.f i a = some (dist i a) := by
  unfold impl_away.f
  rw [w_in (by omega) (by omega), w_in (by omega) (by omega)]
  unfold dist mx; congr 1; split <;> omega
def dists (n : Nat) (a : Int) : List Int := (List.range n).map fun (i : Nat) => dist (i : Int) a
theorem dists_len (n : Nat) (a : Int) : (dists n a).length = n := by simp [dists]
theorem dists_succ (n : Nat) (a : Int) : dists (n + 1) a = dists n a ++ [dist n a] := by simp [dists, List.range_succ]
theorem dists_rd (n : Nat) (a i : Int) (h0 : 0 ≤ i) (h1 : i < n) : rd (dists n a) i = dist i a := by
  unfold rd dists
  rw [List.getD_eq_getElem?_getD, List.getElem?_map, List.getElem?_range (by omega)]
  simp only [Option.map_some, Option.getD_some]
  congr 1; omega
/-- the greatest of the first n -/
def far : Nat → Int → Int
  | 0, _ => 0
  | n + 1, a => max (far n a) (dist n a)
theorem far_eq (n : Nat) (a : Int) (h0 : 0 ≤ a) (h1 : a < n) : far n a = max a ((n : Int) - 1 - a) := by
  have key : ∀ m : Nat, 1 ≤ m → far m a = max a ((m : Int) - 1 - a) := by
    intro m
    induction m with
    | zero => intro h; omega
    | succ m ih =>
      intro _
      unfold far
      by_cases hm : m = 0
      · subst hm; unfold far dist; omega
      · rw [ih (by omega)]; unfold dist; omega
  exact key n (by omega)
theorem spread_inner (n a i : Int) (xs : List Int) (mo : Int) (hn : 1 ≤ n ∧ n ≤ 100) (ha : 0 ≤ a ∧ a < n) (hi : 0 ≤ i ∧ i < n) (k : Nat) (hx : xs.length ≤ 100) :
    spec_siSpread.l1 (k + 2) n [a] xs mo i n [a] 1 0 = spec_siSpread.l0 k n [a] (xs ++ [dist i a]) (max mo (dist i a)) (i + 1) := by
  simp only [spec_siSpread.l1, List.length_singleton]
  rw [if_pos (by omega), if_pos (by omega), if_pos (by omega)]
  have e : rd [a] 0 = a := rfl
  rw [e, abs_eq i a (by omega) (by omega), Option.bind_some, least_eq, Option.bind_some]
  have e1 : wrap64 (0 + 1) = 1 := by unfold wrap64; omega
  rw [e1, if_neg (by omega), if_pos (by omega), most_eq, Option.bind_some, w_in (by omega) (by omega)]
  have e2 : min n (dist i a) = dist i a := by unfold dist; omega
  rw [e2]
theorem spread_all (n : Nat) (a : Int) (hn : 1 ≤ n ∧ n ≤ 100) (ha : 0 ≤ a ∧ a < n) (d : Nat) : ∀ (k : Nat) (i : Nat), i + d = n → 3 * d < k → spec_siSpread.l0 k n [a] (dists i a) (far i a) i = some (dists n a, far n a) := by
  induction d with
  | zero =>
    intro k i h hk
    obtain ⟨k, rfl⟩ : ∃ m, k = m + 1 := ⟨k - 1, by omega⟩
    obtain rfl : i = n := by omega
    simp only [spec_siSpread.l0]
    rw [if_neg (by omega)]
  | succ d ih =>
    intro k i h hk
    obtain ⟨k, rfl⟩ : ∃ m, k = m + 3 := ⟨k - 3, by omega⟩
    simp only [spec_siSpread.l0, List.length_singleton]
    rw [if_pos (by omega)]
    have := spread_inner n a i (dists i a) (far i a) (by omega) ha (by omega) k (by rw [dists_len]; omega)
    have c : ((1 : Nat) : Int) = 1 := rfl
    rw [c, this, ← dists_succ]
    exact ih k (i + 1) (by omega) (by omega)
def waits (n m : Nat) (a : Int) : List Int := (List.range m).map fun (i : Nat) => far n a - dist (i : Int) a
theorem waits_len (n m : Nat) (a : Int) : (waits n m a).length = m := by simp [waits]
theorem waits_succ (n m : Nat) (a : Int) : waits n (m + 1) a = waits n m a ++ [far n a - dist m a] := by simp [waits, List.range_succ]
theorem spec_loop (n : Nat) (a : Int) (hn : 1 ≤ n ∧ n ≤ 100) (ha : 0 ≤ a ∧ a < n) (d : Nat) : ∀ (k i : Nat), i + d = n → d < k →
    spec_WaitsFor.l0 k (far n a) (waits n i a) (dists n a) n i = some (waits n n a, true) := by
  have hf := far_eq n a ha.1 ha.2
  induction d with
  | zero =>
    intro k i h hk
    obtain ⟨k, rfl⟩ : ∃ m, k = m + 1 := ⟨k - 1, by omega⟩
    obtain rfl : i = n := by omega
    simp only [spec_WaitsFor.l0]
    rw [if_neg (by omega)]
  | succ d ih =>
    intro k i h hk
    obtain ⟨k, rfl⟩ : ∃ m, k = m + 1 := ⟨k - 1, by omega⟩
    simp only [spec_WaitsFor.l0]
    rw [if_pos (by omega), if_pos (by omega), if_pos (by rw [dists_len]; omega), if_pos (by rw [waits_len]; omega), dists_rd n a i (by omega) (by omega), w_in (by unfold dist; omega) (by unfold dist; omega), w_in (by omega) (by omega), ← waits_succ]
    exact ih k (i + 1) (by omega) (by omega)
theorem impl_loop (n : Nat) (a : Int) (hn : 1 ≤ n ∧ n ≤ 100) (ha : 0 ≤ a ∧ a < n) (d : Nat) : ∀ (k i : Nat), i + d = n → d < k →
    impl_WaitsFor.l0 k a (waits n i a) (far n a) n i = some (waits n n a, true) := by
  have hf := far_eq n a ha.1 ha.2
  induction d with
  | zero =>
    intro k i h hk
    obtain ⟨k, rfl⟩ : ∃ m, k = m + 1 := ⟨k - 1, by omega⟩
    obtain rfl : i = n := by omega
    simp only [impl_WaitsFor.l0]
    rw [if_neg (by omega)]
  | succ d ih =>
    intro k i h hk
    obtain ⟨k, rfl⟩ : ∃ m, k = m + 1 := ⟨k - 1, by omega⟩
    simp only [impl_WaitsFor.l0]
    rw [if_pos (by omega), away_eq i a (by omega) (by omega), Option.bind_some, if_pos (by rw [waits_len]; omega), w_in (by unfold dist; omega) (by unfold dist; omega), w_in (by omega) (by omega), ← waits_succ]
    exact ih k (i + 1) (by omega) (by omega)
end LFnExactWaitsFor
open LFnExactWaitsFor
theorem FnExactWaitsFor : laws_FnExactWaitsFor.Pure := by
  intro a0 a1 w0 w1
  by_cases h : (1 ≤ a0 ∧ a0 ≤ 100) ∧ (0 ≤ a1 ∧ a1 ≤ a0 - 1)
  · obtain ⟨n, rfl⟩ := Int.eq_ofNat_of_zero_le (show 0 ≤ a0 by omega)
    have hf := far_eq n a1 (by omega) (by omega)
    refine tail n a1 (waits n n a1) true 500 ?_ ?_ (by rw [waits_len]; omega)
    · intro k hk
      obtain ⟨k, rfl⟩ : ∃ m, k = m + 1 := ⟨k - 1, by omega⟩
      unfold spec_WaitsFor.f spec_siSoldiers.f
      rw [l1_eq, Option.bind_some, Option.bind_some, if_pos (by simp; omega), w_in (by omega) (by omega), l1_eq, Option.bind_some]
      simp only [spec_WaitsFor.j0]
      rw [if_neg (by simp; omega)]
      unfold spec_siSpread.f
      have := spread_all n a1 (by omega) (by omega) n k 0 (by omega) (by omega)
      have e : spec_siSpread.l0 k (n : Int) [a1] [] 0 0 = some (dists n a1, far n a1) := this
      rw [e, Option.bind_some, dists_len]
      exact spec_loop n a1 (by omega) (by omega) n k 0 (by omega) (by omega)
    · intro k hk
      obtain ⟨k, rfl⟩ : ∃ m, k = m + 1 := ⟨k - 1, by omega⟩
      unfold impl_WaitsFor.f impl_isSignalRow.f
      rw [in_eq, Option.bind_some, Option.bind_some, if_pos (by simp; omega), w_in (by omega) (by omega), in_eq, Option.bind_some]
      simp only [impl_WaitsFor.j0]
      rw [if_neg (by simp; omega), w_in (x := (n : Int) - 1) (by omega) (by omega), w_in (x := (n : Int) - 1 - a1) (by omega) (by omega)]
      have e : mx a1 ((n : Int) - 1 - a1) = far n a1 := by rw [hf]; unfold mx; split <;> omega
      rw [e]
      exact impl_loop n a1 (by omega) (by omega) n k 0 (by omega) (by omega)
  · have wf : -9223372036854775808 ≤ a0 ∧ a0 ≤ 9223372036854775807 := by
      simpa [Lit.wf, IntKind.min, IntKind.max, IntKind.signed, IntKind.bits] using w0
    refine tail a0 a1 [] false 2 ?_ ?_ (by simp)
    · intro k hk
      obtain ⟨k, rfl⟩ : ∃ m, k = m + 1 := ⟨k - 1, by omega⟩
      unfold spec_WaitsFor.f spec_siSoldiers.f
      rw [l1_eq, Option.bind_some, Option.bind_some]
      by_cases h1 : 1 ≤ a0 ∧ a0 ≤ 100
      · rw [if_pos (by simpa using h1), w_in (by omega) (by omega), l1_eq, Option.bind_some]
        simp only [spec_WaitsFor.j0]
        rw [if_pos (by simp; omega)]
      · rw [if_neg (by simpa using h1)]
        simp only [spec_WaitsFor.j0]
        rw [if_pos trivial]
    · intro k hk
      obtain ⟨k, rfl⟩ : ∃ m, k = m + 1 := ⟨k - 1, by omega⟩
      unfold impl_WaitsFor.f impl_isSignalRow.f
      rw [in_eq, Option.bind_some, Option.bind_some]
      by_cases h1 : 1 ≤ a0 ∧ a0 ≤ 100
      · rw [if_pos (by simpa using h1), w_in (by omega) (by omega), in_eq, Option.bind_some]
        simp only [impl_WaitsFor.j0]
        rw [if_pos (by simp; omega)]
      · rw [if_neg (by simpa using h1)]
        simp only [impl_WaitsFor.j0]
        rw [if_pos trivial]

end Go.Proofs.Ytapaajmpeieijaa.Pure
