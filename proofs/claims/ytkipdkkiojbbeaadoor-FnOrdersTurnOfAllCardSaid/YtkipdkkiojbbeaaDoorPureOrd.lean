/- Plain facts of differences between two rows: parts, borders, first orders. No condition. -/
namespace Go.Proofs.YtkipdkkiojbbeaaDoor.Ord
def bit (b : Bool) : Nat := if b then 1 else 0
/-- The difference at i, none behind the end. -/
def dn (D : Nat → Bool) (N i : Nat) : Bool := decide (i < N) && D i
theorem dn_in {D : Nat → Bool} {N i : Nat} (h : i < N) : dn D N i = D i := by unfold dn; rw [decide_eq_true h, Bool.true_and]
theorem dn_out {D : Nat → Bool} {N i : Nat} (h : N ≤ i) : dn D N i = false := by unfold dn; rw [decide_eq_false (by omega), Bool.false_and]
/-- How many parts begin ahead of n. -/
def starts (D : Nat → Bool) : Nat → Nat
  | 0 => 0
  | n + 1 => starts D n + bit (D n && !(decide (0 < n) && D (n - 1)))
/-- How many borders there are behind the places ahead of n. -/
def ends (D : Nat → Bool) (N : Nat) : Nat → Nat
  | 0 => 0
  | n + 1 => ends D N n + bit (dn D N n != dn D N (n + 1))
theorem ends_starts (D : Nat → Bool) (N : Nat) : ∀ n, n < N → ends D N n + bit (dn D N 0) + bit (dn D N n) = 2 * starts D (n + 1)
  | 0, h => by
    simp only [ends, starts, dn_in h, Nat.zero_add]
    cases D 0 <;> decide
  | n + 1, h => by
    have ih := ends_starts D N n (by omega)
    rw [starts, ends]
    rw [dn_in (show n < N by omega)] at ih
    rw [dn_in (show n < N by omega), dn_in h, show n + 1 - 1 = n from rfl, decide_eq_true (show 0 < n + 1 by omega), Bool.true_and]
    revert ih
    generalize ends D N n = x
    generalize starts D (n + 1) = y
    generalize bit (dn D N 0) = z
    cases D n <;> cases D (n + 1) <;> simp [bit] <;> omega
/-- One border less where the first looks differently. -/
theorem ends_all (D : Nat → Bool) (N : Nat) (hN : 1 ≤ N) : ends D N N + bit (D 0) = 2 * starts D N := by
  obtain ⟨M, rfl⟩ : ∃ M, N = M + 1 := ⟨N - 1, by omega⟩
  have h := ends_starts D (M + 1) M (by omega)
  rw [ends]
  rw [dn_in (show 0 < M + 1 by omega), dn_in (show M < M + 1 by omega)] at h
  rw [dn_in (show M < M + 1 by omega), dn_out (Nat.le_refl _)]
  revert h
  generalize ends D (M + 1) M = x
  generalize starts D (M + 1) = y
  cases D M <;> cases D 0 <;> simp [bit] <;> omega
theorem starts_most (D : Nat → Bool) : ∀ n, 2 * starts D n ≤ n + bit (decide (0 < n) && D (n - 1))
  | 0 => by simp [starts, bit]
  | n + 1 => by
    have ih := starts_most D n
    rw [starts, show n + 1 - 1 = n from rfl, decide_eq_true (show 0 < n + 1 by omega), Bool.true_and]
    revert ih
    generalize (decide (0 < n) && D (n - 1)) = q
    generalize starts D n = y
    cases D n <;> cases q <;> simp [bit] <;> omega
theorem starts_half (D : Nat → Bool) (n : Nat) : starts D n ≤ (n + 1) / 2 := by
  have h := starts_most D n
  have : bit (decide (0 < n) && D (n - 1)) ≤ 1 := by unfold bit; split <;> omega
  omega
theorem starts_ends (D : Nat → Bool) (N : Nat) (hN : 1 ≤ N) : starts D N ≤ ends D N N ∧ ends D N N ≤ 2 * starts D N := by
  have h := ends_all D N hN
  have h1 : D 0 = true → 1 ≤ starts D N := by
    intro h0
    have : ∀ n, 1 ≤ n → 1 ≤ starts D n := by
      intro n
      induction n with
      | zero => intro h; omega
      | succ n ih =>
        intro _
        rcases Nat.eq_zero_or_pos n with rfl | hp
        · simp [starts, bit, h0]
        · have := ih hp
          rw [starts]
          omega
    exact this N hN
  cases e : D 0 with
  | true =>
    have := h1 e
    rw [e] at h
    simp only [bit, if_true] at h
    omega
  | false =>
    rw [e] at h
    simp only [bit, Bool.false_eq_true, if_false] at h
    omega
/-- Borders, the one ahead of the first too. -/
def bnd (D : Nat → Bool) (N i : Nat) : Bool := (decide (0 < i) && dn D N (i - 1)) != dn D N i
def bnds (D : Nat → Bool) (N : Nat) : Nat → Nat
  | 0 => 0
  | n + 1 => bnds D N n + bit (bnd D N n)
theorem bnds_ends (D : Nat → Bool) (N : Nat) : ∀ n, bnds D N (n + 1) = ends D N n + bit (dn D N 0)
  | 0 => by
    simp only [bnds, ends, bnd, Nat.zero_add]
    rw [decide_eq_false (show ¬ 0 < 0 by omega), Bool.false_and]
    cases dn D N 0 <;> rfl
  | n + 1 => by
    rw [bnds, bnds_ends D N n, ends, bnd, show n + 1 - 1 = n from rfl, decide_eq_true (show 0 < n + 1 by omega), Bool.true_and]
    omega
theorem bnds_all (D : Nat → Bool) (N : Nat) (hN : 1 ≤ N) : bnds D N (N + 1) = 2 * starts D N := by
  rw [bnds_ends, dn_in (show 0 < N by omega)]
  exact ends_all D N hN
theorem bnds_near (D E : Nat → Bool) (N u v : Nat) (h : ∀ i, i ≠ u → i ≠ v → bnd D N i = bnd E N i) : ∀ n, bnds D N n ≤ bnds E N n + bit (decide (u < n)) + bit (decide (v < n))
  | 0 => by simp [bnds]
  | n + 1 => by
    have ih := bnds_near D E N u v h n
    have hm : bit (decide (u < n)) ≤ bit (decide (u < n + 1)) := by unfold bit; split <;> split <;> simp_all <;> omega
    have hm2 : bit (decide (v < n)) ≤ bit (decide (v < n + 1)) := by unfold bit; split <;> split <;> simp_all <;> omega
    rw [bnds, bnds]
    have hb : ∀ b, bit b ≤ 1 := fun b => by unfold bit; split <;> omega
    by_cases hu : n = u
    · subst hu
      rw [decide_eq_false (show ¬ n < n by omega)] at ih
      rw [decide_eq_true (show n < n + 1 by omega)]
      have := hb (bnd D N n)
      simp only [bit, if_true, Bool.false_eq_true, if_false] at *
      omega
    · by_cases hv : n = v
      · subst hv
        rw [decide_eq_false (show ¬ n < n by omega)] at ih
        rw [decide_eq_true (show n < n + 1 by omega)]
        have := hb (bnd D N n)
        simp only [bit, if_true, Bool.false_eq_true, if_false] at *
        omega
      · rw [h n hu hv]
        omega
/-- One run more or less where a run is turned: the first h + 1. -/
theorem starts_near (D E : Nat → Bool) (N h : Nat) (hN : 1 ≤ N) (hh : h < N) (hE : ∀ i, i < N → E i = (D i != decide (i ≤ h))) : starts E N ≤ starts D N + 1 ∧ starts D N ≤ starts E N + 1 := by
  have key : ∀ i, i ≠ 0 → i ≠ h + 1 → bnd D N i = bnd E N i := by
    intro i h0 h1
    unfold bnd
    rw [decide_eq_true (show 0 < i by omega), Bool.true_and, Bool.true_and]
    by_cases hi : i < N
    · rw [dn_in hi, dn_in hi, dn_in (show i - 1 < N by omega), dn_in (show i - 1 < N by omega), hE i hi, hE (i - 1) (by omega)]
      by_cases q : i ≤ h
      · rw [decide_eq_true q, decide_eq_true (show i - 1 ≤ h by omega)]
        cases D i <;> cases D (i - 1) <;> rfl
      · rw [decide_eq_false q, decide_eq_false (show ¬ i - 1 ≤ h by omega)]
        cases D i <;> cases D (i - 1) <;> rfl
    · rw [dn_out (show N ≤ i by omega), dn_out (show N ≤ i by omega)]
      by_cases hj : i - 1 < N
      · rw [dn_in hj, dn_in hj, hE (i - 1) hj]
        by_cases q : i - 1 ≤ h
        · omega
        · rw [decide_eq_false q]
          cases D (i - 1) <;> rfl
      · rw [dn_out (show N ≤ i - 1 by omega), dn_out (show N ≤ i - 1 by omega)]
  have a := bnds_near D E N 0 (h + 1) key (N + 1)
  have b := bnds_near E D N 0 (h + 1) (fun i x y => (key i x y).symm) (N + 1)
  rw [bnds_all D N hN, bnds_all E N hN] at a b
  have hb : ∀ b, bit b ≤ 1 := fun b => by unfold bit; split <;> omega
  have h1 := hb (decide (0 < N + 1))
  have h2 := hb (decide (h + 1 < N + 1))
  omega
end Go.Proofs.YtkipdkkiojbbeaaDoor.Ord
