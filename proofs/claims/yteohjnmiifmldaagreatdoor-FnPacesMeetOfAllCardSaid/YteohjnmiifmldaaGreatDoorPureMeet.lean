/- Paces meet if each two of them do: remainders, plain. No condition. -/
namespace Go.Proofs.YteohjnmiifmldaaGreatDoor.Meet
set_option linter.unusedVariables false
theorem bez : ∀ m n : Nat, ∃ x y : Int, x * m + y * n = (Nat.gcd m n : Int) := by
  intro m n
  induction m, n using Nat.gcd.induction with
  | H0 n => exact ⟨0, 1, by simp⟩
  | H1 m n hm ih =>
    obtain ⟨x, y, h⟩ := ih
    rw [← Nat.gcd_rec] at h
    refine ⟨y - x * ((n / m : Nat) : Int), x, ?_⟩
    have e : ((n % m : Nat) : Int) = (n : Int) - (m : Int) * ((n / m : Nat) : Int) := by
      have := Nat.div_add_mod n m
      have e2 : (n : Int) = ((m * (n / m) + n % m : Nat) : Int) := by rw [this]
      rw [Int.natCast_add, Int.natCast_mul] at e2
      omega
    rw [← h, e]
    rw [Int.sub_mul, Int.mul_sub, Int.mul_assoc x, Int.mul_comm (m : Int)]
    omega
theorem gcd_lcm_dvd (a b c : Nat) (ha : 0 < a) (hb : 0 < b) (hc : 0 < c) : Nat.gcd (Nat.lcm a b) c ∣ Nat.lcm (Nat.gcd a c) (Nat.gcd b c) := by
  obtain ⟨d, hd⟩ : ∃ d, d = Nat.gcd (Nat.lcm a b) c := ⟨_, rfl⟩
  have hdc : d ∣ c := hd ▸ Nat.gcd_dvd_right _ _
  have hdl : d ∣ Nat.lcm a b := hd ▸ Nat.gcd_dvd_left _ _
  have hd0 : 0 < d := Nat.pos_of_dvd_of_pos hdc hc
  rw [← hd]
  have hx : Nat.gcd a d ∣ Nat.gcd a c := Nat.dvd_gcd (Nat.gcd_dvd_left _ _) (Nat.dvd_trans (Nat.gcd_dvd_right _ _) hdc)
  have hy : Nat.gcd b d ∣ Nat.gcd b c := Nat.dvd_gcd (Nat.gcd_dvd_left _ _) (Nat.dvd_trans (Nat.gcd_dvd_right _ _) hdc)
  refine Nat.dvd_trans ?_ (Nat.lcm_dvd (Nat.dvd_trans hx (Nat.dvd_lcm_left _ _)) (Nat.dvd_trans hy (Nat.dvd_lcm_right _ _)))
  obtain ⟨x, hxe⟩ : ∃ x, x = Nat.gcd a d := ⟨_, rfl⟩
  obtain ⟨y, hye⟩ : ∃ y, y = Nat.gcd b d := ⟨_, rfl⟩
  rw [← hxe, ← hye]
  have hxd : x ∣ d := hxe ▸ Nat.gcd_dvd_right _ _
  have hyd : y ∣ d := hye ▸ Nat.gcd_dvd_right _ _
  have hxa : x ∣ a := hxe ▸ Nat.gcd_dvd_left _ _
  have hyb : y ∣ b := hye ▸ Nat.gcd_dvd_left _ _
  have hx0 : 0 < x := Nat.pos_of_dvd_of_pos hxd hd0
  have hy0 : 0 < y := Nat.pos_of_dvd_of_pos hyd hd0
  obtain ⟨m, hm⟩ : ∃ m, m = Nat.lcm x y := ⟨_, rfl⟩
  have hmd : m ∣ d := hm ▸ Nat.lcm_dvd hxd hyd
  have hm0 : 0 < m := Nat.pos_of_dvd_of_pos hmd hd0
  have hxm : x ∣ m := hm ▸ Nat.dvd_lcm_left _ _
  have hym : y ∣ m := hm ▸ Nat.dvd_lcm_right _ _
  rw [← hm]
  obtain ⟨A, hA⟩ := hxa
  obtain ⟨B, hB⟩ := hyb
  obtain ⟨q, hq⟩ := hmd
  have cA : Nat.Coprime (d / x) A := by
    have := Nat.coprime_div_gcd_div_gcd (m := a) (n := d) (by omega)
    rw [← hxe, hA, Nat.mul_div_cancel_left _ hx0] at this
    exact this.symm
  have cB : Nat.Coprime (d / y) B := by
    have := Nat.coprime_div_gcd_div_gcd (m := b) (n := d) (by omega)
    rw [← hye, hB, Nat.mul_div_cancel_left _ hy0] at this
    exact this.symm
  have qx : q ∣ d / x := by
    obtain ⟨z, hz⟩ := hxm
    refine ⟨z, ?_⟩
    rw [hq, hz, Nat.mul_assoc, Nat.mul_div_cancel_left _ hx0, Nat.mul_comm]
  have qy : q ∣ d / y := by
    obtain ⟨z, hz⟩ := hym
    refine ⟨z, ?_⟩
    rw [hq, hz, Nat.mul_assoc, Nat.mul_div_cancel_left _ hy0, Nat.mul_comm]
  have cqA : Nat.Coprime q A := Nat.Coprime.coprime_dvd_left qx cA
  have cqB : Nat.Coprime q B := Nat.Coprime.coprime_dvd_left qy cB
  have hdm : d ∣ m * (A * B) := by
    refine Nat.dvd_trans hdl (Nat.lcm_dvd ?_ ?_)
    · rw [hA]
      exact Nat.mul_dvd_mul hxm (Nat.dvd_mul_right _ _)
    · rw [hB]
      exact Nat.mul_dvd_mul hym (Nat.dvd_mul_left _ _)
  rw [hq] at hdm
  have hqAB : q ∣ A * B := Nat.dvd_of_mul_dvd_mul_left hm0 hdm
  have hqB : q ∣ B := cqA.dvd_of_dvd_mul_left hqAB
  have : q = 1 := by
    have := Nat.dvd_gcd (Nat.dvd_refl q) hqB
    rw [cqB] at this
    exact Nat.dvd_one.1 this
  rw [hq, this, Nat.mul_one]
  exact Nat.dvd_refl m
/-- Some multiple of s brings n to l modulo c, where the greatest common divisor of s and c divides the difference. -/
theorem reach (n s c l : Nat) (hs : 0 < s) (hc : 0 < c) (hl : l < c) (h : ((Nat.gcd s c : Nat) : Int) ∣ (l : Int) - (n : Int)) : ∃ k, (n + k * s) % c = l := by
  obtain ⟨x, y, hb⟩ := bez s c
  obtain ⟨z, hz⟩ := h
  -- k ≡ x z modulo c
  refine ⟨((x * z) % (c : Int)).toNat, ?_⟩
  have hk0 : 0 ≤ (x * z) % (c : Int) := Int.emod_nonneg _ (by omega)
  obtain ⟨K, hK⟩ : ∃ K : Nat, (x * z) % (c : Int) = (K : Int) := ⟨_, (Int.toNat_of_nonneg hk0).symm⟩
  rw [hK, Int.toNat_natCast]
  have hKe : (K : Int) = x * z - (c : Int) * ((x * z) / (c : Int)) := by rw [← hK, Int.emod_def]
  have e : ((n + K * s : Nat) : Int) = (l : Int) + (c : Int) * (-(y * z) - ((x * z) / (c : Int)) * s) := by
    rw [Int.natCast_add, Int.natCast_mul, hKe]
    have h1 : (l : Int) = (n : Int) + (x * (s : Int) + y * (c : Int)) * z := by rw [hb, ← hz]; omega
    rw [h1, Int.sub_mul, Int.mul_sub, Int.add_mul, Int.mul_neg]
    have a1 : x * z * (s : Int) = x * (s : Int) * z := by rw [Int.mul_assoc, Int.mul_comm z, ← Int.mul_assoc]
    have a2 : (c : Int) * (x * z / (c : Int)) * (s : Int) = (c : Int) * (x * z / (c : Int) * (s : Int)) := Int.mul_assoc _ _ _
    have a3 : (c : Int) * (y * z) = y * (c : Int) * z := by rw [← Int.mul_assoc, Int.mul_comm (c : Int) y]
    rw [a1, a2, a3]
    omega
  have e2 : ((n + K * s : Nat) : Int) % (c : Int) = (l : Int) := by
    rw [e, Int.add_mul_emod_self_left]
    exact Int.emod_eq_of_lt (by omega) (by omega)
  have : (((n + K * s) % c : Nat) : Int) = (l : Int) := by rw [Int.natCast_emod]; exact e2
  omega
/-- The first of n, n + s, n + 2 s, .., so many of them, that leaves l over by c. -/
def lstF (s c l : Nat) : Nat → Nat → Option Nat
  | 0, _ => none
  | j + 1, n => if n % c = l then some n else lstF s c l j (n + s)
theorem lst_some (s c l : Nat) : ∀ j n v, lstF s c l j n = some v → ∃ k < j, v = n + k * s ∧ v % c = l ∧ ∀ i < k, (n + i * s) % c ≠ l
  | 0, n, v, h => by simp [lstF] at h
  | j + 1, n, v, h => by
    unfold lstF at h
    split at h
    · rename_i e
      obtain rfl := Option.some.inj h
      exact ⟨0, by omega, by simp, e, by omega⟩
    · rename_i e
      obtain ⟨k, hk, h1, h2, h3⟩ := lst_some s c l j (n + s) v h
      refine ⟨k + 1, by omega, by rw [h1, Nat.succ_mul]; omega, h2, fun i hi => ?_⟩
      cases i with
      | zero => simpa using e
      | succ i =>
        have := h3 i (by omega)
        rw [Nat.succ_mul]
        rwa [show n + (i * s + s) = n + s + i * s by omega]
theorem lst_none (s c l : Nat) : ∀ j n, lstF s c l j n = none → ∀ k < j, (n + k * s) % c ≠ l
  | 0, n, h, k, hk => by omega
  | j + 1, n, h, k, hk => by
    unfold lstF at h
    split at h
    · cases h
    · rename_i e
      cases k with
      | zero => simpa using e
      | succ k =>
        have := lst_none s c l j (n + s) h k (by omega)
        rw [Nat.succ_mul]
        rwa [show n + (k * s + s) = n + s + k * s by omega]
theorem lst_more (s c l : Nat) : ∀ j n v, lstF s c l j n = some v → lstF s c l (j + 1) n = some v
  | 0, n, v, h => by simp [lstF] at h
  | j + 1, n, v, h => by
    unfold lstF at h ⊢
    split at h
    · rename_i e; rw [if_pos e]; exact h
    · rename_i e; rw [if_neg e]; exact lst_more s c l j (n + s) v h
theorem cyc (n s c k : Nat) : (n + (k % c) * s) % c = (n + k * s) % c := by
  rw [Nat.add_mod, Nat.mod_mul_mod, ← Nat.add_mod]
theorem lst_none_all {s c l n : Nat} (hc : 0 < c) (h : lstF s c l c n = none) (k : Nat) : (n + k * s) % c ≠ l := by
  have := lst_none s c l c n h (k % c) (Nat.mod_lt _ hc)
  rwa [cyc] at this
theorem lst_at_last (s c l : Nat) : ∀ j n, lstF s c l j n = none → (n + j * s) % c ≠ l → lstF s c l (j + 1) n = none
  | 0, n, h, hn => by unfold lstF; rw [if_neg (by simpa using hn)]; rfl
  | j + 1, n, h, hn => by
    unfold lstF at h ⊢
    split at h
    · cases h
    · rename_i e
      rw [if_neg e]
      exact lst_at_last s c l j (n + s) h (by rw [Nat.succ_mul] at hn; rwa [show n + s + j * s = n + (j * s + s) by omega])
/-- One try more finds nothing new. -/
theorem lst_one_more {s c l n : Nat} (hc : 0 < c) : lstF s c l (c + 1) n = lstF s c l c n := by
  cases h : lstF s c l c n with
  | some v => exact lst_more s c l c n v h
  | none => exact lst_at_last s c l c n h (lst_none_all hc h c)
theorem lst_low {s c l n v : Nat} (hs : 0 < s) (hc : 0 < c) (hn : n < s) (h : lstF s c l c n = some v) : v < Nat.lcm s c ∧ v % s = n := by
  obtain ⟨k, hk, h1, h2, h3⟩ := lst_some s c l c n v h
  obtain ⟨g, hg⟩ : ∃ g, g = Nat.gcd s c := ⟨_, rfl⟩
  have hg0 : 0 < g := hg ▸ Nat.gcd_pos_of_pos_left c hs
  obtain ⟨S, hS⟩ : g ∣ s := hg ▸ Nat.gcd_dvd_left _ _
  obtain ⟨C, hC⟩ : g ∣ c := hg ▸ Nat.gcd_dvd_right _ _
  have hl : Nat.lcm s c = C * s := by
    rw [Nat.lcm, ← hg, hC, ← Nat.mul_assoc, Nat.mul_comm s g, Nat.mul_assoc, Nat.mul_div_cancel_left _ hg0, Nat.mul_comm]
  have hkC : k < C := by
    refine Decidable.byContradiction fun hn' => ?_
    -- C steps on one is back
    have hC0 : 0 < C := by
      rcases Nat.eq_zero_or_pos C with e | e
      · subst e; omega
      · exact e
    refine h3 (k - C) (by omega) ?_
    have e : n + k * s = n + (k - C) * s + C * s := by
      rw [Nat.add_assoc, ← Nat.add_mul, Nat.sub_add_cancel (by omega)]
    have e2 : C * s = c * S := by rw [hC, hS, ← Nat.mul_assoc, Nat.mul_comm C g]
    rw [h1, e, e2, Nat.add_mul_mod_self_left] at h2
    exact h2
  refine ⟨?_, ?_⟩
  · rw [h1, hl]
    have : (k + 1) * s ≤ C * s := Nat.mul_le_mul_right s hkC
    rw [Nat.succ_mul] at this
    omega
  · rw [h1, Nat.add_mul_mod_self_right, Nat.mod_eq_of_lt hn]
def leastL : List (Nat × Nat) → Nat → Nat → Option (Nat × Nat)
  | [], n, s => some (n, s)
  | p :: ps, n, s => match lstF s p.1 p.2 p.1 n with
    | none => none
    | some v => leastL ps v (Nat.lcm s p.1)
def GP (ps : List (Nat × Nat)) : Prop := ∀ p ∈ ps, 1 ≤ p.1 ∧ p.2 < p.1
def lcms (ps : List (Nat × Nat)) (s : Nat) : Nat := ps.foldl (fun q p => Nat.lcm q p.1) s
def meets (ps : List (Nat × Nat)) (t : Nat) : Prop := ∀ p ∈ ps, t % p.1 = p.2
theorem mod_of_dvd {t n s c : Nat} (h : s ∣ c) (e : t % c = n) : t % s = n % s := by rw [← e, Nat.mod_mod_of_dvd t h]
theorem lcms_dvd : ∀ (ps : List (Nat × Nat)) (s : Nat), s ∣ lcms ps s
  | [], s => Nat.dvd_refl s
  | p :: ps, s => Nat.dvd_trans (Nat.dvd_lcm_left _ _) (lcms_dvd ps (Nat.lcm s p.1))
theorem lcms_each : ∀ (ps : List (Nat × Nat)) (s : Nat), ∀ p ∈ ps, p.1 ∣ lcms ps s
  | p :: ps, s, q, h => by
    rcases List.mem_cons.1 h with rfl | h
    · exact Nat.dvd_trans (Nat.dvd_lcm_right _ _) (lcms_dvd ps _)
    · exact lcms_each ps _ q h
theorem lcms_pos : ∀ (ps : List (Nat × Nat)) (s : Nat), GP ps → 0 < s → 0 < lcms ps s
  | [], s, _, hs => hs
  | p :: ps, s, hp, hs => lcms_pos ps _ (fun q hq => hp q (List.mem_cons_of_mem _ hq)) (Nat.lcm_pos hs (hp p List.mem_cons_self).1)
theorem least_some : ∀ (ps : List (Nat × Nat)) (n s v w : Nat), GP ps → 0 < s → n < s → leastL ps n s = some (v, w) → w = lcms ps s ∧ v < w ∧ v % s = n ∧ meets ps v
  | [], n, s, v, w, hp, hs, hn, h => by
    simp only [leastL, Option.some.injEq, Prod.mk.injEq] at h
    obtain ⟨rfl, rfl⟩ := h
    exact ⟨rfl, hn, Nat.mod_eq_of_lt hn, fun p hp => by simp at hp⟩
  | p :: ps, n, s, v, w, hp, hs, hn, h => by
    unfold leastL at h
    have h0 := hp p List.mem_cons_self
    split at h
    · cases h
    · rename_i x hx
      obtain ⟨l1, l2⟩ := lst_low hs h0.1 hn hx
      obtain ⟨_, _, _, l3, _⟩ := lst_some _ _ _ _ _ _ hx
      obtain ⟨e1, e2, e3, e4⟩ := least_some ps x (Nat.lcm s p.1) v w (fun q hq => hp q (List.mem_cons_of_mem _ hq)) (Nat.lcm_pos hs h0.1) l1 h
      refine ⟨e1, e2, ?_, fun q hq => ?_⟩
      · rw [mod_of_dvd (Nat.dvd_lcm_left s p.1) e3, l2]
      · rcases List.mem_cons.1 hq with rfl | hq
        · rw [mod_of_dvd (Nat.dvd_lcm_right s q.1) e3, l3]
        · exact e4 q hq
theorem gcd_lcms (c : Nat) (hc : 0 < c) (d : Nat) : ∀ (ps : List (Nat × Nat)) (s : Nat), GP ps → 0 < s → Nat.gcd s c ∣ d → (∀ p ∈ ps, Nat.gcd p.1 c ∣ d) → Nat.gcd (lcms ps s) c ∣ d
  | [], s, _, _, h, _ => h
  | p :: ps, s, hp, hs, h, hh => by
    have h0 := hp p List.mem_cons_self
    refine gcd_lcms c hc d ps (Nat.lcm s p.1) (fun q hq => hp q (List.mem_cons_of_mem _ hq)) (Nat.lcm_pos hs h0.1) ?_ (fun q hq => hh q (List.mem_cons_of_mem _ hq))
    exact Nat.dvd_trans (gcd_lcm_dvd s p.1 c hs h0.1 hc) (Nat.lcm_dvd h (hh p List.mem_cons_self))
/-- Two paces meet at some time. -/
def comp (p q : Nat × Nat) : Prop := ((Nat.gcd p.1 q.1 : Nat) : Int) ∣ (p.2 : Int) - (q.2 : Int)
theorem comp_of_meet {p q : Nat × Nat} {t : Nat} (h1 : t % p.1 = p.2) (h2 : t % q.1 = q.2) : comp p q := by
  unfold comp
  have e1 : (p.1 : Int) ∣ (t : Int) - (p.2 : Int) := ⟨((t / p.1 : Nat) : Int), by have := Nat.div_add_mod t p.1; rw [h1] at this; have e : (t : Int) = ((p.1 * (t / p.1) + p.2 : Nat) : Int) := by rw [this]
                                                                                  rw [Int.natCast_add, Int.natCast_mul] at e; omega⟩
  have e2 : (q.1 : Int) ∣ (t : Int) - (q.2 : Int) := ⟨((t / q.1 : Nat) : Int), by have := Nat.div_add_mod t q.1; rw [h2] at this; have e : (t : Int) = ((q.1 * (t / q.1) + q.2 : Nat) : Int) := by rw [this]
                                                                                  rw [Int.natCast_add, Int.natCast_mul] at e; omega⟩
  have g1 : ((Nat.gcd p.1 q.1 : Nat) : Int) ∣ (t : Int) - (p.2 : Int) := Int.dvd_trans (Int.natCast_dvd_natCast.2 (Nat.gcd_dvd_left _ _)) e1
  have g2 : ((Nat.gcd p.1 q.1 : Nat) : Int) ∣ (t : Int) - (q.2 : Int) := Int.dvd_trans (Int.natCast_dvd_natCast.2 (Nat.gcd_dvd_right _ _)) e2
  have := Int.dvd_sub g2 g1
  rwa [show (t : Int) - (q.2 : Int) - ((t : Int) - (p.2 : Int)) = (p.2 : Int) - (q.2 : Int) by omega] at this
theorem solv (n s : Nat) (q : Nat × Nat) (hs : 0 < s) (hq : 1 ≤ q.1 ∧ q.2 < q.1) (h : ((Nat.gcd s q.1 : Nat) : Int) ∣ (q.2 : Int) - (n : Int)) : lstF s q.1 q.2 q.1 n ≠ none := by
  intro e
  obtain ⟨k, hk⟩ := reach n s q.1 q.2 hs hq.1 hq.2 h
  exact lst_none_all hq.1 e k hk
/-- Each two of them meet: all of them do. -/
theorem least_pairs : ∀ (ps Q : List (Nat × Nat)) (n : Nat), GP ps → GP Q → n < lcms Q 1 → meets Q n → (∀ p ∈ ps, ∀ q ∈ Q, comp q p) → ps.Pairwise comp → leastL ps n (lcms Q 1) ≠ none
  | [], Q, n, _, _, _, _, _, _ => by simp [leastL]
  | p :: ps, Q, n, hp, hQ, hn, hm, hc, hpw => by
    have h0 := hp p List.mem_cons_self
    have hs : 0 < lcms Q 1 := lcms_pos Q 1 hQ (by omega)
    have hpw' := List.pairwise_cons.1 hpw
    have hsolv : lstF (lcms Q 1) p.1 p.2 p.1 n ≠ none := by
      refine solv n _ p hs h0 ?_
      have hd : Nat.gcd (lcms Q 1) p.1 ∣ ((p.2 : Int) - (n : Int)).natAbs := by
        refine gcd_lcms p.1 h0.1 _ Q 1 hQ (by omega) (by rw [Nat.gcd_one_left]; exact Nat.one_dvd _) fun q hq => ?_
        have c1 := hc p List.mem_cons_self q hq
        unfold comp at c1
        have e1 : (q.1 : Int) ∣ (n : Int) - (q.2 : Int) := ⟨((n / q.1 : Nat) : Int), by have := Nat.div_add_mod n q.1; rw [hm q hq] at this; have e : (n : Int) = ((q.1 * (n / q.1) + q.2 : Nat) : Int) := by rw [this]
                                                                                        rw [Int.natCast_add, Int.natCast_mul] at e; omega⟩
        have g1 : ((Nat.gcd q.1 p.1 : Nat) : Int) ∣ (n : Int) - (q.2 : Int) := Int.dvd_trans (Int.natCast_dvd_natCast.2 (Nat.gcd_dvd_left _ _)) e1
        have := Int.dvd_add g1 c1
        rw [show (n : Int) - (q.2 : Int) + ((q.2 : Int) - (p.2 : Int)) = -((p.2 : Int) - (n : Int)) by omega] at this
        exact Int.ofNat_dvd_left.1 ((Int.dvd_neg).1 this)
      exact Int.ofNat_dvd_left.2 hd
    unfold leastL
    cases hx : lstF (lcms Q 1) p.1 p.2 p.1 n with
    | none => exact absurd hx hsolv
    | some v =>
      obtain ⟨l1, l2⟩ := lst_low hs h0.1 hn hx
      obtain ⟨_, _, _, l3, _⟩ := lst_some _ _ _ _ _ _ hx
      have e : Nat.lcm (lcms Q 1) p.1 = lcms (Q ++ [p]) 1 := by unfold lcms; rw [List.foldl_append]; rfl
      simp only
      rw [e] at l1 ⊢
      refine least_pairs ps (Q ++ [p]) v (fun q hq => hp q (List.mem_cons_of_mem _ hq)) ?_ l1 ?_ ?_ hpw'.2
      · intro q hq
        rcases List.mem_append.1 hq with hq | hq
        · exact hQ q hq
        · rw [List.mem_singleton.1 hq]; exact h0
      · intro q hq
        rcases List.mem_append.1 hq with hq | hq
        · rw [mod_of_dvd (lcms_each Q 1 q hq) l2]; exact hm q hq
        · rw [List.mem_singleton.1 hq]; exact l3
      · intro r hr q hq
        rcases List.mem_append.1 hq with hq | hq
        · exact hc r (List.mem_cons_of_mem _ hr) q hq
        · rw [List.mem_singleton.1 hq]; exact hpw'.1 r hr
theorem least_iff (ps : List (Nat × Nat)) (hp : GP ps) : leastL ps 0 1 ≠ none ↔ ps.Pairwise comp := by
  constructor
  · intro h
    cases hx : leastL ps 0 1 with
    | none => exact absurd hx h
    | some x =>
      obtain ⟨v, w⟩ := x
      obtain ⟨_, _, _, hm⟩ := least_some ps 0 1 v w hp (by omega) (by omega) hx
      refine List.Pairwise.imp_of_mem (R := fun _ _ => True) ?_ (List.pairwise_of_forall (fun _ _ => trivial))
      intro p q h1 h2 _
      exact comp_of_meet (hm p h1) (hm q h2)
  · intro h
    exact least_pairs ps [] 0 hp (by intro p hp; simp at hp) (by simp [lcms]) (by intro p hp; simp at hp) (by intro p _ q hq; simp at hq) h
end Go.Proofs.YteohjnmiifmldaaGreatDoor.Meet
