/- The law FnPacesMeetOfAll is true of all lists of paces and numbers: steps are made at even times, all step together first when it is told, counts of one period are all its times; no condition. -/
import Derived.Test.YteohjnmiifmldaaGreatDoorAx11
import Derived.Test.YteohjnmiifmldaaGreatDoorAx12
import Derived.Test.YteohjnmiifmldaaGreatDoorAx18
import Derived.Test.YteohjnmiifmldaaGreatDoorAx3
import Derived.Test.YteohjnmiifmldaaGreatDoorGivC
import Derived.Test.YteohjnmiifmldaaGreatDoorPureMeet
import Derived.Test.YteohjnmiifmldaaGreatDoorPureMeetF
import Derived.Test.YteohjnmiifmldaaGreatDoorPureNum
import Derived.Test.YteohjnmiifmldaaGreatDoorPurePParse
import Derived.Test.YteohjnmiifmldaaGreatDoorPurePaces
namespace Go.Proofs.YteohjnmiifmldaaGreatDoor.Pure
open Go.RowKit Go.Proofs.YteohjnmiifmldaaGreatDoor.A Go.Proofs.YteohjnmiifmldaaGreatDoor.Meet Go.Proofs.YteohjnmiifmldaaGreatDoorW.PrintWords Go.Proofs.YteohjnmiifmldaaGreatDoorW.PrintLast Go.Proofs.YteohjnmiifmldaaGreatDoorW.PrintMore
set_option linter.unusedVariables false
set_option linter.unusedSimpArgs false
namespace LFnPacesMeetOfAll
theorem nn (b : Bool) : (b != b) = false := by cases b <;> rfl
theorem F : ¬ (false = true) := by decide
/-! ### from the end on -/
theorem t_l3 (c : List S38) (hl : Pa c) (t : Nat) (d : Nat) : ∀ (k i : Nat), i + d = c.length → 5000 + d < k → laws_FnPacesMeetOfAll.l3 k (t : Int) (atN t (toN c) 0) c (c.length : Int) (i : Int) = some true := by
  have h6 := hl.len
  induction d with
  | zero =>
    intro k i h hk
    obtain ⟨k, rfl⟩ := fuel0 (show 0 < k by omega)
    simp only [laws_FnPacesMeetOfAll.l3]
    rw [if_neg (by omega)]
  | succ d ih =>
    intro k i h hk
    obtain ⟨k, rfl⟩ := fuel0 (show 0 < k by omega)
    have hi : i < c.length := by omega
    obtain ⟨a1, a2, a3, a4, a5⟩ := pa_at hl i hi
    have hlen : (atN t (toN c) 0).length ≤ 6 := by rw [atN_len]; have := outT_le (toN c) t; rw [toN_len] at this; omega
    have hm := atN_mem t (toN c) 0 i (by rw [toN_len]; exact hi)
    rw [toN_at c i hi, Nat.zero_add] at hm
    have e : (decide ((i : Int) ∈ atN t (toN c) 0) != (Int.tmod (t : Int) ((pN c[i]).1 : Int) == ((pN c[i]).2 : Int))) = false := by
      by_cases q : t % (pN c[i]).1 = (pN c[i]).2
      · rw [decide_eq_true (hm.2 q), beq_iff_eq.2 ((tmod_eq _ _ _ rfl rfl rfl).2 q)]
        rfl
      · rw [decide_eq_false (fun h => q (hm.1 h)), beq_eq_false_iff_ne.2 (fun h => q ((tmod_eq _ _ _ rfl rfl rfl).1 h))]
        rfl
    simp only [laws_FnPacesMeetOfAll.l3]
    rw [if_pos (by omega), if_pos (by omega), if_pos (by omega), mhas_ok _ _ (by omega) k (by omega), Option.bind_some, rt_at c i hi, a1, a2, if_neg (by omega), e, if_neg F, w_up (by omega)]
    exact ih k (i + 1) (by omega) (by omega)
theorem t_j11 (c : List S38) (a : Int) (k : Nat) (hk : 6000 < k) : laws_FnPacesMeetOfAll.j11 k c a (atR c a).1 (atR c a).2 false = some true := by
  obtain ⟨k, rfl⟩ := fuel0 (show 0 < k by omega)
  simp only [laws_FnPacesMeetOfAll.j11]
  rw [if_neg F]
  by_cases h : goodP c = true ∧ (0 ≤ a ∧ a ≤ 1000000000)
  · have e : atR c a = (atN a.toNat (toN c) 0, true) := by unfold atR; rw [if_pos h]
    have hl := pa_of c h.1
    have h6 := hl.len
    obtain ⟨t, rfl⟩ : ∃ n : Nat, a = (n : Int) := ⟨a.toNat, by omega⟩
    rw [e, Int.toNat_natCast]
    dsimp only
    rw [if_pos rfl]
    exact t_l3 c hl t c.length k 0 (by omega) (by omega)
  · have e : atR c a = ([], false) := by unfold atR; rw [if_neg h]
    rw [e]
    dsimp only
    rw [if_neg F]
theorem t_j10 (c : List S38) (a : Int) (d : List S38) (m : Int) (k : Nat) (hk : 3000000 < k) : laws_FnPacesMeetOfAll.j10 k c a d m = some true := by
  obtain ⟨k, rfl⟩ := fuel0 (show 0 < k by omega)
  have hlen : (atR c a).1.length ≤ 6 := by
    unfold atR
    by_cases h : goodP c = true ∧ (0 ≤ a ∧ a ≤ 1000000000)
    · rw [if_pos h]
      have hl := (pa_of c h.1).len
      have := outT_le (toN c) a.toNat
      rw [toN_len] at this
      show (atN a.toNat (toN c) 0).length ≤ 6
      rw [atN_len]
      omega
    · rw [if_neg h]; simp
  simp only [laws_FnPacesMeetOfAll.j10]
  rw [(v_at c a k (by omega)).1, Option.bind_some, (v_at c a k (by omega)).2, Option.bind_some, (v_count d m k (by omega)).1, Option.bind_some, (v_count d m k (by omega)).2, Option.bind_some, nn, if_neg F, msame_ok _ (by omega) k (by omega), Option.bind_some, if_pos rfl, nn, if_neg F, show ((caR d m).1 != (caR d m).1) = false from bne_self_eq_false _]
  exact t_j11 c a k (by omega)
section
variable (l : List S38) (c : List S38) (a : Int) (d : List S38) (m : Int)
/-- What is known of a short list of paces. -/
theorem at_good (hg : goodP l = true) (t : Nat) (ht : t ≤ 1000000000) : atR l (t : Int) = (atN t (toN l) 0, true) := by
  unfold atR
  rw [if_pos ⟨hg, by omega, by omega⟩, Int.toNat_natCast]
theorem t_j9 (hs : short l = true) (k : Nat) (hk : 3000010 < k) : laws_FnPacesMeetOfAll.j9 k l c a d m ((mostF (outT (toN l)) (per l)).1 : Int) ((mostF (outT (toN l)) (per l)).2 : Int) false = some true := by
  obtain ⟨k, rfl⟩ := fuel0 (show 0 < k by omega)
  obtain ⟨hg, hp⟩ := (short_iff l).1 hs
  have hl := pa_of l hg
  obtain ⟨m1, m2, m3⟩ := most_at (outT (toN l)) (per l) (most_pos l hl)
  have hJ := t_j10 c a d m k (by omega)
  simp only [laws_FnPacesMeetOfAll.j9]
  rw [if_neg F]
  by_cases h : ((mostF (outT (toN l)) (per l)).2 : Int) > 0
  · have ew : wrap64 (((mostF (outT (toN l)) (per l)).2 : Int) - 1) = (((mostF (outT (toN l)) (per l)).2 - 1 : Nat) : Int) := by rw [w_in (by omega) (by omega)]; omega
    have hlt := m3 ((mostF (outT (toN l)) (per l)).2 - 1) (by omega)
    rw [if_pos h, ew, (v_at l _ k (by omega)).1, Option.bind_some, at_good l hg _ (by omega)]
    dsimp only
    rw [if_pos rfl, atN_len, if_neg (by omega)]
    exact hJ
  · rw [if_neg h]
    exact hJ
/-- The first time is told: all step, and it is in the first period. -/
theorem first_ok (hg : goodP l = true) (ho : (ftR l).2 = true) : ∃ v : Nat, (ftR l).1 = (v : Int) ∧ v < per l ∧ meets (toN l) v := by
  have hl := pa_of l hg
  have e : ftR l = ((leR (toN l) 0 1).1, (leR (toN l) 0 1).2.2) := by unfold ftR; rw [if_pos hg]
  rw [e] at ho ⊢
  unfold leR at ho ⊢
  cases h : leastL (toN l) 0 1 with
  | none => rw [h] at ho; exact absurd ho F
  | some x =>
    obtain ⟨v, w⟩ := x
    obtain ⟨h1, h2, _, h4⟩ := least_some (toN l) 0 1 v w (pa_gp hl) (by omega) (by omega) h
    exact ⟨v, rfl, by unfold per; omega, h4⟩
theorem first_iff (hg : goodP l = true) : (ftR l).2 = true ↔ nevO (toN l) 0 = [] := by
  have hl := pa_of l hg
  rw [nevO_nil, ← least_iff (toN l) (pa_gp hl)]
  have e : ftR l = ((leR (toN l) 0 1).1, (leR (toN l) 0 1).2.2) := by unfold ftR; rw [if_pos hg]
  rw [e]
  unfold leR
  cases h : leastL (toN l) 0 1 with
  | none => simp
  | some x => simp
theorem t_l2 (hs : short l = true) (n : Nat) : ∀ (k j : Nat), j + n = l.length + 1 → 3100000 + n < k →
    laws_FnPacesMeetOfAll.l2 k l c a d m (ftR l).2 (per l : Int) ((mostF (outT (toN l)) (per l)).1 : Int) ((mostF (outT (toN l)) (per l)).2 : Int) ((silF (outT (toN l)) (2 * per l)).1 : Int) (sumC (outT (toN l)) (per l) j : Int) (sumK (outT (toN l)) (per l) j : Int) (j : Int) = some true := by
  obtain ⟨hg, hp⟩ := (short_iff l).1 hs
  have hl := pa_of l hg
  have h6 := hl.len
  have hpp := per_size hl
  have hmp := most_pos l hl
  obtain ⟨m1, m2, m3⟩ := most_at (outT (toN l)) (per l) hmp
  have hge := most_ge (outT (toN l)) (per l)
  have hole : ∀ i, outT (toN l) i ≤ l.length := fun i => by have := outT_le (toN l) i; rw [toN_len] at this; exact this
  have hml := most_le (outT (toN l)) l.length hole (per l)
  induction n with
  | zero =>
    intro k j h hk
    obtain ⟨k, rfl⟩ := fuel0 (show 0 < k by omega)
    obtain rfl : j = l.length + 1 := by omega
    obtain ⟨s1, s2⟩ := sums (outT (toN l)) (per l) (l.length + 1) (fun i => by have := hole i; omega)
    have hst := steps_from0 l hg (per l) (by omega) k (by omega)
    rw [unN_sum (toN l) (pa_gp hl), ← s2] at hst
    have hJ := t_j9 l c a d m hs k (by omega)
    -- somebody steps in each period
    have h0 : 0 < l.length := by omega
    obtain ⟨a1, a2, a3, a4, a5⟩ := pa_at hl 0 h0
    have hdv := Nat.le_of_dvd (by omega) (per_dvd l 0 h0)
    have hst0 := outT_pos (toN l) (pN l[0]).2 (pN l[0]) (List.mem_map.2 ⟨l[0], List.getElem_mem h0, rfl⟩) (Nat.mod_eq_of_lt a5)
    have hst1 := outT_per (toN l) (per l) (pN l[0]).2 (fun p hp => lcms_each (toN l) 1 p hp)
    have hsil := (sil_short (outT (toN l)) (per l) (pN l[0]).2 (by omega) hst0 (by rw [hst1]; exact hst0) (2 * per l) (Nat.le_refl _)).1
    have hall : (ftR l).2 = true → ((mostF (outT (toN l)) (per l)).1 : Int) = (l.length : Int) := by
      intro ho
      obtain ⟨v, _, h2, h3⟩ := first_ok l hg ho
      have e := outT_all (toN l) v h3
      rw [toN_len] at e
      have := hge v h2
      omega
    simp only [laws_FnPacesMeetOfAll.l2]
    rw [if_neg (by omega), hst, Option.bind_some, (v_at l _ k (by omega)).1, Option.bind_some, at_good l hg _ (by omega), s1]
    dsimp only
    rw [if_pos rfl, if_pos rfl, if_pos rfl, if_pos rfl, atN_len, if_pos (by omega), if_neg (by omega)]
    cases ho : (ftR l).2 with
    | true =>
      rw [if_pos rfl, if_pos (hall ho), if_neg (by omega), decide_eq_false (by omega)]
      exact hJ
    | false =>
      rw [if_neg F, if_neg (by omega), decide_eq_false (by omega)]
      exact hJ
  | succ n ih =>
    intro k j h hk
    obtain ⟨k, rfl⟩ := fuel0 (show 0 < k by omega)
    have hca : caR l (j : Int) = ((cntF (outT (toN l)) (j : Int) (per l) : Int), true) := by unfold caR; rw [if_pos ⟨hs, by omega, by omega⟩]
    have hcl := cntF_le (outT (toN l)) (j : Int) (per l)
    have b1 := sumC_le (outT (toN l)) (per l) j
    have b2 := sumK_le (outT (toN l)) (per l) j
    have b3 : per l * j ≤ 100000 * 6 := Nat.mul_le_mul hp (by omega)
    have b4 : per l * j * j ≤ 100000 * 6 * 6 := Nat.mul_le_mul b3 (by omega)
    have b5 : j * cntF (outT (toN l)) (j : Int) (per l) ≤ 6 * 100000 := Nat.mul_le_mul (by omega) (by omega)
    have e1 : wrap64 ((sumC (outT (toN l)) (per l) j : Int) + (cntF (outT (toN l)) (j : Int) (per l) : Int)) = (sumC (outT (toN l)) (per l) (j + 1) : Int) := by
      show _ = ((sumC (outT (toN l)) (per l) j + cntF (outT (toN l)) (j : Int) (per l) : Nat) : Int)
      rw [w_in (by omega) (by omega)]
      omega
    have e2 : wrap64 ((sumK (outT (toN l)) (per l) j : Int) + wrap64 ((j : Int) * (cntF (outT (toN l)) (j : Int) (per l) : Int))) = (sumK (outT (toN l)) (per l) (j + 1) : Int) := by
      show _ = ((sumK (outT (toN l)) (per l) j + j * cntF (outT (toN l)) (j : Int) (per l) : Nat) : Int)
      rw [← Int.natCast_mul]
      generalize j * cntF (outT (toN l)) (j : Int) (per l) = y at *
      rw [w_in (x := (y : Int)) (by omega) (by omega), w_in (by omega) (by omega)]
      omega
    have hJ := ih k (j + 1) (by omega) (by omega)
    rw [← e1, ← e2, ← w_up (show j ≤ 9223372036854775806 by omega)] at hJ
    simp only [laws_FnPacesMeetOfAll.l2]
    rw [if_pos (by omega), (v_count l _ k (by omega)).1, hca, Option.bind_some]
    dsimp only
    rw [if_pos rfl]
    by_cases q1 : (j : Int) > ((mostF (outT (toN l)) (per l)).1 : Int)
    · have hz : cntF (outT (toN l)) (j : Int) (per l) = 0 := cntF_zero _ _ _ (fun i hi => by have := hge i hi; omega)
      rw [if_pos q1, if_pos (by omega), if_neg (by omega)]
      exact hJ
    · rw [if_neg q1]
      by_cases q2 : (j : Int) = ((mostF (outT (toN l)) (per l)).1 : Int)
      · have hz : 1 ≤ cntF (outT (toN l)) (j : Int) (per l) := cntF_pos _ _ _ (mostF (outT (toN l)) (per l)).2 m1 (by rw [m2]; omega)
        rw [if_pos q2, if_neg (by omega)]
        exact hJ
      · rw [if_neg q2]
        exact hJ
def P0 : Int := if goodP l = true then (per l : Int) else 0
theorem t_j7 (k : Nat) (hk : 3200000 < k) : laws_FnPacesMeetOfAll.j7 k l c a d m (ftR l).2 (P0 l) (moR l).1 (moR l).2.1 (moR l).2.2 (siR l).1 = some true := by
  obtain ⟨k, rfl⟩ := fuel0 (show 0 < k by omega)
  simp only [laws_FnPacesMeetOfAll.j7]
  by_cases hs : short l = true
  · obtain ⟨hg, hp⟩ := (short_iff l).1 hs
    have h6 := (pa_of l hg).len
    have e1 : moR l = (((mostF (outT (toN l)) (per l)).1 : Int), ((mostF (outT (toN l)) (per l)).2 : Int), true) := by unfold moR; rw [if_pos hs]
    have e2 : siR l = (((silF (outT (toN l)) (2 * per l)).1 : Int), true) := by unfold siR; rw [if_pos hs]
    have e3 : P0 l = (per l : Int) := by unfold P0; rw [if_pos hg]
    rw [e1, e2, e3]
    dsimp only
    rw [if_pos rfl]
    exact t_l2 l c a d m hs (l.length + 1) k 0 (by omega) (by omega)
  · have e1 : moR l = (0, 0, false) := by unfold moR; rw [if_neg hs]
    rw [e1]
    dsimp only
    rw [if_neg F]
    exact t_j10 c a d m k (by omega)
theorem t_j5 (k : Nat) (hk : 3200100 < k) : laws_FnPacesMeetOfAll.j5 k l c a d m (ftR l).1 (ftR l).2 (P0 l) (moR l).1 (moR l).2.1 (moR l).2.2 (siR l).1 = some true := by
  obtain ⟨k, rfl⟩ : ∃ q, k = q + 1 + 1 := ⟨k - 2, by omega⟩
  obtain ⟨K, hK⟩ : ∃ K, K = k + 1 := ⟨_, rfl⟩
  have hJ := t_j7 l c a d m k (by omega)
  have h6 : laws_FnPacesMeetOfAll.j6 K l c a d m (ftR l).1 (ftR l).2 (P0 l) (moR l).1 (moR l).2.1 (moR l).2.2 (siR l).1 false = some true := by
    rw [hK]
    simp only [laws_FnPacesMeetOfAll.j6]
    rw [if_neg F]
    exact hJ
  rw [← hK]
  simp only [laws_FnPacesMeetOfAll.j5]
  by_cases ho : (ftR l).2 = true
  · rw [if_pos ho]
    by_cases hb : (ftR l).1 ≤ 1000000000
    · have hg : goodP l = true := by
        cases hg : goodP l with
        | true => rfl
        | false =>
          unfold ftR at ho
          rw [hg, if_neg F] at ho
          exact absurd ho F
      obtain ⟨v, h1, h2, h3⟩ := first_ok l hg ho
      have e := outT_all (toN l) v h3
      rw [toN_len] at e
      rw [decide_eq_true hb, hK]
      simp only [laws_FnPacesMeetOfAll.j6]
      rw [if_pos trivial, (v_at l _ k (by omega)).1, Option.bind_some, h1, at_good l hg v (by omega)]
      dsimp only
      rw [if_pos rfl, atN_len, e, if_pos rfl]
      exact hJ
    · rw [decide_eq_false hb]
      exact h6
  · rw [if_neg ho]
    exact h6
theorem pair_never (hg : goodP l = true) (i j : Nat) (hi : i < l.length) (hj : j < l.length) (hn : ¬ comp (pN l[i]) (pN l[j])) (k : Nat) (hk : 4000 < k) : ∃ v, impl_FirstTogether.f k [(⟨l[i].f0, l[i].f1⟩ : S38), (⟨l[j].f0, l[j].f1⟩ : S38)] = some (v, false) := by
  have hl := pa_of l hg
  have e1 := hl.each l[i] (List.getElem_mem hi)
  have e2 := hl.each l[j] (List.getElem_mem hj)
  have hg2 : goodP [(⟨l[i].f0, l[i].f1⟩ : S38), (⟨l[j].f0, l[j].f1⟩ : S38)] = true := by
    unfold goodP goodQ
    simp only [List.length_cons, List.length_nil, List.all_cons, List.all_nil, Bool.and_true]
    rw [decide_eq_true (by omega), decide_eq_true (by omega), decide_eq_true (by omega), decide_eq_true (by omega), decide_eq_true (by omega)]
    rfl
  rw [(v_first _ k (by omega)).1]
  have hi2 := first_iff _ hg2
  have hnil : ¬ (ftR [(⟨l[i].f0, l[i].f1⟩ : S38), (⟨l[j].f0, l[j].f1⟩ : S38)]).2 = true := by
    rw [hi2, nevO_nil]
    intro h
    exact hn ((List.pairwise_cons.1 h).1 _ (by simp [toN, pN]))
  refine ⟨(ftR [(⟨l[i].f0, l[i].f1⟩ : S38), (⟨l[j].f0, l[j].f1⟩ : S38)]).1, ?_⟩
  rw [← Bool.eq_false_iff.2 hnil]
theorem t_l1 (hg : goodP l = true) (n : Nat) : ∀ (k j : Nat), j + n = (nevO (toN l) 0).length → 3200200 + n < k →
    laws_FnPacesMeetOfAll.l1 k l c a d m (ftR l).1 (ftR l).2 (P0 l) (moR l).1 (moR l).2.1 (moR l).2.2 (siR l).1 (nevO (toN l) 0) (nevO (toN l) 0) ((nevO (toN l) 0).length : Int) (j : Int) = some true := by
  have hl := pa_of l hg
  have h6 := hl.len
  have hM : (nevO (toN l) 0).length ≤ 1000000 := by
    have : ∀ (ps : List (Nat × Nat)) (i : Nat), (nevO ps i).length ≤ ps.length * ps.length := by
      intro ps
      induction ps with
      | nil => intro i; simp [nevO]
      | cons p ps ih =>
        intro i
        have h1 := ih (i + 1)
        have h2 := nevI_len p i ps (i + 1)
        simp only [nevO, List.length_append, List.length_cons]
        rw [Nat.succ_mul, Nat.mul_succ]
        omega
    have h1 := this (toN l) 0
    rw [toN_len] at h1
    have : l.length * l.length ≤ 6 * 6 := Nat.mul_le_mul h6.2 h6.2
    omega
  induction n with
  | zero =>
    intro k j h hk
    obtain ⟨k, rfl⟩ := fuel0 (show 0 < k by omega)
    simp only [laws_FnPacesMeetOfAll.l1]
    rw [if_neg (by omega)]
    exact t_j5 l c a d m k (by omega)
  | succ n ih =>
    intro k j h hk
    obtain ⟨k, rfl⟩ := fuel0 (show 0 < k by omega)
    have hj : j < (nevO (toN l) 0).length := by omega
    obtain ⟨x, y, hx, hy, hxy, e, hn⟩ := nevO_all (toN l) 0 _ (List.getElem_mem hj)
    rw [toN_len] at hx hy
    rw [toN_at l x hx, toN_at l y hy] at hn
    rw [Nat.zero_add, Nat.zero_add] at e
    have r0 : ∀ u w : Int, rd [u, w] 0 = u := fun _ _ => rfl
    have r1 : ∀ u w : Int, rd [u, w] 1 = w := fun _ _ => rfl
    have r2 : ∀ u w : Int, (([u, w] : List Int).length : Int) = 2 := fun _ _ => rfl
    obtain ⟨v, hv⟩ := pair_never l hg x y hx hy hn k (by omega)
    have hJ := ih k (j + 1) (by omega) (by omega)
    have fin : (impl_FirstTogether.f k [(⟨(rd_T38 l (x : Int)).f0, (rd_T38 l (x : Int)).f1⟩ : S38), (⟨(rd_T38 l (y : Int)).f0, (rd_T38 l (y : Int)).f1⟩ : S38)]) = some (v, false) := by
      rw [rt_at l x hx, rt_at l y hy]
      exact hv
    simp only [laws_FnPacesMeetOfAll.l1]
    rw [if_pos (by omega), if_pos (by omega), if_pos (by omega), rl_at2 _ j hj, e]
    simp only [r0, r1, r2]
    rw [if_pos (by decide), if_pos (by decide), if_pos (by decide), if_neg (by omega), w_up (by omega)]
    by_cases h0 : (j : Int) > 0
    · have ew : wrap64 ((j : Int) - 1) = ((j - 1 : Nat) : Int) := by rw [w_in (by omega) (by omega)]; omega
      have hb : bef (nevO (toN l) 0)[j - 1] (nevO (toN l) 0)[j] := List.pairwise_iff_getElem.1 (nevO_bef (toN l) 0) (j - 1) j (by omega) hj (by omega)
      rw [e] at hb
      rw [if_pos h0, ew, if_pos (by omega), if_pos (by omega), rl_at2 _ (j - 1) (by omega), mbef_ok _ _ hb k (by omega), Option.bind_some, if_pos rfl, if_pos (by omega), if_pos (by omega), if_pos (by omega), if_pos (by omega), fin, Option.bind_some]
      dsimp only
      rw [if_neg F]
      exact hJ
    · rw [if_neg h0, if_pos (by omega), if_pos (by omega), if_pos (by omega), if_pos (by omega), fin, Option.bind_some]
      dsimp only
      rw [if_neg F]
      exact hJ
theorem t_l0 (hg : goodP l = true) (n : Nat) : ∀ (k i : Nat), i + n = l.length → 4200300 + n < k →
    laws_FnPacesMeetOfAll.l0 k l c a d m (ftR l).1 (ftR l).2 (P0 l) (moR l).1 (moR l).2.1 (moR l).2.2 (siR l).1 (nevO (toN l) 0) l (l.length : Int) (i : Int) = some true := by
  have hl := pa_of l hg
  have h6 := hl.len
  have e3 : P0 l = (per l : Int) := by unfold P0; rw [if_pos hg]
  induction n with
  | zero =>
    intro k i h hk
    obtain ⟨k, rfl⟩ := fuel0 (show 0 < k by omega)
    have hM : (nevO (toN l) 0).length ≤ 1000000 := by
      have : ∀ (ps : List (Nat × Nat)) (i : Nat), (nevO ps i).length ≤ ps.length * ps.length := by
        intro ps
        induction ps with
        | nil => intro i; simp [nevO]
        | cons p ps ih =>
          intro i
          have h1 := ih (i + 1)
          have h2 := nevI_len p i ps (i + 1)
          simp only [nevO, List.length_append, List.length_cons]
          rw [Nat.succ_mul, Nat.mul_succ]
          omega
      have h1 := this (toN l) 0
      rw [toN_len] at h1
      have : l.length * l.length ≤ 6 * 6 := Nat.mul_le_mul h6.2 h6.2
      omega
    simp only [laws_FnPacesMeetOfAll.l0]
    rw [if_neg (by omega)]
    exact t_l1 l c a d m hg (nevO (toN l) 0).length k 0 (by omega) (by omega)
  | succ n ih =>
    intro k i h hk
    obtain ⟨k, rfl⟩ := fuel0 (show 0 < k by omega)
    have hi : i < l.length := by omega
    obtain ⟨a1, a2, a3, a4, a5⟩ := pa_at hl i hi
    have hd := Nat.mod_eq_zero_of_dvd (per_dvd l i hi)
    have hJ := ih k (i + 1) (by omega) (by omega)
    simp only [laws_FnPacesMeetOfAll.l0]
    rw [if_pos (by omega), if_pos (by omega), if_pos (by omega), rt_at l i hi, a1, if_neg (by omega), if_pos (by rw [e3, tmod_nat, hd]; rfl), w_up (by omega)]
    exact hJ
theorem t_j1 (k : Nat) (hk : 200000000 < k) : laws_FnPacesMeetOfAll.j1 k l c a d m (ftR l).1 (ftR l).2 (P0 l) (goodP l) (moR l).1 (moR l).2.1 (moR l).2.2 (siR l).1 (neR l).1 (txR l).1 false = some true := by
  obtain ⟨k, rfl⟩ : ∃ q, k = q + 1 + 1 := ⟨k - 2, by omega⟩
  obtain ⟨K, hK⟩ : ∃ K, K = k + 1 := ⟨_, rfl⟩
  rw [← hK]
  simp only [laws_FnPacesMeetOfAll.j1]
  rw [if_neg F]
  by_cases hg : goodP l = true
  · have hl := pa_of l hg
    have h6 := hl.len
    have e1 : neR l = (nevO (toN l) 0, true) := by unfold neR; rw [if_pos hg]
    have e2 : txR l = (B (txt l), true) := by unfold txR; rw [if_pos hg]
    have e3 : P0 l = (per l : Int) := by unfold P0; rw [if_pos hg]
    have hif := first_iff l hg
    have hj2 : laws_FnPacesMeetOfAll.j2 K l c a d m (ftR l).1 (ftR l).2 (P0 l) (moR l).1 (moR l).2.1 (moR l).2.2 (siR l).1 (nevO (toN l) 0) false = some true := by
      rw [hK]
      simp only [laws_FnPacesMeetOfAll.j2]
      rw [if_neg F]
      exact t_l0 l c a d m hg l.length k 0 (by omega) (by omega)
    rw [if_pos hg, e1, e2]
    dsimp only
    rw [parse_text l hg K (by omega), Option.bind_some]
    dsimp only
    rw [if_pos rfl, mpaces_ok l (by omega) K (by omega), Option.bind_some, if_pos rfl]
    cases ho : (ftR l).2 with
    | true =>
      have hn := hif.1 ho
      obtain ⟨v, h1, h2, _⟩ := first_ok l hg ho
      rw [ho] at hj2
      rw [hn] at hj2 ⊢
      rw [show (true != ((([] : List (List Int)).length : Int) == 0)) = false from rfl, if_neg F, if_pos rfl, decide_eq_false (by rw [h1, e3]; omega)]
      exact hj2
    | false =>
      have hn : ¬ ((nevO (toN l) 0).length : Int) = 0 := by
        intro h
        have : nevO (toN l) 0 = [] := List.length_eq_zero_iff.1 (by omega)
        rw [hif.2 this] at ho
        cases ho
      rw [ho] at hj2
      rw [beq_eq_false_iff_ne.2 hn, show (false != false) = false from rfl, if_neg F, if_neg F]
      exact hj2
  · rw [if_neg hg, hK]
    exact t_j5 l c a d m (k + 1) (by omega)
theorem t_j0 (b : Bool) (k : Nat) (hk : 200000010 < k) : laws_FnPacesMeetOfAll.j0 k l c a d m b = some true := by
  obtain ⟨k, rfl⟩ := fuel0 (show 0 < k by omega)
  simp only [laws_FnPacesMeetOfAll.j0]
  cases b with
  | true => rw [if_pos rfl]
  | false =>
    have hJ := t_j1 l c a d m k (by omega)
    have hA : impl_ArePaces.f k l = some (goodP l) := by unfold impl_ArePaces.f; rw [agood_ok l k (by omega), Option.bind_some]
    have hB : spec_ArePaces.f k l = some (goodP l) := by unfold spec_ArePaces.f; rw [pgood_ok l k (by omega), Option.bind_some]
    have hne : laws_mRows.f k (neR l).1 (neR l).1 = some true := by
      by_cases hg : goodP l = true
      · have hl := pa_of l hg
        have h6 := hl.len
        have e1 : neR l = (nevO (toN l) 0, true) := by unfold neR; rw [if_pos hg]
        rw [e1]
        have hM : (nevO (toN l) 0).length ≤ 1000000 := by
          have : ∀ (ps : List (Nat × Nat)) (i : Nat), (nevO ps i).length ≤ ps.length * ps.length := by
            intro ps
            induction ps with
            | nil => intro i; simp [nevO]
            | cons p ps ih =>
              intro i
              have h1 := ih (i + 1)
              have h2 := nevI_len p i ps (i + 1)
              simp only [nevO, List.length_append, List.length_cons]
              rw [Nat.succ_mul, Nat.mul_succ]
              omega
          have h1 := this (toN l) 0
          rw [toN_len] at h1
          have : l.length * l.length ≤ 6 * 6 := Nat.mul_le_mul h6.2 h6.2
          omega
        refine mrows_ok _ hM (fun r hr => ?_) k (by omega)
        obtain ⟨_, _, _, _, _, e, _⟩ := nevO_all (toN l) 0 r hr
        rw [e]
        simp
      · have e1 : neR l = ([], false) := by unfold neR; rw [if_neg hg]
        rw [e1]
        exact mrows_ok [] (by simp) (by simp) k (by simp; omega)
    rw [if_neg F, (v_first l k (by omega)).1, Option.bind_some, (v_first l k (by omega)).2, Option.bind_some, (v_period l k (by omega)).1, Option.bind_some, (v_period l k (by omega)).2, Option.bind_some, (v_most l k (by omega)).1, Option.bind_some, (v_most l k (by omega)).2, Option.bind_some, (v_silence l k (by omega)).1, Option.bind_some, (v_silence l k (by omega)).2, Option.bind_some, (v_never l k (by omega)).1, Option.bind_some, (v_never l k (by omega)).2, Option.bind_some, (v_text l k (by omega)).1, Option.bind_some, (v_text l k (by omega)).2, Option.bind_some]
    rw [nn, if_neg F, if_pos rfl, nn, if_neg F, if_pos rfl, nn, if_neg F, if_pos rfl, if_pos rfl, nn, if_neg F, if_pos rfl, nn, if_neg F, hne, Option.bind_some, if_pos rfl, nn, if_neg F, if_pos rfl, hA, Option.bind_some]
    by_cases hg : goodP l = true
    · have e3 : P0 l = (per l : Int) := by unfold P0; rw [if_pos hg]
      have e4 : (if goodP l = true then ((per l : Int), true) else (0, false)) = ((per l : Int), true) := if_pos hg
      have e5 : (neR l).2 = true := by unfold neR; rw [if_pos hg]
      have e6 : (txR l).2 = true := by unfold txR; rw [if_pos hg]
      have e7 : (moR l).2.2 = short l := by unfold moR; cases short l <;> rfl
      have e8 : (siR l).2 = short l := by unfold siR; cases short l <;> rfl
      have e9 : short l = decide ((per l : Int) ≤ 100000) := by
        unfold short
        rw [hg, Bool.true_and]
        exact decide_eq_decide.2 (by omega)
      rw [e3, hg] at hJ
      rw [e4, hg]
      dsimp only
      rw [nn, if_neg F, Option.bind_some, hB, hg, Option.bind_some, nn, if_neg F, if_pos rfl, e7, ← e9, nn, if_neg F, e8, nn, if_neg F, e5, nn, if_neg F, e6, nn, if_neg F, ← e7]
      cases ho : (ftR l).2 with
      | true =>
        rw [ho] at hJ
        rw [if_pos rfl]
        exact hJ
      | false =>
        rw [ho] at hJ
        rw [if_neg F]
        exact hJ
    · have hgf := Bool.eq_false_iff.2 hg
      have e3 : P0 l = 0 := by unfold P0; rw [if_neg hg]
      have e4 : (if goodP l = true then ((per l : Int), true) else (0, false)) = ((0 : Int), false) := if_neg hg
      have e5 : (neR l).2 = false := by unfold neR; rw [if_neg hg]
      have e6 : (txR l).2 = false := by unfold txR; rw [if_neg hg]
      have hs : ¬ short l = true := fun h => hg ((short_iff l).1 h).1
      have e7 : (moR l).2.2 = false := by unfold moR; rw [if_neg hs]
      have e8 : (siR l).2 = false := by unfold siR; rw [if_neg hs]
      have ho : (ftR l).2 = false := by unfold ftR; rw [if_neg hg]
      rw [e3, hgf] at hJ
      rw [e4, hgf]
      dsimp only
      rw [nn, if_neg F, Option.bind_some, hB, hgf, Option.bind_some, nn, if_neg F, if_neg F, e7, nn, if_neg F, e8, nn, if_neg F, e5, nn, if_neg F, e6, nn, if_neg F, ho, if_neg F]
      rw [e7, ho] at hJ
      exact hJ
end
end LFnPacesMeetOfAll
open LFnPacesMeetOfAll
theorem FnPacesMeetOfAll (l0 l1 : List S38) (a2 : Int) (l3 : List S38) (a4 : Int) (m0 : l0.length ≤ maxLen) (y0 : l0.length * 16 ≤ 140737488351232) (ok0 : ∀ x ∈ l0, (Lit.int .i64 x.f0).wf = true ∧ (Lit.int .i64 x.f1).wf = true) (m1 : l1.length ≤ maxLen) (y1 : l1.length * 16 ≤ 140737488351232) (ok1 : ∀ x ∈ l1, (Lit.int .i64 x.f0).wf = true ∧ (Lit.int .i64 x.f1).wf = true) (w2 : (Lit.int .i64 a2).wf = true) (m3 : l3.length ≤ maxLen) (y3 : l3.length * 16 ≤ 140737488351232) (ok3 : ∀ x ∈ l3, (Lit.int .i64 x.f0).wf = true ∧ (Lit.int .i64 x.f1).wf = true) (w4 : (Lit.int .i64 a4).wf = true) : ∃ k, true = true ∧ laws_FnPacesMeetOfAll.f k l0 l1 a2 l3 a4 = some true := by
  refine ⟨300000000, rfl, ?_⟩
  have hJ := fun b => t_j0 l0 l1 a2 l3 a4 b 300000000 (by omega)
  unfold laws_FnPacesMeetOfAll.f
  rw [hJ true, hJ _]
  split
  · rfl
  · split <;> rfl
end Go.Proofs.YteohjnmiifmldaaGreatDoor.Pure
