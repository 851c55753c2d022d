/- What the functions over paces come to that the law FnPacesMeetOfAll calls: first times, periods, counts, silences, pairs that never meet, texts. No condition. -/
import Derived.Test.YteohjnmiifmldaaGreatDoorAx10
import Derived.Test.YteohjnmiifmldaaGreatDoorAx11
import Derived.Test.YteohjnmiifmldaaGreatDoorAx15
import Derived.Test.YteohjnmiifmldaaGreatDoorAx16
import Derived.Test.YteohjnmiifmldaaGreatDoorAx17
import Derived.Test.YteohjnmiifmldaaGreatDoorAx2
import Derived.Test.YteohjnmiifmldaaGreatDoorAx3
import Derived.Test.YteohjnmiifmldaaGreatDoorAx4
import Derived.Test.YteohjnmiifmldaaGreatDoorAx5
import Derived.Test.YteohjnmiifmldaaGreatDoorAx6
import Derived.Test.YteohjnmiifmldaaGreatDoorAx7
import Derived.Test.YteohjnmiifmldaaGreatDoorAx8
import Derived.Test.YteohjnmiifmldaaGreatDoorGivC
import Derived.Test.YteohjnmiifmldaaGreatDoorPureMeet
import Derived.Test.YteohjnmiifmldaaGreatDoorPureNum
import Derived.Test.YteohjnmiifmldaaGreatDoorPurePParse
import Derived.Test.YteohjnmiifmldaaGreatDoorPurePaces
namespace Go.Proofs.YteohjnmiifmldaaGreatDoor.Pure
open Go.RowKit Go.Proofs.YteohjnmiifmldaaGreatDoor.A Go.Proofs.YteohjnmiifmldaaGreatDoor.Meet Go.Proofs.YteohjnmiifmldaaGreatDoorW.PrintWords Go.Proofs.YteohjnmiifmldaaGreatDoorW.PrintLast Go.Proofs.YteohjnmiifmldaaGreatDoorW.PrintMore
set_option linter.unusedVariables false
set_option linter.unusedSimpArgs false

def pN (p : S38) : Nat × Nat := (p.f0.toNat, p.f1.toNat)
def toN (l : List S38) : List (Nat × Nat) := l.map pN
theorem toN_len (l : List S38) : (toN l).length = l.length := List.length_map _
theorem toN_at (l : List S38) (i : Nat) (h : i < l.length) : (toN l)[i]'(by rw [toN_len]; exact h) = pN l[i] := List.getElem_map _
/-- A list of paces. -/
structure Pa (l : List S38) : Prop where
  len : 1 ≤ l.length ∧ l.length ≤ 6
  each : ∀ p ∈ l, 1 ≤ p.f0 ∧ p.f0 ≤ 60 ∧ 0 ≤ p.f1 ∧ p.f1 ≤ p.f0 - 1
theorem pa_of (l : List S38) (h : goodP l = true) : Pa l := ⟨⟨(good_len l h).1, (good_len l h).2.1⟩, (good_len l h).2.2⟩
theorem pa_gp {l : List S38} (h : Pa l) : GP (toN l) := by
  intro p hp
  obtain ⟨q, hq, rfl⟩ := List.mem_map.1 hp
  have := h.each q hq
  unfold pN
  exact ⟨by show 1 ≤ q.f0.toNat; omega, by show q.f1.toNat < q.f0.toNat; omega⟩
theorem pa_at {l : List S38} (h : Pa l) (i : Nat) (hi : i < l.length) : l[i].f0 = ((pN l[i]).1 : Int) ∧ l[i].f1 = ((pN l[i]).2 : Int) ∧ 1 ≤ (pN l[i]).1 ∧ (pN l[i]).1 ≤ 60 ∧ (pN l[i]).2 < (pN l[i]).1 := by
  have := h.each l[i] (List.getElem_mem hi)
  unfold pN
  refine ⟨?_, ?_, ?_, ?_, ?_⟩
  · show l[i].f0 = ((l[i].f0.toNat : Nat) : Int); omega
  · show l[i].f1 = ((l[i].f1.toNat : Nat) : Int); omega
  · show 1 ≤ l[i].f0.toNat; omega
  · show l[i].f0.toNat ≤ 60; omega
  · show l[i].f1.toNat < l[i].f0.toNat; omega
theorem toN_drop (l : List S38) (i : Nat) (h : i < l.length) : (toN l).drop i = pN l[i] :: (toN l).drop (i + 1) := by
  rw [List.drop_eq_getElem_cons (by rw [toN_len]; exact h), toN_at l i h]
/-! ### the greatest common divisor -/
theorem tmod_nat (a b : Nat) : Int.tmod (a : Int) (b : Int) = ((a % b : Nat) : Int) := rfl
theorem tdiv_nat (a b : Nat) : Int.tdiv (a : Int) (b : Int) = ((a / b : Nat) : Int) := rfl
theorem gcd_step (a b : Nat) : Nat.gcd a b = Nat.gcd b (a % b) := by
  rw [Nat.gcd_comm a b, Nat.gcd_rec b a, Nat.gcd_comm]
theorem gcd_loop (n : Nat) : ∀ (b a k : Nat), b ≤ n → b < k → impl_gcd.l0 k (a : Int) (b : Int) = some ((Nat.gcd a b : Nat) : Int) ∧ spec_foCommon.l0 k (a : Int) (b : Int) = some ((Nat.gcd a b : Nat) : Int) := by
  induction n with
  | zero =>
    intro b a k hb hk
    obtain ⟨k, rfl⟩ := fuel0 (show 0 < k by omega)
    obtain rfl : b = 0 := by omega
    simp only [impl_gcd.l0, spec_foCommon.l0]
    rw [if_pos (by omega), if_neg (by omega), Nat.gcd_zero_right]
    exact ⟨rfl, rfl⟩
  | succ n ih =>
    intro b a k hb hk
    obtain ⟨k, rfl⟩ := fuel0 (show 0 < k by omega)
    by_cases h0 : b = 0
    · subst h0
      simp only [impl_gcd.l0, spec_foCommon.l0]
      rw [if_pos (by omega), if_neg (by omega), Nat.gcd_zero_right]
      exact ⟨rfl, rfl⟩
    · have hm : a % b < b := Nat.mod_lt _ (by omega)
      obtain ⟨h1, h2⟩ := ih (a % b) b k (by omega) (by omega)
      simp only [impl_gcd.l0, spec_foCommon.l0]
      rw [if_neg (by omega), if_pos (by omega), if_neg (by omega), tmod_nat, gcd_step]
      exact ⟨h1, h2⟩
theorem gcd_ok (a b k : Nat) (h : b < k) : impl_gcd.f k (a : Int) (b : Int) = some ((Nat.gcd a b : Nat) : Int) := (gcd_loop b b a k (Nat.le_refl _) h).1
theorem com_ok (a b k : Nat) (h : b < k) : spec_foCommon.f k (a : Int) (b : Int) = some ((Nat.gcd a b : Nat) : Int) := (gcd_loop b b a k (Nat.le_refl _) h).2
/-- The next step: the least common multiple, both ways of writing it, and its size. -/
theorem lcm_next (s c M : Nat) (hs : 0 < s) (hc : 1 ≤ c ∧ c ≤ 60) (hM : s ≤ M) (hM2 : M ≤ 1000000000000000) : ¬ ((Nat.gcd s c : Nat) : Int) = 0 ∧ wrap64 ((s : Int) * (wrap64 (Int.tdiv (c : Int) ((Nat.gcd s c : Nat) : Int)))) = ((Nat.lcm s c : Nat) : Int) ∧
    wrap64 ((wrap64 (Int.tdiv (s : Int) ((Nat.gcd s c : Nat) : Int))) * (c : Int)) = ((Nat.lcm s c : Nat) : Int) ∧ Nat.lcm s c ≤ M * 60 ∧ 0 < Nat.lcm s c := by
  have hg : 0 < Nat.gcd s c := Nat.gcd_pos_of_pos_left c hs
  have hl0 : 0 < Nat.lcm s c := Nat.lcm_pos hs hc.1
  have hle : Nat.lcm s c ≤ s * c := Nat.div_le_self _ _
  have hsc : s * c ≤ M * 60 := Nat.mul_le_mul hM hc.2
  have d1 : c / Nat.gcd s c ≤ c := Nat.div_le_self _ _
  have d2 : s / Nat.gcd s c ≤ s := Nat.div_le_self _ _
  have e1 : s * (c / Nat.gcd s c) = Nat.lcm s c := by rw [Nat.lcm, Nat.mul_div_assoc _ (Nat.gcd_dvd_right s c)]
  have e2 : (s / Nat.gcd s c) * c = Nat.lcm s c := by rw [Nat.lcm, Nat.mul_comm s c, Nat.mul_div_assoc _ (Nat.gcd_dvd_left s c), Nat.mul_comm]
  rw [tdiv_nat, tdiv_nat]
  refine ⟨by omega, ?_, ?_, by omega, hl0⟩
  · generalize c / Nat.gcd s c = y at *
    rw [w_in (x := (y : Int)) (by omega) (by omega), ← Int.natCast_mul, e1, w_in (by omega) (by omega)]
  · generalize s / Nat.gcd s c = y at *
    rw [w_in (x := (y : Int)) (by omega) (by omega), ← Int.natCast_mul, e2, w_in (by omega) (by omega)]
/-! ### the period -/
def per (l : List S38) : Nat := lcms (toN l) 1
theorem per_loop (l : List S38) (hl : Pa l) (d : Nat) : ∀ (k i s M : Nat), i + d = l.length → 0 < s → s ≤ M → M * 60 ^ d ≤ 46656000000 → d + 100 < k →
    impl_periodOf.l0 k (s : Int) l (l.length : Int) (i : Int) = some ((lcms ((toN l).drop i) s : Nat) : Int) ∧ spec_spPeriod.l0 k (s : Int) l (l.length : Int) (i : Int) = some ((lcms ((toN l).drop i) s : Nat) : Int) := by
  have h6 := hl.len
  induction d with
  | zero =>
    intro k i s M h hs hM hB hk
    obtain ⟨k, rfl⟩ := fuel0 (show 0 < k by omega)
    simp only [impl_periodOf.l0, spec_spPeriod.l0]
    rw [if_neg (by omega), if_neg (by omega), List.drop_eq_nil_of_le (by rw [toN_len]; omega)]
    exact ⟨rfl, rfl⟩
  | succ d ih =>
    intro k i s M h hs hM hB hk
    obtain ⟨k, rfl⟩ := fuel0 (show 0 < k by omega)
    have hi : i < l.length := by omega
    obtain ⟨a1, a2, a3, a4, a5⟩ := pa_at hl i hi
    have hp : 1 ≤ 60 ^ d := Nat.pow_pos (by omega)
    have hB2 : M * 60 * 60 ^ d ≤ 46656000000 := by rw [Nat.mul_assoc, ← Nat.pow_succ']; exact hB
    have hM2 : M * 60 ≤ 46656000000 := Nat.le_trans (Nat.le_mul_of_pos_right _ hp) hB2
    obtain ⟨g0, g1, g2, g3, g4⟩ := lcm_next s (pN l[i]).1 M hs ⟨a3, a4⟩ hM (by omega)
    obtain ⟨r1, r2⟩ := ih k (i + 1) (Nat.lcm s (pN l[i]).1) (M * 60) (by omega) g4 g3 hB2 (by omega)
    simp only [impl_periodOf.l0, spec_spPeriod.l0]
    rw [if_pos (by omega), if_pos (by omega), if_pos (by omega), if_pos (by omega), if_pos (by omega), if_pos (by omega), rt_at l i hi, a1, gcd_ok s _ k (by omega), com_ok s _ k (by omega), Option.bind_some, Option.bind_some, if_neg g0, if_neg g0, g1, g2, w_up (by omega), toN_drop l i hi]
    exact ⟨r1, r2⟩
theorem per_ok (l : List S38) (hl : Pa l) (k : Nat) (hk : 1000 < k) : impl_periodOf.f k l = some (per l : Int) ∧ spec_spPeriod.f k l = some (per l : Int) := by
  have h6 := hl.len
  have hb : (60 : Nat) ^ l.length ≤ 46656000000 := Nat.le_trans (Nat.pow_le_pow_right (by omega) h6.2) (by decide)
  have := per_loop l hl l.length k 0 1 1 (by omega) (by omega) (Nat.le_refl _) (by omega) (by omega)
  unfold impl_periodOf.f spec_spPeriod.f per
  rwa [List.drop_zero] at this
theorem lcms_le : ∀ (ps : List (Nat × Nat)) (s M : Nat), GP ps → (∀ p ∈ ps, p.1 ≤ 60) → s ≤ M → lcms ps s ≤ M * 60 ^ ps.length
  | [], s, M, _, _, h => by simpa [lcms] using h
  | p :: ps, s, M, hg, hh, h => by
    have h1 : Nat.lcm s p.1 ≤ M * 60 := Nat.le_trans (Nat.div_le_self _ _) (Nat.mul_le_mul h (hh p List.mem_cons_self))
    have := lcms_le ps (Nat.lcm s p.1) (M * 60) (fun q hq => hg q (List.mem_cons_of_mem _ hq)) (fun q hq => hh q (List.mem_cons_of_mem _ hq)) h1
    rw [List.length_cons, Nat.pow_succ', ← Nat.mul_assoc]
    exact this
theorem per_size {l : List S38} (hl : Pa l) : 1 ≤ per l ∧ per l ≤ 46656000000 := by
  have h6 := hl.len
  have hb : (60 : Nat) ^ l.length ≤ 46656000000 := Nat.le_trans (Nat.pow_le_pow_right (by omega) h6.2) (by decide)
  have := lcms_le (toN l) 1 1 (pa_gp hl) (fun p hp => by
    obtain ⟨q, hq, rfl⟩ := List.mem_map.1 hp
    have := hl.each q hq
    unfold pN
    show q.f0.toNat ≤ 60
    omega) (Nat.le_refl _)
  rw [toN_len] at this
  exact ⟨lcms_pos _ 1 (pa_gp hl) (by omega), by unfold per; omega⟩
theorem per_dvd (l : List S38) (i : Nat) (hi : i < l.length) : (pN l[i]).1 ∣ per l := lcms_each (toN l) 1 (pN l[i]) (List.mem_map.2 ⟨l[i], List.getElem_mem hi, rfl⟩)
/-! ### the first time at which all step -/
def evL (l : List S38) : List Int := l.map fun p => p.f0
def frL (l : List S38) : List Int := l.map fun p => p.f1
theorem ev_at (l : List S38) (i : Nat) (h : i < l.length) : rd (evL l) (i : Int) = l[i].f0 := by
  unfold rd evL
  rw [Int.toNat_natCast, List.getD_eq_getElem?_getD, List.getElem?_map, List.getElem?_eq_getElem h]
  rfl
theorem fr_at (l : List S38) (i : Nat) (h : i < l.length) : rd (frL l) (i : Int) = l[i].f1 := by
  unfold rd frL
  rw [Int.toNat_natCast, List.getD_eq_getElem?_getD, List.getElem?_map, List.getElem?_eq_getElem h]
  rfl
def leR (ps : List (Nat × Nat)) (n s : Nat) : Int × Int × Bool := match leastL ps n s with
  | none => (0, 0, false)
  | some (v, w) => ((v : Int), (w : Int), true)
theorem tmod_eq {n c r : Nat} (x y z : Int) (hx : x = (n : Int)) (hy : y = (c : Int)) (hz : z = (r : Int)) : (Int.tmod x y = z) ↔ n % c = r := by
  subst hx hy hz
  rw [tmod_nat]
  omega
theorem least_loop (l : List S38) (hl : Pa l) (d : Nat) : ∀ (i n s M : Nat), i + d = l.length → n < s → s ≤ M → M * 60 ^ d ≤ 46656000000 → ∀ k, 200 * d + 200 < k →
    impl_leastWith.l0 k (frL l) (n : Int) (s : Int) (evL l) (l.length : Int) (i : Int) = some (leR ((toN l).drop i) n s) ∧ spec_foLeast.l0 k (frL l) (n : Int) (s : Int) (evL l) (l.length : Int) (i : Int) = some (leR ((toN l).drop i) n s) := by
  have h6 := hl.len
  have le : (evL l).length = l.length := List.length_map _
  have lf : (frL l).length = l.length := List.length_map _
  induction d with
  | zero =>
    intro i n s M h hn hM hB k hk
    obtain ⟨k, rfl⟩ := fuel0 (show 0 < k by omega)
    simp only [impl_leastWith.l0, spec_foLeast.l0]
    rw [if_neg (by omega), if_neg (by omega), List.drop_eq_nil_of_le (by rw [toN_len]; omega)]
    exact ⟨rfl, rfl⟩
  | succ d ih =>
    intro i n s M h hn hM hB k hk
    have hi : i < l.length := by omega
    obtain ⟨a1, a2, a3, a4, a5⟩ := pa_at hl i hi
    have hp : 1 ≤ 60 ^ d := Nat.pow_pos (by omega)
    have hB2 : M * 60 * 60 ^ d ≤ 46656000000 := by rw [Nat.mul_assoc, ← Nat.pow_succ']; exact hB
    have hM2 : M * 60 ≤ 46656000000 := Nat.le_trans (Nat.le_mul_of_pos_right _ hp) hB2
    obtain ⟨g0, g1, g2, g3, g4⟩ := lcm_next s (pN l[i]).1 M (by omega) ⟨a3, a4⟩ hM (by omega)
    generalize hc : (pN l[i]).1 = c at *
    generalize hr : (pN l[i]).2 = r at *
    have hrest : ∀ v, v < Nat.lcm s c → ∀ k, 200 * d + 200 < k → impl_leastWith.l0 k (frL l) (v : Int) ((Nat.lcm s c : Nat) : Int) (evL l) (l.length : Int) ((i + 1 : Nat) : Int) = some (leR ((toN l).drop (i + 1)) v (Nat.lcm s c)) ∧ spec_foLeast.l0 k (frL l) (v : Int) ((Nat.lcm s c : Nat) : Int) (evL l) (l.length : Int) ((i + 1 : Nat) : Int) = some (leR ((toN l).drop (i + 1)) v (Nat.lcm s c)) :=
      fun v hv k hk => ih (i + 1) v (Nat.lcm s c) (M * 60) (by omega) hv g3 hB2 k hk
    let R : Option Nat → Int × Int × Bool := fun o => match o with
      | none => (0, 0, false)
      | some v => leR ((toN l).drop (i + 1)) v (Nat.lcm s c)
    have hR : leR ((toN l).drop i) n s = R (lstF s c r c n) := by
      have e : leastL ((toN l).drop i) n s = match lstF s c r c n with
        | none => none
        | some v => leastL ((toN l).drop (i + 1)) v (Nat.lcm s c) := by
        rw [toN_drop l i hi, leastL, hc, hr]
        rfl
      unfold leR
      rw [e]
      cases lstF s c r c n <;> rfl
    -- one pace's tries: the program
    have hI : ∀ (j m x : Nat), (∀ (o : Option Nat) (v : Nat), lstF s c r (j + 1) m = some v → v < Nat.lcm s c) → x + j = c → m + (j + 1) * s ≤ 62 * 777600000 * 60 → ∀ k, 200 * d + 300 + j < k → impl_leastWith.l1 k (frL l) (m : Int) (s : Int) (i : Int) (c : Int) (x : Int) (evL l) (l.length : Int) (i : Int) = some (R (lstF s c r (j + 1) m)) := by
      intro j
      induction j with
      | zero =>
        intro m x hv hx hm k hk
        obtain ⟨k, rfl⟩ := fuel0 (show 0 < k by omega)
        simp only [impl_leastWith.l1]
        rw [if_neg (by omega), if_pos (by omega), if_pos (by omega), fr_at l i hi, a2]
        by_cases t : m % c = r
        · rw [if_pos ((tmod_eq _ _ _ rfl rfl rfl).2 t), gcd_ok s c k (by omega), Option.bind_some, if_neg g0, g1, w_up (by omega)]
          have e : lstF s c r (0 + 1) m = some m := by unfold lstF; rw [if_pos t]
          rw [e]
          exact (hrest m (hv none m e) k (by omega)).1
        · rw [if_neg (fun q => t ((tmod_eq _ _ _ rfl rfl rfl).1 q)), if_pos (by omega)]
          have e : lstF s c r (0 + 1) m = none := by unfold lstF; rw [if_neg t]; rfl
          rw [e]
      | succ j ihj =>
        intro m x hv hx hm k hk
        obtain ⟨k, rfl⟩ := fuel0 (show 0 < k by omega)
        have hm' : m + s + (j + 1) * s ≤ 62 * 777600000 * 60 := by rw [Nat.succ_mul] at hm; omega
        simp only [impl_leastWith.l1]
        rw [if_neg (by omega), if_pos (by omega), if_pos (by omega), fr_at l i hi, a2]
        by_cases t : m % c = r
        · rw [if_pos ((tmod_eq _ _ _ rfl rfl rfl).2 t), gcd_ok s c k (by omega), Option.bind_some, if_neg g0, g1, w_up (by omega)]
          have e : lstF s c r (j + 1 + 1) m = some m := by unfold lstF; rw [if_pos t]
          rw [e]
          exact (hrest m (hv none m e) k (by omega)).1
        · have e : lstF s c r (j + 1 + 1) m = lstF s c r (j + 1) (m + s) := by rw [lstF, if_neg t]
          have hw : wrap64 ((m : Int) + (s : Int)) = ((m + s : Nat) : Int) := by rw [w_in (by omega) (by omega)]; omega
          rw [if_neg (fun q => t ((tmod_eq _ _ _ rfl rfl rfl).1 q)), if_neg (by omega), hw, w_up (by omega), e]
          exact ihj (m + s) (x + 1) (fun o v hh => hv o v (by rw [e]; exact hh)) (by omega) hm' k (by omega)
    -- .. and the reference
    have hF : ∀ (m x : Nat), m < Nat.lcm s c → ∀ k, 200 * d + 210 < k → ∀ b : Bool, spec_foLeast.j2 k (frL l) (m : Int) (s : Int) (i : Int) (c : Int) true (x : Int) (evL l) (l.length : Int) (i : Int) false = some (leR ((toN l).drop (i + 1)) m (Nat.lcm s c)) := by
      intro m x hm k hk b
      obtain ⟨k, rfl⟩ := fuel0 (show 0 < k by omega)
      simp only [spec_foLeast.j2]
      rw [if_neg Bool.false_ne_true, if_pos trivial, com_ok s c k (by omega), Option.bind_some, if_neg g0, g2, w_up (by omega)]
      exact (hrest m hm k (by omega)).2
    have hS : ∀ (j m x : Nat), (∀ (o : Option Nat) (v : Nat), lstF s c r j m = some v → v < Nat.lcm s c) → x + j = c → m + j * s ≤ 62 * 777600000 * 60 → ∀ k, 200 * d + 220 + 2 * j < k → spec_foLeast.l1 k (frL l) (m : Int) (s : Int) (i : Int) (c : Int) false (x : Int) (evL l) (l.length : Int) (i : Int) = some (R (lstF s c r j m)) := by
      intro j
      induction j with
      | zero =>
        intro m x hv hx hm k hk
        obtain ⟨k, rfl⟩ : ∃ q, k = q + 1 + 1 := ⟨k - 2, by omega⟩
        obtain ⟨K, hK⟩ : ∃ K, K = k + 1 := ⟨_, rfl⟩
        rw [← hK]
        simp only [spec_foLeast.l1]
        rw [if_neg (by omega), hK]
        simp only [spec_foLeast.j2]
        rw [if_neg Bool.false_ne_true, if_neg Bool.false_ne_true]
        rfl
      | succ j ihj =>
        intro m x hv hx hm k hk
        obtain ⟨k, rfl⟩ : ∃ q, k = q + 1 + 1 := ⟨k - 2, by omega⟩
        have hm' : m + s + j * s ≤ 62 * 777600000 * 60 := by rw [Nat.succ_mul] at hm; omega
        obtain ⟨K, hK⟩ : ∃ K, K = k + 1 := ⟨_, rfl⟩
        rw [← hK]
        simp only [spec_foLeast.l1]
        rw [if_pos (by omega), hK]
        simp only [spec_foLeast.j2]
        rw [show (!false) = true from rfl, if_pos rfl, if_neg (by omega), if_pos (by omega), if_pos (by omega), fr_at l i hi, a2, w_up (by omega)]
        by_cases t : m % c = r
        · have e : lstF s c r (j + 1) m = some m := by unfold lstF; rw [if_pos t]
          rw [if_pos ((tmod_eq _ _ _ rfl rfl rfl).2 t), e]
          obtain ⟨k, rfl⟩ := fuel0 (show 0 < k by omega)
          simp only [spec_foLeast.l1]
          have := hF m (x + 1) (hv none m e) k (by omega) true
          by_cases q : ((x + 1 : Nat) : Int) < (c : Int)
          · rw [if_pos q]; exact this
          · rw [if_neg q]; exact this
        · have e : lstF s c r (j + 1) m = lstF s c r j (m + s) := by rw [lstF, if_neg t]
          have hw : wrap64 ((m : Int) + (s : Int)) = ((m + s : Nat) : Int) := by rw [w_in (by omega) (by omega)]; omega
          rw [if_neg (fun q => t ((tmod_eq _ _ _ rfl rfl rfl).1 q)), hw, e]
          exact ihj (m + s) (x + 1) (fun o v hh => hv o v (by rw [e]; exact hh)) (by omega) hm' k (by omega)
    have hsB : s * 60 ≤ 46656000000 := by have := Nat.mul_le_mul_right 60 hM; omega
    have hcs : c * s ≤ 60 * s := Nat.mul_le_mul_right s a4
    have hlow : ∀ v, lstF s c r c n = some v → v < Nat.lcm s c := fun v hv => (lst_low (by omega) a3 hn hv).1
    obtain ⟨k, rfl⟩ := fuel0 (show 0 < k by omega)
    simp only [impl_leastWith.l0, spec_foLeast.l0]
    rw [if_pos (by omega), if_pos (by omega), if_pos (by omega), if_pos (by omega), if_pos (by omega), if_pos (by omega), ev_at l i hi, a1, hR]
    constructor
    · have := hI c n 0 (fun o v hv => hlow v (by rw [lst_one_more a3] at hv; exact hv)) (by omega) (by rw [Nat.succ_mul]; omega) k (by omega)
      rw [lst_one_more a3] at this
      exact this
    · exact hS c n 0 (fun o v hv => hlow v hv) (by omega) (by omega) k (by omega)
theorem least_ok (l : List S38) (hl : Pa l) (k : Nat) (hk : 2000 < k) : impl_leastWith.f k (evL l) (frL l) = some (leR (toN l) 0 1) ∧ spec_foLeast.f k (evL l) (frL l) = some (leR (toN l) 0 1) := by
  have h6 := hl.len
  have le : (evL l).length = l.length := List.length_map _
  have hb : (60 : Nat) ^ l.length ≤ 46656000000 := Nat.le_trans (Nat.pow_le_pow_right (by omega) h6.2) (by decide)
  have := least_loop l hl l.length 0 0 1 1 (by omega) (by omega) (Nat.le_refl _) (by omega) k (by omega)
  unfold impl_leastWith.f spec_foLeast.f
  rw [le]
  rwa [List.drop_zero] at this
def ftR (l : List S38) : Int × Bool := if goodP l = true then ((leR (toN l) 0 1).1, (leR (toN l) 0 1).2.2) else (0, false)
theorem tog_loop (l : List S38) (hl : Pa l) (d : Nat) : ∀ (k i : Nat), i + d = l.length → d + 2100 < k →
    impl_together.l0 k ((evL l).take i) ((frL l).take i) l (l.length : Int) (i : Int) = some (leR (toN l) 0 1) ∧ spec_FirstTogether.l0 k ((evL l).take i) ((frL l).take i) l (l.length : Int) (i : Int) = some ((leR (toN l) 0 1).1, (leR (toN l) 0 1).2.2) := by
  have h6 := hl.len
  have le : (evL l).length = l.length := List.length_map _
  have lf : (frL l).length = l.length := List.length_map _
  induction d with
  | zero =>
    intro k i h hk
    obtain ⟨k, rfl⟩ := fuel0 (show 0 < k by omega)
    obtain ⟨r1, r2⟩ := least_ok l hl k (by omega)
    simp only [impl_together.l0, spec_FirstTogether.l0]
    rw [if_neg (by omega), if_neg (by omega), List.take_of_length_le (by omega), List.take_of_length_le (by omega), r1, r2, Option.bind_some, Option.bind_some]
    refine ⟨rfl, ?_⟩
    unfold leR
    cases leastL (toN l) 0 1 <;> rfl
  | succ d ih =>
    intro k i h hk
    obtain ⟨k, rfl⟩ := fuel0 (show 0 < k by omega)
    have hi : i < l.length := by omega
    have t1 : (evL l).take (i + 1) = (evL l).take i ++ [l[i].f0] := by rw [List.take_succ_eq_append_getElem (by omega)]; unfold evL; rw [List.getElem_map]
    have t2 : (frL l).take (i + 1) = (frL l).take i ++ [l[i].f1] := by rw [List.take_succ_eq_append_getElem (by omega)]; unfold frL; rw [List.getElem_map]
    obtain ⟨r1, r2⟩ := ih k (i + 1) (by omega) (by omega)
    have b1 : ((evL l).take i).length ≤ 6 := by rw [List.length_take]; omega
    have b2 : ((frL l).take i).length ≤ 6 := by rw [List.length_take]; omega
    simp only [impl_together.l0, spec_FirstTogether.l0]
    rw [if_pos (by omega), if_pos (by omega), if_pos (by omega), if_pos (by omega), if_pos (by omega), if_pos (by omega), rt_at l i hi, Option.bind_some, if_pos (by simp only [List.length_singleton]; omega), Option.bind_some, if_pos (by simp only [List.length_singleton]; omega), if_pos (by omega), if_pos (by omega), w_up (by omega), ← t1, ← t2]
    exact ⟨r1, r2⟩
theorem v_first (l : List S38) (k : Nat) (hk : 3000 < k) : impl_FirstTogether.f k l = some (ftR l) ∧ spec_FirstTogether.f k l = some (ftR l) := by
  unfold impl_FirstTogether.f spec_FirstTogether.f
  rw [agood_ok l k (by omega), pgood_ok l k (by omega), Option.bind_some, Option.bind_some]
  cases hg : goodP l with
  | false =>
    have e : ftR l = (0, false) := by unfold ftR; rw [hg, if_neg Bool.false_ne_true]
    rw [if_neg Bool.false_ne_true, if_neg Bool.false_ne_true, e]
    exact ⟨rfl, rfl⟩
  | true =>
    have e : ftR l = ((leR (toN l) 0 1).1, (leR (toN l) 0 1).2.2) := by unfold ftR; rw [hg, if_pos rfl]
    have hl := pa_of l hg
    have h6 := hl.len
    obtain ⟨r1, r2⟩ := tog_loop l hl l.length k 0 (by omega) (by omega)
    rw [if_pos rfl, if_pos rfl, e]
    unfold impl_together.f
    rw [List.take_zero, List.take_zero] at r1 r2
    exact ⟨by rw [show impl_together.l0 k [] [] l (l.length : Int) 0 = some (leR (toN l) 0 1) from r1, Option.bind_some], r2⟩
theorem v_period (l : List S38) (k : Nat) (hk : 3000 < k) : impl_PeriodOf.f k l = some (if goodP l = true then ((per l : Int), true) else (0, false)) ∧ spec_PeriodOf.f k l = some (if goodP l = true then ((per l : Int), true) else (0, false)) := by
  unfold impl_PeriodOf.f spec_PeriodOf.f
  rw [agood_ok l k (by omega), pgood_ok l k (by omega), Option.bind_some, Option.bind_some]
  by_cases hg : goodP l = true
  · have hl := pa_of l hg
    rw [if_pos hg, if_pos hg, if_pos hg, (per_ok l hl k (by omega)).1, (per_ok l hl k (by omega)).2]
    exact ⟨rfl, rfl⟩
  · rw [if_neg hg, if_neg hg, if_neg hg]
    exact ⟨rfl, rfl⟩
/-! ### who steps -/
def outT (ps : List (Nat × Nat)) (t : Nat) : Nat := (ps.filter fun p => decide (t % p.1 = p.2)).length
theorem outT_le (ps : List (Nat × Nat)) (t : Nat) : outT ps t ≤ ps.length := List.length_filter_le _ _
theorem outT_cons (p : Nat × Nat) (ps : List (Nat × Nat)) (t : Nat) : outT (p :: ps) t = outT ps t + if t % p.1 = p.2 then 1 else 0 := by
  unfold outT
  rw [List.filter_cons]
  by_cases c : t % p.1 = p.2
  · rw [if_pos (decide_eq_true c), if_pos c]; rfl
  · rw [if_neg (by simpa using c), if_neg c]; rfl
theorem outT_all (ps : List (Nat × Nat)) (t : Nat) (h : meets ps t) : outT ps t = ps.length := by
  unfold outT
  rw [List.filter_eq_self.2 (fun p hp => decide_eq_true (h p hp))]
theorem outT_pos (ps : List (Nat × Nat)) (t : Nat) (p : Nat × Nat) (hp : p ∈ ps) (h : t % p.1 = p.2) : 0 < outT ps t := List.length_pos_of_mem (List.mem_filter.2 ⟨hp, decide_eq_true h⟩)
theorem outT_per (ps : List (Nat × Nat)) (P t : Nat) (h : ∀ p ∈ ps, p.1 ∣ P) : outT ps (P + t) = outT ps t := by
  unfold outT
  congr 1
  refine List.filter_congr fun p hp => ?_
  obtain ⟨q, hq⟩ := h p hp
  rw [hq, Nat.add_comm, Nat.add_mul_mod_self_left]
def atN (t : Nat) : List (Nat × Nat) → Nat → List Int
  | [], _ => []
  | p :: ps, i => if t % p.1 = p.2 then (i : Int) :: atN t ps (i + 1) else atN t ps (i + 1)
theorem atN_len (t : Nat) : ∀ (ps : List (Nat × Nat)) (i : Nat), (atN t ps i).length = outT ps t
  | [], _ => rfl
  | p :: ps, i => by
    rw [outT_cons]
    unfold atN
    have := atN_len t ps (i + 1)
    by_cases c : t % p.1 = p.2
    · rw [if_pos c, if_pos c, List.length_cons, this]
    · rw [if_neg c, if_neg c, this, Nat.add_zero]
theorem atN_ge (t : Nat) : ∀ (ps : List (Nat × Nat)) (i : Nat), ∀ x ∈ atN t ps i, (i : Int) ≤ x
  | [], _, x, h => by simp [atN] at h
  | p :: ps, i, x, h => by
    have ih := atN_ge t ps (i + 1)
    unfold atN at h
    by_cases c : t % p.1 = p.2
    · rw [if_pos c] at h
      rcases List.mem_cons.1 h with rfl | h
      · exact Int.le_refl _
      · have := ih x h; omega
    · rw [if_neg c] at h
      have := ih x h; omega
theorem atN_mem (t : Nat) : ∀ (ps : List (Nat × Nat)) (i j : Nat) (hj : j < ps.length), ((i + j : Nat) : Int) ∈ atN t ps i ↔ t % ps[j].1 = ps[j].2
  | [], _, j, hj => by simp at hj
  | p :: ps, i, 0, hj => by
    unfold atN
    have hge := atN_ge t ps (i + 1)
    by_cases c : t % p.1 = p.2
    · rw [if_pos c]
      exact ⟨fun _ => c, fun _ => by simp⟩
    · rw [if_neg c]
      exact ⟨fun h => by have := hge _ h; omega, fun h => absurd h c⟩
  | p :: ps, i, j + 1, hj => by
    unfold atN
    have ih := atN_mem t ps (i + 1) j (by simpa using hj)
    rw [show i + 1 + j = i + (j + 1) by omega] at ih
    by_cases c : t % p.1 = p.2
    · rw [if_pos c, List.mem_cons]
      constructor
      · rintro (h | h)
        · omega
        · exact ih.1 h
      · exact fun h => .inr (ih.2 h)
    · rw [if_neg c]
      exact ih
theorem at_loop (l : List S38) (hl : Pa l) (t : Nat) (d : Nat) : ∀ (k i : Nat) (x : List Int), i + d = l.length → x.length ≤ i → d < k →
    impl_stepping.l0 k (t : Int) x l (l.length : Int) (i : Int) = some (x ++ atN t ((toN l).drop i) i) ∧ spec_spAt.l0 k (t : Int) x l (l.length : Int) (i : Int) = some (x ++ atN t ((toN l).drop i) i) := by
  have h6 := hl.len
  induction d with
  | zero =>
    intro k i x h hx hk
    obtain ⟨k, rfl⟩ := fuel0 (show 0 < k by omega)
    simp only [impl_stepping.l0, spec_spAt.l0]
    rw [if_neg (by omega), if_neg (by omega), List.drop_eq_nil_of_le (by rw [toN_len]; omega)]
    simp [atN]
  | succ d ih =>
    intro k i x h hx hk
    obtain ⟨k, rfl⟩ := fuel0 (show 0 < k by omega)
    have hi : i < l.length := by omega
    obtain ⟨a1, a2, a3, a4, a5⟩ := pa_at hl i hi
    have hps : impl_Pace_steps.f l[i].f0 l[i].f1 (t : Int) = some (decide (t % (pN l[i]).1 = (pN l[i]).2)) := by
      unfold impl_Pace_steps.f
      rw [if_neg (by omega), a1, a2]
      congr 1
      by_cases c : t % (pN l[i]).1 = (pN l[i]).2
      · rw [decide_eq_true c, beq_iff_eq.2 ((tmod_eq _ _ _ rfl rfl rfl).2 c)]
      · rw [decide_eq_false c, beq_eq_false_iff_ne.2 (fun q => c ((tmod_eq _ _ _ rfl rfl rfl).1 q))]
    constructor
    · simp only [impl_stepping.l0]
      rw [if_pos (by omega), if_pos (by omega), if_pos (by omega), rt_at l i hi, hps, Option.bind_some, toN_drop l i hi, w_up (by omega)]
      unfold atN
      by_cases c : t % (pN l[i]).1 = (pN l[i]).2
      · rw [decide_eq_true c, if_pos rfl, if_pos (by omega), if_pos c, (ih k (i + 1) (x ++ [(i : Int)]) (by omega) (by rw [List.length_append, List.length_singleton]; omega) (by omega)).1, List.append_assoc, List.singleton_append]
      · rw [decide_eq_false c, if_neg Bool.false_ne_true, if_neg c]
        exact (ih k (i + 1) x (by omega) (by omega) (by omega)).1
    · simp only [spec_spAt.l0]
      rw [if_pos (by omega), if_pos (by omega), if_pos (by omega), rt_at l i hi, if_neg (by omega), a1, a2, toN_drop l i hi, w_up (by omega)]
      unfold atN
      by_cases c : t % (pN l[i]).1 = (pN l[i]).2
      · rw [if_pos ((tmod_eq _ _ _ rfl rfl rfl).2 c), if_pos (by omega), if_pos c, (ih k (i + 1) (x ++ [(i : Int)]) (by omega) (by rw [List.length_append, List.length_singleton]; omega) (by omega)).2, List.append_assoc, List.singleton_append]
      · rw [if_neg (fun q => c ((tmod_eq _ _ _ rfl rfl rfl).1 q)), if_neg c]
        exact (ih k (i + 1) x (by omega) (by omega) (by omega)).2
theorem at_ok (l : List S38) (hl : Pa l) (t k : Nat) (hk : 10 < k) : impl_stepping.f k l (t : Int) = some (atN t (toN l) 0) ∧ spec_spAt.f k l (t : Int) = some (atN t (toN l) 0) := by
  have h6 := hl.len
  have := at_loop l hl t l.length k 0 [] (by omega) (by simp) (by omega)
  rw [List.drop_zero, List.nil_append] at this
  exact this
def atR (l : List S38) (a : Int) : List Int × Bool := if goodP l = true ∧ (0 ≤ a ∧ a ≤ 1000000000) then (atN a.toNat (toN l) 0, true) else ([], false)
theorem v_at (l : List S38) (a : Int) (k : Nat) (hk : 100 < k) : impl_SteppingAt.f k l a = some (atR l a) ∧ spec_SteppingAt.f k l a = some (atR l a) := by
  unfold impl_SteppingAt.f spec_SteppingAt.f impl_isTime.f spec_spTime.f
  rw [agood_ok l k (by omega), pgood_ok l k (by omega), in_eq, l1_eq]
  simp only [Option.bind_some]
  by_cases hg : goodP l = true
  · by_cases h : 0 ≤ a ∧ a ≤ 1000000000
    · have e : atR l a = (atN a.toNat (toN l) 0, true) := by unfold atR; rw [if_pos ⟨hg, h⟩]
      obtain ⟨t, rfl⟩ : ∃ n : Nat, a = (n : Int) := ⟨a.toNat, by omega⟩
      obtain ⟨r1, r2⟩ := at_ok l (pa_of l hg) t k (by omega)
      rw [if_pos hg, if_pos hg, decide_eq_true h, if_pos rfl, if_pos rfl, r1, r2, e]
      exact ⟨rfl, rfl⟩
    · have e : atR l a = ([], false) := by unfold atR; rw [if_neg (fun q => h q.2)]
      rw [if_pos hg, if_pos hg, decide_eq_false h, if_neg Bool.false_ne_true, if_neg Bool.false_ne_true, e]
      exact ⟨rfl, rfl⟩
  · have e : atR l a = ([], false) := by unfold atR; rw [if_neg (fun q => hg q.1)]
    rw [if_neg hg, if_neg hg, e]
    exact ⟨rfl, rfl⟩
/-! ### how many step at each time of a period -/
theorem rm_at (n : Nat) (g : Nat → Int) (i : Nat) (h : i < n) : rd ((List.range n).map g) (i : Int) = g i := by
  unfold rd
  rw [Int.toNat_natCast, List.getD_eq_getElem?_getD, List.getElem?_map, List.getElem?_range h]
  rfl
theorem rm_set (n : Nat) (g h : Nat → Int) (t : Nat) (v : Int) (ht : t < n) (hv : h t = v) (hh : ∀ j < n, j ≠ t → h j = g j) : ((List.range n).map g).set t v = (List.range n).map h := by
  refine List.ext_getElem (by rw [List.length_set, List.length_map, List.length_map]) fun j h1 h2 => ?_
  have hj : j < n := by simpa using h2
  rw [List.getElem_set, List.getElem_map, List.getElem_map, List.getElem_range]
  by_cases c : t = j
  · rw [if_pos c, ← c, hv]
  · rw [if_neg c, hh j hj (fun e => c e.symm)]
theorem rm_congr (n : Nat) (g h : Nat → Int) (hh : ∀ j < n, g j = h j) : (List.range n).map g = (List.range n).map h := List.map_congr_left fun j hj => hh j (List.mem_range.1 hj)
theorem tr_in (n e f : Nat) (hn : n ≤ 100000) (he : 1 ≤ e ∧ e ≤ 60) (hf : f < e) (L : List S38) (len idx F1 : Int) (g : Nat → Int) (hg : ∀ j, 0 ≤ g j ∧ g j ≤ 100) (R : Option (List Int × Bool)) (B : Nat)
    (hR : ∀ k, B < k → impl_traced.l0 k ((List.range n).map fun j => g j + if j % e = f then 1 else 0) L len (wrap64 (idx + 1)) = R) (m : Nat) : ∀ (t k : Nat), n ≤ t + m → t % e = f → t ≤ n + 60 → B + m + 1 < k →
    impl_traced.l1 k ((List.range n).map fun j => g j + if j < t ∧ j % e = f then 1 else 0) (t : Int) L len idx (e : Int) F1 = R := by
  have hlen : ∀ g : Nat → Int, ((List.range n).map g).length = n := fun g => by rw [List.length_map, List.length_range]
  have fin : ∀ (t k : Nat), n ≤ t → B + 1 < k → impl_traced.l1 k ((List.range n).map fun j => g j + if j < t ∧ j % e = f then 1 else 0) (t : Int) L len idx (e : Int) F1 = R := by
    intro t k ht hk
    obtain ⟨k, rfl⟩ := fuel0 (show 0 < k by omega)
    simp only [impl_traced.l1]
    rw [hlen, if_neg (by omega), ← hR k (by omega)]
    congr 1
    refine rm_congr _ _ _ fun j hj => ?_
    by_cases c : j % e = f
    · rw [if_pos ⟨by omega, c⟩, if_pos c]
    · rw [if_neg (fun q => c q.2), if_neg c]
  induction m with
  | zero => intro t k h1 h2 h3 hk; exact fin t k (by omega) (by omega)
  | succ m ih =>
    intro t k h1 h2 h3 hk
    by_cases ht : n ≤ t
    · exact fin t k ht (by omega)
    obtain ⟨k, rfl⟩ := fuel0 (show 0 < k by omega)
    have hgt := hg t
    simp only [impl_traced.l1]
    rw [hlen, if_pos (by omega), if_pos (by omega), rm_at n _ t (by omega), if_neg (by omega), Int.toNat_natCast, w_in (x := g t + 0 + 1) (by omega) (by omega), show wrap64 ((t : Int) + (e : Int)) = ((t + e : Nat) : Int) by rw [w_in (by omega) (by omega)]; omega]
    rw [rm_set n _ (fun j => g j + if j < t + e ∧ j % e = f then 1 else 0) t (g t + 0 + 1) (by omega) (by show g t + (if t < t + e ∧ t % e = f then 1 else 0) = _; rw [if_pos ⟨by omega, h2⟩]; omega) ?_]
    · exact ih (t + e) k (by omega) (by rw [Nat.add_mod_right]; exact h2) (by omega) (by omega)
    · intro j hj hne
      show g j + (if j < t + e ∧ j % e = f then 1 else 0) = g j + (if j < t ∧ j % e = f then 1 else 0)
      by_cases c : j % e = f
      · by_cases c2 : j < t
        · rw [if_pos ⟨by omega, c⟩, if_pos ⟨c2, c⟩]
        · have hne2 : ¬ j < t + e := by
            intro c3
            -- t < j < t + e leave the same over: they are one
            have e1 := Nat.div_add_mod j e
            have e2 := Nat.div_add_mod t e
            rw [c] at e1
            rw [h2] at e2
            have hlt : t / e < j / e := by
              refine Decidable.byContradiction fun q => ?_
              have := Nat.mul_le_mul_left e (show j / e ≤ t / e by omega)
              omega
            have := Nat.mul_le_mul_left e (show t / e + 1 ≤ j / e from hlt)
            rw [Nat.mul_add, Nat.mul_one] at this
            omega
          rw [if_neg (fun q => hne2 q.1), if_neg (fun q => c2 q.1)]
      · rw [if_neg (fun q => c q.2), if_neg (fun q => c q.2)]
theorem tr_out (l : List S38) (hl : Pa l) (n : Nat) (hn : n ≤ 100000) (d : Nat) : ∀ (k i : Nat) (g : Nat → Int), i + d = l.length → (∀ j, 0 ≤ g j ∧ g j ≤ (i : Int)) → 100200 * d + 10 < k →
    impl_traced.l0 k ((List.range n).map g) l (l.length : Int) (i : Int) = some ((List.range n).map (fun t => g t + (outT ((toN l).drop i) t : Int)), true) := by
  have h6 := hl.len
  induction d with
  | zero =>
    intro k i g h hg hk
    obtain ⟨k, rfl⟩ := fuel0 (show 0 < k by omega)
    simp only [impl_traced.l0]
    rw [if_neg (by omega), List.drop_eq_nil_of_le (by rw [toN_len]; omega)]
    congr 2
    refine rm_congr _ _ _ fun j hj => ?_
    simp [outT]
  | succ d ih =>
    intro k i g h hg hk
    obtain ⟨k, rfl⟩ := fuel0 (show 0 < k by omega)
    have hi : i < l.length := by omega
    obtain ⟨a1, a2, a3, a4, a5⟩ := pa_at hl i hi
    simp only [impl_traced.l0]
    rw [if_pos (by omega), if_pos (by omega), if_pos (by omega), rt_at l i hi, a1, a2]
    have e0 : (List.range n).map g = (List.range n).map fun j => g j + if j < (pN l[i]).2 ∧ j % (pN l[i]).1 = (pN l[i]).2 then 1 else 0 := by
      refine rm_congr _ _ _ fun j hj => ?_
      rw [if_neg]
      · omega
      · rintro ⟨q1, q2⟩
        rw [Nat.mod_eq_of_lt (by omega)] at q2
        omega
    rw [e0]
    refine tr_in n (pN l[i]).1 (pN l[i]).2 hn ⟨a3, a4⟩ a5 l (l.length : Int) (i : Int) _ g (fun j => by have := hg j; omega) _ (100200 * d + 10) (fun k hk => ?_) n _ k (by omega) (Nat.mod_eq_of_lt a5) (by omega) (by omega)
    rw [w_up (by omega), ih k (i + 1) _ (by omega) (fun j => by have := hg j; split <;> omega) hk]
    congr 2
    refine rm_congr _ _ _ fun j hj => ?_
    rw [toN_drop l i hi, outT_cons]
    split <;> omega
def trL (l : List S38) : List Int := (List.range (per l)).map fun t => (outT (toN l) t : Int)
def short (l : List S38) : Bool := goodP l && decide (per l ≤ 100000)
theorem short_iff (l : List S38) : short l = true ↔ goodP l = true ∧ per l ≤ 100000 := by unfold short; rw [Bool.and_eq_true, decide_eq_true_eq]
theorem v_traced (l : List S38) (k : Nat) (hk : 1000000 < k) : impl_traced.f k l = some (if short l = true then (trL l, true) else ([], false)) := by
  have jt : impl_traced.j0 k l true = some ([], false) := by
    obtain ⟨k, rfl⟩ := fuel0 (show 0 < k by omega)
    simp only [impl_traced.j0]
    rw [if_pos trivial]
  unfold impl_traced.f
  rw [agood_ok l k (by omega), Option.bind_some]
  by_cases hg : goodP l = true
  · have hl := pa_of l hg
    have hp := per_size hl
    rw [if_pos hg, (per_ok l hl k (by omega)).1, Option.bind_some]
    by_cases h : per l ≤ 100000
    · rw [if_pos ((short_iff l).2 ⟨hg, h⟩), decide_eq_false (by omega)]
      obtain ⟨k, rfl⟩ := fuel0 (show 0 < k by omega)
      simp only [impl_traced.j0]
      rw [if_neg Bool.false_ne_true, (per_ok l hl k (by omega)).1, Option.bind_some, if_pos (by omega), Int.toNat_natCast, if_pos (by omega)]
      have e : List.replicate (per l) (0 : Int) = (List.range (per l)).map fun _ => (0 : Int) := by
        rw [List.map_const', List.length_range]
      rw [e]
      have := tr_out l hl (per l) h l.length k 0 (fun _ => 0) (by omega) (fun _ => ⟨Int.le_refl _, by omega⟩) (by have := hl.len; omega)
      rw [List.drop_zero] at this
      rw [show ((0 : Int)) = ((0 : Nat) : Int) from rfl] at this ⊢
      rw [this]
      unfold trL
      congr 2
      refine rm_congr _ _ _ fun j hj => ?_
      omega
    · rw [if_neg (fun q => h ((short_iff l).1 q).2), decide_eq_true (by omega)]
      exact jt
  · rw [if_neg hg, if_neg (fun q => hg ((short_iff l).1 q).1)]
    exact jt
theorem v_short (l : List S38) (k : Nat) (hk : 3000 < k) : spec_spShort.f k l = some (short l) := by
  unfold spec_spShort.f short
  rw [pgood_ok l k (by omega), Option.bind_some]
  by_cases hg : goodP l = true
  · rw [if_pos hg, (per_ok l (pa_of l hg) k (by omega)).2, Option.bind_some, hg, Bool.true_and]
    congr 1
    exact decide_eq_decide.2 (by omega)
  · rw [if_neg hg, Bool.eq_false_iff.2 hg]
    rfl
/-! ### the most at once -/
def mostF (o : Nat → Nat) : Nat → Nat × Nat
  | 0 => (0, 0)
  | t + 1 => if o t > (mostF o t).1 then (o t, t) else mostF o t
theorem most_ge (o : Nat → Nat) : ∀ (t i : Nat), i < t → o i ≤ (mostF o t).1
  | t + 1, i, h => by
    unfold mostF
    by_cases c : o t > (mostF o t).1
    · rw [if_pos c]
      by_cases e : i = t
      · subst e; exact Nat.le_refl _
      · have := most_ge o t i (by omega)
        show o i ≤ o t
        omega
    · rw [if_neg c]
      by_cases e : i = t
      · subst e; omega
      · exact most_ge o t i (by omega)
theorem most_at (o : Nat → Nat) : ∀ t : Nat, 0 < (mostF o t).1 → (mostF o t).2 < t ∧ o (mostF o t).2 = (mostF o t).1 ∧ ∀ i < (mostF o t).2, o i < (mostF o t).1
  | 0, h => by simp [mostF] at h
  | t + 1, h => by
    unfold mostF at h ⊢
    by_cases c : o t > (mostF o t).1
    · rw [if_pos c]
      exact ⟨by show t < t + 1; omega, rfl, fun i hi => by have := most_ge o t i hi; show o i < o t; omega⟩
    · rw [if_neg c] at h ⊢
      obtain ⟨h1, h2, h3⟩ := most_at o t h
      exact ⟨by omega, h2, h3⟩
theorem most_le (o : Nat → Nat) (M : Nat) (h : ∀ i, o i ≤ M) : ∀ t, (mostF o t).1 ≤ M
  | 0 => Nat.zero_le _
  | t + 1 => by
    unfold mostF
    split
    · exact h t
    · exact most_le o M h t
theorem tr_len (l : List S38) : (trL l).length = per l := by unfold trL; rw [List.length_map, List.length_range]
theorem tr_at (l : List S38) (i : Nat) (h : i < per l) : rd (trL l) (i : Int) = (outT (toN l) i : Int) := rm_at _ _ i h
theorem max_loop (l : List S38) (hp : per l ≤ 100000) (d : Nat) : ∀ (k i : Nat), i + d = per l → d < k → slices_Max_int_int.l0 k (trL l) ((mostF (outT (toN l)) i).1 : Int) (i : Int) = some ((mostF (outT (toN l)) (per l)).1 : Int) := by
  have hlen := tr_len l
  induction d with
  | zero =>
    intro k i h hk
    obtain ⟨k, rfl⟩ := fuel0 (show 0 < k by omega)
    simp only [slices_Max_int_int.l0]
    rw [if_neg (by omega), show i = per l by omega]
  | succ d ih =>
    intro k i h hk
    obtain ⟨k, rfl⟩ := fuel0 (show 0 < k by omega)
    have hm : mx ((mostF (outT (toN l)) i).1 : Int) (outT (toN l) i : Int) = ((mostF (outT (toN l)) (i + 1)).1 : Int) := by
      unfold mx
      rw [mostF]
      by_cases c : outT (toN l) i > (mostF (outT (toN l)) i).1
      · rw [if_pos c, if_pos (by omega)]
      · rw [if_neg c, if_neg (by omega)]
    simp only [slices_Max_int_int.l0]
    rw [if_pos (by omega), if_pos (by omega), tr_at l i (by omega), hm, w_up (by omega)]
    exact ih k (i + 1) (by omega) (by omega)
theorem max_tr (l : List S38) (h1 : 1 ≤ per l) (hp : per l ≤ 100000) (k : Nat) (hk : 100001 < k) : slices_Max_int_int.f k (trL l) = some ((mostF (outT (toN l)) (per l)).1 : Int) := by
  have hlen := tr_len l
  have e0 : rd (trL l) 0 = ((mostF (outT (toN l)) 1).1 : Int) := by
    have := tr_at l 0 (by omega)
    rw [show ((0 : Nat) : Int) = 0 from rfl] at this
    rw [this, mostF]
    have e1 : (mostF (outT (toN l)) 0).1 = 0 := rfl
    by_cases c : outT (toN l) 0 > (mostF (outT (toN l)) 0).1
    · rw [if_pos c]
    · rw [if_neg c, e1]; omega
  unfold slices_Max_int_int.f
  rw [if_neg (by omega), if_pos (by omega), e0]
  exact max_loop l hp (per l - 1) k 1 (by omega) (by omega)
theorem idx_tr (l : List S38) (hp : per l ≤ 100000) (m f : Nat) (hf : f < per l) (hm : outT (toN l) f = m) (hlt : ∀ i < f, outT (toN l) i < m) (d : Nat) : ∀ (k i : Nat), i + d = f → d + 1 < k → slices_Index_int_int.l0 k (trL l) (m : Int) ((trL l).length : Int) (i : Int) = some (f : Int) := by
  have hlen := tr_len l
  induction d with
  | zero =>
    intro k i h hk
    obtain ⟨k, rfl⟩ := fuel0 (show 0 < k by omega)
    obtain rfl : i = f := by omega
    simp only [slices_Index_int_int.l0]
    rw [if_pos (by omega), if_pos (by omega), if_pos (by omega), tr_at l i (by omega), if_pos (by omega)]
  | succ d ih =>
    intro k i h hk
    obtain ⟨k, rfl⟩ := fuel0 (show 0 < k by omega)
    have := hlt i (by omega)
    simp only [slices_Index_int_int.l0]
    rw [if_pos (by omega), if_pos (by omega), if_pos (by omega), tr_at l i (by omega), if_neg (by omega), w_up (by omega)]
    exact ih k (i + 1) (by omega) (by omega)
theorem smost_loop (l : List S38) (hl : Pa l) (hp : per l ≤ 100000) (d : Nat) : ∀ (k t : Nat), t + d = per l → d + 2000 < k → spec_MostAtOnce.l0 k l ((mostF (outT (toN l)) t).1 : Int) ((mostF (outT (toN l)) t).2 : Int) (t : Int) = some (((mostF (outT (toN l)) (per l)).1 : Int), ((mostF (outT (toN l)) (per l)).2 : Int), true) := by
  induction d with
  | zero =>
    intro k t h hk
    obtain ⟨k, rfl⟩ := fuel0 (show 0 < k by omega)
    simp only [spec_MostAtOnce.l0]
    rw [(per_ok l hl k (by omega)).2, Option.bind_some, if_neg (by omega), show t = per l by omega]
  | succ d ih =>
    intro k t h hk
    obtain ⟨k, rfl⟩ := fuel0 (show 0 < k by omega)
    have := ih k (t + 1) (by omega) (by omega)
    rw [mostF] at this
    simp only [spec_MostAtOnce.l0]
    rw [(per_ok l hl k (by omega)).2, Option.bind_some, if_pos (by omega), (at_ok l hl t k (by omega)).2, Option.bind_some, atN_len, w_up (by omega)]
    by_cases c : outT (toN l) t > (mostF (outT (toN l)) t).1
    · rw [if_pos (by omega)]
      rw [if_pos c] at this
      exact this
    · rw [if_neg (by omega)]
      rw [if_neg c] at this
      exact this
theorem most_pos (l : List S38) (hl : Pa l) : 0 < (mostF (outT (toN l)) (per l)).1 := by
  have h6 := hl.len
  have h0 : 0 < l.length := by omega
  obtain ⟨a1, a2, a3, a4, a5⟩ := pa_at hl 0 h0
  have hd := per_dvd l 0 h0
  have hp := per_size hl
  have hle := Nat.le_of_dvd (by omega) hd
  have h1 := most_ge (outT (toN l)) (per l) (pN l[0]).2 (by omega)
  have h2 := outT_pos (toN l) (pN l[0]).2 (pN l[0]) (List.mem_map.2 ⟨l[0], List.getElem_mem h0, rfl⟩) (Nat.mod_eq_of_lt a5)
  omega
def moR (l : List S38) : Int × Int × Bool := if short l = true then (((mostF (outT (toN l)) (per l)).1 : Int), ((mostF (outT (toN l)) (per l)).2 : Int), true) else (0, 0, false)
theorem v_most (l : List S38) (k : Nat) (hk : 2000000 < k) : impl_MostAtOnce.f k l = some (moR l) ∧ spec_MostAtOnce.f k l = some (moR l) := by
  unfold impl_MostAtOnce.f spec_MostAtOnce.f
  rw [v_traced l k (by omega), v_short l k (by omega), Option.bind_some, Option.bind_some]
  by_cases hs : short l = true
  · have e : moR l = (((mostF (outT (toN l)) (per l)).1 : Int), ((mostF (outT (toN l)) (per l)).2 : Int), true) := by unfold moR; rw [if_pos hs]
    obtain ⟨hg, hp⟩ := (short_iff l).1 hs
    have hl := pa_of l hg
    have h1 := per_size hl
    obtain ⟨m1, m2, m3⟩ := most_at (outT (toN l)) (per l) (most_pos l hl)
    rw [if_pos hs, if_pos hs, e]
    constructor
    · dsimp only
      rw [if_pos rfl, max_tr l h1.1 hp k (by omega), Option.bind_some]
      unfold slices_Index_int_int.f
      have := idx_tr l hp _ _ m1 m2 m3 (mostF (outT (toN l)) (per l)).2 k 0 (by omega) (by omega)
      rw [show ((0 : Nat) : Int) = 0 from rfl] at this
      rw [this, Option.bind_some]
    · have := smost_loop l hl hp (per l) k 0 (by omega) (by omega)
      exact this
  · have e : moR l = (0, 0, false) := by unfold moR; rw [if_neg hs]
    rw [if_neg hs, if_neg hs, e]
    exact ⟨rfl, rfl⟩
/-! ### the longest silence -/
def silF (o : Nat → Nat) : Nat → Nat × Nat
  | 0 => (0, 0)
  | t + 1 => if o t > 0 then ((silF o t).1, 0) else (max (silF o t).1 ((silF o t).2 + 1), (silF o t).2 + 1)
theorem sil_le (o : Nat → Nat) : ∀ t, (silF o t).1 ≤ t ∧ (silF o t).2 ≤ t
  | 0 => ⟨Nat.le_refl _, Nat.le_refl _⟩
  | t + 1 => by
    have := sil_le o t
    unfold silF
    split
    · exact ⟨by show (silF o t).1 ≤ t + 1; omega, Nat.zero_le _⟩
    · exact ⟨by show max (silF o t).1 ((silF o t).2 + 1) ≤ t + 1; omega, by show (silF o t).2 + 1 ≤ t + 1; omega⟩
/-- Where somebody steps at a time, nobody steps for less than from it on. -/
theorem sil_now (o : Nat → Nat) (t0 : Nat) (h : 0 < o t0) : ∀ t, t0 < t → (silF o t).2 + t0 < t
  | t + 1, ht => by
    unfold silF
    by_cases c : o t > 0
    · rw [if_pos c]; show 0 + t0 < t + 1; omega
    · rw [if_neg c]
      have : t0 < t := by
        rcases Nat.lt_or_eq_of_le (Nat.le_of_lt_succ ht) with q | q
        · exact q
        · subst q; exact absurd h c
      have := sil_now o t0 h t this
      show (silF o t).2 + 1 + t0 < t + 1
      omega
theorem sil_short (o : Nat → Nat) (P t0 : Nat) (h0 : t0 < P) (h : 0 < o t0) (h2 : 0 < o (P + t0)) : ∀ t, t ≤ 2 * P → (silF o t).1 < P ∧ (silF o t).2 < P
  | 0, _ => by show 0 < P ∧ 0 < P; omega
  | t + 1, ht => by
    have ih := sil_short o P t0 h0 h h2 t (by omega)
    have hn : (silF o (t + 1)).2 < P := by
      by_cases c1 : P + t0 < t + 1
      · have := sil_now o (P + t0) h2 (t + 1) c1; omega
      · by_cases c2 : t0 < t + 1
        · have := sil_now o t0 h (t + 1) c2; omega
        · have := (sil_le o (t + 1)).2; omega
    refine ⟨?_, hn⟩
    unfold silF at hn ⊢
    by_cases c : o t > 0
    · rw [if_pos c]; exact ih.1
    · rw [if_neg c] at hn ⊢
      have hn2 : (silF o t).2 + 1 < P := hn
      show max (silF o t).1 ((silF o t).2 + 1) < P
      omega
theorem dbl_len (l : List S38) : (trL l ++ trL l).length = 2 * per l := by rw [List.length_append, tr_len]; omega
theorem dbl_at (l : List S38) (i : Nat) (h : i < 2 * per l) : rd (trL l ++ trL l) (i : Int) = (outT (toN l) i : Int) := by
  have hlen := tr_len l
  have hdv : ∀ p ∈ toN l, p.1 ∣ per l := fun p hp => lcms_each (toN l) 1 p hp
  by_cases c : i < per l
  · have e := tr_at l i c
    unfold rd at e ⊢
    rw [Int.toNat_natCast] at e ⊢
    rw [List.getD_eq_getElem?_getD, List.getElem?_append_left (by omega), ← List.getD_eq_getElem?_getD, e]
  · have e := tr_at l (i - per l) (by omega)
    have ep := outT_per (toN l) (per l) (i - per l) hdv
    rw [show per l + (i - per l) = i by omega] at ep
    rw [ep, ← e]
    unfold rd
    rw [Int.toNat_natCast, Int.toNat_natCast, List.getD_eq_getElem?_getD, List.getElem?_append_right (by omega), hlen, ← List.getD_eq_getElem?_getD]
theorem isil_loop (l : List S38) (hp : per l ≤ 100000) (d : Nat) : ∀ (k t : Nat), t + d = 2 * per l → d < k → impl_LongestSilence.l0 k ((silF (outT (toN l)) t).1 : Int) ((silF (outT (toN l)) t).2 : Int) (trL l ++ trL l) ((trL l ++ trL l).length : Int) (t : Int) = some (((silF (outT (toN l)) (2 * per l)).1 : Int), true) := by
  have hlen := dbl_len l
  induction d with
  | zero =>
    intro k t h hk
    obtain ⟨k, rfl⟩ := fuel0 (show 0 < k by omega)
    simp only [impl_LongestSilence.l0]
    rw [if_neg (by omega), show t = 2 * per l by omega]
  | succ d ih =>
    intro k t h hk
    obtain ⟨k, rfl⟩ := fuel0 (show 0 < k by omega)
    have hs := sil_le (outT (toN l)) t
    have := ih k (t + 1) (by omega) (by omega)
    rw [silF] at this
    simp only [impl_LongestSilence.l0]
    rw [if_pos (by omega), if_pos (by omega), if_pos (by omega), dbl_at l t (by omega), w_up (by omega)]
    by_cases c : outT (toN l) t > 0
    · rw [if_pos c] at this
      have e : mx ((silF (outT (toN l)) t).1 : Int) 0 = ((silF (outT (toN l)) t).1 : Int) := by unfold mx; rw [if_neg (by omega)]
      rw [if_pos (by omega), e]
      exact this
    · rw [if_neg c] at this
      have e : mx ((silF (outT (toN l)) t).1 : Int) (((silF (outT (toN l)) t).2 + 1 : Nat) : Int) = ((max (silF (outT (toN l)) t).1 ((silF (outT (toN l)) t).2 + 1) : Nat) : Int) := by
        unfold mx
        split <;> omega
      rw [if_neg (by omega), w_up (by omega), e]
      exact this
theorem ssil_loop (l : List S38) (hl : Pa l) (hp : per l ≤ 100000) (d : Nat) : ∀ (k t : Nat), t + d = 2 * per l → d + 2000 < k → spec_LongestSilence.l0 k l ((silF (outT (toN l)) t).1 : Int) ((silF (outT (toN l)) t).2 : Int) (t : Int) = some (((silF (outT (toN l)) (2 * per l)).1 : Int), true) := by
  have e2 : wrap64 (2 * (per l : Int)) = ((2 * per l : Nat) : Int) := by rw [w_in (by omega) (by omega)]; omega
  induction d with
  | zero =>
    intro k t h hk
    obtain ⟨k, rfl⟩ := fuel0 (show 0 < k by omega)
    simp only [spec_LongestSilence.l0]
    rw [(per_ok l hl k (by omega)).2, Option.bind_some, e2, if_neg (by omega), show t = 2 * per l by omega]
  | succ d ih =>
    intro k t h hk
    obtain ⟨k, rfl⟩ := fuel0 (show 0 < k by omega)
    have hs := sil_le (outT (toN l)) t
    have := ih k (t + 1) (by omega) (by omega)
    rw [silF] at this
    simp only [spec_LongestSilence.l0]
    rw [(per_ok l hl k (by omega)).2, Option.bind_some, e2, if_pos (by omega), (at_ok l hl t k (by omega)).2, Option.bind_some, atN_len, w_up (by omega)]
    by_cases c : outT (toN l) t > 0
    · rw [if_pos c] at this
      rw [if_pos (by omega)]
      exact this
    · rw [if_neg c] at this
      have e : spec_l1Most.f ((silF (outT (toN l)) t).1 : Int) (((silF (outT (toN l)) t).2 + 1 : Nat) : Int) = some ((max (silF (outT (toN l)) t).1 ((silF (outT (toN l)) t).2 + 1) : Nat) : Int) := by
        unfold spec_l1Most.f
        split
        · congr 1; omega
        · congr 1; omega
      rw [if_neg (by omega), w_up (by omega), e, Option.bind_some]
      exact this
theorem cat2 (x : List Int) (hx : x.length ≤ 100000) (k : Nat) (hk : 10 < k) : slices_Concat_int_int.f k [x, x] = some (x ++ x) := by
  obtain ⟨k, rfl⟩ : ∃ q, k = q + 1 + 1 + 1 + 1 + 1 + 1 := ⟨k - 6, by omega⟩
  have r0 : rd_L2 [x, x] 0 = x := rfl
  have r1 : rd_L2 [x, x] 1 = x := rfl
  have w1 : wrap64 (0 + 1) = 1 := by unfold wrap64; omega
  have w2 : wrap64 (1 + 1) = 2 := by unfold wrap64; omega
  have hl2 : (([x, x] : List (List Int)).length : Int) = 2 := rfl
  have wa : wrap64 (0 + (x.length : Int)) = (x.length : Int) := by rw [w_in (by omega) (by omega)]; omega
  have wb : wrap64 ((x.length : Int) + (x.length : Int)) = ((x.length + x.length : Nat) : Int) := by rw [w_in (by omega) (by omega)]; omega
  have g : slices_Grow_int_int.f ([] : List Int) ((x.length + x.length : Nat) : Int) = some [] := by
    unfold slices_Grow_int_int.f
    rw [if_pos ⟨rfl, by omega, by omega⟩]
  unfold slices_Concat_int_int.f
  show slices_Concat_int_int.l0 (k + 1 + 1 + 1 + 1 + 1 + 1) [x, x] 0 [x, x] 2 0 = _
  simp only [slices_Concat_int_int.l0, slices_Concat_int_int.l1, hl2]
  rw [if_pos (by decide), if_pos (by decide), if_pos (by decide), r0, wa, if_neg (by omega), w1, if_pos (by decide), if_pos (by decide), if_pos (by decide), r1, wb, if_neg (by omega), w2, if_neg (by decide), g, Option.bind_some]
  rw [if_pos (by decide), if_pos (by decide), if_pos (by decide), if_pos (by simp; omega), if_pos (by decide), if_pos (by decide), if_pos (by decide), if_pos (by simp; omega), if_neg (by decide), List.nil_append]
def siR (l : List S38) : Int × Bool := if short l = true then (((silF (outT (toN l)) (2 * per l)).1 : Int), true) else (0, false)
theorem v_silence (l : List S38) (k : Nat) (hk : 2000000 < k) : impl_LongestSilence.f k l = some (siR l) ∧ spec_LongestSilence.f k l = some (siR l) := by
  unfold impl_LongestSilence.f spec_LongestSilence.f
  rw [v_traced l k (by omega), v_short l k (by omega), Option.bind_some, Option.bind_some]
  by_cases hs : short l = true
  · have e : siR l = (((silF (outT (toN l)) (2 * per l)).1 : Int), true) := by unfold siR; rw [if_pos hs]
    obtain ⟨hg, hp⟩ := (short_iff l).1 hs
    have hl := pa_of l hg
    rw [if_pos hs, if_pos hs, e]
    constructor
    · dsimp only
      rw [if_pos rfl, cat2 (trL l) (by rw [tr_len]; exact hp) k (by omega)]
      exact isil_loop l hp (2 * per l) k 0 (by omega) (by omega)
    · exact ssil_loop l hl hp (2 * per l) k 0 (by omega) (by omega)
  · have e : siR l = (0, false) := by unfold siR; rw [if_neg hs]
    rw [if_neg hs, if_neg hs, e]
    exact ⟨rfl, rfl⟩
/-! ### at how many times just so many step -/
def cntF (o : Nat → Nat) (a : Int) : Nat → Nat
  | 0 => 0
  | t + 1 => cntF o a t + if (o t : Int) = a then 1 else 0
theorem cntF_le (o : Nat → Nat) (a : Int) : ∀ t, cntF o a t ≤ t
  | 0 => Nat.le_refl _
  | t + 1 => by have := cntF_le o a t; unfold cntF; split <;> omega
theorem icnt_loop (l : List S38) (hp : per l ≤ 100000) (a : Int) (d : Nat) : ∀ (k t : Nat), t + d = per l → d < k → impl_CountAtOnce.l0 k a (cntF (outT (toN l)) a t : Int) (trL l) ((trL l).length : Int) (t : Int) = some ((cntF (outT (toN l)) a (per l) : Int), true) := by
  have hlen := tr_len l
  induction d with
  | zero =>
    intro k t h hk
    obtain ⟨k, rfl⟩ := fuel0 (show 0 < k by omega)
    simp only [impl_CountAtOnce.l0]
    rw [if_neg (by omega), show t = per l by omega]
  | succ d ih =>
    intro k t h hk
    obtain ⟨k, rfl⟩ := fuel0 (show 0 < k by omega)
    have hle := cntF_le (outT (toN l)) a t
    have := ih k (t + 1) (by omega) (by omega)
    rw [cntF] at this
    simp only [impl_CountAtOnce.l0]
    rw [if_pos (by omega), if_pos (by omega), if_pos (by omega), tr_at l t (by omega), w_up (n := t) (by omega)]
    by_cases c : (outT (toN l) t : Int) = a
    · rw [if_pos c] at this
      rw [if_pos c, w_up (by omega)]
      exact this
    · rw [if_neg c] at this
      rw [if_neg c]
      exact this
theorem scnt_loop (l : List S38) (hl : Pa l) (hp : per l ≤ 100000) (a : Int) (d : Nat) : ∀ (k t : Nat), t + d = per l → d + 2000 < k → spec_CountAtOnce.l0 k l a (cntF (outT (toN l)) a t : Int) (t : Int) = some ((cntF (outT (toN l)) a (per l) : Int), true) := by
  induction d with
  | zero =>
    intro k t h hk
    obtain ⟨k, rfl⟩ := fuel0 (show 0 < k by omega)
    simp only [spec_CountAtOnce.l0]
    rw [(per_ok l hl k (by omega)).2, Option.bind_some, if_neg (by omega), show t = per l by omega]
  | succ d ih =>
    intro k t h hk
    obtain ⟨k, rfl⟩ := fuel0 (show 0 < k by omega)
    have hle := cntF_le (outT (toN l)) a t
    have := ih k (t + 1) (by omega) (by omega)
    rw [cntF] at this
    simp only [spec_CountAtOnce.l0]
    rw [(per_ok l hl k (by omega)).2, Option.bind_some, if_pos (by omega), (at_ok l hl t k (by omega)).2, Option.bind_some, atN_len, w_up (n := t) (by omega)]
    by_cases c : (outT (toN l) t : Int) = a
    · rw [if_pos c] at this
      rw [if_pos c, w_up (by omega)]
      exact this
    · rw [if_neg c] at this
      rw [if_neg c]
      exact this
def caR (l : List S38) (a : Int) : Int × Bool := if short l = true ∧ (0 ≤ a ∧ a ≤ (l.length : Int)) then ((cntF (outT (toN l)) a (per l) : Int), true) else (0, false)
theorem v_count (l : List S38) (a : Int) (k : Nat) (hk : 2000000 < k) : impl_CountAtOnce.f k l a = some (caR l a) ∧ spec_CountAtOnce.f k l a = some (caR l a) := by
  have hI : ∀ x, impl_CountAtOnce.j0 k a x true = some (0, false) := by
    intro x
    obtain ⟨k, rfl⟩ := fuel0 (show 0 < k by omega)
    simp only [impl_CountAtOnce.j0]
    rw [if_pos trivial]
  have hS : spec_CountAtOnce.j0 k l a true = some (0, false) := by
    obtain ⟨k, rfl⟩ := fuel0 (show 0 < k by omega)
    simp only [spec_CountAtOnce.j0]
    rw [if_pos trivial]
  unfold impl_CountAtOnce.f spec_CountAtOnce.f
  rw [v_traced l k (by omega), v_short l k (by omega), Option.bind_some, Option.bind_some]
  by_cases hs : short l = true
  · obtain ⟨hg, hp⟩ := (short_iff l).1 hs
    have hl := pa_of l hg
    rw [if_pos hs, if_pos hs]
    dsimp only
    rw [if_pos rfl, in_eq, l1_eq, Option.bind_some, Option.bind_some]
    by_cases h : 0 ≤ a ∧ a ≤ (l.length : Int)
    · have e : caR l a = ((cntF (outT (toN l)) a (per l) : Int), true) := by unfold caR; rw [if_pos ⟨hs, h⟩]
      rw [decide_eq_true h, e]
      obtain ⟨k, rfl⟩ := fuel0 (show 0 < k by omega)
      simp only [impl_CountAtOnce.j0, spec_CountAtOnce.j0]
      rw [if_neg (by decide), if_neg (by decide)]
      exact ⟨icnt_loop l hp a (per l) k 0 (by omega) (by omega), scnt_loop l hl hp a (per l) k 0 (by omega) (by omega)⟩
    · have e : caR l a = (0, false) := by unfold caR; rw [if_neg (fun q => h q.2)]
      rw [decide_eq_false h, e]
      exact ⟨hI _, hS⟩
  · have e : caR l a = (0, false) := by unfold caR; rw [if_neg (fun q => hs q.1)]
    rw [if_neg hs, if_neg hs, e]
    dsimp only
    rw [if_neg Bool.false_ne_true]
    exact ⟨hI _, hS⟩
/-- All times of a period are counted at one number each. -/
def sumC (o : Nat → Nat) (P : Nat) : Nat → Nat
  | 0 => 0
  | j + 1 => sumC o P j + cntF o (j : Int) P
def sumK (o : Nat → Nat) (P : Nat) : Nat → Nat
  | 0 => 0
  | j + 1 => sumK o P j + j * cntF o (j : Int) P
def sumO (o : Nat → Nat) : Nat → Nat
  | 0 => 0
  | t + 1 => sumO o t + o t
def lowT (o : Nat → Nat) (m : Nat) : Nat → Nat × Nat
  | 0 => (0, 0)
  | t + 1 => if o t < m then ((lowT o m t).1 + 1, (lowT o m t).2 + o t) else lowT o m t
theorem low_step (o : Nat → Nat) (m : Nat) : ∀ P, lowT o (m + 1) P = ((lowT o m P).1 + cntF o (m : Int) P, (lowT o m P).2 + m * cntF o (m : Int) P)
  | 0 => rfl
  | t + 1 => by
    have ih := low_step o m t
    simp only [lowT, cntF]
    by_cases c : o t < m
    · rw [if_pos (by omega), if_pos c, if_neg (by omega), ih]
      simp only [Nat.add_zero, Prod.mk.injEq]
      constructor <;> omega
    · by_cases c2 : o t = m
      · rw [if_pos (by omega), if_neg c, if_pos (by omega), ih, c2, Nat.mul_add]
        simp only [Prod.mk.injEq]
        constructor <;> omega
      · rw [if_neg (by omega), if_neg c, if_neg (by omega), ih]
        simp only [Nat.add_zero]
theorem low_sum (o : Nat → Nat) (P : Nat) : ∀ m, lowT o m P = (sumC o P m, sumK o P m)
  | 0 => by
    have : ∀ t, lowT o 0 t = (0, 0) := by
      intro t
      induction t with
      | zero => rfl
      | succ t ih => unfold lowT; rw [if_neg (by omega), ih]
    exact this P
  | m + 1 => by rw [low_step, low_sum o P m]; rfl
theorem low_all (o : Nat → Nat) (m : Nat) (h : ∀ i, o i < m) : ∀ P, lowT o m P = (P, sumO o P)
  | 0 => rfl
  | t + 1 => by unfold lowT; rw [if_pos (h t), low_all o m h t]; rfl
theorem sums (o : Nat → Nat) (P m : Nat) (h : ∀ i, o i < m) : sumC o P m = P ∧ sumK o P m = sumO o P := by
  have := (low_sum o P m).symm.trans (low_all o m h P)
  exact ⟨congrArg Prod.fst this, congrArg Prod.snd this⟩
theorem cntF_zero (o : Nat → Nat) (a : Int) : ∀ P, (∀ i < P, ¬ (o i : Int) = a) → cntF o a P = 0
  | 0, _ => rfl
  | t + 1, h => by unfold cntF; rw [if_neg (h t (by omega)), cntF_zero o a t (fun i hi => h i (by omega))]
theorem cntF_pos (o : Nat → Nat) (a : Int) : ∀ P i, i < P → (o i : Int) = a → 1 ≤ cntF o a P
  | t + 1, i, h, e => by
    unfold cntF
    by_cases c : i = t
    · subst c; rw [if_pos e]; omega
    · have := cntF_pos o a t i (by omega) e; omega
theorem sumC_le (o : Nat → Nat) (P : Nat) : ∀ m, sumC o P m ≤ P * m
  | 0 => Nat.zero_le _
  | m + 1 => by have := sumC_le o P m; have := cntF_le o (m : Int) P; rw [Nat.mul_succ]; unfold sumC; omega
theorem sumK_le (o : Nat → Nat) (P : Nat) : ∀ m, sumK o P m ≤ P * m * m
  | 0 => Nat.zero_le _
  | m + 1 => by
    have h1 := sumK_le o P m
    have h2 := cntF_le o (m : Int) P
    have h3 : m * cntF o (m : Int) P ≤ m * P := Nat.mul_le_mul_left m h2
    have h4 : P * (m + 1) * (m + 1) = P * m * m + P * m + (P * m + P) := by rw [Nat.mul_succ P m, Nat.mul_succ, Nat.add_mul]
    have h5 : m * P = P * m := Nat.mul_comm _ _
    unfold sumK
    omega
/-! ### steps in a span -/
def unN : List (Nat × Nat) → Nat → Nat
  | [], _ => 0
  | p :: ps, T => (if T > p.2 then (T - p.2 - 1) / p.1 + 1 else 0) + unN ps T
theorem un_succ (e f T : Nat) (he : 1 ≤ e) (hf : f < e) : (if T + 1 > f then (T + 1 - f - 1) / e + 1 else 0) = (if T > f then (T - f - 1) / e + 1 else 0) + if T % e = f then 1 else 0 := by
  by_cases c : T > f
  · rw [if_pos (by omega), if_pos c]
    obtain ⟨D, hD⟩ : ∃ D, D = T - f - 1 := ⟨_, rfl⟩
    have e1 : T = D + 1 + f := by omega
    have hm : e ∣ D + 1 ↔ T % e = f := by
      constructor
      · rintro ⟨q, hq⟩
        rw [e1, hq, Nat.mul_add_mod, Nat.mod_eq_of_lt hf]
      · intro h
        have h2 := Nat.div_add_mod T e
        rw [h] at h2
        exact ⟨T / e, by omega⟩
    rw [show T + 1 - f - 1 = D + 1 by omega, ← hD, Nat.succ_div]
    by_cases d : e ∣ D + 1
    · rw [if_pos d, if_pos (hm.1 d)]
    · rw [if_neg d, if_neg (fun q => d (hm.2 q))]
  · rw [if_neg c]
    by_cases c2 : T = f
    · subst c2
      rw [if_pos (by omega), if_pos (Nat.mod_eq_of_lt hf), show T + 1 - T - 1 = 0 by omega, Nat.zero_div]
    · rw [if_neg (by omega), if_neg (by rw [Nat.mod_eq_of_lt (by omega)]; exact c2)]
theorem unN_succ : ∀ (ps : List (Nat × Nat)) (T : Nat), GP ps → unN ps (T + 1) = unN ps T + outT ps T
  | [], _, _ => rfl
  | p :: ps, T, h => by
    have h0 := h p List.mem_cons_self
    have ih := unN_succ ps T (fun q hq => h q (List.mem_cons_of_mem _ hq))
    simp only [unN]
    rw [ih, un_succ p.1 p.2 T h0.1 h0.2, outT_cons]
    omega
theorem unN_zero : ∀ ps : List (Nat × Nat), unN ps 0 = 0
  | [] => rfl
  | p :: ps => by simp only [unN]; rw [if_neg (by omega), unN_zero ps]
theorem unN_sum (ps : List (Nat × Nat)) (h : GP ps) : ∀ T, unN ps T = sumO (outT ps) T
  | 0 => unN_zero ps
  | T + 1 => by rw [unN_succ ps T h, unN_sum ps h T]; rfl
theorem unN_le : ∀ (ps : List (Nat × Nat)) (T : Nat), unN ps T ≤ ps.length * (T + 1)
  | [], _ => Nat.zero_le _
  | p :: ps, T => by
    have := unN_le ps T
    have h1 := Nat.div_le_self (T - p.2 - 1) p.1
    simp only [unN, List.length_cons]
    rw [Nat.succ_mul]
    split <;> omega
theorem un_bound (x y i T : Nat) (hx : x ≤ 1000000001 * i) (hy : y ≤ T) (hT : T ≤ 1000000000) : x + (y + 1) ≤ 1000000001 * (i + 1) := by omega
theorem un_bound0 (x i : Nat) (hx : x ≤ 1000000001 * i) : x ≤ 1000000001 * (i + 1) := by omega
theorem un_loop (l : List S38) (hl : Pa l) (T : Nat) (hT : T ≤ 1000000000) (d : Nat) : ∀ (k i x : Nat), i + d = l.length → x ≤ 1000000001 * i → d < k → impl_until.l0 k (T : Int) (x : Int) l (l.length : Int) (i : Int) = some ((x + unN ((toN l).drop i) T : Nat) : Int) := by
  have h6 := hl.len
  induction d with
  | zero =>
    intro k i x h hx hk
    obtain ⟨k, rfl⟩ := fuel0 (show 0 < k by omega)
    simp only [impl_until.l0]
    rw [if_neg (by omega), List.drop_eq_nil_of_le (by rw [toN_len]; omega)]
    rfl
  | succ d ih =>
    intro k i x h hx hk
    obtain ⟨k, rfl⟩ := fuel0 (show 0 < k by omega)
    have hi : i < l.length := by omega
    obtain ⟨a1, a2, a3, a4, a5⟩ := pa_at hl i hi
    simp only [impl_until.l0]
    rw [if_pos (by omega), if_pos (by omega), if_pos (by omega), rt_at l i hi, a1, a2, toN_drop l i hi, w_up (by omega)]
    simp only [unN]
    by_cases c : T > (pN l[i]).2
    · have hd := Nat.div_le_self (T - (pN l[i]).2 - 1) (pN l[i]).1
      have e1 : wrap64 (wrap64 ((T : Int) - ((pN l[i]).2 : Int)) - 1) = ((T - (pN l[i]).2 - 1 : Nat) : Int) := by rw [w_in (x := (T : Int) - ((pN l[i]).2 : Int)) (by omega) (by omega), w_in (by omega) (by omega)]; omega
      rw [if_pos (by omega), if_neg (by omega), if_pos c, e1, tdiv_nat]
      have hdT : (T - (pN l[i]).2 - 1) / (pN l[i]).1 ≤ T := Nat.le_trans hd (Nat.le_trans (Nat.sub_le _ _) (Nat.sub_le _ _))
      generalize (T - (pN l[i]).2 - 1) / (pN l[i]).1 = y at *
      have hyT := hdT
      have e2 : wrap64 ((x : Int) + wrap64 (wrap64 ((y : Nat) : Int) + 1)) = ((x + (y + 1) : Nat) : Int) := by rw [w_in (x := (y : Int)) (by omega) (by omega), w_up (by omega), w_in (by omega) (by omega)]; omega
      rw [e2, ih k (i + 1) (x + (y + 1)) (by omega) (un_bound x y i T hx hyT hT) (by omega), Nat.add_assoc x]
    · rw [if_neg (by omega), if_neg c, ih k (i + 1) x (by omega) (un_bound0 x i hx) (by omega), Nat.zero_add]
theorem un_ok (l : List S38) (hl : Pa l) (T : Nat) (hT : T ≤ 1000000000) (k : Nat) (hk : 10 < k) : impl_until.f k l (T : Int) = some ((unN (toN l) T : Nat) : Int) := by
  have h6 := hl.len
  have := un_loop l hl T hT l.length k 0 0 (by omega) (by omega) (by omega)
  rw [List.drop_zero, Nat.zero_add] at this
  exact this
theorem time_ok (a : Int) (h : 0 ≤ a ∧ a ≤ 1000000000) : impl_isTime.f a = some true := by
  unfold impl_isTime.f
  rw [in_eq, decide_eq_true h]
  rfl
/-- The steps of the first T times. -/
theorem steps_from0 (l : List S38) (hg : goodP l = true) (T : Nat) (hT : T ≤ 1000000000) (k : Nat) (hk : 1000 < k) : impl_StepsIn.f k l 0 (T : Int) = some ((unN (toN l) T : Int), true) := by
  have hl := pa_of l hg
  have h6 := hl.len
  have hle := unN_le (toN l) T
  have hle2 : (toN l).length * (T + 1) ≤ 6 * (T + 1) := Nat.mul_le_mul_right _ (by rw [toN_len]; exact h6.2)
  have q1 := time_ok 0 ⟨by omega, by omega⟩
  have q2 := time_ok (T : Int) ⟨by omega, by omega⟩
  unfold impl_StepsIn.f
  rw [agood_ok l k (by omega), Option.bind_some, if_pos hg, q1, Option.bind_some, if_pos rfl, q2, Option.bind_some, if_pos rfl, decide_eq_false (by omega)]
  obtain ⟨k, rfl⟩ := fuel0 (show 0 < k by omega)
  simp only [impl_StepsIn.j0]
  have h0 := un_ok l hl 0 (by omega) k (by omega)
  rw [unN_zero, show ((0 : Nat) : Int) = 0 from rfl] at h0
  rw [if_neg Bool.false_ne_true, un_ok l hl T hT k (by omega), Option.bind_some, h0, Option.bind_some, w_in (by omega) (by omega)]
  simp
/-! ### pairs that never meet -/
def nevI (p : Nat × Nat) (i : Nat) : List (Nat × Nat) → Nat → List (List Int)
  | [], _ => []
  | q :: qs, k => if ((Nat.gcd p.1 q.1 : Nat) : Int) ∣ (p.2 : Int) - (q.2 : Int) then nevI p i qs (k + 1) else [(i : Int), (k : Int)] :: nevI p i qs (k + 1)
def nevO : List (Nat × Nat) → Nat → List (List Int)
  | [], _ => []
  | p :: ps, i => nevI p i ps (i + 1) ++ nevO ps (i + 1)
theorem nevI_len (p : Nat × Nat) (i : Nat) : ∀ (qs : List (Nat × Nat)) (k : Nat), (nevI p i qs k).length ≤ qs.length
  | [], _ => Nat.le_refl _
  | q :: qs, k => by
    have := nevI_len p i qs (k + 1)
    unfold nevI
    split
    · simp only [List.length_cons]; omega
    · simp only [List.length_cons]; omega
theorem nev_in (l : List S38) (hl : Pa l) (i : Nat) (hi : i < l.length) (len idx : Int) (R : Option (List (List Int) × Bool)) (B : Nat) (d : Nat) : ∀ (k j : Nat) (x : List (List Int)), j + d = l.length → x.length + d ≤ 1000 →
    (∀ k, B < k → impl_NeverTogether.l0 k l (x ++ nevI (pN l[i]) i ((toN l).drop j) j) l len (wrap64 (idx + 1)) = R ∧ spec_NeverTogether.l0 k l (x ++ nevI (pN l[i]) i ((toN l).drop j) j) l len (wrap64 (idx + 1)) = R) → B + d + 200 < k →
    impl_NeverTogether.l1 k l x (i : Int) (j : Int) l len idx l[i].f0 l[i].f1 = R ∧ spec_NeverTogether.l1 k l x (i : Int) (j : Int) l len idx l[i].f0 l[i].f1 = R := by
  have h6 := hl.len
  obtain ⟨a1, a2, a3, a4, a5⟩ := pa_at hl i hi
  induction d with
  | zero =>
    intro k j x h hx hR hk
    obtain ⟨k, rfl⟩ := fuel0 (show 0 < k by omega)
    simp only [impl_NeverTogether.l1, spec_NeverTogether.l1]
    rw [if_neg (by omega), if_neg (by omega)]
    have := hR k (by omega)
    rw [List.drop_eq_nil_of_le (by rw [toN_len]; omega)] at this
    simp only [nevI, List.append_nil] at this
    exact this
  | succ d ih =>
    intro k j x h hx hR hk
    obtain ⟨k, rfl⟩ := fuel0 (show 0 < k by omega)
    have hj : j < l.length := by omega
    obtain ⟨b1, b2, b3, b4, b5⟩ := pa_at hl j hj
    rw [toN_drop l j hj] at hR
    simp only [nevI] at hR
    have hg : 0 < Nat.gcd (pN l[i]).1 (pN l[j]).1 := Nat.gcd_pos_of_pos_left _ (by omega)
    have ew : wrap64 (((pN l[i]).2 : Int) - ((pN l[j]).2 : Int)) = ((pN l[i]).2 : Int) - ((pN l[j]).2 : Int) := w_in (by omega) (by omega)
    have et : (Int.tmod (((pN l[i]).2 : Int) - ((pN l[j]).2 : Int)) ((Nat.gcd (pN l[i]).1 (pN l[j]).1 : Nat) : Int) = 0) ↔ ((Nat.gcd (pN l[i]).1 (pN l[j]).1 : Nat) : Int) ∣ ((pN l[i]).2 : Int) - ((pN l[j]).2 : Int) := Iff.symm Int.dvd_iff_tmod_eq_zero
    have main : ∀ (y : List (List Int)), y.length + d ≤ 1000 → (∀ k, B < k → impl_NeverTogether.l0 k l (y ++ nevI (pN l[i]) i ((toN l).drop (j + 1)) (j + 1)) l len (wrap64 (idx + 1)) = R ∧ spec_NeverTogether.l0 k l (y ++ nevI (pN l[i]) i ((toN l).drop (j + 1)) (j + 1)) l len (wrap64 (idx + 1)) = R) →
        impl_NeverTogether.l1 k l y (i : Int) ((j + 1 : Nat) : Int) l len idx l[i].f0 l[i].f1 = R ∧ spec_NeverTogether.l1 k l y (i : Int) ((j + 1 : Nat) : Int) l len idx l[i].f0 l[i].f1 = R := fun y hy hh => ih k (j + 1) y (by omega) hy hh (by omega)
    simp only [impl_NeverTogether.l1, spec_NeverTogether.l1]
    by_cases c : ((Nat.gcd (pN l[i]).1 (pN l[j]).1 : Nat) : Int) ∣ ((pN l[i]).2 : Int) - ((pN l[j]).2 : Int)
    · rw [if_pos c] at hR
      obtain ⟨m1, m2⟩ := main x (by omega) hR
      rw [a1, a2] at m1 m2
      constructor
      · rw [if_pos (by omega), if_pos (by omega), rt_at l j hj, a1, a2, b1, b2, gcd_ok _ _ k (by omega), Option.bind_some, if_neg (by omega), ew, if_pos (et.2 c), w_up (by omega)]
        exact m1
      · rw [if_pos (by omega), if_pos (by omega), rt_at l j hj, a1, a2, b1, b2, com_ok _ _ k (by omega), Option.bind_some, if_neg (by omega), ew, if_pos (et.2 c), w_up (by omega)]
        exact m2
    · rw [if_neg c] at hR
      obtain ⟨m1, m2⟩ := main (x ++ [[(i : Int), (j : Int)]]) (by rw [List.length_append, List.length_singleton]; omega) (fun k hk => by
        have := hR k hk
        rw [List.append_assoc, List.singleton_append]
        exact this)
      rw [a1, a2] at m1 m2
      constructor
      · rw [if_pos (by omega), if_pos (by omega), rt_at l j hj, a1, a2, b1, b2, gcd_ok _ _ k (by omega), Option.bind_some, if_neg (by omega), ew, if_neg (fun q => c (et.1 q)), if_pos (by omega), w_up (by omega)]
        exact m1
      · rw [if_pos (by omega), if_pos (by omega), rt_at l j hj, a1, a2, b1, b2, com_ok _ _ k (by omega), Option.bind_some, if_neg (by omega), ew, if_neg (fun q => c (et.1 q)), if_pos (by omega), w_up (by omega)]
        exact m2
theorem nev_out (l : List S38) (hl : Pa l) (d : Nat) : ∀ (k i : Nat) (x : List (List Int)), i + d = l.length → x.length ≤ 10 * i → 300 * d < k →
    impl_NeverTogether.l0 k l x l (l.length : Int) (i : Int) = some (x ++ nevO ((toN l).drop i) i, true) ∧ spec_NeverTogether.l0 k l x l (l.length : Int) (i : Int) = some (x ++ nevO ((toN l).drop i) i, true) := by
  have h6 := hl.len
  induction d with
  | zero =>
    intro k i x h hx hk
    obtain ⟨k, rfl⟩ := fuel0 (show 0 < k by omega)
    simp only [impl_NeverTogether.l0, spec_NeverTogether.l0]
    rw [if_neg (by omega), if_neg (by omega), List.drop_eq_nil_of_le (by rw [toN_len]; omega)]
    simp [nevO]
  | succ d ih =>
    intro k i x h hx hk
    obtain ⟨k, rfl⟩ := fuel0 (show 0 < k by omega)
    have hi : i < l.length := by omega
    have hn := nevI_len (pN l[i]) i ((toN l).drop (i + 1)) (i + 1)
    rw [List.length_drop, toN_len] at hn
    have := nev_in l hl i hi (l.length : Int) (i : Int) (some (x ++ nevO ((toN l).drop i) i, true)) (300 * d) (d) k (i + 1) x (by omega) (by omega) (fun k hk => by
      rw [w_up (by omega), toN_drop l i hi]
      simp only [nevO]
      rw [← List.append_assoc]
      exact ih k (i + 1) _ (by omega) (by rw [List.length_append]; omega) hk) (by omega)
    simp only [impl_NeverTogether.l0, spec_NeverTogether.l0]
    constructor
    · rw [if_pos (by omega), if_pos (by omega), if_pos (by omega), rt_at l i hi, w_up (by omega)]
      exact this.1
    · rw [if_pos (by omega), if_pos (by omega), if_pos (by omega), rt_at l i hi, w_up (by omega)]
      exact this.2
def neR (l : List S38) : List (List Int) × Bool := if goodP l = true then (nevO (toN l) 0, true) else ([], false)
theorem v_never (l : List S38) (k : Nat) (hk : 3000 < k) : impl_NeverTogether.f k l = some (neR l) ∧ spec_NeverTogether.f k l = some (neR l) := by
  unfold impl_NeverTogether.f spec_NeverTogether.f
  rw [agood_ok l k (by omega), pgood_ok l k (by omega), Option.bind_some, Option.bind_some]
  by_cases hg : goodP l = true
  · have e : neR l = (nevO (toN l) 0, true) := by unfold neR; rw [if_pos hg]
    have hl := pa_of l hg
    have h6 := hl.len
    have := nev_out l hl l.length k 0 [] (by omega) (by simp) (by omega)
    rw [List.drop_zero, List.nil_append] at this
    rw [if_pos hg, if_pos hg, e]
    exact this
  · have e : neR l = ([], false) := by unfold neR; rw [if_neg hg]
    rw [if_neg hg, if_neg hg, e]
    exact ⟨rfl, rfl⟩
/-- One pair of places comes before another. -/
def bef (x y : List Int) : Prop := ∃ a b c d : Int, x = [a, b] ∧ y = [c, d] ∧ (a < c ∨ (a = c ∧ b < d))
theorem nevI_all (p : Nat × Nat) (i : Nat) : ∀ (qs : List (Nat × Nat)) (k : Nat), ∀ x ∈ nevI p i qs k, ∃ j : Nat, ∃ hj : j < qs.length, x = [(i : Int), ((k + j : Nat) : Int)] ∧ ¬ comp p qs[j]
  | [], _, x, h => by simp [nevI] at h
  | q :: qs, k, x, h => by
    have ih := nevI_all p i qs (k + 1)
    unfold nevI at h
    have rest : x ∈ nevI p i qs (k + 1) → ∃ j : Nat, ∃ hj : j < (q :: qs).length, x = [(i : Int), ((k + j : Nat) : Int)] ∧ ¬ comp p (q :: qs)[j] := by
      intro h
      obtain ⟨j, hj, e, hn⟩ := ih x h
      exact ⟨j + 1, by simpa using hj, by rw [e, show k + 1 + j = k + (j + 1) by omega], by simpa using hn⟩
    by_cases c : ((Nat.gcd p.1 q.1 : Nat) : Int) ∣ (p.2 : Int) - (q.2 : Int)
    · rw [if_pos c] at h
      exact rest h
    · rw [if_neg c] at h
      rcases List.mem_cons.1 h with rfl | h
      · exact ⟨0, by simp, rfl, c⟩
      · exact rest h
theorem nevI_bef (p : Nat × Nat) (i : Nat) : ∀ (qs : List (Nat × Nat)) (k : Nat), (nevI p i qs k).Pairwise bef
  | [], _ => by simp [nevI]
  | q :: qs, k => by
    have ih := nevI_bef p i qs (k + 1)
    unfold nevI
    split
    · exact ih
    · refine List.pairwise_cons.2 ⟨fun x hx => ?_, ih⟩
      obtain ⟨j, hj, e, _⟩ := nevI_all p i qs (k + 1) x hx
      exact ⟨_, _, _, _, rfl, e, .inr ⟨rfl, by omega⟩⟩
theorem nevO_all : ∀ (ps : List (Nat × Nat)) (i : Nat), ∀ x ∈ nevO ps i, ∃ a b : Nat, ∃ ha : a < ps.length, ∃ hb : b < ps.length, a < b ∧ x = [((i + a : Nat) : Int), ((i + b : Nat) : Int)] ∧ ¬ comp ps[a] ps[b]
  | [], _, x, h => by simp [nevO] at h
  | p :: ps, i, x, h => by
    unfold nevO at h
    rcases List.mem_append.1 h with h | h
    · obtain ⟨j, hj, e, hn⟩ := nevI_all p i ps (i + 1) x h
      exact ⟨0, j + 1, by simp, by simpa using hj, by omega, by rw [e, show i + 1 + j = i + (j + 1) by omega]; rfl, by simpa using hn⟩
    · obtain ⟨a, b, ha, hb, hab, e, hn⟩ := nevO_all ps (i + 1) x h
      exact ⟨a + 1, b + 1, by simpa using ha, by simpa using hb, by omega, by rw [e, show i + 1 + a = i + (a + 1) by omega, show i + 1 + b = i + (b + 1) by omega], by simpa using hn⟩
theorem nevO_bef : ∀ (ps : List (Nat × Nat)) (i : Nat), (nevO ps i).Pairwise bef
  | [], _ => by simp [nevO]
  | p :: ps, i => by
    unfold nevO
    refine List.pairwise_append.2 ⟨nevI_bef p i ps (i + 1), nevO_bef ps (i + 1), fun x hx y hy => ?_⟩
    obtain ⟨j, _, e, _⟩ := nevI_all p i ps (i + 1) x hx
    obtain ⟨a, b, _, _, _, e2, _⟩ := nevO_all ps (i + 1) y hy
    exact ⟨_, _, _, _, e, e2, .inl (by omega)⟩
theorem nevI_nil (p : Nat × Nat) (i : Nat) : ∀ (qs : List (Nat × Nat)) (k : Nat), nevI p i qs k = [] ↔ ∀ q ∈ qs, comp p q
  | [], _ => by simp [nevI]
  | q :: qs, k => by
    have ih := nevI_nil p i qs (k + 1)
    unfold nevI
    by_cases c : ((Nat.gcd p.1 q.1 : Nat) : Int) ∣ (p.2 : Int) - (q.2 : Int)
    · rw [if_pos c, ih]
      refine ⟨fun h x hx => ?_, fun h x hx => h x (List.mem_cons_of_mem _ hx)⟩
      rcases List.mem_cons.1 hx with rfl | hx
      · exact c
      · exact h x hx
    · rw [if_neg c]
      exact ⟨fun h => (by cases h), fun h => absurd (h q List.mem_cons_self) c⟩
theorem nevO_nil : ∀ (ps : List (Nat × Nat)) (i : Nat), nevO ps i = [] ↔ ps.Pairwise comp
  | [], _ => by simp [nevO]
  | p :: ps, i => by
    unfold nevO
    rw [List.append_eq_nil_iff, nevI_nil, nevO_nil ps (i + 1), List.pairwise_cons]
/-! ### texts -/
def txR (l : List S38) : ByteArray × Bool := if goodP l = true then (B (txt l), true) else (⟨#[]⟩, false)
theorem v_text (l : List S38) (k : Nat) (hk : 1000 < k) : impl_PacesText.f k l = some (txR l) ∧ spec_PacesText.f k l = some (txR l) := by
  unfold impl_PacesText.f spec_PacesText.f
  rw [agood_ok l k (by omega), pgood_ok l k (by omega), Option.bind_some, Option.bind_some]
  cases hg : goodP l with
  | false =>
    have e : txR l = (⟨#[]⟩, false) := by unfold txR; rw [hg, if_neg Bool.false_ne_true]
    rw [if_neg Bool.false_ne_true, if_neg Bool.false_ne_true, e]
    exact ⟨rfl, rfl⟩
  | true =>
    have e : txR l = (B (txt l), true) := by unfold txR; rw [hg, if_pos rfl]
    have hg' := hg
    unfold goodP at hg
    rw [Bool.and_eq_true, decide_eq_true_eq] at hg
    obtain ⟨⟨h1, h2⟩, h3⟩ := hg
    rw [if_pos rfl, if_pos rfl, e]
    cases l with
    | nil => exact absurd h1 (by simp)
    | cons p l =>
      rw [itext_ok p l (by omega) h3 k hk, stext_ok p l (by omega) h3 k hk]
      exact ⟨rfl, rfl⟩
theorem parse_text (g : List S38) (hg : goodP g = true) (k : Nat) (hk : 100000000 ≤ k) : impl_ParsePaces.f k (B (txt g)) = some (g, true) := by
  obtain ⟨h1, h2, h3⟩ := good_read g hg
  have hp := pcs_len 44 (txt g) []
  have hm : ∀ w ∈ pcs 44 [] (txt g), w.length ≤ (txt g).length := fun w h => by have := pcs_mem 44 (txt g) [] w h; simp only [List.length_nil] at this; omega
  unfold impl_ParsePaces.f
  rw [B_comma, gosplit 44 (txt g) (by omega), Option.bind_some]
  have hI := i_lines (B (txt g)) (pcs 44 [] (txt g)) (by omega) (fun l hl => by have := hm l hl; omega) (pcs 44 [] (txt g)).length k 0 [] (by omega) (by simp only [List.length_nil]; omega) (by omega)
  rw [show ((0 : Nat) : Int) = 0 from rfl, List.drop_zero, h3] at hI
  refine hI.trans ?_
  simp only [List.nil_append]
  have e : endI (B (txt g)) g = (g, true) := by unfold endI; rw [if_pos ⟨hg, rfl⟩]
  rw [e]
/-! ### lists held against each other -/
theorem msame_self (a : List Int) (h8 : a.length ≤ 1000000) (d : Nat) : ∀ (k i : Nat), i + d = a.length → d < k → laws_mSame.l0 k a a (a.length : Int) (i : Int) = some true := by
  induction d with
  | zero =>
    intro k i h hk
    obtain ⟨k, rfl⟩ := fuel0 (show 0 < k by omega)
    simp only [laws_mSame.l0]
    rw [if_neg (by omega)]
  | succ d ih =>
    intro k i h hk
    obtain ⟨k, rfl⟩ := fuel0 (show 0 < k by omega)
    simp only [laws_mSame.l0]
    rw [if_pos (by omega), if_pos (by omega), if_pos (by omega), if_pos (by omega), if_pos trivial, w_up (by omega)]
    exact ih k (i + 1) (by omega) (by omega)
theorem msame_ok (a : List Int) (h8 : a.length ≤ 1000000) (k : Nat) (hk : a.length < k) : laws_mSame.f k a a = some true := by
  unfold laws_mSame.f
  rw [if_pos rfl]
  exact msame_self a h8 a.length k 0 (by omega) hk
theorem mrows_self (a : List (List Int)) (h8 : a.length ≤ 1000000) (hr : ∀ i : Int, (rd_L2 a i).length ≤ 1000) (d : Nat) : ∀ (k i : Nat), i + d = a.length → d + 1001 < k → laws_mRows.l0 k a a (a.length : Int) (i : Int) = some true := by
  induction d with
  | zero =>
    intro k i h hk
    obtain ⟨k, rfl⟩ := fuel0 (show 0 < k by omega)
    simp only [laws_mRows.l0]
    rw [if_neg (by omega)]
  | succ d ih =>
    intro k i h hk
    obtain ⟨k, rfl⟩ := fuel0 (show 0 < k by omega)
    have := hr (i : Int)
    simp only [laws_mRows.l0]
    rw [if_pos (by omega), if_pos (by omega), if_pos (by omega), if_pos (by omega), msame_ok _ (by omega) k (by omega), Option.bind_some, if_pos rfl, w_up (by omega)]
    exact ih k (i + 1) (by omega) (by omega)
theorem rl_at2 (l : List (List Int)) (i : Nat) (h : i < l.length) : rd_L2 l (i : Int) = l[i] := by
  unfold rd_L2
  rw [Int.toNat_natCast, List.getD_eq_getElem?_getD, List.getElem?_eq_getElem h]
  rfl
theorem rl_len (a : List (List Int)) (M : Nat) (hr : ∀ r ∈ a, r.length ≤ M) (i : Int) : (rd_L2 a i).length ≤ M := by
  unfold rd_L2
  rw [List.getD_eq_getElem?_getD]
  cases h : a[i.toNat]? with
  | none => simp
  | some r => exact hr r (List.mem_of_getElem? h)
theorem mrows_ok (a : List (List Int)) (h8 : a.length ≤ 1000000) (hr : ∀ r ∈ a, r.length ≤ 1000) (k : Nat) (hk : a.length + 1001 < k) : laws_mRows.f k a a = some true := by
  unfold laws_mRows.f
  rw [if_pos rfl]
  exact mrows_self a h8 (rl_len a 1000 hr) a.length k 0 (by omega) (by omega)
theorem mpaces_self (a : List S38) (h8 : a.length ≤ 1000000) (d : Nat) : ∀ (k i : Nat), i + d = a.length → d < k → laws_mPaces.l0 k a a (a.length : Int) (i : Int) = some true := by
  induction d with
  | zero =>
    intro k i h hk
    obtain ⟨k, rfl⟩ := fuel0 (show 0 < k by omega)
    simp only [laws_mPaces.l0]
    rw [if_neg (by omega)]
  | succ d ih =>
    intro k i h hk
    obtain ⟨k, rfl⟩ := fuel0 (show 0 < k by omega)
    simp only [laws_mPaces.l0]
    rw [if_pos (by omega), if_pos (by omega), if_pos (by omega), if_pos (by omega), if_neg (by simp), w_up (by omega)]
    exact ih k (i + 1) (by omega) (by omega)
theorem mpaces_ok (a : List S38) (h8 : a.length ≤ 1000000) (k : Nat) (hk : a.length < k) : laws_mPaces.f k a a = some true := by
  unfold laws_mPaces.f
  rw [if_pos rfl]
  exact mpaces_self a h8 a.length k 0 (by omega) hk
theorem mhas_loop (a : Int) (r : List Int) (h8 : r.length ≤ 1000) (d : Nat) : ∀ (k i : Nat), i + d = r.length → d < k → laws_mHas.l0 k a r (r.length : Int) (i : Int) = some (decide (a ∈ r.drop i)) := by
  induction d with
  | zero =>
    intro k i h hk
    obtain ⟨k, rfl⟩ := fuel0 (show 0 < k by omega)
    simp only [laws_mHas.l0]
    rw [if_neg (by omega), List.drop_eq_nil_of_le (by omega)]
    rfl
  | succ d ih =>
    intro k i h hk
    obtain ⟨k, rfl⟩ := fuel0 (show 0 < k by omega)
    have hi : i < r.length := by omega
    have hrd : rd r (i : Int) = r[i] := by
      unfold rd
      rw [Int.toNat_natCast, List.getD_eq_getElem?_getD, List.getElem?_eq_getElem hi]
      rfl
    simp only [laws_mHas.l0]
    rw [if_pos (by omega), if_pos (by omega), if_pos (by omega), hrd, List.drop_eq_getElem_cons hi]
    by_cases c : r[i] = a
    · rw [if_pos c, decide_eq_true (by rw [c]; exact List.mem_cons_self)]
    · rw [if_neg c, w_up (by omega), ih k (i + 1) (by omega) (by omega)]
      congr 1
      refine decide_eq_decide.2 ⟨fun h => List.mem_cons_of_mem _ h, fun h => ?_⟩
      rcases List.mem_cons.1 h with e | h
      · exact absurd e.symm c
      · exact h
theorem mhas_ok (a : Int) (r : List Int) (h8 : r.length ≤ 1000) (k : Nat) (hk : 1001 < k) : laws_mHas.f k r a = some (decide (a ∈ r)) := by
  unfold laws_mHas.f
  have := mhas_loop a r h8 r.length k 0 (by omega) (by omega)
  rwa [List.drop_zero] at this
theorem mbef_ok (x y : List Int) (h : bef x y) (k : Nat) (hk : 10 < k) : laws_mBefore.f k x y = some true := by
  obtain ⟨a, b, c, d, rfl, rfl, h⟩ := h
  obtain ⟨k, rfl⟩ : ∃ q, k = q + 1 + 1 + 1 + 1 := ⟨k - 4, by omega⟩
  have l2 : ∀ a b : Int, (([a, b] : List Int).length : Int) = 2 := fun _ _ => rfl
  have r0 : ∀ a b : Int, rd [a, b] 0 = a := fun _ _ => rfl
  have r1 : ∀ a b : Int, rd [a, b] 1 = b := fun _ _ => rfl
  have w1 : wrap64 (0 + 1) = 1 := by unfold wrap64; omega
  unfold laws_mBefore.f
  simp only [laws_mBefore.l0, laws_mBefore.j1, l2, r0, r1, w1]
  rw [if_pos (by decide), if_pos (by decide), if_pos (by decide), if_pos (by decide), if_pos (by decide)]
  by_cases e : a = c
  · rw [if_pos e, if_pos (by decide), if_pos (by decide), if_pos (by decide), if_pos (by decide), if_pos (by decide), if_neg (by omega), decide_eq_true (by omega)]
  · rw [if_neg e, decide_eq_true (by omega)]
end Go.Proofs.YteohjnmiifmldaaGreatDoor.Pure
