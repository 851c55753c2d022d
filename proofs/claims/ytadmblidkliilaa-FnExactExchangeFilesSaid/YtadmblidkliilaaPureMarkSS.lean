/- Lists of lists marked and held: what that comes to, for all lists; no Go and no memory here. -/
import Derived.Test.YtadmblidkliilaaAx5
import Derived.Test.YtadmblidkliilaaAx6
import Derived.Test.YtadmblidkliilaaGivM
import Derived.Test.YtadmblidkliilaaPureFiles
namespace Go.Proofs.Ytadmblidkliilaa.Pure
open Go.RowKit Go.Proofs.Ytadmblidkliilaa.A Go.Proofs.YtadmblidkliilaaW.PrintWords Go.Proofs.YtadmblidkliilaaW.PrintLast Go.Proofs.YtadmblidkliilaaW.PrintMore
set_option linter.unusedVariables false
set_option linter.unusedSimpArgs false

def seqL (a : Int) (n : Nat) : List Int := (List.range n).map fun j => a + ((j : Nat) : Int)
theorem seqL_len (a : Int) (n : Nat) : (seqL a n).length = n := by unfold seqL; simp
theorem seqL_succ (a : Int) (n : Nat) : seqL a (n + 1) = seqL a n ++ [a + (n : Int)] := by unfold seqL; rw [List.range_succ, List.map_append]; rfl
theorem seqL_at (a : Int) (n i : Nat) (h : i < n) : rd (seqL a n) (i : Int) = a + (i : Int) := by
  rw [rd_at _ i (by rw [seqL_len]; exact h)]
  unfold seqL
  simp
theorem markS_loop (a : Int) (n : Nat) (h0 : 0 ≤ a) (hn : a + (n : Int) ≤ 100000000000000) (d : Nat) : ∀ (k i : Nat) (x : List Int), x.length = n → i + d = n → d < k → x.take i = seqL a i → laws_markIntS.l0 k x (a + (i : Int)) (i : Int) = some (a + (n : Int), seqL a n) := by
  induction d with
  | zero =>
    intro k i x hx h hk ht
    obtain ⟨k, rfl⟩ := fuel1 (show 0 < k by omega)
    simp only [laws_markIntS.l0]
    rw [if_neg (by omega)]
    rw [List.take_of_length_le (by omega)] at ht
    have : i = n := by omega
    subst this
    rw [ht]
  | succ d ih =>
    intro k i x hx h hk ht
    obtain ⟨k, rfl⟩ := fuel1 (show 0 < k by omega)
    simp only [laws_markIntS.l0]
    have e : wrap64 (a + (i : Int) + 1) = a + ((i + 1 : Nat) : Int) := by rw [w_in (by omega) (by omega)]; omega
    rw [if_pos (by omega), if_pos (by omega), w_nat (by omega), Int.toNat_natCast, e]
    refine ih k (i + 1) _ (by rw [List.length_set]; exact hx) (by omega) (by omega) ?_
    rw [List.take_succ_eq_append_getElem (by rw [List.length_set]; omega), List.take_set_of_le (Nat.le_refl _), ht, seqL_succ]
    simp
theorem markS_ok (l : List Int) (a : Int) (h0 : 0 ≤ a) (hn : a + (l.length : Int) ≤ 100000000000000) (k : Nat) (hk : l.length < k) : laws_markIntS.f k l a = some (a + (l.length : Int), seqL a l.length) := by
  unfold laws_markIntS.f
  have := markS_loop a l.length h0 hn l.length k 0 l rfl (by omega) hk (by simp [seqL])
  simpa using this
theorem heldS_loop (a : Int) (n : Nat) (h0 : 0 ≤ a) (hn : a + (n : Int) ≤ 100000000000000) (d : Nat) : ∀ (k i : Nat), i + d = n → d < k → laws_heldIntS.l0 k (seqL a n) (a + (i : Int)) (i : Int) = some (a + (n : Int)) := by
  induction d with
  | zero =>
    intro k i h hk
    obtain ⟨k, rfl⟩ := fuel1 (show 0 < k by omega)
    simp only [laws_heldIntS.l0]
    rw [seqL_len, if_neg (by omega)]
    have : i = n := by omega
    rw [this]
  | succ d ih =>
    intro k i h hk
    obtain ⟨k, rfl⟩ := fuel1 (show 0 < k by omega)
    simp only [laws_heldIntS.l0]
    have e : wrap64 (a + (i : Int) + 1) = a + ((i + 1 : Nat) : Int) := by rw [w_in (by omega) (by omega)]; omega
    rw [seqL_len, if_pos (by omega), if_pos (by omega), seqL_at a n i (by omega), if_pos rfl, w_nat (by omega), e]
    exact ih k (i + 1) (by omega) (by omega)
theorem heldS_ok (a : Int) (n : Nat) (h0 : 0 ≤ a) (hn : a + (n : Int) ≤ 100000000000000) (k : Nat) (hk : n < k) : laws_heldIntS.f k (seqL a n) a = some (a + (n : Int)) := by
  unfold laws_heldIntS.f
  have := heldS_loop a n h0 hn n k 0 (by omega) hk
  simpa using this
def tot : List (List Int) → Nat
  | [] => 0
  | r :: l => r.length + tot l
def mkSS : List (List Int) → Int → List (List Int)
  | [], _ => []
  | r :: l, a => seqL a r.length :: mkSS l (a + (r.length : Int))
theorem mkSS_len : ∀ (l : List (List Int)) (a : Int), (mkSS l a).length = l.length
  | [], _ => rfl
  | r :: l, a => by simp [mkSS, mkSS_len l]
theorem tot_le (l : List (List Int)) (M : Nat) (h : ∀ r ∈ l, r.length ≤ M) : tot l ≤ l.length * M := by
  induction l with
  | nil => simp [tot]
  | cons r l ih =>
    have h1 := h r (by simp)
    have h2 := ih (fun x hx => h x (by simp [hx]))
    simp only [tot, List.length_cons]
    rw [Nat.succ_mul]
    omega
theorem getD_mid (pre : List (List Int)) (r : List Int) (rest : List (List Int)) : (pre ++ r :: rest).getD pre.length [] = r := by
  rw [List.getD_eq_getElem?_getD, List.getElem?_append_right (Nat.le_refl _)]
  simp
theorem set_mid (pre : List (List Int)) (r z : List Int) (rest : List (List Int)) : (pre ++ r :: rest).set pre.length z = (pre ++ [z]) ++ rest := by
  rw [List.set_append_right _ _ (Nat.le_refl _)]
  simp
theorem markSS_loop (M : Nat) (hM : M ≤ 1048576) (rest : List (List Int)) : ∀ (k : Nat) (pre : List (List Int)) (a : Int), 0 ≤ a → a + (tot rest : Int) ≤ 100000000000000 → (∀ r ∈ rest, r.length ≤ M) → pre.length + rest.length ≤ 1048576 → rest.length + M < k →
    laws_markIntSS.l0 k (pre ++ rest) a (pre.length : Int) = some (a + (tot rest : Int), pre ++ mkSS rest a) := by
  induction rest with
  | nil =>
    intro k pre a h0 h1 h2 h3 hk
    obtain ⟨k, rfl⟩ := fuel1 (show 0 < k by omega)
    simp only [laws_markIntSS.l0]
    rw [if_neg (by simp)]
    simp [tot, mkSS]
  | cons r rest ih =>
    intro k pre a h0 h1 h2 h3 hk
    obtain ⟨k, rfl⟩ := fuel1 (show 0 < k by omega)
    have hr := h2 r (by simp)
    simp only [List.length_cons] at h3 hk
    simp only [tot] at h1
    simp only [laws_markIntSS.l0]
    have e : rdLL (pre ++ r :: rest) (pre.length : Int) = r := by
      unfold rdLL
      rw [Int.toNat_natCast]
      exact getD_mid pre r rest
    rw [if_pos (by simp; omega), e, markS_ok r a h0 (by omega) k (by omega), Option.bind_some]
    simp only [Int.toNat_natCast]
    rw [set_mid, w_nat (by omega)]
    have := ih k (pre ++ [seqL a r.length]) (a + (r.length : Int)) (by omega) (by omega) (fun x hx => h2 x (by simp [hx])) (by simp; omega) (by omega)
    simp only [List.length_append, List.length_cons, List.length_nil, Nat.zero_add] at this
    rw [this]
    simp only [tot, mkSS, List.append_assoc, List.singleton_append, Option.some.injEq, Prod.mk.injEq, and_true]
    omega
theorem heldSS_loop (M : Nat) (hM : M ≤ 1048576) (rest : List (List Int)) : ∀ (k : Nat) (pre : List (List Int)) (a : Int), 0 ≤ a → a + (tot rest : Int) ≤ 100000000000000 → (∀ r ∈ rest, r.length ≤ M) → pre.length + rest.length ≤ 1048576 → rest.length + M < k →
    laws_heldIntSS.l0 k (pre ++ mkSS rest a) a (pre.length : Int) = some (a + (tot rest : Int)) := by
  induction rest with
  | nil =>
    intro k pre a h0 h1 h2 h3 hk
    obtain ⟨k, rfl⟩ := fuel1 (show 0 < k by omega)
    have e0 : mkSS [] a = [] := rfl
    rw [e0, List.append_nil]
    simp only [laws_heldIntSS.l0]
    rw [if_neg (by omega)]
    simp [tot]
  | cons r rest ih =>
    intro k pre a h0 h1 h2 h3 hk
    obtain ⟨k, rfl⟩ := fuel1 (show 0 < k by omega)
    have hr := h2 r (by simp)
    simp only [List.length_cons] at h3 hk
    simp only [tot] at h1
    have e0 : mkSS (r :: rest) a = seqL a r.length :: mkSS rest (a + (r.length : Int)) := rfl
    rw [e0]
    simp only [laws_heldIntSS.l0]
    have e : rd_L1 (pre ++ seqL a r.length :: mkSS rest (a + (r.length : Int))) (pre.length : Int) = seqL a r.length := by
      unfold rd_L1
      rw [Int.toNat_natCast]
      exact getD_mid pre _ _
    rw [if_pos (by simp; omega), if_pos (by omega), e, heldS_ok a r.length h0 (by omega) k (by omega), Option.bind_some, if_neg (by omega), w_nat (by omega)]
    have := ih k (pre ++ [seqL a r.length]) (a + (r.length : Int)) (by omega) (by omega) (fun x hx => h2 x (by simp [hx])) (by simp; omega) (by omega)
    simp only [List.length_append, List.length_cons, List.length_nil, Nat.zero_add, List.append_assoc, List.singleton_append] at this
    rw [this]
    simp only [tot, Option.some.injEq]
    omega
theorem marksSS (l : List (List Int)) (M : Nat) (hM : M ≤ 1048576) (hl : l.length ≤ 1048576) (hr : ∀ r ∈ l, r.length ≤ M) (k : Nat) (hk : l.length + M < k) :
    laws_markIntSS.f k l 1 = some (1 + (tot l : Int), mkSS l 1) ∧ laws_heldIntSS.f k (mkSS l 1) 1 = some (1 + (tot l : Int)) := by
  have ht := tot_le l M hr
  have hp : l.length * M ≤ 1048576 * 1048576 := Nat.mul_le_mul hl hM
  have h1 := markSS_loop M hM l k [] 1 (by omega) (by omega) hr (by simp; omega) hk
  have h2 := heldSS_loop M hM l k [] 1 (by omega) (by omega) hr (by simp; omega) hk
  exact ⟨h1, h2⟩
end Go.Proofs.Ytadmblidkliilaa.Pure
