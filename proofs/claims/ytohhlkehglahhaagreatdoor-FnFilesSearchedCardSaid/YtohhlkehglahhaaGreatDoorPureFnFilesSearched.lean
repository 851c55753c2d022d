/- The law FnFilesSearched is true of all lists, numbers and texts: searches go on by one place to the height or out of the files, ranks and counts are those of all heights in order, texts are read back; no condition. -/
import Derived.Test.YtohhlkehglahhaaGreatDoorAx1
import Derived.Test.YtohhlkehglahhaaGreatDoorAx25
import Derived.Test.YtohhlkehglahhaaGreatDoorPureDraw
import Derived.Test.YtohhlkehglahhaaGreatDoorPureSearch
namespace Go.Proofs.YtohhlkehglahhaaGreatDoor.Pure
open Go.RowKit Go.Proofs.YtohhlkehglahhaaGreatDoor.A Go.Proofs.YtohhlkehglahhaaGreatDoorW.PrintWords Go.Proofs.YtohhlkehglahhaaGreatDoorW.PrintLast Go.Proofs.YtohhlkehglahhaaGreatDoorW.PrintMore
set_option linter.unusedVariables false
set_option linter.unusedSimpArgs false
namespace LFnFilesSearched
theorem nn (b : Bool) : (b != b) = false := by cases b <;> rfl
theorem F : ¬ (false = true) := by decide
theorem fi_small {L : List (List Int)} {q : Nat} (h : Fi L q) : L.length ≤ 1000 ∧ ∀ r ∈ L, r.length ≤ 1000 := ⟨by have := h.rows; omega, fun r hr => by have := h.wide r hr; have := h.cols; omega⟩
theorem good_small {L : List (List Int)} (h : goodB L = true) : L.length ≤ 1000 ∧ ∀ r ∈ L, r.length ≤ 1000 := fi_small (fi_of L h)
theorem vgood (k : Nat) (L : List (List Int)) (h : goodB L = true ∨ L = []) (hk : 3000 ≤ k) : Qr1.f k L L = some true := by
  rcases h with h | h
  · exact vself k L (good_small h).1 (good_small h).2 hk
  · subst h
    exact vself k [] (by simp) (by simp) hk
section
variable (l2 l4 : List (List Int)) (a3 a5 a6 a7 a8 : Int) (a9 : ByteArray) (g : List (List Int)) (gk : Bool) (hg : if gk = true then goodB g = true ∧ filL g = a9.data.toList else g = [])
include hg
theorem t_last (k : Nat) (hk : 10000 ≤ k) : (if gk = true then ((Qk2.f k g).bind fun bt511 => (if bt511.2 = true then (some (bt511.1.toList == a9.toList)) else (some false))) else (some true)) = some true := by
  cases gk with
  | false => rw [if_neg F]
  | true =>
    rw [if_pos rfl] at hg
    rw [if_pos rfl, (v_text g k (by omega)).1, Option.bind_some]
    unfold txtR
    rw [if_pos hg.1]
    dsimp only
    rw [if_pos rfl, hg.2, B_data a9]
    simp
theorem t_j14 (k : Nat) (hk : 10001 ≤ k) : Qb.j13 k a9 g gk false = some true := by
  obtain ⟨k, rfl⟩ := fuel1 (show 0 < k by omega)
  simp only [Qb.j13]
  rw [if_neg F]
  exact t_last a9 g gk hg k (by omega)
theorem t_j12 (k : Nat) (hk : 10000000000010 ≤ k) : Qb.j11 k l2 (txtR l2).1 (txtR l2).2 a9 g gk = some true := by
  obtain ⟨k, rfl⟩ : ∃ m, k = m + 1 + 1 := ⟨k - 2, by omega⟩
  obtain ⟨K, hK⟩ : ∃ K, K = k + 1 := ⟨_, rfl⟩
  rw [← hK]
  simp only [Qb.j11]
  have hj : Qb.j12 K l2 (txtR l2).1 a9 g gk false = some true := by
    rw [hK]
    simp only [Qb.j12]
    rw [if_neg F]
    exact t_last a9 g gk hg k (by omega)
  by_cases h2 : goodB l2 = true
  · have e : txtR l2 = (B (filL l2), true) := by unfold txtR; rw [if_pos h2]
    obtain ⟨z1, _, _⟩ := good_read l2 h2
    rw [e] at hj ⊢
    rw [if_pos rfl, decide_eq_true (by show ((B (filL l2)).size : Int) ≤ 300; rw [B_size]; omega), hK]
    simp only [Qb.j12]
    rw [if_pos trivial, parse_text l2 h2 k (by omega), Option.bind_some]
    dsimp only
    rw [if_pos rfl, vgood k l2 (.inl h2) (by omega), Option.bind_some]
    exact t_j14 a9 g gk hg k (by omega)
  · have e : txtR l2 = (⟨#[]⟩, false) := by unfold txtR; rw [if_neg h2]
    rw [e] at hj ⊢
    rw [if_neg F]
    exact hj
theorem t_j10 (c : Int) (ck : Bool) (hc : Qi1.f a7 a8 = some (c, ck)) (k : Nat) (hk : 10000000000020 ≤ k) : Qb.j9 k l2 a7 a8 c ck (txtR l2).1 (txtR l2).2 a9 g gk = some true := by
  obtain ⟨k, rfl⟩ : ∃ m, k = m + 1 + 1 := ⟨k - 2, by omega⟩
  obtain ⟨K, hK⟩ : ∃ K, K = k + 1 := ⟨_, rfl⟩
  rw [← hK]
  simp only [Qb.j9]
  by_cases h : (1 ≤ a7 ∧ a7 ≤ 4) ∧ (1 ≤ a8 ∧ a8 ≤ 5)
  · have hc0 := hc
    unfold Qi1.f at hc
    rw [if_pos h] at hc
    obtain ⟨rfl, rfl⟩ := Prod.mk.inj (Option.some.inj hc)
    obtain ⟨r, rfl⟩ : ∃ n : Nat, a7 = (n : Int) := ⟨a7.toNat, by omega⟩
    obtain ⟨q, rfl⟩ : ∃ n : Nat, a8 = (n : Int) := ⟨a8.toNat, by omega⟩
    simp only [Int.toNat_natCast]
    obtain ⟨t1, t2, t3⟩ := tab_at (r := r) (c := q) (by omega) (by omega)
    have hj : Qb.j10 K l2 (r : Int) (q : Int) ((Syt.val r q 0 0 0 0 : Nat) : Int) (txtR l2).1 (txtR l2).2 a9 g gk false = some true := by
      rw [hK]
      simp only [Qb.j10]
      rw [if_neg F]
      have hJ := t_j12 l2 a9 g gk hg k (by omega)
      by_cases h4 : (q : Int) ≤ 4
      · have e : Qi1.f (q : Int) (r : Int) = some (((Syt.val r q 0 0 0 0 : Nat) : Int), true) := by
          unfold Qi1.f
          rw [if_pos ⟨⟨by omega, by omega⟩, by omega, by omega⟩]
          simp only [Int.toNat_natCast]
          rw [t3 (by omega)]
        rw [if_pos h4, e, Option.bind_some]
        dsimp only
        rw [if_pos rfl, if_pos rfl]
        exact hJ
      · rw [if_neg h4]
        exact hJ
    rw [if_pos trivial, if_neg (by omega)]
    by_cases h1 : (r : Int) = 1
    · have e : (true != (((Syt.val r q 0 0 0 0 : Nat) : Int) == 1)) = false := by
        have : ((Syt.val r q 0 0 0 0 : Nat) : Int) = 1 := by have := t2.1 (.inl (by omega)); omega
        rw [this]
        rfl
      rw [if_pos h1, e]
      exact hj
    · have e : (((q : Int) == 1) != (((Syt.val r q 0 0 0 0 : Nat) : Int) == 1)) = false := by
        by_cases h5 : q = 1
        · have : ((Syt.val r q 0 0 0 0 : Nat) : Int) = 1 := by have := t2.1 (.inr h5); omega
          rw [this, h5]
          rfl
        · have : ¬ ((Syt.val r q 0 0 0 0 : Nat) : Int) = 1 := fun h => by
            rcases t2.2 (by omega) with h | h <;> omega
          rw [beq_eq_false_iff_ne.2 this, beq_eq_false_iff_ne.2 (by omega)]
          rfl
      rw [if_neg h1, e]
      exact hj
  · unfold Qi1.f at hc
    rw [if_neg h] at hc
    obtain ⟨rfl, rfl⟩ := Prod.mk.inj (Option.some.inj hc)
    rw [if_neg F, hK]
    exact t_j12 l2 a9 g gk hg (k + 1) (by omega)
theorem t_j9 (x : List (List Int)) (xk : Bool) (hx : if xk = true then okE l4 a5 a6 = true ∧ x = exch l4 a5.toNat a6.toNat else x = []) (c : Int) (ck : Bool) (hc : Qi1.f a7 a8 = some (c, ck)) (k : Nat) (hk : 10000000000030 ≤ k) :
    Qb.j8 k l2 l4 a5 a6 x xk a7 a8 c ck (txtR l2).1 (txtR l2).2 a9 g gk false = some true := by
  obtain ⟨k, rfl⟩ := fuel1 (show 0 < k by omega)
  simp only [Qb.j8]
  have hJ := t_j10 l2 a7 a8 a9 g gk hg c ck hc k (by omega)
  rw [if_neg F]
  cases xk with
  | false =>
    rw [if_neg F]
    exact hJ
  | true =>
    rw [if_pos rfl] at hx ⊢
    obtain ⟨h1, h2⟩ := hx
    have h0 := h1
    unfold okE at h1
    simp only [Bool.and_eq_true, decide_eq_true_eq, Bool.not_eq_true', decide_eq_false_iff_not] at h1
    obtain ⟨hgd, q1, q2, q3⟩ := h1
    obtain ⟨a, rfl⟩ : ∃ n : Nat, a5 = (n : Int) := ⟨a5.toNat, by omega⟩
    obtain ⟨b, rfl⟩ : ∃ n : Nat, a6 = (n : Int) := ⟨a6.toNat, by omega⟩
    simp only [Int.toNat_natCast] at h2
    have hf := fi_of l4 hgd
    have ha : a < l4.length := by omega
    have hb : b < l4.length := by omega
    have hab : a ≠ b := by omega
    have hxf := exch_fi l4 _ a b hf ha hb
    have hxg := good_of hxf
    have hxl := exch_len l4 a b
    have hok : okE (exch l4 a b) (a : Int) (b : Int) = true := by
      unfold okE
      rw [hxg, hxl, decide_eq_true q1, decide_eq_true q2, decide_eq_false q3]
      rfl
    have he : Qt1.f k (exch l4 a b) (a : Int) (b : Int) = some (l4, true) := by
      unfold Qt1.f
      rw [if_pos hok, copied_ok _ hxf.rows.2 (fun r h => by have := hxf.wide r h; have := hxf.cols; omega) k (by omega), Option.bind_some, if_pos rfl]
      have e := exch_exch l4 a b ha hb hab
      unfold exch at e
      simp only [Int.toNat_natCast]
      unfold exch
      rw [e]
    have hra : rd_L2 (exch l4 a b) (a : Int) = l4[b] := by
      rw [rl_at _ a (by omega), exch_at l4 a b a ha hb ha hab, if_pos rfl]
    have hrb : rd_L2 l4 (b : Int) = l4[b] := rl_at _ b hb
    rw [h2, he, Option.bind_some]
    dsimp only
    rw [if_pos rfl, vgood k l4 (.inl hgd) (by omega), Option.bind_some, if_pos rfl, if_pos (by omega), if_pos (by omega), if_pos (by omega), if_pos (by omega), hra, hrb, vsame_ok _ _ (by have := hf.wide l4[b] (List.getElem_mem hb); have := hf.cols; omega) k (by have := hf.wide l4[b] (List.getElem_mem hb); have := hf.cols; omega), Option.bind_some, decide_eq_true rfl, if_pos rfl]
    exact hJ
theorem t_j8 (x1 : List Int) (d1 : ∀ k, 2000500 < k → Qe2.f k x1 = some (l2, a3)) (d2 : ∀ k, 2000500 < k → Qa2.f k x1 = some (l4, a5, a6)) (d3 : Qs1.f x1 = some (a7, a8)) (d4 : ∀ k, 2000500 < k → Qb2.f k x1 = some a9) (hs : ∀ k, 10000000000000 ≤ k → Qd1.f k a9 = some (g, gk) ∧ Qu.f k a9 = some (g, gk)) (k : Nat) (hk : 10000000000040 ≤ k) : Qb.j7 k x1 = some true := by
  obtain ⟨k, rfl⟩ := fuel1 (show 0 < k by omega)
  obtain ⟨x, xk, hx, hxx⟩ := v_exch l4 a5 a6
  obtain ⟨d, hd⟩ := v_dis l2
  obtain ⟨⟨c, ck⟩, hc⟩ : ∃ r, Qi1.f a7 a8 = some r := by unfold Qi1.f; split <;> exact ⟨_, rfl⟩
  have hJ := t_j9 l2 l4 a5 a6 a7 a8 a9 g gk hg x xk hxx c ck hc k (by omega)
  have hvx : Qr1.f k x x = some true := by
    refine vgood k x ?_ (by omega)
    cases xk with
    | false => rw [if_neg F] at hxx; exact .inr hxx
    | true =>
      rw [if_pos rfl] at hxx
      obtain ⟨h1, h2⟩ := hxx
      unfold okE at h1
      simp only [Bool.and_eq_true, decide_eq_true_eq, Bool.not_eq_true', decide_eq_false_iff_not] at h1
      rw [h2]
      exact .inl (good_of (exch_fi l4 _ _ _ (fi_of l4 h1.1) (by omega) (by omega)))
  have hvg : Qr1.f k g g = some true := by
    refine vgood k g ?_ (by omega)
    cases gk with
    | false => rw [if_neg F] at hg; exact .inr hg
    | true => rw [if_pos rfl] at hg; exact .inl hg.1
  have hA : Qs2.f l2 = some (goodB l2) := by unfold Qs2.f; rw [are_ok, Option.bind_some]
  have hT : (txtR l2).2 = goodB l2 := by unfold txtR; cases goodB l2 <;> rfl
  simp only [Qb.j7]
  rw [d1 k (by omega), Option.bind_some]
  dsimp only
  rw [(v_rank l2 a3 k (by omega)).2, Option.bind_some, (v_rank l2 a3 k (by omega)).1, Option.bind_some, d2 k (by omega), Option.bind_some]
  dsimp only
  rw [(hx k (by omega)).2, Option.bind_some, (hx k (by omega)).1, Option.bind_some, d3, Option.bind_some]
  dsimp only
  rw [hc, Option.bind_some, Qz2 a7 a8 k (by omega), hc, Option.bind_some, (hd k (by omega)).2, Option.bind_some, (hd k (by omega)).1, Option.bind_some, (v_text l2 k (by omega)).1, Option.bind_some, (v_text l2 k (by omega)).2, Option.bind_some, d4 k (by omega), Option.bind_some, (hs k (by omega)).2, Option.bind_some, (hs k (by omega)).1, Option.bind_some]
  dsimp only
  rw [nn, if_neg F, if_pos rfl, nn, if_neg F, hvx, Option.bind_some, if_pos rfl, nn, if_neg F, if_pos rfl, nn, if_neg F, if_pos rfl, nn, if_neg F, if_pos rfl, nn, if_neg F, hvg, Option.bind_some, if_pos rfl, hA, Option.bind_some, hT, nn, if_neg F, ← hT]
  exact hJ
end
section
variable (x1 : List Int) (l0 : List (List Int)) (a1 : Int) (h8 : ∀ k, 10000000000040 ≤ k → Qb.j7 k x1 = some true)
include h8
theorem t_j5 (k : Nat) (hk : 10000000000050 ≤ k) : Qb.j4 k x1 l0 a1 (upR l0 a1).1 (upR l0 a1).2 = some true := by
  obtain ⟨k, rfl⟩ : ∃ m, k = m + 1 + 1 + 1 := ⟨k - 3, by omega⟩
  obtain ⟨K, hK⟩ : ∃ K, K = k + 1 := ⟨_, rfl⟩
  obtain ⟨K2, hK2⟩ : ∃ K2, K2 = K + 1 := ⟨_, rfl⟩
  rw [← hK, ← hK2]
  simp only [Qb.j4]
  by_cases h : goodB l0 = true ∧ (0 ≤ a1 ∧ a1 ≤ 1000)
  · have e : upR l0 a1 = ((cntL a1 (flatL l0) : Int), true) := by unfold upR; rw [if_pos h]
    have hf := fi_of l0 h.1
    have hr := hf.rows
    have hc := hf.cols
    have hw := hf.wide
    have hh0 : rd_L2 l0 0 = l0.headD [] := by
      cases l0 with
      | nil => rfl
      | cons a b => rfl
    have hfe := flat_eq _ l0 hw
    have h64 : l0.length * (l0.headD []).length ≤ 64 := Nat.le_trans (Nat.mul_le_mul hr.2 hc.2) (by omega)
    have hle := cntL_le a1 (flatL l0)
    have hb : wrap64 ((l0.length : Int) * ((rd_L2 l0 0).length : Int)) = ((flatL l0).length : Int) := by
      rw [hh0, ← Int.natCast_mul, hfe, w_in (by omega) (by omega)]
    rw [e]
    dsimp only
    rw [if_pos rfl, if_pos (by omega), if_neg (by omega), hb, decide_eq_false (by omega), hK2]
    simp only [Qb.j5]
    rw [if_neg F]
    have hj7 : Qb.j6 K x1 l0 a1 ((cntL a1 (flatL l0) : Nat) : Int) ((flatL l0).length : Int) = some true := by
      rw [hK]
      simp only [Qb.j6]
      by_cases c : cntL a1 (flatL l0) < (flatL l0).length
      · have er : Qz1.f k l0 ((cntL a1 (flatL l0) : Nat) : Int) = some (rd (ordL (flatL l0)) ((cntL a1 (flatL l0) : Nat) : Int), true) := by
          rw [(v_rank l0 _ k (by omega)).2]
          unfold rankR
          rw [if_pos ⟨h.1, by omega, by omega⟩]
        have hn := rank_cnt l0 a1 (cntL a1 (flatL l0)) c
        rw [if_pos (by omega), er, Option.bind_some]
        dsimp only
        rw [if_pos rfl, if_neg (fun q => by have := hn.1 q; omega)]
        exact h8 k (by omega)
      · rw [if_neg (by omega)]
        exact h8 k (by omega)
    by_cases c : 0 < cntL a1 (flatL l0)
    · have ew : wrap64 (((cntL a1 (flatL l0) : Nat) : Int) - 1) = ((cntL a1 (flatL l0) - 1 : Nat) : Int) := by rw [w_in (by omega) (by omega)]; omega
      have er : Qz1.f K l0 ((cntL a1 (flatL l0) - 1 : Nat) : Int) = some (rd (ordL (flatL l0)) ((cntL a1 (flatL l0) - 1 : Nat) : Int), true) := by
        rw [(v_rank l0 _ K (by omega)).2]
        unfold rankR
        rw [if_pos ⟨h.1, by omega, by omega⟩]
      have hn := rank_cnt l0 a1 (cntL a1 (flatL l0) - 1) (by omega)
      rw [if_pos (by omega), ew, er, Option.bind_some]
      dsimp only
      rw [if_pos rfl, if_neg (by have := hn.2 (by omega); omega)]
      exact hj7
    · rw [if_neg (by omega)]
      exact hj7
  · have e : upR l0 a1 = (0, false) := by unfold upR; rw [if_neg h]
    rw [e]
    dsimp only
    rw [if_neg F]
    exact h8 K2 (by omega)
theorem t_l1 (h : goodB l0 = true) (p q : Nat) (hp : p < l0.length) (hq : q < (l0.headD []).length) (hfin : (∃ r ∈ l0, a1 ∈ r) ↔ cellL l0 p q = a1) (d : Nat) : ∀ (k i : Nat) (b : Bool), i + d = l0.length → (b = true ↔ ∃ r ∈ l0.take i, a1 ∈ r) → 10000000000060 + d ≤ k →
    Qb.l1 k x1 l0 a1 (upR l0 a1).1 (upR l0 a1).2 [(p : Int), (q : Int)] b l0 (l0.length : Int) (i : Int) = some true := by
  have hf := fi_of l0 h
  have hr := hf.rows
  have hc := hf.cols
  have hw := hf.wide
  induction d with
  | zero =>
    intro k i b hi hb hk
    obtain ⟨k, rfl⟩ := fuel1 (show 0 < k by omega)
    have hwp := hw l0[p] (List.getElem_mem hp)
    have e0 : rd [(p : Int), (q : Int)] 0 = (p : Int) := rfl
    have e1 : rd [(p : Int), (q : Int)] 1 = (q : Int) := rfl
    have e2 : (([(p : Int), (q : Int)] : List Int).length : Int) = 2 := rfl
    simp only [Qb.l1]
    rw [if_neg (by omega), e0, e1, e2, if_pos (by decide), if_pos (by omega), if_pos (by omega), if_pos (by decide), if_pos (by omega), rl_at l0 p hp, if_pos (by omega), cell_rd l0 p q hp]
    have e : (b != (cellL l0 p q == a1)) = false := by
      rw [List.take_of_length_le (by omega)] at hb
      by_cases c : cellL l0 p q = a1
      · rw [hb.2 (hfin.2 c), beq_iff_eq.2 c]
        rfl
      · have : b = false := Bool.eq_false_iff.2 fun e => c (hfin.1 (hb.1 e))
        rw [this, beq_eq_false_iff_ne.2 c]
        rfl
    rw [e, if_neg F]
    exact t_j5 x1 l0 a1 h8 k (by omega)
  | succ d ih =>
    intro k i b hi hb hk
    obtain ⟨k, rfl⟩ := fuel1 (show 0 < k by omega)
    have hil : i < l0.length := by omega
    have ht : l0.take (i + 1) = l0.take i ++ [l0[i]] := List.take_succ_eq_append_getElem hil
    simp only [Qb.l1]
    rw [if_pos (by omega), if_pos (by omega), if_pos (by omega), w_nat (by omega)]
    cases b with
    | true =>
      rw [if_pos rfl]
      refine ih k (i + 1) true (by omega) ⟨fun _ => ?_, fun _ => rfl⟩ (by omega)
      obtain ⟨r, h1, h2⟩ := hb.1 rfl
      exact ⟨r, by rw [ht]; exact List.mem_append_left _ h1, h2⟩
    | false =>
      have hwi := hw l0[i] (List.getElem_mem hil)
      rw [if_neg F, rl_at l0 i hil, vhas_ok a1 l0[i] (by omega) k (by omega), Option.bind_some]
      refine ih k (i + 1) _ (by omega) ?_ (by omega)
      rw [decide_eq_true_eq, ht]
      constructor
      · intro hm
        exact ⟨l0[i], List.mem_append_right _ (List.mem_singleton.2 rfl), hm⟩
      · rintro ⟨r, h1, h2⟩
        rcases List.mem_append.1 h1 with h1 | h1
        · exact absurd (hb.2 ⟨r, h1, h2⟩) F
        · rw [← List.mem_singleton.1 h1]
          exact h2
theorem t_l0 (h : goodB l0 = true) (P : List (List Int)) (hP : Way l0 a1 (l0.headD []).length 0 (l0.headD []).length P) (hne : P ≠ []) (d : Nat) : ∀ (k i : Nat), i + d = P.length → 1 ≤ i → 10000000001000 + d ≤ k →
    Qb.l0 k x1 l0 a1 P (upR l0 a1).1 (upR l0 a1).2 (i : Int) = some true := by
  have hf := fi_of l0 h
  have hr := hf.rows
  have hc := hf.cols
  have hw := hf.wide
  have hPl := hP.len
  induction d with
  | zero =>
    intro k i hi h1 hk
    obtain ⟨k, rfl⟩ := fuel1 (show 0 < k by omega)
    simp only [Qb.l0]
    have ew : wrap64 ((P.length : Int) - 1) = ((P.length - 1 : Nat) : Int) := by rw [w_in (by omega) (by omega)]; omega
    have hpl : P.length - 1 < P.length := by omega
    have hlast : P.getLast? = some P[P.length - 1] := by rw [List.getLast?_eq_getElem?, List.getElem?_eq_getElem hpl]
    obtain ⟨a, b, e, hh⟩ := hP.fin _ hlast
    obtain ⟨a', b', e', hal, hbl⟩ := hP.ins _ (List.getElem_mem hpl)
    rw [e] at e'
    simp only [List.cons.injEq, Int.natCast_inj, and_true] at e'
    obtain ⟨rfl, rfl⟩ := e'
    rw [if_neg (by omega), ew, if_pos (by omega), if_pos (by omega), rl_at P _ hpl, e]
    have hfin : (∃ r ∈ l0, a1 ∈ r) ↔ cellL l0 a b = a1 := by
      constructor
      · rintro ⟨r, hr1, hr2⟩
        rcases hh with hh | hh
        · exact hh
        · obtain ⟨i, hi, rfl⟩ := List.mem_iff_getElem.1 hr1
          obtain ⟨j, hj, e3⟩ := List.mem_iff_getElem.1 hr2
          have := hh i hi j (by have := hw _ hr1; omega)
          rw [cell_at l0 i j hi hj] at this
          exact absurd e3 this
      · intro e3
        refine ⟨l0[a], List.getElem_mem hal, ?_⟩
        have hwa := hw l0[a] (List.getElem_mem hal)
        rw [cell_at l0 a b hal (by omega)] at e3
        rw [← e3]
        exact List.getElem_mem _
    exact t_l1 x1 l0 a1 h8 h a b hal hbl hfin l0.length k 0 false (by omega) (by simp) (by omega)
  | succ d ih =>
    intro k i hi h1 hk
    obtain ⟨k, rfl⟩ := fuel1 (show 0 < k by omega)
    obtain ⟨j, rfl⟩ : ∃ j, i = j + 1 := ⟨i - 1, by omega⟩
    have hj : j + 1 < P.length := by omega
    obtain ⟨a, b, a', b', e1, e2, e3⟩ := hP.one j hj
    have ins1 := hP.ins P[j] (List.getElem_mem _)
    have ins2 := hP.ins P[j + 1] (List.getElem_mem _)
    rw [e1] at ins1
    rw [e2] at ins2
    obtain ⟨_, _, f1, f2, f3⟩ := ins1
    obtain ⟨_, _, g1, g2, g3⟩ := ins2
    simp only [List.cons.injEq, Int.natCast_inj, and_true] at f1 g1
    obtain ⟨rfl, rfl⟩ := f1
    obtain ⟨rfl, rfl⟩ := g1
    have ew : wrap64 (((j + 1 : Nat) : Int) - 1) = (j : Int) := by rw [w_in (by omega) (by omega)]; omega
    have c0 : ∀ x y : Nat, rd [(x : Int), (y : Int)] 0 = (x : Int) := fun _ _ => rfl
    have c1 : ∀ x y : Nat, rd [(x : Int), (y : Int)] 1 = (y : Int) := fun _ _ => rfl
    have c2 : ∀ x y : Nat, (([(x : Int), (y : Int)] : List Int).length : Int) = 2 := fun _ _ => rfl
    have w1 : wrap64 ((a' : Int) - (a : Int)) = (a' : Int) - (a : Int) := w_in (by omega) (by omega)
    have w2 : wrap64 ((b : Int) - (b' : Int)) = (b : Int) - (b' : Int) := w_in (by omega) (by omega)
    have w3 : wrap64 (((a' : Int) - (a : Int)) + ((b : Int) - (b' : Int))) = 1 := by rw [w_in (by omega) (by omega)]; omega
    simp only [Qb.l0]
    rw [if_pos (by omega), if_pos (by omega), ew, rl_at P (j + 1) hj, rl_at P j (by omega), e1, e2]
    simp only [c0, c1, c2]
    rw [if_pos (by decide), if_pos (by omega), if_pos (by omega), if_pos (by decide), if_pos (by decide), if_pos (by decide), w1, w2, w3, if_neg (by omega), if_neg (by omega), if_pos rfl, w_nat (by omega)]
    exact ih k (j + 1 + 1) (by omega) (by omega) (by omega)
theorem t_j1 (P : List (List Int)) (pk : Bool) (hp : if pk = true then goodB l0 = true ∧ (0 ≤ a1 ∧ a1 ≤ 1000) ∧ sortedB l0 = true ∧ sortedB (turnL l0 (l0.headD []).length) = true ∧ P = wayL l0 a1 (l0.length + (l0.headD []).length) 0 (l0.headD []).length else P = []) (k : Nat) (hk : 10000000002000 ≤ k) :
    Qb.j0 k x1 l0 a1 P pk (upR l0 a1).1 (upR l0 a1).2 false = some true := by
  obtain ⟨k, rfl⟩ : ∃ m, k = m + 1 + 1 := ⟨k - 2, by omega⟩
  obtain ⟨K, hK⟩ : ∃ K, K = k + 1 := ⟨_, rfl⟩
  rw [← hK]
  simp only [Qb.j0]
  rw [if_neg F]
  cases pk with
  | false =>
    rw [if_neg F]
    exact t_j5 x1 l0 a1 h8 K (by omega)
  | true =>
    rw [if_pos rfl] at hp ⊢
    obtain ⟨h1, h2, h3, h4, h5⟩ := hp
    have hf := fi_of l0 h1
    have hr := hf.rows
    have hc := hf.cols
    have ht := turn_fi l0 _ hf
    have hh0 : rd_L2 l0 0 = l0.headD [] := by
      cases l0 with
      | nil => rfl
      | cons a b => rfl
    obtain ⟨hway, hne0⟩ := way_of l0 a1 (l0.headD []).length (cell_row l0 _ hf.wide h3) (cell_col l0 _ ht.wide h4) (l0.length + (l0.headD []).length) 0 (l0.headD []).length (by omega) (Nat.le_refl _) (by omega) (fun r hr k hk hn => absurd ⟨Nat.zero_le _, hk⟩ hn)
    rw [← h5] at hway hne0
    have hne := hne0.1 ⟨by omega, by omega⟩
    have hPl : 0 < P.length := List.length_pos_iff.2 hne
    have hlen := hway.len
    have hp0 := hway.at0 P[0] (by rw [List.head?_eq_getElem?, List.getElem?_eq_getElem hPl])
    have ew : wrap64 (wrap64 ((l0.length : Int) + ((rd_L2 l0 0).length : Int)) - 1) = ((l0.length + (l0.headD []).length - 1 : Nat) : Int) := by
      rw [hh0, w_in (x := (l0.length : Int) + ((l0.headD []).length : Int)) (by omega) (by omega), w_in (by omega) (by omega)]
      omega
    have ew2 : wrap64 (((rd_L2 l0 0).length : Int) - 1) = (((l0.headD []).length - 1 : Nat) : Int) := by rw [hh0, w_in (by omega) (by omega)]; omega
    rw [if_pos (by omega), if_neg (by omega), ew, if_neg (by omega), if_pos (by omega), ew2, show rd_L2 P 0 = P[0] from rl_at P 0 hPl, hp0, vsame_ok _ _ (by simp) K (by simp; omega), Option.bind_some, show (!decide ([((0 : Nat) : Int), (((l0.headD []).length - 1 : Nat) : Int)] = [0, (((l0.headD []).length - 1 : Nat) : Int)])) = false by simp, hK]
    simp only [Qb.j1]
    rw [if_neg (by decide)]
    exact t_l0 x1 l0 a1 h8 h1 P hway hne (P.length - 1) k 1 (by omega) (by omega) (by omega)
end
end LFnFilesSearched
open LFnFilesSearched
theorem FnFilesSearched (l0 l1 : List Int) (m0 : l0.length ≤ maxLen) (y0 : l0.length * 1 ≤ 140737488351232) (hb : ∀ n ∈ l0, (Lit.int .u8 n).wf = true) (m1 : l1.length ≤ maxLen) (y1 : l1.length * 1 ≤ 140737488351232) (hb1 : ∀ n ∈ l1, (Lit.int .u8 n).wf = true) : ∃ k, true = true ∧ Qb.f k l0 l1 = some true := by
  refine ⟨10000000004000, rfl, ?_⟩
  have u8 : ∀ n : Int, (Lit.int .u8 n).wf = true → 0 ≤ n ∧ n ≤ 255 := fun n this => by
    simp [Lit.wf, IntKind.min, IntKind.max, IntKind.signed, IntKind.bits] at this
    omega
  have ha : ∀ n ∈ l0, 0 ≤ n ∧ n ≤ 255 := fun n h => u8 n (hb n h)
  have ha1 : ∀ n ∈ l1, 0 ≤ n ∧ n ≤ 255 := fun n h => u8 n (hb1 n h)
  obtain ⟨b, hbig⟩ : ∃ b, Qx2.f l0 l1 = some b := by
    unfold Qx2.f
    split
    · exact ⟨_, rfl⟩
    · exact ⟨_, rfl⟩
  unfold Qb.f
  rw [hbig, Option.bind_some]
  cases b with
  | true => rw [if_pos rfl]
  | false =>
    rw [if_neg F]
    have hlen : l0.length ≤ 1000000000 ∧ l1.length ≤ 1000000000 := by
      unfold Qx2.f at hbig
      by_cases c : (l0.length : Int) > 1048576
      · rw [if_pos c] at hbig
        cases hbig
      · rw [if_neg c] at hbig
        have h2 := of_decide_eq_false (Option.some.inj hbig)
        rw [w_in (x := 1048576 - (l0.length : Int)) (by omega) (by omega)] at h2
        omega
    obtain ⟨l, a, hd0⟩ := drawn_places l0 ha hlen.1
    obtain ⟨l2, a3, d1⟩ := drawn_rank l1 ha1 hlen.2
    obtain ⟨l4, a5, a6, d2⟩ := drawn_exch l1 ha1 hlen.2
    obtain ⟨a7, a8, d3⟩ := drawn_count l1 ha1 hlen.2
    obtain ⟨a9, hs9, d4⟩ := drawn_text l1 ha1 hlen.2
    obtain ⟨g, gk, hp, hg⟩ := v_parse a9.data.toList (by have : a9.data.toList.length = a9.size := rfl; omega)
    rw [B_data a9] at hp
    have h8 : ∀ k, 10000000000040 ≤ k → Qb.j7 k l1 = some true := fun k hk => t_j8 l2 l4 a3 a5 a6 a7 a8 a9 g gk hg l1 d1 d2 d3 d4 hp k hk
    obtain ⟨k, hk⟩ : ∃ k, k = 10000000004000 := ⟨_, rfl⟩
    rw [← hk]
    obtain ⟨P, pk, hp, hpp⟩ := v_places l a
    have hJ := t_j1 l1 l a h8 P pk hpp k (by omega)
    have hP8 : P.length ≤ 1000 ∧ ∀ x ∈ P, x.length ≤ 1000 := by
      cases pk with
      | false => rw [if_neg F] at hpp; subst hpp; simp
      | true =>
        rw [if_pos rfl] at hpp
        obtain ⟨h1, h2, h3, h4, h5⟩ := hpp
        have hf := fi_of l h1
        have hr := hf.rows
        have hc := hf.cols
        have ht := turn_fi l _ hf
        obtain ⟨hway, _⟩ := way_of l a (l.headD []).length (cell_row l _ hf.wide h3) (cell_col l _ ht.wide h4) (l.length + (l.headD []).length) 0 (l.headD []).length (by omega) (Nat.le_refl _) (by omega) (fun r hr k hk hn => absurd ⟨Nat.zero_le _, hk⟩ hn)
        rw [← h5] at hway
        have hlen := hway.len
        refine ⟨by omega, fun x hx => ?_⟩
        obtain ⟨a, b, e, _⟩ := hway.ins x hx
        rw [e]
        simp
    have hU : pk = true → (upR l a).2 = true := by
      intro e
      subst e
      rw [if_pos rfl] at hpp
      unfold upR
      rw [if_pos ⟨hpp.1, hpp.2.1⟩]
    rw [hd0 k (by omega), Option.bind_some]
    dsimp only
    rw [(hp k (by omega)).2, Option.bind_some, (hp k (by omega)).1, Option.bind_some, (v_count l a k (by omega)).2, Option.bind_some, (v_count l a k (by omega)).1, Option.bind_some]
    dsimp only
    rw [nn, if_neg F, vself k P hP8.1 hP8.2 (by omega), Option.bind_some, if_pos rfl, nn, if_neg F, if_pos rfl]
    cases pk with
    | false =>
      rw [if_neg F]
      exact hJ
    | true =>
      rw [if_pos rfl]
      have e := hU rfl
      rw [show (!(upR l a).2) = false by rw [e]; rfl]
      exact hJ
end Go.Proofs.YtohhlkehglahhaaGreatDoor.Pure
