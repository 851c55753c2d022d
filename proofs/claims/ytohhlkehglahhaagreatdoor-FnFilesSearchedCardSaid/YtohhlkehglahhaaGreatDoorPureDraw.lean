/- What is drawn is always drawn: the drawn files come to some lists. No condition. -/
import Derived.Laws.BitsLemmas
import Derived.Test.YtohhlkehglahhaaGreatDoorAx1
import Derived.Test.YtohhlkehglahhaaGreatDoorAx16
import Derived.Test.YtohhlkehglahhaaGreatDoorAx17
import Derived.Test.YtohhlkehglahhaaGreatDoorAx2
import Derived.Test.YtohhlkehglahhaaGreatDoorAx20
import Derived.Test.YtohhlkehglahhaaGreatDoorAx3
import Derived.Test.YtohhlkehglahhaaGreatDoorAx6
import Derived.Test.YtohhlkehglahhaaGreatDoorGivD
import Derived.Test.YtohhlkehglahhaaGreatDoorGivF
import Derived.Test.YtohhlkehglahhaaGreatDoorPureFText
import Derived.Test.YtohhlkehglahhaaGreatDoorPureParse
import Derived.Test.YtohhlkehglahhaaGreatDoorPureSearch
import Derived.Test.YtohhlkehglahhaaGreatDoorPureSort
namespace Go.Proofs.YtohhlkehglahhaaGreatDoor.Pure
open Go.RowKit Go.Proofs.YtohhlkehglahhaaGreatDoor.A Go.Proofs.YtohhlkehglahhaaGreatDoorW.PrintWords Go.Proofs.YtohhlkehglahhaaGreatDoorW.PrintLast Go.Proofs.YtohhlkehglahhaaGreatDoorW.PrintMore
set_option linter.unusedVariables false
set_option linter.unusedSimpArgs false
set_option linter.unusedSectionVars false
theorem u64w (n : Int) : IntKind.u64.wrap n = n % 18446744073709551616 := by simp [IntKind.wrap, IntKind.bits, IntKind.signed]
theorem and255 (x : Int) (h0 : 0 ≤ x) (h1 : x < 18446744073709551616) : Go.bits .and .u64 x 255 = x % 256 := bits_mask .u64 64 (by decide) (fun n a b => by rw [u64w]; omega) 8 (by decide) x h0 h1
theorem low8 (x : Int) : 0 ≤ wrap64 (Go.bits .and .u64 (IntKind.u64.wrap x / 1099511627776) 255) ∧ wrap64 (Go.bits .and .u64 (IntKind.u64.wrap x / 1099511627776) 255) ≤ 255 := by
  have h0 : 0 ≤ IntKind.u64.wrap x / 1099511627776 := by rw [u64w]; omega
  have h1 : IntKind.u64.wrap x / 1099511627776 < 18446744073709551616 := by rw [u64w]; omega
  rw [and255 _ h0 h1]
  unfold wrap64
  omega
theorem rd_mem {l : List Int} {i : Int} (h0 : 0 ≤ i) (h1 : i < (l.length : Int)) : rd l i ∈ l := by
  unfold rd
  have hi : i.toNat < l.length := by omega
  rw [List.getD_eq_getElem?_getD, List.getElem?_eq_getElem hi]
  exact List.getElem_mem hi
section
variable (l : List Int) (hl : ∀ n ∈ l, 0 ≤ n ∧ n ≤ 255) (hn : l.length ≤ 1000000000)
include hl hn
theorem next_ok (a s : Int) (h0 : 0 ≤ a) (h1 : a ≤ 1000000) : ∃ r s', Qh2.f l a s = some (r, a + 1, s') ∧ 0 ≤ r ∧ r ≤ 255 := by
  have e : wrap64 (a + 1) = a + 1 := by unfold wrap64; omega
  unfold Qh2.f
  rw [e]
  by_cases c : a < (l.length : Int)
  · have hr := hl _ (rd_mem h0 c)
    rw [if_pos c, if_pos h0, if_pos (by omega)]
    exact ⟨_, _, rfl, by unfold wrap64; omega, by unfold wrap64; omega⟩
  · rw [if_neg c]
    by_cases d : a + 1 ≤ (l.length : Int)
    · rw [if_pos d]
      exact ⟨_, _, rfl, by omega, by omega⟩
    · rw [if_neg d]
      exact ⟨_, _, rfl, (low8 _).1, (low8 _).2⟩
theorem pick_ok (a s n : Int) (h0 : 0 ≤ a) (h1 : a ≤ 1000000) (n1 : 1 ≤ n) (n2 : n ≤ 200) : ∃ r a' s', Qe.f l a s n = some (r, a', s') ∧ 0 ≤ r ∧ r < n ∧ a ≤ a' ∧ a' ≤ a + 1 := by
  unfold Qe.f
  by_cases c : n ≤ 1
  · rw [if_pos c]
    exact ⟨_, _, _, rfl, by omega, by omega, by omega, by omega⟩
  · obtain ⟨r, s', e, r0, _⟩ := next_ok l hl hn a s h0 h1
    rw [if_neg c, e, Option.bind_some]
    dsimp only
    rw [if_neg (by omega), if_neg (by omega)]
    exact ⟨_, _, _, rfl, Int.tmod_nonneg _ r0, Int.tmod_lt_of_pos _ (by omega), by omega, by omega⟩
theorem among_ok (a s : Int) (h0 : 0 ≤ a) (h1 : a ≤ 1000000) (xs : List Int) (x1 : 1 ≤ xs.length) (x2 : xs.length ≤ 200) : ∃ r a' s', Qt.f l a s xs = some (r, a', s') ∧ r ∈ xs ∧ a ≤ a' ∧ a' ≤ a + 1 := by
  obtain ⟨r, a', s', e, r0, r1, r2, r3⟩ := pick_ok l hl hn a s (xs.length : Int) h0 h1 (by omega) (by omega)
  unfold Qt.f
  rw [e, Option.bind_some]
  dsimp only
  rw [if_pos r0, if_pos r1]
  exact ⟨_, _, _, rfl, rd_mem r0 r1, r2, r3⟩
theorem row_ok (x3 x5 : Int) (C : Nat) (hC : C ≤ 4) (p1 : 1 ≤ x5) (p2 : x5 ≤ 99) (x6 : List (List Int)) (x7 : Int) (d : Nat) : ∀ (i : Nat) (row : List Int) (a s : Int), i + d = C → row.length = i → (∀ h ∈ row, 1 ≤ h ∧ h ≤ 999) → 0 ≤ a → a + d ≤ 1000000 →
    ∃ row' a' s', row'.length = C ∧ (∀ h ∈ row', 1 ≤ h ∧ h ≤ 999) ∧ a ≤ a' ∧ a' ≤ a + d ∧ ∀ k, Qn.l1 (k + d + 1) x3 (C : Int) x5 x6 x7 row (i : Int) l a s = (if x6.length < 5864062014805 then (Qn.l0 k x3 (C : Int) x5 (x6 ++ [row']) (wrap64 (x7 + 1)) l a' s') else (none)) := by
  induction d with
  | zero =>
    intro i row a s h hr hh h0 h1
    refine ⟨row, a, s, by omega, hh, by omega, by omega, fun k => ?_⟩
    simp only [Qn.l1]
    rw [if_neg (by omega)]
  | succ d ih =>
    intro i row a s h hr hh h0 h1
    obtain ⟨p, a1, s1, e, q0, q1, q2, q3⟩ := pick_ok l hl hn a s x5 h0 (by omega) p1 (by omega)
    have ew : wrap64 (1 + p) = 1 + p := by unfold wrap64; omega
    obtain ⟨row', a', s', g1, g2, g3, g4, g5⟩ := ih (i + 1) (row ++ [1 + p]) a1 s1 (by omega) (by simp; omega) (by
      intro x hx
      rcases List.mem_append.1 hx with hx | hx
      · exact hh x hx
      · rw [List.mem_singleton.1 hx]; omega) (by omega) (by omega)
    refine ⟨row', a', s', g1, g2, by omega, by omega, fun k => ?_⟩
    obtain ⟨K, hK⟩ : ∃ K, K = k + d + 1 := ⟨_, rfl⟩
    rw [show k + (d + 1) + 1 = K + 1 by omega]
    simp only [Qn.l1]
    rw [if_pos (by omega), e, Option.bind_some]
    dsimp only
    rw [if_pos (by omega), ew, w_nat (by omega), hK]
    exact g5 k
theorem one_ok (a s : Int) (h0 : 0 ≤ a) (h1 : a ≤ 1000000) : ∃ b a' s', Qm1.f l a s 3 = some (b, a', s') ∧ a ≤ a' ∧ a' ≤ a + 1 := by
  obtain ⟨r, a', s', e, _, _, r2, r3⟩ := pick_ok l hl hn a s 3 h0 h1 (by omega) (by omega)
  unfold Qm1.f
  rw [e, Option.bind_some]
  exact ⟨_, _, _, rfl, r2, r3⟩
theorem fi_mk {out : List (List Int)} {C : Nat} (h1 : 1 ≤ out.length ∧ out.length ≤ 8) (hC : 1 ≤ C ∧ C ≤ 8) (hw : ∀ r ∈ out, r.length = C) (hh : ∀ r ∈ out, ∀ h ∈ r, 1 ≤ h ∧ h ≤ 999) : Fi out C := by
  refine ⟨h1, hC, hw, hh, ?_⟩
  cases out with
  | nil => simp at h1
  | cons a b => exact ⟨by simp, hw a (by simp)⟩
theorem sure_loop (R C : Nat) (hR : 1 ≤ R ∧ R ≤ 4) (hC : 1 ≤ C ∧ C ≤ 4) (x5 : Int) (p1 : 1 ≤ x5) (p2 : x5 ≤ 99) (d : Nat) : ∀ (i : Nat) (out : List (List Int)) (a s : Int), i + d = R → out.length = i → (∀ r ∈ out, r.length = C) → (∀ r ∈ out, ∀ h ∈ r, 1 ≤ h ∧ h ≤ 999) → 0 ≤ a → a + 10 * d + 10 ≤ 1000000 →
    ∃ out' a' s', Fi out' C ∧ 0 ≤ a' ∧ a' ≤ a + 10 * d + 10 ∧ ∀ k, 2000200 + 20 * d < k → Qn.l0 k (R : Int) (C : Int) x5 out (i : Int) l a s = some (out', a', s') := by
  induction d with
  | zero =>
    intro i out a s h ho hw hh h0 h1
    obtain ⟨b, a', s', e, q2, q3⟩ := one_ok l hl hn a s h0 (by omega)
    have hf : Fi out C := fi_mk l hl hn (by omega) (by omega) hw hh
    cases b with
    | true =>
      refine ⟨colsS (rowsS out) C, a', s', cols_fi _ _ (rows_fi _ _ hf), by omega, by omega, fun k hk => ?_⟩
      obtain ⟨k, rfl⟩ := fuel1 (show 0 < k by omega)
      simp only [Qn.l0]
      rw [if_neg (by omega), e, Option.bind_some]
      dsimp only
      rw [if_pos rfl, frows_ok out (by omega) (fi_low hf) k (by omega), Option.bind_some, fcols_ok _ C (rows_fi _ _ hf) k (by omega), Option.bind_some]
    | false =>
      refine ⟨out, a', s', hf, by omega, by omega, fun k hk => ?_⟩
      obtain ⟨k, rfl⟩ := fuel1 (show 0 < k by omega)
      simp only [Qn.l0]
      rw [if_neg (by omega), e, Option.bind_some]
      dsimp only
      rw [if_neg (by decide)]
  | succ d ih =>
    intro i out a s h ho hw hh h0 h1
    obtain ⟨row', a1, s1, g1, g2, g3, g4, g5⟩ := row_ok l hl hn (R : Int) x5 C hC.2 p1 p2 out (i : Int) C 0 [] a s (by omega) rfl (by simp) h0 (by omega)
    obtain ⟨out', a', s', f1, f2, f3, f4⟩ := ih (i + 1) (out ++ [row']) a1 s1 (by omega) (by simp; omega) (by
      intro r hr
      rcases List.mem_append.1 hr with hr | hr
      · exact hw r hr
      · rw [List.mem_singleton.1 hr]; exact g1) (by
      intro r hr
      rcases List.mem_append.1 hr with hr | hr
      · exact hh r hr
      · rw [List.mem_singleton.1 hr]; exact g2) (by omega) (by omega)
    refine ⟨out', a', s', f1, f2, by omega, fun k hk => ?_⟩
    obtain ⟨k, rfl⟩ : ∃ j, k = (j + C + 1) + 1 := ⟨k - C - 2, by omega⟩
    obtain ⟨K, hK⟩ : ∃ K, K = k + C + 1 := ⟨_, rfl⟩
    have g6 := g5 k
    rw [← hK] at g6
    rw [← hK]
    simp only [Qn.l0]
    have c0 : ((0 : Nat) : Int) = 0 := rfl
    rw [c0] at g6
    rw [if_pos (by omega), g6, if_pos (by omega), w_nat (by omega)]
    exact f4 k (by omega)
theorem sure_ok (s : Int) : ∃ out C a' s', Fi out C ∧ 0 ≤ a' ∧ a' ≤ 1000 ∧ ∀ k, 2000300 < k → Qn.f k l 0 s = some (out, a', s') := by
  obtain ⟨r1, a1, s1, e1, q0, q1, q2, q3⟩ := pick_ok l hl hn 0 s 4 (by omega) (by omega) (by omega) (by omega)
  obtain ⟨r2, a2, s2, e2, t0, t1, t2, t3⟩ := pick_ok l hl hn a1 s1 4 (by omega) (by omega) (by omega) (by omega)
  obtain ⟨r3, a3, s3, e3, u1, u2, u3⟩ := among_ok l hl hn a2 s2 (by omega) (by omega) [3, 9, 99] (by decide) (by decide)
  have hx : 1 ≤ r3 ∧ r3 ≤ 99 := by
    simp only [List.mem_cons, List.not_mem_nil, or_false] at u1
    omega
  obtain ⟨R, hR⟩ : ∃ R : Nat, (R : Int) = wrap64 (1 + r1) := ⟨(1 + r1).toNat, by unfold wrap64; omega⟩
  obtain ⟨C, hC⟩ : ∃ C : Nat, (C : Int) = wrap64 (1 + r2) := ⟨(1 + r2).toNat, by unfold wrap64; omega⟩
  have hR2 : 1 ≤ R ∧ R ≤ 4 := by unfold wrap64 at hR; omega
  have hC2 : 1 ≤ C ∧ C ≤ 4 := by unfold wrap64 at hC; omega
  obtain ⟨out, a', s', f1, f2, f3, f4⟩ := sure_loop l hl hn R C hR2 hC2 r3 hx.1 hx.2 R 0 [] a3 s3 (by omega) rfl (by simp) (by simp) (by omega) (by omega)
  refine ⟨out, C, a', s', f1, f2, by omega, fun k hk => ?_⟩
  unfold Qn.f
  rw [e1, Option.bind_some]
  dsimp only
  rw [e2, Option.bind_some]
  dsimp only
  rw [e3, Option.bind_some]
  dsimp only
  rw [← hR, ← hC]
  exact f4 k (by omega)
theorem oneN_ok (n a s : Int) (n1 : 1 ≤ n) (n2 : n ≤ 200) (h0 : 0 ≤ a) (h1 : a ≤ 1000000) : ∃ b a' s', Qm1.f l a s n = some (b, a', s') ∧ a ≤ a' ∧ a' ≤ a + 1 := by
  obtain ⟨r, a', s', e, _, _, r2, r3⟩ := pick_ok l hl hn a s n h0 h1 n1 n2
  unfold Qm1.f
  rw [e, Option.bind_some]
  exact ⟨_, _, _, rfl, r2, r3⟩
theorem pickG_ok (a s n : Int) (h0 : 0 ≤ a) (h1 : a ≤ 900000) (n1 : 1 ≤ n) : ∃ r a' s', Qe.f l a s n = some (r, a', s') ∧ 0 ≤ r ∧ r < n ∧ a ≤ a' ∧ a' ≤ a + 2 := by
  by_cases c : n ≤ 200
  · obtain ⟨r, a', s', e, q0, q1, q2, q3⟩ := pick_ok l hl hn a s n h0 (by omega) n1 c
    exact ⟨r, a', s', e, q0, q1, q2, by omega⟩
  · obtain ⟨r1, s1, e1, u0, u1⟩ := next_ok l hl hn a s h0 (by omega)
    obtain ⟨r2, s2, e2, v0, v1⟩ := next_ok l hl hn (a + 1) s1 (by omega) (by omega)
    unfold Qe.f
    rw [if_neg (by omega), e1, Option.bind_some]
    dsimp only
    rw [if_pos (by omega), e2, Option.bind_some]
    dsimp only
    have w1 : wrap64 (r1 * 256) = r1 * 256 := by unfold wrap64; omega
    have w2 : wrap64 (r1 * 256 + r2) = r1 * 256 + r2 := by unfold wrap64; omega
    rw [if_neg (by omega), w1, w2]
    exact ⟨_, _, _, rfl, Int.tmod_nonneg _ (by omega), Int.tmod_lt_of_pos _ (by omega), by omega, by omega⟩
theorem grow2_loop (d : Nat) : ∀ (x : List (List Int)) (a s : Int), 1 ≤ x.length → x.length + d = 10 → (∀ r ∈ x, r.length ≤ 1000) → 0 ≤ a → a + d ≤ 900000 → ∃ out a' s', 0 ≤ a' ∧ a' ≤ a + d + 1 ∧ ∀ k, d + 1 < k → Qc1.l0 k x l a s = some (out, a', s') := by
  induction d with
  | zero =>
    intro x a s h1 h2 hr h0 h3
    obtain ⟨p, a1, s1, e, q0, q1, q2, q3⟩ := pick_ok l hl hn a s 2 h0 (by omega) (by omega) (by omega)
    refine ⟨x, a1, s1, by omega, by omega, fun k hk => ?_⟩
    obtain ⟨k, rfl⟩ := fuel1 (show 0 < k by omega)
    simp only [Qc1.l0]
    rw [e, Option.bind_some]
    dsimp only
    rw [if_neg (by unfold wrap64; omega)]
  | succ d ih =>
    intro x a s h1 h2 hr h0 h3
    obtain ⟨p, a1, s1, e, q0, q1, q2, q3⟩ := pick_ok l hl hn a s 2 h0 (by omega) (by omega) (by omega)
    by_cases c : (x.length : Int) < wrap64 (8 + p)
    · have hx : rd_L2 x 0 ∈ x := by
        unfold rd_L2
        rw [List.getD_eq_getElem?_getD, List.getElem?_eq_getElem (show (0 : Int).toNat < x.length by simp; omega)]
        exact List.getElem_mem _
      have hrx := hr _ hx
      obtain ⟨out, a', s', g1, g2, g⟩ := ih (x ++ [rd_L2 x 0]) a1 s1 (by simp) (by simp; omega) (by
        intro r hm
        rcases List.mem_append.1 hm with hm | hm
        · exact hr r hm
        · rw [List.mem_singleton.1 hm]; exact hrx) (by omega) (by omega)
      refine ⟨out, a', s', g1, by omega, fun k hk => ?_⟩
      obtain ⟨k, rfl⟩ := fuel1 (show 0 < k by omega)
      simp only [Qc1.l0]
      rw [e, Option.bind_some]
      dsimp only
      rw [if_pos c, if_pos (by omega), own_ok _ (by omega), Option.bind_some, if_pos (by omega)]
      exact g k (by omega)
    · refine ⟨x, a1, s1, by omega, by omega, fun k hk => ?_⟩
      obtain ⟨k, rfl⟩ := fuel1 (show 0 < k by omega)
      simp only [Qc1.l0]
      rw [e, Option.bind_some]
      dsimp only
      rw [if_neg c]
theorem drawn_ok : ∃ out a' s', 0 ≤ a' ∧ a' ≤ 5000 ∧ ∀ k, 2000400 < k → Qc1.f k l 0 0 = some (out, a', s') := by
  obtain ⟨out, C, a1, s1, hf, h0, h1, e1⟩ := sure_ok l hl hn 0
  have hr := hf.rows
  have hlow := fi_low hf
  obtain ⟨p, a2, s2, e2, q0, q1, q2, q3⟩ := pick_ok l hl hn a1 s1 16 h0 (by omega) (by omega) (by omega)
  have hun : ∀ k, 2000400 < k → Qc1.f k l 0 0 = (if p = 0 then ((Qt.f l a2 s2 (([(-1), 0, 1, 1000] : List Int))).bind fun bt223 => (if out.length < 5864062014805 then (some ((out ++ [(([bt223.1] : List Int))]), bt223.2.1, bt223.2.2)) else (none))) else (if p = 1 then (some (([] : List (List Int)), a2, s2)) else (if p = 2 then (if 0 < (out.length : Int) then ((Qt.f l a2 s2 (([(-1), 0, 999, 1000, 4611686018427387904] : List Int))).bind fun bt236 => (if 0 < (rd_L2 out 0).length then (some (out.set 0 ((rd_L2 out 0).set 0 bt236.1), bt236.2.1, bt236.2.2)) else (none))) else (none)) else (if p = 3 then (Qc1.l0 k out l a2 s2) else (if p = 4 then (some ((([(([] : List Int))] : List (List Int))), a2, s2)) else (some (out, a2, s2))))))) := by
    intro k hk
    unfold Qc1.f
    rw [e1 k (by omega), Option.bind_some]
    dsimp only
    rw [e2, Option.bind_some]
  by_cases c0 : p = 0
  · obtain ⟨r, a3, s3, e3, _, z1, z2⟩ := among_ok l hl hn a2 s2 (by omega) (by omega) [-1, 0, 1, 1000] (by decide) (by decide)
    refine ⟨(out ++ [[r]]), a3, s3, by omega, by omega, fun k hk => ?_⟩
    rw [hun k hk, if_pos c0, e3, Option.bind_some, if_pos (by omega)]
  by_cases c1 : p = 1
  · refine ⟨[], a2, s2, by omega, by omega, fun k hk => ?_⟩
    rw [hun k hk, if_neg c0, if_pos c1]
  by_cases c2 : p = 2
  · obtain ⟨r, a3, s3, e3, _, z1, z2⟩ := among_ok l hl hn a2 s2 (by omega) (by omega) [-1, 0, 999, 1000, 4611686018427387904] (by decide) (by decide)
    have hx : rd_L2 out 0 ∈ out := by
      unfold rd_L2
      rw [List.getD_eq_getElem?_getD, List.getElem?_eq_getElem (show (0 : Int).toNat < out.length by simp; omega)]
      exact List.getElem_mem _
    have hw := hf.wide _ hx
    have hC := hf.cols
    refine ⟨out.set 0 ((rd_L2 out 0).set 0 r), a3, s3, by omega, by omega, fun k hk => ?_⟩
    rw [hun k hk, if_neg c0, if_neg c1, if_pos c2, if_pos (by omega), e3, Option.bind_some, if_pos (by omega)]
  by_cases c3 : p = 3
  · obtain ⟨z, a3, s3, z1, z2, g⟩ := grow2_loop l hl hn (10 - out.length) out a2 s2 hr.1 (by omega) (fun r hm => by have := hlow r hm; omega) (by omega) (by omega)
    refine ⟨z, a3, s3, by omega, by omega, fun k hk => ?_⟩
    rw [hun k hk, if_neg c0, if_neg c1, if_neg c2, if_pos c3, g k (by omega)]
  by_cases c4 : p = 4
  · refine ⟨[[]], a2, s2, by omega, by omega, fun k hk => ?_⟩
    rw [hun k hk, if_neg c0, if_neg c1, if_neg c2, if_neg c3, if_pos c4]
  · refine ⟨out, a2, s2, by omega, by omega, fun k hk => ?_⟩
    rw [hun k hk, if_neg c0, if_neg c1, if_neg c2, if_neg c3, if_neg c4]
theorem drawn_rank : ∃ L a, ∀ k, 2000500 < k → Qe2.f k l = some (L, a) := by
  obtain ⟨out, a1, s1, h0, h1, e1⟩ := drawn_ok l hl hn
  obtain ⟨p, a2, s2, e2, q0, q1, q2, q3⟩ := pick_ok l hl hn a1 s1 18 h0 (by omega) (by omega) (by omega)
  obtain ⟨q, a3, s3, e3, u0, u1, u2, u3⟩ := pick_ok l hl hn a2 s2 9 (by omega) (by omega) (by omega) (by omega)
  refine ⟨out, wrap64 (p - (wrap64 (Int.tdiv q 8))), fun k hk => ?_⟩
  unfold Qe2.f Qv2.f
  rw [e1 k (by omega), Option.bind_some]
  dsimp only
  rw [e2, Option.bind_some]
  dsimp only
  rw [e3, Option.bind_some, Option.bind_some]
theorem drawn_exch : ∃ L a b, ∀ k, 2000500 < k → Qa2.f k l = some (L, a, b) := by
  obtain ⟨out, a1, s1, h0, h1, e1⟩ := drawn_ok l hl hn
  obtain ⟨p, a2, s2, e2, q0, q1, q2, q3⟩ := pick_ok l hl hn a1 s1 4 h0 (by omega) (by omega) (by omega)
  obtain ⟨q, a3, s3, e3, u0, u1, u2, u3⟩ := pick_ok l hl hn a2 s2 9 (by omega) (by omega) (by omega) (by omega)
  obtain ⟨r, a4, s4, e4, v0, v1, v2, v3⟩ := pick_ok l hl hn a3 s3 4 (by omega) (by omega) (by omega) (by omega)
  refine ⟨out, wrap64 (p - (wrap64 (Int.tdiv q 8))), r, fun k hk => ?_⟩
  unfold Qa2.f Qu2.f
  rw [e1 k (by omega), Option.bind_some]
  dsimp only
  rw [e2, Option.bind_some]
  dsimp only
  rw [e3, Option.bind_some]
  dsimp only
  rw [e4, Option.bind_some, Option.bind_some]
theorem drawn_count : ∃ a b, Qs1.f l = some (a, b) := by
  obtain ⟨p, a2, s2, e2, q0, q1, q2, q3⟩ := pick_ok l hl hn 0 0 6 (by omega) (by omega) (by omega) (by omega)
  obtain ⟨q, a3, s3, e3, u0, u1, u2, u3⟩ := pick_ok l hl hn a2 s2 7 (by omega) (by omega) (by omega) (by omega)
  refine ⟨p, q, ?_⟩
  unfold Qs1.f Qt2.f
  rw [e2, Option.bind_some]
  dsimp only
  rw [e3, Option.bind_some, Option.bind_some]
theorem drawn_places : ∃ L a, ∀ k, 3000100 < k → Qv1.f k l = some (L, a) := by
  obtain ⟨out, a1, s1, h0, h1, e1⟩ := drawn_ok l hl hn
  have rest : ∀ (x5 : List (List Int)) (a s : Int), 0 ≤ a → a ≤ 900000 → ∃ z, ∀ k, 3000000 < k → Qo.j0 k x5 false l a s = some z := by
    intro x5 a s g0 g1
    obtain ⟨r, a3, s3, e3, _, z1, z2⟩ := among_ok l hl hn a s (by omega) (by omega) [0, 1, 2, 3, 5, 50, 999, 1000, 1001, -1] (by decide) (by decide)
    refine ⟨(x5, r, a3, s3), fun k hk => ?_⟩
    obtain ⟨k, rfl⟩ := fuel1 (show 0 < k by omega)
    simp only [Qo.j0]
    rw [if_neg (by decide), e3, Option.bind_some]
  suffices h : ∃ z : List (List Int) × Int × Int × Int, ∀ k, 3000100 < k → Qo.f k l 0 0 = some z by
    obtain ⟨z, hz⟩ := h
    refine ⟨z.1, z.2.1, fun k hk => ?_⟩
    unfold Qv1.f
    rw [hz k hk, Option.bind_some]
  cases hg : goodB out with
  | false =>
    obtain ⟨z, hz⟩ := rest out a1 s1 h0 (by omega)
    refine ⟨z, fun k hk => ?_⟩
    unfold Qo.f
    rw [e1 k (by omega), Option.bind_some]
    dsimp only
    rw [good_ok out k (by omega), Option.bind_some, hg, if_neg (by decide)]
    exact hz k (by omega)
  | true =>
    obtain ⟨b, a2, s2, e2, q2, q3⟩ := oneN_ok l hl hn 6 a1 s1 (by omega) (by omega) h0 (by omega)
    have hun : ∀ k, 3000100 < k → Qo.f k l 0 0 = Qo.j0 k out (!b) l a2 s2 := by
      intro k hk
      unfold Qo.f
      rw [e1 k (by omega), Option.bind_some]
      dsimp only
      rw [good_ok out k (by omega), Option.bind_some, hg, if_pos rfl, e2, Option.bind_some]
    cases b with
    | true =>
      obtain ⟨z, hz⟩ := rest out a2 s2 (by omega) (by omega)
      exact ⟨z, fun k hk => by rw [hun k hk]; exact hz k (by omega)⟩
    | false =>
      have hf := fi_of out hg
      obtain ⟨L, hL⟩ : ∃ L, L = colsS (rowsS out) (out.headD []).length := ⟨_, rfl⟩
      have hfL := cols_fi _ _ (rows_fi _ _ hf)
      rw [← hL] at hfL
      have hr := hfL.rows
      have hc := hfL.cols
      have hw := hfL.wide
      have hh0 : (rd_L2 L 0).length = (out.headD []).length := by
        refine hw _ ?_
        unfold rd_L2
        rw [List.getD_eq_getElem?_getD, List.getElem?_eq_getElem (show (0 : Int).toNat < L.length by simp; omega)]
        exact List.getElem_mem _
      obtain ⟨b2, a3, s3, e3, t2, t3⟩ := oneN_ok l hl hn 2 a2 s2 (by omega) (by omega) (by omega) (by omega)
      have hun2 : ∀ k, 3000100 < k → ∃ j, k = j + 1 ∧ Qo.f k l 0 0 = (if b2 = true then ((Qp1.f j L).bind fun t245 => (if 0 < (L.length : Int) then ((Qe.f l a3 s3 (wrap64 ((L.length : Int) * ((rd_L2 L 0).length : Int)))).bind fun bt249 => (if 0 ≤ bt249.1 then (if bt249.1 < (t245.length : Int) then (some (L, rd t245 bt249.1, bt249.2.1, bt249.2.2)) else (none)) else (none))) else (none))) else ((Qt.f l a3 s3 (([0, 1, 2, 3, 5, 50, 999, 1000, 1001, (-1)] : List Int))).bind fun bt256 => (some (L, bt256.1, bt256.2.1, bt256.2.2)))) := by
        intro k hk
        obtain ⟨j, rfl⟩ := fuel1 (show 0 < k by omega)
        refine ⟨j, rfl, ?_⟩
        rw [hun _ hk, show (!false) = true from rfl]
        simp only [Qo.j0]
        rw [if_pos trivial, frows_ok out hf.rows.2 (fi_low hf) j (by omega), Option.bind_some, fcols_ok _ _ (rows_fi _ _ hf) j (by omega), Option.bind_some, e3, Option.bind_some, ← hL]
      cases b2 with
      | true =>
        have h64 : L.length * (out.headD []).length ≤ 64 := Nat.le_trans (Nat.mul_le_mul hr.2 hc.2) (by omega)
        have h1m : 1 ≤ L.length * (out.headD []).length := Nat.mul_pos (by omega) (by omega)
        have hb : wrap64 ((L.length : Int) * ((rd_L2 L 0).length : Int)) = ((L.length * (out.headD []).length : Nat) : Int) := by
          rw [hh0, ← Int.natCast_mul, w_in (by omega) (by omega)]
        have hfl := flat_eq _ L hw
        obtain ⟨p, a4, s4, e4, v0, v1, v2, v3⟩ := pick_ok l hl hn a3 s3 ((L.length * (out.headD []).length : Nat) : Int) (by omega) (by omega) (by omega) (by omega)
        refine ⟨(L, rd (ordL (flatL L)) p, a4, s4), fun k hk => ?_⟩
        obtain ⟨j, rfl, e⟩ := hun2 k hk
        rw [e, if_pos rfl, fall_ok L hr.2 (fun r h => by rw [hw r h]; exact hc.2) j (by omega), Option.bind_some, if_pos (by omega), hb, e4, Option.bind_some]
        dsimp only
        rw [if_pos v0, if_pos (by rw [ord_len, hfl]; exact v1)]
      | false =>
        obtain ⟨r, a4, s4, e4, _, z1, z2⟩ := among_ok l hl hn a3 s3 (by omega) (by omega) [0, 1, 2, 3, 5, 50, 999, 1000, 1001, -1] (by decide) (by decide)
        refine ⟨(L, r, a4, s4), fun k hk => ?_⟩
        obtain ⟨j, rfl, e⟩ := hun2 k hk
        rw [e, if_neg (by decide), e4, Option.bind_some]
theorem spoilt_loop (m : Nat) : ∀ (x : ByteArray) (a s : Int), m ≤ 2 → x.size + m ≤ 1000000 → 0 ≤ a → a + 6 * m ≤ 900000 → ∃ y a' s', y.size ≤ x.size + m ∧ ∀ k, 2 * m + 2 < k → Ql.l0 k x (⟨#[48, 49, 50, 51, 44, 47, 120]⟩ : ByteArray) (m : Int) l a s = some (y, a', s') := by
  induction m with
  | zero =>
    intro x a s _ hx h0 h1
    refine ⟨x, a, s, by omega, fun k hk => ?_⟩
    obtain ⟨k, rfl⟩ : ∃ j, k = j + 1 + 1 := ⟨k - 2, by omega⟩
    obtain ⟨K, hK⟩ : ∃ K, K = k + 1 := ⟨_, rfl⟩
    rw [← hK]
    simp only [Ql.l0]
    rw [if_neg (by omega), hK]
    simp only [Ql.j1]
    rw [if_neg (by decide)]
  | succ m ih =>
    intro x a s hm hx h0 h1
    by_cases c : 0 < x.size
    · obtain ⟨p, a2, s2, e2, q0, q1, q2, q3⟩ := pickG_ok l hl hn a s (x.size : Int) (by omega) (by omega) (by omega)
      obtain ⟨q, a3, s3, e3, u0, u1, u2, u3⟩ := pick_ok l hl hn a2 s2 7 (by omega) (by omega) (by omega) (by omega)
      obtain ⟨r, a4, s4, e4, v0, v1, v2, v3⟩ := pick_ok l hl hn a3 s3 3 (by omega) (by omega) (by omega) (by omega)
      have w1 : wrap64 (((m + 1 : Nat) : Int) - 1) = (m : Int) := by unfold wrap64; omega
      have w2 : wrap64 (p + 1) = p + 1 := by unfold wrap64; omega
      have z1 : ∀ t : List Int, (strOfNums t).size = t.length := fun t => by simp [strOfNums, ByteArray.size]
      obtain ⟨B7, hB7⟩ : ∃ B7, B7 = (⟨#[48, 49, 50, 51, 44, 47, 120]⟩ : ByteArray) := ⟨_, rfl⟩
      have h7 : B7.size = 7 := by rw [hB7]; rfl
      have hx0 : (x.extract 0 p.toNat).size = p.toNat := by rw [ByteArray.size_extract]; omega
      have hx1 : (x.extract p.toNat x.size).size = x.size - p.toNat := by rw [ByteArray.size_extract]; omega
      have hx2 : (x.extract (p + 1).toNat x.size).size = x.size - (p + 1).toNat := by rw [ByteArray.size_extract]; omega
      have hc1 : (strOfNums [bt B7 q]).size = 1 := z1 _
      have go : ∀ (nx : ByteArray), nx.size ≤ x.size + 1 → (∀ k, 2 * m + 2 < k → Ql.j1 (k + 1) x B7 ((m + 1 : Nat) : Int) true l a s = Ql.l0 k nx B7 (m : Int) l a4 s4) →
          ∃ y a' s', y.size ≤ x.size + (m + 1) ∧ ∀ k, 2 * (m + 1) + 2 < k → Ql.l0 k x B7 ((m + 1 : Nat) : Int) l a s = some (y, a', s') := by
        intro nx hnx hst
        obtain ⟨y, a', s', g1, g2⟩ := ih nx a4 s4 (by omega) (by omega) (by omega) (by omega)
        rw [← hB7] at g2
        refine ⟨y, a', s', by omega, fun k hk => ?_⟩
        obtain ⟨k, rfl⟩ : ∃ j, k = j + 1 + 1 := ⟨k - 2, by omega⟩
        obtain ⟨K, hK⟩ : ∃ K, K = k + 1 := ⟨_, rfl⟩
        rw [← hK]
        simp only [Ql.l0]
        rw [if_pos (by omega), decide_eq_true (by omega), hK, hst k (by omega)]
        exact g2 k (by omega)
      have e3' : Qe.f l a2 s2 (B7.size : Int) = some (q, a3, s3) := by rw [h7]; exact e3
      rw [← hB7]
      have st : ∀ k, Ql.j1 (k + 1) x B7 ((m + 1 : Nat) : Int) true l a s = (if r = 0 then (if 0 ≤ p then (if p ≤ (x.size : Int) then (if (x.extract 0 (p : Int).toNat).size + (strOfNums ([bt B7 q] : List Int)).size ≤ 9223372036854775807 then (if ((x.extract 0 (p : Int).toNat) ++ (strOfNums ([bt B7 q] : List Int))).size + (x.extract (p : Int).toNat x.size).size ≤ 9223372036854775807 then (Ql.l0 k (((x.extract 0 (p : Int).toNat) ++ (strOfNums ([bt B7 q] : List Int))) ++ (x.extract (p : Int).toNat x.size)) B7 (wrap64 (((m + 1 : Nat) : Int) - 1)) l a4 s4) else (none)) else (none)) else (none)) else (none)) else (if r = 1 then (if 0 ≤ p then (if p ≤ (x.size : Int) then (if (x.extract 0 (p : Int).toNat).size + (strOfNums ([bt B7 q] : List Int)).size ≤ 9223372036854775807 then (if 0 ≤ (wrap64 (p + 1)) then (if (wrap64 (p + 1)) ≤ (x.size : Int) then (if ((x.extract 0 (p : Int).toNat) ++ (strOfNums ([bt B7 q] : List Int))).size + (x.extract ((wrap64 (p + 1)) : Int).toNat x.size).size ≤ 9223372036854775807 then (Ql.l0 k (((x.extract 0 (p : Int).toNat) ++ (strOfNums ([bt B7 q] : List Int))) ++ (x.extract ((wrap64 (p + 1)) : Int).toNat x.size)) B7 (wrap64 (((m + 1 : Nat) : Int) - 1)) l a4 s4) else (none)) else (none)) else (none)) else (none)) else (none)) else (none)) else (if 0 ≤ p then (if p ≤ (x.size : Int) then (if 0 ≤ (wrap64 (p + 1)) then (if (wrap64 (p + 1)) ≤ (x.size : Int) then (if (x.extract 0 (p : Int).toNat).size + (x.extract ((wrap64 (p + 1)) : Int).toNat x.size).size ≤ 9223372036854775807 then (Ql.l0 k ((x.extract 0 (p : Int).toNat) ++ (x.extract ((wrap64 (p + 1)) : Int).toNat x.size)) B7 (wrap64 (((m + 1 : Nat) : Int) - 1)) l a4 s4) else (none)) else (none)) else (none)) else (none)) else (none)))) := by
        intro k
        simp only [Ql.j1]
        rw [if_pos trivial, e2, Option.bind_some]
        dsimp only
        rw [e3', Option.bind_some]
        dsimp only
        rw [if_pos u0, if_pos (by rw [h7]; exact u1), Option.bind_some, e4, Option.bind_some]
      by_cases r0 : r = 0
      · refine go (((x.extract 0 p.toNat) ++ (strOfNums [bt B7 q])) ++ (x.extract p.toNat x.size)) (by rw [ByteArray.size_append, ByteArray.size_append]; omega) (fun k hk => ?_)
        rw [st k, if_pos r0, if_pos q0, if_pos (by omega), if_pos (by omega), if_pos (by rw [ByteArray.size_append]; omega), w1]
      by_cases r1 : r = 1
      · refine go (((x.extract 0 p.toNat) ++ (strOfNums [bt B7 q])) ++ (x.extract (p + 1).toNat x.size)) (by rw [ByteArray.size_append, ByteArray.size_append]; omega) (fun k hk => ?_)
        rw [st k, if_neg r0, if_pos r1, if_pos q0, if_pos (by omega), if_pos (by omega), w2, if_pos (by omega), if_pos (by omega), if_pos (by rw [ByteArray.size_append]; omega), w1]
      · refine go ((x.extract 0 p.toNat) ++ (x.extract (p + 1).toNat x.size)) (by rw [ByteArray.size_append]; omega) (fun k hk => ?_)
        rw [st k, if_neg r0, if_neg r1, if_pos q0, if_pos (by omega), w2, if_pos (by omega), if_pos (by omega), if_pos (by omega), w1]
    · refine ⟨x, a, s, by omega, fun k hk => ?_⟩
      obtain ⟨k, rfl⟩ : ∃ j, k = j + 1 + 1 := ⟨k - 2, by omega⟩
      obtain ⟨K, hK⟩ : ∃ K, K = k + 1 := ⟨_, rfl⟩
      rw [← hK]
      simp only [Ql.l0]
      rw [if_pos (by omega), decide_eq_false (by omega), hK]
      simp only [Ql.j1]
      rw [if_neg (by decide)]
theorem drawn_text : ∃ t : ByteArray, t.size ≤ 1048576 ∧ ∀ k, 2000500 < k → Qb2.f k l = some t := by
  obtain ⟨out, C, a1, s1, hf, h0, h1, e1⟩ := sure_ok l hl hn 0
  obtain ⟨b, a2, s2, e2, q2, q3⟩ := oneN_ok l hl hn 3 a1 s1 (by omega) (by omega) h0 (by omega)
  have hT : ∀ k, 2000500 < k → Qy.f k out = some (B (filL out)) := fun k hk => s_text out C hf k (by omega)
  have hlen : (B (filL out)).size ≤ 100000 := by rw [B_size]; exact (Nat.le_trans (good_read out (good_of hf)).1 (by omega))
  have hun : ∀ k, 2000500 < k → Qb2.f k l = (if b = true then ((Ql.f k l a2 s2 (B (filL out)) (⟨#[48, 49, 50, 51, 44, 47, 120]⟩ : ByteArray)).bind fun t => some t.1) else some (B (filL out))) := by
    intro k hk
    unfold Qb2.f Qw2.f
    rw [e1 k (by omega), Option.bind_some]
    dsimp only
    rw [hT k hk, Option.bind_some, e2, Option.bind_some]
    dsimp only
    cases b with
    | true => rw [if_pos rfl, if_pos rfl, Option.bind_assoc]; rfl
    | false => rw [if_neg (by decide), if_neg (by decide), Option.bind_some]
  cases b with
  | false => exact ⟨B (filL out), by omega, fun k hk => by rw [hun k hk, if_neg (by decide)]⟩
  | true =>
    obtain ⟨p, a3, s3, e3, u0, u1, u2, u3⟩ := pick_ok l hl hn a2 s2 2 (by omega) (by omega) (by omega) (by omega)
    obtain ⟨m, hm⟩ : ∃ m : Nat, (m : Int) = wrap64 (1 + p) := ⟨(1 + p).toNat, by unfold wrap64; omega⟩
    have hm2 : m ≤ 2 := by unfold wrap64 at hm; omega
    obtain ⟨y, a', s', g1, g2⟩ := spoilt_loop l hl hn m (B (filL out)) a3 s3 hm2 (by omega) (by omega) (by omega)
    refine ⟨y, by omega, fun k hk => ?_⟩
    rw [hun k hk, if_pos rfl]
    unfold Ql.f
    rw [e3, Option.bind_some]
    dsimp only
    rw [← hm, g2 k (by omega), Option.bind_some]
end
end Go.Proofs.YtohhlkehglahhaaGreatDoor.Pure
