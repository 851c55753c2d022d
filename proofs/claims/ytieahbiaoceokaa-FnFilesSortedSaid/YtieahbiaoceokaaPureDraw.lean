/- What is drawn is always drawn: the drawn files come to some lists. No condition. -/
import Derived.Test.YtieahbiaoceokaaPureSort
import Derived.Test.YtieahbiaoceokaaGivF
import Derived.Laws.BitsLemmas
namespace Go.Proofs.Ytieahbiaoceokaa.Pure
open Go.RowKit Go.Proofs.Ytieahbiaoceokaa.A Go.Proofs.YtieahbiaoceokaaW.PrintWords Go.Proofs.YtieahbiaoceokaaW.PrintLast Go.Proofs.YtieahbiaoceokaaW.PrintMore
set_option linter.unusedVariables false
set_option linter.unusedSimpArgs false
set_option linter.unusedSectionVars false

theorem u64w (n : Int) : IntKind.u64.wrap n = n % 18446744073709551616 := by simp [IntKind.wrap, IntKind.bits, IntKind.signed]
theorem and255 (x : Int) (h0 : 0 ≤ x) (h1 : x < 18446744073709551616) : Go.bits .and .u64 x 255 = x % 256 := bits_mask .u64 64 (by decide) (fun n a b => by rw [u64w]; omega) 8 (by decide) x h0 h1
theorem low8 (x : Int) : 0 ≤ wrap64 (Go.bits .and .u64 (IntKind.u64.wrap x / 1099511627776) 255) ∧ wrap64 (Go.bits .and .u64 (IntKind.u64.wrap x / 1099511627776) 255) ≤ 255 := by
  have h0 : 0 ≤ IntKind.u64.wrap x / 1099511627776 := by rw [u64w]; omega
  have h1 : IntKind.u64.wrap x / 1099511627776 < 18446744073709551616 := by rw [u64w]; omega
  rw [and255 _ h0 h1]
  unfold wrap64
  omega
theorem rd_mem {l : List Int} {i : Int} (h0 : 0 ≤ i) (h1 : i < (l.length : Int)) : rd l i ∈ l := by
  unfold rd
  have hi : i.toNat < l.length := by omega
  rw [List.getD_eq_getElem?_getD, List.getElem?_eq_getElem hi]
  exact List.getElem_mem hi
section
variable (l : List Int) (hl : ∀ n ∈ l, 0 ≤ n ∧ n ≤ 255) (hn : l.length ≤ 1000000000)
include hl hn
theorem next_ok (a s : Int) (h0 : 0 ≤ a) (h1 : a ≤ 1000000) : ∃ r s', spec_l1Cur_next.f l a s = some (r, a + 1, s') ∧ 0 ≤ r ∧ r ≤ 255 := by
  have e : wrap64 (a + 1) = a + 1 := by unfold wrap64; omega
  unfold spec_l1Cur_next.f
  rw [e]
  by_cases c : a < (l.length : Int)
  · have hr := hl _ (rd_mem h0 c)
    rw [if_pos c, if_pos h0, if_pos (by omega)]
    exact ⟨_, _, rfl, by unfold wrap64; omega, by unfold wrap64; omega⟩
  · rw [if_neg c]
    by_cases d : a + 1 ≤ (l.length : Int)
    · rw [if_pos d]
      exact ⟨_, _, rfl, by omega, by omega⟩
    · rw [if_neg d]
      exact ⟨_, _, rfl, (low8 _).1, (low8 _).2⟩
theorem pick_ok (a s n : Int) (h0 : 0 ≤ a) (h1 : a ≤ 1000000) (n1 : 1 ≤ n) (n2 : n ≤ 200) : ∃ r a' s', spec_l1Cur_pick.f l a s n = some (r, a', s') ∧ 0 ≤ r ∧ r < n ∧ a ≤ a' ∧ a' ≤ a + 1 := by
  unfold spec_l1Cur_pick.f
  by_cases c : n ≤ 1
  · rw [if_pos c]
    exact ⟨_, _, _, rfl, by omega, by omega, by omega, by omega⟩
  · obtain ⟨r, s', e, r0, _⟩ := next_ok l hl hn a s h0 h1
    rw [if_neg c, e, Option.bind_some]
    dsimp only
    rw [if_neg (by omega), if_neg (by omega)]
    exact ⟨_, _, _, rfl, Int.tmod_nonneg _ r0, Int.tmod_lt_of_pos _ (by omega), by omega, by omega⟩
theorem among_ok (a s : Int) (h0 : 0 ≤ a) (h1 : a ≤ 1000000) (xs : List Int) (x1 : 1 ≤ xs.length) (x2 : xs.length ≤ 200) : ∃ r a' s', spec_l1Cur_among.f l a s xs = some (r, a', s') ∧ r ∈ xs ∧ a ≤ a' ∧ a' ≤ a + 1 := by
  obtain ⟨r, a', s', e, r0, r1, r2, r3⟩ := pick_ok l hl hn a s (xs.length : Int) h0 h1 (by omega) (by omega)
  unfold spec_l1Cur_among.f
  rw [e, Option.bind_some]
  dsimp only
  rw [if_pos r0, if_pos r1]
  exact ⟨_, _, _, rfl, rd_mem r0 r1, r2, r3⟩
theorem row_ok (x3 x5 : Int) (C : Nat) (hC : C ≤ 4) (p1 : 1 ≤ x5) (p2 : x5 ≤ 99) (x6 : List (List Int)) (x7 : Int) (d : Nat) : ∀ (i : Nat) (row : List Int) (a s : Int), i + d = C → row.length = i → (∀ h ∈ row, 1 ≤ h ∧ h ≤ 999) → 0 ≤ a → a + d ≤ 1000000 →
    ∃ row' a' s', row'.length = C ∧ (∀ h ∈ row', 1 ≤ h ∧ h ≤ 999) ∧ a ≤ a' ∧ a' ≤ a + d ∧ ∀ k, spec_l1Cur_sureFiles.l1 (k + d + 1) x3 (C : Int) x5 x6 x7 row (i : Int) l a s = (if x6.length < 5864062014805 then (spec_l1Cur_sureFiles.l0 k x3 (C : Int) x5 (x6 ++ [row']) (wrap64 (x7 + 1)) l a' s') else (none)) := by
  induction d with
  | zero =>
    intro i row a s h hr hh h0 h1
    refine ⟨row, a, s, by omega, hh, by omega, by omega, fun k => ?_⟩
    simp only [spec_l1Cur_sureFiles.l1]
    rw [if_neg (by omega)]
  | succ d ih =>
    intro i row a s h hr hh h0 h1
    obtain ⟨p, a1, s1, e, q0, q1, q2, q3⟩ := pick_ok l hl hn a s x5 h0 (by omega) p1 (by omega)
    have ew : wrap64 (1 + p) = 1 + p := by unfold wrap64; omega
    obtain ⟨row', a', s', g1, g2, g3, g4, g5⟩ := ih (i + 1) (row ++ [1 + p]) a1 s1 (by omega) (by simp; omega) (by
      intro x hx
      rcases List.mem_append.1 hx with hx | hx
      · exact hh x hx
      · rw [List.mem_singleton.1 hx]; omega) (by omega) (by omega)
    refine ⟨row', a', s', g1, g2, by omega, by omega, fun k => ?_⟩
    obtain ⟨K, hK⟩ : ∃ K, K = k + d + 1 := ⟨_, rfl⟩
    rw [show k + (d + 1) + 1 = K + 1 by omega]
    simp only [spec_l1Cur_sureFiles.l1]
    rw [if_pos (by omega), e, Option.bind_some]
    dsimp only
    rw [if_pos (by omega), ew, w_nat (by omega), hK]
    exact g5 k
theorem one_ok (a s : Int) (h0 : 0 ≤ a) (h1 : a ≤ 1000000) : ∃ b a' s', spec_l1Cur_one.f l a s 3 = some (b, a', s') ∧ a ≤ a' ∧ a' ≤ a + 1 := by
  obtain ⟨r, a', s', e, _, _, r2, r3⟩ := pick_ok l hl hn a s 3 h0 h1 (by omega) (by omega)
  unfold spec_l1Cur_one.f
  rw [e, Option.bind_some]
  exact ⟨_, _, _, rfl, r2, r3⟩
theorem fi_mk {out : List (List Int)} {C : Nat} (h1 : 1 ≤ out.length ∧ out.length ≤ 8) (hC : 1 ≤ C ∧ C ≤ 8) (hw : ∀ r ∈ out, r.length = C) (hh : ∀ r ∈ out, ∀ h ∈ r, 1 ≤ h ∧ h ≤ 999) : Fi out C := by
  refine ⟨h1, hC, hw, hh, ?_⟩
  cases out with
  | nil => simp at h1
  | cons a b => exact ⟨by simp, hw a (by simp)⟩
theorem sure_loop (R C : Nat) (hR : 1 ≤ R ∧ R ≤ 4) (hC : 1 ≤ C ∧ C ≤ 4) (x5 : Int) (p1 : 1 ≤ x5) (p2 : x5 ≤ 99) (d : Nat) : ∀ (i : Nat) (out : List (List Int)) (a s : Int), i + d = R → out.length = i → (∀ r ∈ out, r.length = C) → (∀ r ∈ out, ∀ h ∈ r, 1 ≤ h ∧ h ≤ 999) → 0 ≤ a → a + 10 * d + 10 ≤ 1000000 →
    ∃ out' a' s', Fi out' C ∧ 0 ≤ a' ∧ a' ≤ a + 10 * d + 10 ∧ ∀ k, 2000200 + 20 * d < k → spec_l1Cur_sureFiles.l0 k (R : Int) (C : Int) x5 out (i : Int) l a s = some (out', a', s') := by
  induction d with
  | zero =>
    intro i out a s h ho hw hh h0 h1
    obtain ⟨b, a', s', e, q2, q3⟩ := one_ok l hl hn a s h0 (by omega)
    have hf : Fi out C := fi_mk l hl hn (by omega) (by omega) hw hh
    cases b with
    | true =>
      refine ⟨colsS (rowsS out) C, a', s', cols_fi _ _ (rows_fi _ _ hf), by omega, by omega, fun k hk => ?_⟩
      obtain ⟨k, rfl⟩ := fuel1 (show 0 < k by omega)
      simp only [spec_l1Cur_sureFiles.l0]
      rw [if_neg (by omega), e, Option.bind_some]
      dsimp only
      rw [if_pos rfl, frows_ok out (by omega) (fi_low hf) k (by omega), Option.bind_some, fcols_ok _ C (rows_fi _ _ hf) k (by omega), Option.bind_some]
    | false =>
      refine ⟨out, a', s', hf, by omega, by omega, fun k hk => ?_⟩
      obtain ⟨k, rfl⟩ := fuel1 (show 0 < k by omega)
      simp only [spec_l1Cur_sureFiles.l0]
      rw [if_neg (by omega), e, Option.bind_some]
      dsimp only
      rw [if_neg (by decide)]
  | succ d ih =>
    intro i out a s h ho hw hh h0 h1
    obtain ⟨row', a1, s1, g1, g2, g3, g4, g5⟩ := row_ok l hl hn (R : Int) x5 C hC.2 p1 p2 out (i : Int) C 0 [] a s (by omega) rfl (by simp) h0 (by omega)
    obtain ⟨out', a', s', f1, f2, f3, f4⟩ := ih (i + 1) (out ++ [row']) a1 s1 (by omega) (by simp; omega) (by
      intro r hr
      rcases List.mem_append.1 hr with hr | hr
      · exact hw r hr
      · rw [List.mem_singleton.1 hr]; exact g1) (by
      intro r hr
      rcases List.mem_append.1 hr with hr | hr
      · exact hh r hr
      · rw [List.mem_singleton.1 hr]; exact g2) (by omega) (by omega)
    refine ⟨out', a', s', f1, f2, by omega, fun k hk => ?_⟩
    obtain ⟨k, rfl⟩ : ∃ j, k = (j + C + 1) + 1 := ⟨k - C - 2, by omega⟩
    obtain ⟨K, hK⟩ : ∃ K, K = k + C + 1 := ⟨_, rfl⟩
    have g6 := g5 k
    rw [← hK] at g6
    rw [← hK]
    simp only [spec_l1Cur_sureFiles.l0]
    have c0 : ((0 : Nat) : Int) = 0 := rfl
    rw [c0] at g6
    rw [if_pos (by omega), g6, if_pos (by omega), w_nat (by omega)]
    exact f4 k (by omega)
theorem sure_ok (s : Int) : ∃ out C a' s', Fi out C ∧ 0 ≤ a' ∧ a' ≤ 1000 ∧ ∀ k, 2000300 < k → spec_l1Cur_sureFiles.f k l 0 s = some (out, a', s') := by
  obtain ⟨r1, a1, s1, e1, q0, q1, q2, q3⟩ := pick_ok l hl hn 0 s 4 (by omega) (by omega) (by omega) (by omega)
  obtain ⟨r2, a2, s2, e2, t0, t1, t2, t3⟩ := pick_ok l hl hn a1 s1 4 (by omega) (by omega) (by omega) (by omega)
  obtain ⟨r3, a3, s3, e3, u1, u2, u3⟩ := among_ok l hl hn a2 s2 (by omega) (by omega) [3, 9, 99] (by decide) (by decide)
  have hx : 1 ≤ r3 ∧ r3 ≤ 99 := by
    simp only [List.mem_cons, List.not_mem_nil, or_false] at u1
    omega
  obtain ⟨R, hR⟩ : ∃ R : Nat, (R : Int) = wrap64 (1 + r1) := ⟨(1 + r1).toNat, by unfold wrap64; omega⟩
  obtain ⟨C, hC⟩ : ∃ C : Nat, (C : Int) = wrap64 (1 + r2) := ⟨(1 + r2).toNat, by unfold wrap64; omega⟩
  have hR2 : 1 ≤ R ∧ R ≤ 4 := by unfold wrap64 at hR; omega
  have hC2 : 1 ≤ C ∧ C ≤ 4 := by unfold wrap64 at hC; omega
  obtain ⟨out, a', s', f1, f2, f3, f4⟩ := sure_loop l hl hn R C hR2 hC2 r3 hx.1 hx.2 R 0 [] a3 s3 (by omega) rfl (by simp) (by simp) (by omega) (by omega)
  refine ⟨out, C, a', s', f1, f2, by omega, fun k hk => ?_⟩
  unfold spec_l1Cur_sureFiles.f
  rw [e1, Option.bind_some]
  dsimp only
  rw [e2, Option.bind_some]
  dsimp only
  rw [e3, Option.bind_some]
  dsimp only
  rw [← hR, ← hC]
  exact f4 k (by omega)
theorem grow_loop (d : Nat) : ∀ (x : List (List Int)) (a s : Int), 1 ≤ x.length → x.length + d = 10 → (∀ r ∈ x, r.length ≤ 1000) → 0 ≤ a → a + d ≤ 1000000 → ∃ out a' s', ∀ k, d + 1 < k → spec_l1Cur_files.l0 k x l a s = some (out, a', s') := by
  induction d with
  | zero =>
    intro x a s h1 h2 hr h0 h3
    obtain ⟨p, a1, s1, e, q0, q1, q2, q3⟩ := pick_ok l hl hn a s 2 h0 (by omega) (by omega) (by omega)
    refine ⟨x, a1, s1, fun k hk => ?_⟩
    obtain ⟨k, rfl⟩ := fuel1 (show 0 < k by omega)
    simp only [spec_l1Cur_files.l0]
    rw [e, Option.bind_some]
    dsimp only
    rw [if_neg (by unfold wrap64; omega)]
  | succ d ih =>
    intro x a s h1 h2 hr h0 h3
    obtain ⟨p, a1, s1, e, q0, q1, q2, q3⟩ := pick_ok l hl hn a s 2 h0 (by omega) (by omega) (by omega)
    by_cases c : (x.length : Int) < wrap64 (8 + p)
    · have hx : rd_L2 x 0 ∈ x := by
        unfold rd_L2
        rw [List.getD_eq_getElem?_getD, List.getElem?_eq_getElem (show (0 : Int).toNat < x.length by simp; omega)]
        exact List.getElem_mem _
      have hrx := hr _ hx
      obtain ⟨out, a', s', g⟩ := ih (x ++ [rd_L2 x 0]) a1 s1 (by simp) (by simp; omega) (by
        intro r hm
        rcases List.mem_append.1 hm with hm | hm
        · exact hr r hm
        · rw [List.mem_singleton.1 hm]; exact hrx) (by omega) (by omega)
      refine ⟨out, a', s', fun k hk => ?_⟩
      obtain ⟨k, rfl⟩ := fuel1 (show 0 < k by omega)
      simp only [spec_l1Cur_files.l0]
      rw [e, Option.bind_some]
      dsimp only
      rw [if_pos c, if_pos (by omega), own_ok _ (by omega), Option.bind_some, if_pos (by omega)]
      exact g k (by omega)
    · refine ⟨x, a1, s1, fun k hk => ?_⟩
      obtain ⟨k, rfl⟩ := fuel1 (show 0 < k by omega)
      simp only [spec_l1Cur_files.l0]
      rw [e, Option.bind_some]
      dsimp only
      rw [if_neg c]
theorem files_ok : ∃ out, ∀ k, 2000400 < k → spec_DrawSortBoth.f k l = some out := by
  obtain ⟨out, C, a1, s1, hf, h0, h1, e1⟩ := sure_ok l hl hn 0
  have hr := hf.rows
  have hlow := fi_low hf
  obtain ⟨p, a2, s2, e2, q0, q1, q2, q3⟩ := pick_ok l hl hn a1 s1 16 h0 (by omega) (by omega) (by omega)
  suffices h : ∃ z : List (List Int) × Int × Int, ∀ k, 2000400 < k → spec_l1Cur_files.f k l 0 0 = some z by
    obtain ⟨z, hz⟩ := h
    refine ⟨z.1, fun k hk => ?_⟩
    unfold spec_DrawSortBoth.f spec_DrawAreFiles.f
    rw [hz k hk, Option.bind_some]
  have hun : ∀ k, 2000400 < k → spec_l1Cur_files.f k l 0 0 = (if p = 0 then ((spec_l1Cur_among.f l a2 s2 (([(-1), 0, 1, 1000] : List Int))).bind fun bt223 => (if out.length < 5864062014805 then (some ((out ++ [(([bt223.1] : List Int))]), bt223.2.1, bt223.2.2)) else (none))) else (if p = 1 then (some (([] : List (List Int)), a2, s2)) else (if p = 2 then (if 0 < (out.length : Int) then ((spec_l1Cur_among.f l a2 s2 (([(-1), 0, 999, 1000, 4611686018427387904] : List Int))).bind fun bt236 => (if 0 < (rd_L2 out 0).length then (some (out.set 0 ((rd_L2 out 0).set 0 bt236.1), bt236.2.1, bt236.2.2)) else (none))) else (none)) else (if p = 3 then (spec_l1Cur_files.l0 k out l a2 s2) else (if p = 4 then (some ((([(([] : List Int))] : List (List Int))), a2, s2)) else (some (out, a2, s2))))))) := by
    intro k hk
    unfold spec_l1Cur_files.f
    rw [e1 k (by omega), Option.bind_some]
    dsimp only
    rw [e2, Option.bind_some]
  by_cases c0 : p = 0
  · obtain ⟨r, a3, s3, e3, _⟩ := among_ok l hl hn a2 s2 (by omega) (by omega) [-1, 0, 1, 1000] (by decide) (by decide)
    refine ⟨(out ++ [[r]], a3, s3), fun k hk => ?_⟩
    rw [hun k hk, if_pos c0, e3, Option.bind_some, if_pos (by omega)]
  by_cases c1 : p = 1
  · refine ⟨([], a2, s2), fun k hk => ?_⟩
    rw [hun k hk, if_neg c0, if_pos c1]
  by_cases c2 : p = 2
  · obtain ⟨r, a3, s3, e3, _⟩ := among_ok l hl hn a2 s2 (by omega) (by omega) [-1, 0, 999, 1000, 4611686018427387904] (by decide) (by decide)
    have hx : rd_L2 out 0 ∈ out := by
      unfold rd_L2
      rw [List.getD_eq_getElem?_getD, List.getElem?_eq_getElem (show (0 : Int).toNat < out.length by simp; omega)]
      exact List.getElem_mem _
    have hw := hf.wide _ hx
    have hC := hf.cols
    refine ⟨(out.set 0 ((rd_L2 out 0).set 0 r), a3, s3), fun k hk => ?_⟩
    rw [hun k hk, if_neg c0, if_neg c1, if_pos c2, if_pos (by omega), e3, Option.bind_some, if_pos (by omega)]
  by_cases c3 : p = 3
  · obtain ⟨z, a3, s3, g⟩ := grow_loop l hl hn (10 - out.length) out a2 s2 hr.1 (by omega) (fun r hm => by have := hlow r hm; omega) (by omega) (by omega)
    refine ⟨(z, a3, s3), fun k hk => ?_⟩
    rw [hun k hk, if_neg c0, if_neg c1, if_neg c2, if_pos c3, g k (by omega)]
  by_cases c4 : p = 4
  · refine ⟨([[]], a2, s2), fun k hk => ?_⟩
    rw [hun k hk, if_neg c0, if_neg c1, if_neg c2, if_neg c3, if_pos c4]
  · refine ⟨(out, a2, s2), fun k hk => ?_⟩
    rw [hun k hk, if_neg c0, if_neg c1, if_neg c2, if_neg c3, if_neg c4]
end
end Go.Proofs.Ytieahbiaoceokaa.Pure
