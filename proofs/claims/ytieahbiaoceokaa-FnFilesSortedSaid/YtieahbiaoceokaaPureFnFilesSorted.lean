/- The law FnFilesSorted is true of all bytes: what is drawn are lists of lists; files put in order by rows and columns are in order both ways, and saddles are where the tallest of the shortest is the shortest of the tallest; no condition. -/
import Derived.Test.YtieahbiaoceokaaPureVals
import Derived.Test.YtieahbiaoceokaaPureDraw
import Derived.Test.YtieahbiaoceokaaAx13
namespace Go.Proofs.Ytieahbiaoceokaa.Pure
open Go.RowKit Go.Proofs.Ytieahbiaoceokaa.A Go.Proofs.YtieahbiaoceokaaW.PrintWords Go.Proofs.YtieahbiaoceokaaW.PrintLast Go.Proofs.YtieahbiaoceokaaW.PrintMore
set_option linter.unusedVariables false
set_option linter.unusedSimpArgs false
set_option linter.unusedSectionVars false
namespace LFnFilesSorted
theorem badH_no {r : List Int} (h : ∀ x ∈ r, 1 ≤ x ∧ x ≤ 999) : r.any badH = false := by
  rw [List.any_eq_false]
  intro x hx
  unfold badH
  simp only [Bool.not_eq_true', decide_eq_false_iff_not, Classical.not_not]
  exact h x hx
theorem good_of {l : List (List Int)} {m : Nat} (h : Fi l m) : goodB l = true := by
  unfold goodB
  rw [Bool.and_eq_true, Bool.and_eq_true, decide_eq_true_eq, decide_eq_true_eq, Bool.not_eq_true', h.head.2]
  refine ⟨h.rows, h.cols, ?_⟩
  rw [List.any_eq_false]
  intro r hr
  rw [badRow_eq (h.wide r hr), badH_no (h.high r hr)]
  decide
theorem nn (b : Bool) : (b != b) = false := by cases b <;> rfl
theorem path (k : Nat) (cd md : List Int) (l0 B R C T S : List (List Int)) (ok a b : Bool) (lo hi : Int) (hbig : laws_big.f cd md = some false) (hdraw : spec_DrawSortBoth.f k cd = some l0)
    (h1 : spec_SortBoth.f k l0 = some (B, ok) ∧ impl_SortBoth.f k l0 = some (B, ok)) (h2 : spec_SortFileRows.f k l0 = some (R, ok) ∧ impl_SortFileRows.f k l0 = some (R, ok))
    (h3 : spec_SortFileColumns.f k l0 = some (C, ok) ∧ impl_SortFileColumns.f k l0 = some (C, ok)) (h4 : spec_AreRowsSorted.f k l0 = some (a, ok) ∧ impl_AreRowsSorted.f k l0 = some (a, ok))
    (h5 : spec_AreColumnsSorted.f k l0 = some (b, ok) ∧ impl_AreColumnsSorted.f k l0 = some (b, ok)) (h6 : spec_TurnFiles.f k l0 = some (T, ok) ∧ impl_TurnFiles.f k l0 = some (T, ok))
    (h7 : spec_TallestOfShortest.f k l0 = some (lo, ok) ∧ impl_TallestOfShortest.f k l0 = some (lo, ok)) (h8 : spec_ShortestOfTallest.f k l0 = some (hi, ok) ∧ impl_ShortestOfTallest.f k l0 = some (hi, ok))
    (h9 : spec_SaddlePlaces.f k l0 = some (S, ok) ∧ impl_SaddlePlaces.f k l0 = some (S, ok)) (h10 : impl_AreFiles.f l0 = some ok) (h11 : spec_AreFiles.f k l0 = some ok)
    (vB : laws_vRows.f k B B = some true) (vR : laws_vRows.f k R R = some true) (vC : laws_vRows.f k C C = some true) (vT : laws_vRows.f k T T = some true) (vS : laws_vRows.f k S S = some true) :
    laws_FnFilesSorted.f k cd md = laws_FnFilesSorted.j0 k l0 B ok R C a b T lo hi S false := by
  unfold laws_FnFilesSorted.f
  rw [hbig, Option.bind_some, if_neg (by decide), hdraw, Option.bind_some, h1.2, Option.bind_some, h1.1, Option.bind_some, h2.2, Option.bind_some, h2.1, Option.bind_some, h3.2, Option.bind_some, h3.1, Option.bind_some, h4.2, Option.bind_some, h4.1, Option.bind_some, h5.2, Option.bind_some, h5.1, Option.bind_some, h6.2, Option.bind_some, h6.1, Option.bind_some, h7.2, Option.bind_some, h7.1, Option.bind_some, h8.2, Option.bind_some, h8.1, Option.bind_some, h9.2, Option.bind_some, h9.1, Option.bind_some]
  dsimp only
  have F : ¬ (false = true) := by decide
  rw [nn ok, nn a, nn b, if_neg F, vB, Option.bind_some, if_pos rfl, if_neg F, vR, Option.bind_some, if_pos rfl, if_neg F, vC, Option.bind_some, if_pos rfl, if_neg F, if_neg F, if_neg F, if_neg F, if_neg F, vT, Option.bind_some, if_pos rfl, if_neg F, if_pos rfl, if_neg F, if_pos rfl, if_neg F, vS, Option.bind_some, if_pos rfl, h10, Option.bind_some, nn ok, if_neg F, Option.bind_some, h11, Option.bind_some, nn ok, if_neg F, if_neg F, if_neg F, if_neg F, if_neg F, if_neg F, if_neg F, if_neg F]
theorem vself (k : Nat) (L : List (List Int)) (h8 : L.length ≤ 1000) (hr : ∀ r ∈ L, r.length ≤ 1000) (hk : 3000 ≤ k) : laws_vRows.f k L L = some true := by
  rw [vrows_ok L L (by omega) hr k (by omega), decide_eq_true rfl]
section
variable (l : List (List Int)) (m : Nat) (hf : Fi l m)
@[reducible] def BL (l : List (List Int)) (m : Nat) : List (List Int) := colsS (rowsS l) m
@[reducible] def SL (l : List (List Int)) (m : Nat) : List (List Int) := GSaddlePlaces.sadL l (turnL l m) m l.length 0 []
include hf
theorem rdA {a : Nat} (ha : a < l.length) : rd_L2 l (a : Int) = l.getD a [] := by
  rw [rl_at l a ha, List.getD_eq_getElem?_getD, List.getElem?_eq_getElem ha]
  rfl
theorem rdT {j : Nat} (hj : j < m) : rd_L2 (turnL l m) (j : Int) = l.map fun r => r.getD j 0 := by
  rw [rl_at _ j (by rw [turn_len]; exact hj), turn_get l m j hj]
theorem sad_at {p : List Int} (hp : p ∈ SL l m) : ∃ a j : Nat, a < l.length ∧ j < m ∧ p = [(a : Int), (j : Int)] ∧ rd (rd_L2 l (a : Int)) (j : Int) = lowL l ∧ rd (rd_L2 l (a : Int)) (j : Int) = highL l m := by
  rcases (GSaddlePlaces.sad_mem _ _ _ _ _ _ _).1 hp with h | ⟨a, j, _, h2, h3, h4, h5, h6⟩
  · simp at h
  · have ha : a < l.length := by omega
    have hra : l.getD a [] ∈ l := by rw [List.getD_eq_getElem?_getD, List.getElem?_eq_getElem ha]; exact List.getElem_mem ha
    refine ⟨a, j, ha, h3, h4, ?_⟩
    rw [rdA l m hf ha]
    have e1 := low_ge l hra
    have hc : (l.map fun r => r.getD j 0) ∈ turnL l m := by
      rw [← turn_get l m j h3]
      exact List.getElem_mem _
    have e2 := high_le l m hc
    have e3 := low_high l m hf
    rw [rdT l m hf h3] at h6
    omega
theorem sad_ex : (0 < (SL l m).length) ↔ lowL l = highL l m := by
  constructor
  · intro h
    obtain ⟨a, j, _, _, _, h1, h2⟩ := sad_at l m hf (List.getElem_mem h)
    rw [← h1, ← h2]
  · intro e
    obtain ⟨r, hr, e1⟩ := low_at l m hf
    obtain ⟨c, hc, e2⟩ := high_at l m hf
    obtain ⟨j, hj, _, _, e3⟩ := col_of l m hc
    obtain ⟨a, ha, e4⟩ := List.mem_iff_getElem.1 hr
    have hb := between l m hf hr hj e3
    have hm : [(a : Int), (j : Int)] ∈ SL l m := by
      refine (GSaddlePlaces.sad_mem _ _ _ _ _ _ _).2 (.inr ⟨a, j, by omega, by omega, hj, rfl, ?_⟩)
      have hd : l.getD a [] = r := by rw [List.getD_eq_getElem?_getD, List.getElem?_eq_getElem ha]; exact e4
      rw [hd, rdT l m hf hj, ← e3, rd_D]
      omega
    exact List.length_pos_of_mem hm
theorem bfi : Fi (BL l m) m := cols_fi _ m (rows_fi l m hf)
theorem bsorted : sortedB (BL l m) = true := both_sorted _ m (rows_fi l m hf) (rows_sorted l)
theorem bcols : sortedB (turnL (BL l m) m) = true := cols_sorted _ m (rows_fi l m hf)
theorem dis_iff : (disL l + disL (turnL l m) = 0) ↔ (sortedB l = true ∧ sortedB (turnL l m) = true) := by
  rw [← dis_zero, ← dis_zero]
  omega
theorem dis_both : disL (BL l m) + disL (turnL (BL l m) m) = 0 := (dis_iff (BL l m) m (bfi l m hf)).2 ⟨bsorted l m hf, bcols l m hf⟩
theorem last (k : Nat) (hk : 3000001 ≤ k) : (if ((decide (((SL l m).length : Int) > 0)) != (lowL l == highL l m)) = true then (some false) else ((impl_FileDisorder.f k l).bind fun bt471 => ((impl_FileDisorder.f k (BL l m)).bind fun bt473 => (if bt471.2 = true then (if bt471.1 ≥ 0 then (if sortedB l = true then (if ((bt471.1 == 0) == sortedB (turnL l m)) = true then (if bt473.2 = true then (some (bt473.1 == 0)) else (some false)) else (some false)) else (if ((bt471.1 == 0) == false) = true then (if bt473.2 = true then (some (bt473.1 == 0)) else (some false)) else (some false))) else (some false)) else (some false))))) = some true := by
  have hs := sad_ex l m hf
  have e0 : ((decide (((SL l m).length : Int) > 0)) != (lowL l == highL l m)) = false := by
    by_cases e : lowL l = highL l m
    · have h0 := hs.2 e
      rw [decide_eq_true (by omega), beq_iff_eq.2 e]
      rfl
    · have h0 : ¬ 0 < (SL l m).length := fun h => e (hs.1 h)
      rw [decide_eq_false (by omega), beq_eq_false_iff_ne.2 e]
      rfl
  rw [e0, if_neg (by decide), GFileDisorder.val l m (good_of hf) hf k hk, Option.bind_some, GFileDisorder.val (BL l m) m (good_of (bfi l m hf)) (bfi l m hf) k hk, Option.bind_some, dis_both l m hf]
  dsimp only
  rw [if_pos rfl, if_pos (by omega)]
  have hd := dis_iff l m hf
  by_cases c : sortedB l = true
  · rw [if_pos c]
    have e1 : ((((disL l + disL (turnL l m) : Nat) : Int) == 0) == sortedB (turnL l m)) = true := by
      cases d : sortedB (turnL l m) with
      | true =>
        have : ((disL l + disL (turnL l m) : Nat) : Int) = 0 := by have := hd.2 ⟨c, d⟩; omega
        rw [this]
        rfl
      | false =>
        have : ¬ ((disL l + disL (turnL l m) : Nat) : Int) = 0 := fun h => by
          have := (hd.1 (by omega)).2
          rw [d] at this
          cases this
        rw [beq_eq_false_iff_ne.2 this]
        rfl
    rw [if_pos e1, if_pos rfl]
    rfl
  · rw [if_neg c]
    have : ¬ ((disL l + disL (turnL l m) : Nat) : Int) = 0 := fun h => c (hd.1 (by omega)).1
    rw [beq_eq_false_iff_ne.2 this, if_pos (by decide)]
    rfl
theorem loop (d : Nat) : ∀ (k i : Nat), i + d = (SL l m).length → (SL l m).length ≤ 1000000 → 3000001 + d < k → laws_FnFilesSorted.l0 k l (BL l m) (sortedB l) (sortedB (turnL l m)) (lowL l) (highL l m) (SL l m) (SL l m) ((SL l m).length : Int) (i : Int) = some true := by
  induction d with
  | zero =>
    intro k i h h6 hk
    obtain ⟨k, rfl⟩ := fuel1 (show 0 < k by omega)
    simp only [laws_FnFilesSorted.l0]
    rw [if_neg (by omega)]
    exact last l m hf k (by omega)
  | succ d ih =>
    intro k i h h6 hk
    obtain ⟨k, rfl⟩ := fuel1 (show 0 < k by omega)
    have hi : i < (SL l m).length := by omega
    obtain ⟨a, j, ha, hj, e, e1, e2⟩ := sad_at l m hf (List.getElem_mem hi)
    have hrow : (rd_L2 l (a : Int)).length = m := by rw [rdA l m hf ha]; exact hf.wide _ (by rw [List.getD_eq_getElem?_getD, List.getElem?_eq_getElem ha]; exact List.getElem_mem ha)
    have p0 : rd [(a : Int), (j : Int)] 0 = (a : Int) := rfl
    have p1 : rd [(a : Int), (j : Int)] 1 = (j : Int) := rfl
    have p2 : (([(a : Int), (j : Int)] : List Int).length : Int) = 2 := rfl
    simp only [laws_FnFilesSorted.l0]
    rw [if_pos (by omega), if_pos (by omega), if_pos (by omega), rl_at _ i hi, e, p0, p1, p2, hrow, if_pos rfl, if_pos (by decide), if_pos (by omega), if_pos (by omega), if_pos (by decide), if_pos (by omega), if_pos (by omega), if_pos e1, if_pos e2, w_nat (by omega)]
    exact ih k (i + 1) (by omega) h6 (by omega)
theorem sad_low : (SL l m).length ≤ 1000 ∧ ∀ x ∈ SL l m, x.length ≤ 1000 := by
  have key : ∀ d i out, (∀ x ∈ out, x.length ≤ 1000) → (GSaddlePlaces.sadL l (turnL l m) m d i out).length ≤ out.length + d * m := by
    intro d
    induction d with
    | zero => intro i out _; simp [GSaddlePlaces.sadL]
    | succ d ih =>
      intro i out hx
      simp only [GSaddlePlaces.sadL]
      obtain ⟨c1, c2⟩ := GSaddlePlaces.cells_ok (l.getD i []) (mnL (l.getD i [])) (turnL l m) (i : Int) m 0 out hx
      have := ih (i + 1) _ c2
      rw [Nat.succ_mul]
      omega
  have h1 := key l.length 0 [] (by simp)
  have h2 : l.length * m ≤ 64 := Nat.le_trans (Nat.mul_le_mul hf.rows.2 hf.cols.2) (by omega)
  refine ⟨by simp only [List.length_nil] at h1; show (GSaddlePlaces.sadL l (turnL l m) m l.length 0 []).length ≤ 1000; omega, fun x hx => ?_⟩
  obtain ⟨a, j, _, _, e, _⟩ := sad_at l m hf hx
  rw [e]
  simp
theorem fi_small {L : List (List Int)} {q : Nat} (h : Fi L q) : L.length ≤ 1000 ∧ ∀ r ∈ L, r.length ≤ 1000 := ⟨by have := h.rows; omega, fun r hr => by have := fi_low h r hr; omega⟩
theorem good_way (hmm : (l.headD []).length = m) (cd md : List Int) (hbig : laws_big.f cd md = some false) (hdraw : spec_DrawSortBoth.f 4000000 cd = some l) : laws_FnFilesSorted.f 4000000 cd md = some true := by
  have hg := good_of hf
  have hb := bfi l m hf
  have hR := rows_fi l m hf
  have hC := cols_fi l m hf
  have hT := turn_fi l m hf
  have sB := fi_small l m hf hb
  have sR := fi_small l m hf hR
  have sC := fi_small l m hf hC
  have sT := fi_small l m hf hT
  have sl := fi_small l m hf hf
  have sS := sad_low l m hf
  rw [path 4000000 cd md l (BL l m) (rowsS l) (colsS l m) (turnL l m) (SL l m) true (sortedB l) (sortedB (turnL l m)) (lowL l) (highL l m) hbig hdraw (GSortBoth.val l m hg hf hmm _ (by omega)) (GSortFileRows.val l m hg hf hmm _ (by omega)) (GSortFileColumns.val l m hg hf hmm _ (by omega)) (GAreRowsSorted.val l m hg hf hmm _ (by omega)) (GAreColumnsSorted.val l m hg hf hmm _ (by omega)) (GTurnFiles.val l m hg hf hmm _ (by omega)) (GTallestOfShortest.val l m hg hf hmm _ (by omega)) (GShortestOfTallest.val l m hg hf hmm _ (by omega)) (GSaddlePlaces.val l m hg hf hmm _ (by omega))
    (by unfold impl_AreFiles.f; rw [are_ok, Option.bind_some, hg]) (by unfold spec_AreFiles.f; rw [good_ok l _ (by omega), Option.bind_some, hg])
    (vself _ _ sB.1 sB.2 (by omega)) (vself _ _ sR.1 sR.2 (by omega)) (vself _ _ sC.1 sC.2 (by omega)) (vself _ _ sT.1 sT.2 (by omega)) (vself _ _ sS.1 sS.2 (by omega))]
  have F : ¬ (false = true) := by decide
  have eT : laws_vRows.f 3999999 (turnL (turnL l m) l.length) l = some true := by rw [turn_turn l m hf]; exact vself _ _ sl.1 sl.2 (by omega)
  have hTh : ((turnL l m).headD []).length = l.length := hT.head.2
  have hRh : ((rowsS l).headD []).length = m := hR.head.2
  have hBh : ((BL l m).headD []).length = m := hb.head.2
  have vr : laws_vRows.f 3999999 (rowsS l) l = some (sortedB l) := by rw [vrows_ok _ _ (by omega) sR.2 _ (by omega), sortedB_eq]
  have vc : laws_vRows.f 3999999 (colsS l m) l = some (sortedB (turnL l m)) := by
    rw [vrows_ok _ _ (by omega) sC.2 _ (by omega)]
    congr 1
    have := cols_eq_iff l m hf
    by_cases e : colsS l m = l
    · rw [decide_eq_true e, this.1 e]
    · rw [decide_eq_false e]
      cases d : sortedB (turnL l m) with
      | true => exact absurd (this.2 d) e
      | false => rfl
  show laws_FnFilesSorted.j0 (3999999 + 1) _ _ _ _ _ _ _ _ _ _ _ _ = _
  simp only [laws_FnFilesSorted.j0]
  rw [if_neg F, if_pos trivial, (GAreRowsSorted.val (BL l m) m (good_of hb) hb hBh _ (by omega)).2, Option.bind_some, (GAreColumnsSorted.val (BL l m) m (good_of hb) hb hBh _ (by omega)).2, Option.bind_some, (GSortFileColumns.val (rowsS l) m (good_of hR) hR hRh _ (by omega)).2, Option.bind_some, (GTurnFiles.val (turnL l m) l.length (good_of hT) hT hTh _ (by omega)).2, Option.bind_some]
  dsimp only
  rw [bsorted l m hf, bcols l m hf, if_pos rfl, if_pos rfl, if_pos rfl, if_pos rfl, if_pos rfl, vself _ _ sB.1 sB.2 (by omega), Option.bind_some, if_pos rfl, if_pos rfl, eT, Option.bind_some, if_pos rfl, if_neg (by have := low_high l m hf; omega), vr, Option.bind_some, nn, if_neg F, vc, Option.bind_some, nn]
  show laws_FnFilesSorted.j1 (3999998 + 1) _ _ _ _ _ _ _ _ = _
  simp only [laws_FnFilesSorted.j1]
  rw [if_neg F]
  exact loop l m hf (SL l m).length 3999998 0 (by omega) (by omega) (by omega)
end
theorem bad_way (l : List (List Int)) (hg : goodB l = false) (cd md : List Int) (hbig : laws_big.f cd md = some false) (hdraw : spec_DrawSortBoth.f 4000000 cd = some l) : laws_FnFilesSorted.f 4000000 cd md = some true := by
  have v0 : laws_vRows.f 4000000 [] [] = some true := vself _ [] (by simp) (by simp) (by omega)
  rw [path 4000000 cd md l [] [] [] [] [] false false false 0 0 hbig hdraw (GSortBoth.non l hg _ (by omega)) (GSortFileRows.non l hg _ (by omega)) (GSortFileColumns.non l hg _ (by omega)) (GAreRowsSorted.non l hg _ (by omega)) (GAreColumnsSorted.non l hg _ (by omega)) (GTurnFiles.non l hg _ (by omega)) (GTallestOfShortest.non l hg _ (by omega)) (GShortestOfTallest.non l hg _ (by omega)) (GSaddlePlaces.non l hg _ (by omega))
    (by unfold impl_AreFiles.f; rw [are_ok, Option.bind_some, hg]) (by unfold spec_AreFiles.f; rw [good_ok l _ (by omega), Option.bind_some, hg]) v0 v0 v0 v0 v0]
  show laws_FnFilesSorted.j0 (3999999 + 1) _ _ _ _ _ _ _ _ _ _ _ _ = _
  simp only [laws_FnFilesSorted.j0]
  rw [if_neg (by decide), if_neg (by decide)]
end LFnFilesSorted
open LFnFilesSorted
theorem FnFilesSorted (l0 l1 : List Int) (m0 : l0.length ≤ maxLen) (y0 : l0.length * 1 ≤ 140737488351232) (hb : ∀ n ∈ l0, (Lit.int .u8 n).wf = true) (m1 : l1.length ≤ maxLen) (y1 : l1.length * 1 ≤ 140737488351232) (ok1 : ∀ n ∈ l1, (Lit.int .u8 n).wf = true) : ∃ k, true = true ∧ laws_FnFilesSorted.f k l0 l1 = some true := by
  refine ⟨4000000, rfl, ?_⟩
  have hb2 : ∀ n ∈ l0, 0 ≤ n ∧ n ≤ 255 := fun n h => by
    have := hb n h
    simp [Lit.wf, IntKind.min, IntKind.max, IntKind.signed, IntKind.bits] at this
    omega
  have htot : ∃ b, laws_big.f l0 l1 = some b := by
    unfold laws_big.f
    split
    · exact ⟨_, rfl⟩
    · exact ⟨_, rfl⟩
  obtain ⟨b, hbig⟩ := htot
  cases b with
  | true =>
    unfold laws_FnFilesSorted.f
    rw [hbig, Option.bind_some, if_pos rfl]
  | false =>
    have hlen : l0.length ≤ 1000000000 := by
      unfold laws_big.f at hbig
      by_cases c : (l0.length : Int) > 1048576
      · rw [if_pos c] at hbig
        cases hbig
      · omega
    obtain ⟨l, hl⟩ := files_ok l0 hb2 hlen
    cases hg : goodB l with
    | false => exact bad_way l hg l0 l1 hbig (hl _ (by omega))
    | true => exact good_way l _ (fi_of l hg) rfl l0 l1 hbig (hl _ (by omega))
end Go.Proofs.Ytieahbiaoceokaa.Pure
