/- The law FnExactPacesText is true at all lists: both write one text; no condition. -/
import Derived.Test.YtbcehopnkkajgaaDoorAx1
import Derived.Test.YtbcehopnkkajgaaDoorAx2
import Derived.Test.YtbcehopnkkajgaaDoorAx5
import Derived.Test.YtbcehopnkkajgaaDoorAx6
import Derived.Test.YtbcehopnkkajgaaDoorPurePaces
namespace Go.Proofs.YtbcehopnkkajgaaDoor.Pure
open Go.RowKit Go.Proofs.YtbcehopnkkajgaaDoor.A Go.Proofs.YtbcehopnkkajgaaDoorW.PrintWords Go.Proofs.YtbcehopnkkajgaaDoorW.PrintLast Go.Proofs.YtbcehopnkkajgaaDoorW.PrintMore
set_option linter.unusedVariables false
set_option linter.unusedSimpArgs false
theorem rl_at9 (l : List S39) (i : Nat) (h : i < l.length) : rd_T39 l (i : Int) = l[i] := by
  unfold rd_T39
  rw [Int.toNat_natCast, List.getD_eq_getElem?_getD, List.getElem?_eq_getElem h]
  rfl
def cpL (l : List S39) : List S37 := l.map fun p => ⟨p.f0, p.f1⟩
theorem toP_loop (l : List S39) (hl : l.length ≤ 1048576) (d : Nat) : ∀ (k i : Nat) (x : List S37), x.length = l.length → i + d = l.length → d < k → x.take i = (cpL l).take i → laws_toPaceS.l0 k l x (i : Int) = some (cpL l) := by
  have hc : (cpL l).length = l.length := by unfold cpL; rw [List.length_map]
  induction d with
  | zero =>
    intro k i x hx h hk ht
    obtain ⟨k, rfl⟩ := fuel0 (show 0 < k by omega)
    simp only [laws_toPaceS.l0]
    rw [if_neg (by omega)]
    rw [List.take_of_length_le (by omega), List.take_of_length_le (by omega)] at ht
    rw [ht]
  | succ d ih =>
    intro k i x hx h hk ht
    obtain ⟨k, rfl⟩ := fuel0 (show 0 < k by omega)
    simp only [laws_toPaceS.l0]
    unfold laws_toPace.f
    rw [if_pos (by omega), if_pos (by omega), Option.bind_some, if_pos (by omega), w_up (by omega), Int.toNat_natCast]
    refine ih k (i + 1) _ (by rw [List.length_set]; exact hx) (by omega) (by omega) ?_
    rw [rl_at9 l i (by omega), List.take_succ_eq_append_getElem (by rw [List.length_set]; omega), List.take_succ_eq_append_getElem (by omega), List.take_set_of_le (Nat.le_refl _), ht]
    simp [cpL]
theorem toP_ok (l : List S39) (hl : l.length ≤ 1048576) (k : Nat) (hk : l.length < k) : laws_toPaceS.f k l = some (cpL l) := by
  unfold laws_toPaceS.f
  rw [if_pos (by omega), if_pos (by omega)]
  exact toP_loop l hl l.length k 0 _ (by simp) (by omega) hk rfl
theorem eqP_loop (l : List S37) (hl : l.length ≤ 1048576) (d : Nat) : ∀ (k i : Nat), i + d = l.length → d < k → laws_eqPaceS.l0 k l l (i : Int) = some true := by
  induction d with
  | zero =>
    intro k i h hk
    obtain ⟨k, rfl⟩ := fuel0 (show 0 < k by omega)
    simp only [laws_eqPaceS.l0]
    rw [if_neg (by omega)]
  | succ d ih =>
    intro k i h hk
    obtain ⟨k, rfl⟩ := fuel0 (show 0 < k by omega)
    simp only [laws_eqPaceS.l0]
    unfold laws_eqPace.f
    rw [if_pos (by omega), if_pos (by omega), if_pos (by omega), if_pos rfl, if_pos rfl, Option.bind_some, if_pos rfl, w_up (by omega)]
    exact ih k (i + 1) (by omega) (by omega)
theorem eqP_ok (l : List S37) (hl : l.length ≤ 1048576) (k : Nat) (hk : l.length < k) : laws_eqPaceS.f k l l = some true := by
  unfold laws_eqPaceS.f
  rw [if_pos rfl]
  exact eqP_loop l hl l.length k 0 (by omega) hk
theorem FnExactPacesText (l0 : List S39) (m0 : l0.length ≤ maxLen) (y0 : l0.length * 16 ≤ 140737488351232) (ok0 : ∀ x ∈ l0, (Lit.int .i64 x.f0).wf = true ∧ (Lit.int .i64 x.f1).wf = true) : ∃ k, laws_FnExactPacesText.f k l0 = some true := by
  refine ⟨2000000, ?_⟩
  unfold laws_FnExactPacesText.f laws_szPaceS.f
  have hw : wrap64 (1048576 - (l0.length : Int)) = 1048576 - (l0.length : Int) := w_in (by omega) (by omega)
  rw [hw]
  by_cases c : 1048576 - (l0.length : Int) < 0
  · rw [if_pos c, Option.bind_some, if_pos (by omega)]
  rw [if_neg c, Option.bind_some, if_neg c]
  obtain ⟨r, hr⟩ := both_texts (cpL l0)
  have hc : (cpL l0).length = l0.length := by unfold cpL; rw [List.length_map]
  rw [toP_ok l0 (by omega) 2000000 (by omega), Option.bind_some, (hr 2000000 (by omega)).2, Option.bind_some, Option.bind_some, (hr 2000000 (by omega)).1, Option.bind_some, if_pos rfl, bne_self_eq_false]
  simp only [laws_FnExactPacesText.j0]
  rw [if_neg Bool.false_ne_true, toP_ok l0 (by omega) 1999999 (by omega), Option.bind_some, eqP_ok _ (by omega) 1999999 (by omega), Option.bind_some, if_pos rfl]
end Go.Proofs.YtbcehopnkkajgaaDoor.Pure
