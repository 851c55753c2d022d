/- The law FnExactParsePaces is true at all texts: both read one list of paces, and it is own memory; no condition. -/
import Derived.Test.YtbcehopnkkajgaaDoorAx1
import Derived.Test.YtbcehopnkkajgaaDoorAx2
import Derived.Test.YtbcehopnkkajgaaDoorAx8
import Derived.Test.YtbcehopnkkajgaaDoorPurePParse
namespace Go.Proofs.YtbcehopnkkajgaaDoor.Pure
open Go.RowKit Go.Proofs.YtbcehopnkkajgaaDoor.A Go.Proofs.YtbcehopnkkajgaaDoorW.PrintWords Go.Proofs.YtbcehopnkkajgaaDoorW.PrintLast Go.Proofs.YtbcehopnkkajgaaDoorW.PrintMore
set_option linter.unusedVariables false
set_option linter.unusedSimpArgs false
theorem eqP_loop (l : List S37) (hl : l.length ≤ 1048576) (d : Nat) : ∀ (k i : Nat), i + d = l.length → d < k → laws_eqPaceS.l0 k l l (i : Int) = some true := by
  induction d with
  | zero =>
    intro k i h hk
    obtain ⟨k, rfl⟩ := fuel0 (show 0 < k by omega)
    simp only [laws_eqPaceS.l0]
    rw [if_neg (by omega)]
  | succ d ih =>
    intro k i h hk
    obtain ⟨k, rfl⟩ := fuel0 (show 0 < k by omega)
    simp only [laws_eqPaceS.l0]
    unfold laws_eqPace.f
    rw [if_pos (by omega), if_pos (by omega), if_pos (by omega), if_pos rfl, if_pos rfl, Option.bind_some, if_pos rfl, w_up (by omega)]
    exact ih k (i + 1) (by omega) (by omega)
theorem eqP_ok (l : List S37) (hl : l.length ≤ 1048576) (k : Nat) (hk : l.length < k) : laws_eqPaceS.f k l l = some true := by
  unfold laws_eqPaceS.f
  rw [if_pos rfl]
  exact eqP_loop l hl l.length k 0 (by omega) hk
def seqP : Int → Nat → List S37
  | _, 0 => []
  | v, d + 1 => ⟨v, v + 1⟩ :: seqP (v + 2) d
theorem seqP_len : ∀ (d : Nat) (v : Int), (seqP v d).length = d
  | 0, _ => rfl
  | d + 1, v => by rw [seqP, List.length_cons, seqP_len d]
theorem markP_loop (d : Nat) : ∀ (k i : Nat) (x : List S37) (v : Int), i + d = x.length → x.length ≤ 1000 → d < k → 0 ≤ v → v ≤ 1000000 - 2 * d → laws_markPaceS.l0 k x v (i : Int) = some (v + 2 * d, x.take i ++ seqP v d) := by
  induction d with
  | zero =>
    intro k i x v h hx hk h0 h1
    obtain ⟨k, rfl⟩ := fuel0 (show 0 < k by omega)
    simp only [laws_markPaceS.l0]
    rw [if_neg (by omega), List.take_of_length_le (by omega)]
    simp [seqP]
  | succ d ih =>
    intro k i x v h hx hk h0 h1
    obtain ⟨k, rfl⟩ := fuel0 (show 0 < k by omega)
    have hi : i < x.length := by omega
    simp only [laws_markPaceS.l0]
    rw [if_pos (by omega), if_pos (by omega), Option.bind_some, Int.toNat_natCast, rt_at x i hi, rt_at (x.set i _) i (by rw [List.length_set]; exact hi), List.getElem_set_self, List.set_set, w_in (x := v + 1) (by omega) (by omega), w_in (x := v + 1 + 1) (by omega) (by omega), w_up (by omega), ih k (i + 1) _ _ (by rw [List.length_set]; omega) (by rw [List.length_set]; exact hx) (by omega) (by omega) (by omega)]
    have e : (x.set i (⟨v, v + 1⟩ : S37)).take (i + 1) = x.take i ++ [⟨v, v + 1⟩] := by
      rw [List.take_succ_eq_append_getElem (by rw [List.length_set]; exact hi), List.take_set_of_le (Nat.le_refl _), List.getElem_set_self]
    rw [e, List.append_assoc, List.singleton_append, show v + 1 + 1 = v + 2 by omega, show v + 2 + 2 * (d : Int) = v + 2 * ((d + 1 : Nat) : Int) by omega]
    rfl
theorem heldP_loop (d : Nat) : ∀ (k i : Nat) (pre : List S37) (v : Int), pre.length = i → i + d ≤ 1000 → d < k → 0 ≤ v → v ≤ 1000000 - 2 * d → laws_heldPaceS.l0 k (pre ++ seqP v d) v (i : Int) = some (v + 2 * d) := by
  induction d with
  | zero =>
    intro k i pre v h hx hk h0 h1
    obtain ⟨k, rfl⟩ := fuel0 (show 0 < k by omega)
    simp only [laws_heldPaceS.l0]
    rw [if_neg (by rw [List.length_append, seqP_len]; omega)]
    simp
  | succ d ih =>
    intro k i pre v h hx hk h0 h1
    obtain ⟨k, rfl⟩ := fuel0 (show 0 < k by omega)
    have e : rd_T37 (pre ++ seqP v (d + 1)) (i : Int) = ⟨v, v + 1⟩ := by
      rw [rt_at _ i (by rw [List.length_append, seqP_len]; omega)]
      simp [seqP, List.getElem_append_right, ← h]
    simp only [laws_heldPaceS.l0]
    rw [if_pos (by rw [List.length_append, seqP_len]; omega), if_pos (by omega), e, if_pos rfl, w_in (x := v + 1) (by omega) (by omega), if_pos rfl, w_in (x := v + 1 + 1) (by omega) (by omega), w_up (by omega)]
    have := ih k (i + 1) (pre ++ [⟨v, v + 1⟩]) (v + 2) (by rw [List.length_append, List.length_singleton]; omega) (by omega) (by omega) (by omega) (by omega)
    rw [List.append_assoc, List.singleton_append] at this
    rw [show v + 1 + 1 = v + 2 by omega]
    refine Eq.trans this ?_
    congr 1
    omega
theorem markP_ok (l : List S37) (hl : l.length ≤ 1000) (k : Nat) (hk : l.length < k) : laws_markPaceS.f k l 1 = some (1 + 2 * (l.length : Int), seqP 1 l.length) ∧ laws_heldPaceS.f k (seqP 1 l.length) 1 = some (1 + 2 * (l.length : Int)) := by
  have h1 := markP_loop l.length k 0 l 1 (by omega) hl hk (by omega) (by omega)
  have h2 := heldP_loop l.length k 0 [] 1 rfl (by omega) hk (by omega) (by omega)
  exact ⟨h1, h2⟩
theorem FnExactParsePaces (a0 : ByteArray) (w0 : a0.size ≤ 140737488351232) : ∃ k, laws_FnExactParsePaces.f k a0 = some true := by
  refine ⟨1000000000, ?_⟩
  unfold laws_FnExactParsePaces.f
  by_cases g0 : (a0.size : Int) > 1048576
  · rw [if_pos g0]
  rw [if_neg g0]
  obtain ⟨r, h1, hk⟩ := both_pparses a0.data.toList (by have : a0.data.toList.length = a0.size := rfl; omega)
  rw [B_data a0] at hk
  rw [(hk 1000000000 (by omega)).1, Option.bind_some, (hk 1000000000 (by omega)).2, Option.bind_some, eqP_ok r.1 (by omega) _ (by omega), Option.bind_some, if_pos rfl, bne_self_eq_false]
  simp only [laws_FnExactParsePaces.j0]
  have hm := markP_ok r.1 (by omega) 999999999 (by omega)
  first | rw [if_neg Bool.false_ne_true] | simp only [Bool.false_eq_true, if_false]
  rw [hm.1, Option.bind_some, hm.2, Option.bind_some, if_neg (by omega), if_pos rfl, (hk 999999999 (by omega)).2, Option.bind_some, eqP_ok r.1 (by omega) _ (by omega), Option.bind_some, if_pos rfl, bne_self_eq_false]
  simp only [laws_FnExactParsePaces.j1]
  first | rw [if_neg Bool.false_ne_true] | simp only [Bool.false_eq_true, if_false]
  rw [(markP_ok r.1 (by omega) 999999998 (by omega)).2, Option.bind_some, if_neg (by omega), if_pos rfl]
end Go.Proofs.YtbcehopnkkajgaaDoor.Pure
