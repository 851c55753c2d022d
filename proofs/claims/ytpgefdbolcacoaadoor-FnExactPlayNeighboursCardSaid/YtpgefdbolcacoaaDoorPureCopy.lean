/- Lists copied and compared: what that comes to; no Go and no memory here. -/
import Derived.Test.YtpgefdbolcacoaaDoorAx2
import Derived.Test.YtpgefdbolcacoaaDoorPurePlay
namespace Go.Proofs.YtpgefdbolcacoaaDoor.Pure
open Go.RowKit Go.Proofs.YtpgefdbolcacoaaDoor.A Go.Proofs.YtpgefdbolcacoaaDoorW.PrintWords Go.Proofs.YtpgefdbolcacoaaDoorW.PrintLast Go.Proofs.YtpgefdbolcacoaaDoorW.PrintMore
set_option linter.unusedVariables false
set_option linter.unusedSimpArgs false

theorem toS_loop (l : List Int) (hl : l.length ≤ 35184372088832) (d : Nat) : ∀ (k i : Nat) (x : List Int), x.length = l.length → i + d = l.length → d < k → x.take i = l.take i → laws_toIntS.l0 k l x (i : Int) = some l := by
  induction d with
  | zero =>
    intro k i x hx h hk ht
    obtain ⟨k, rfl⟩ := fuel0 (show 0 < k by omega)
    simp only [laws_toIntS.l0]
    rw [if_neg (by omega)]
    rw [List.take_of_length_le (by omega), List.take_of_length_le (by omega)] at ht
    rw [ht]
  | succ d ih =>
    intro k i x hx h hk ht
    obtain ⟨k, rfl⟩ := fuel0 (show 0 < k by omega)
    simp only [laws_toIntS.l0]
    rw [if_pos (by omega), if_pos (by omega), if_pos (by omega), w_up (by omega), Int.toNat_natCast]
    refine ih k (i + 1) _ (by rw [List.length_set]; exact hx) (by omega) (by omega) ?_
    rw [rd_at' l i (by omega), List.take_succ_eq_append_getElem (by rw [List.length_set]; omega), List.take_succ_eq_append_getElem (by omega), List.take_set_of_le (Nat.le_refl _), ht]
    simp
theorem toS_ok (l : List Int) (hl : l.length ≤ 35184372088832) (k : Nat) (hk : l.length < k) : laws_toIntS.f k l = some l := by
  unfold laws_toIntS.f
  rw [if_pos (by omega), if_pos (by omega)]
  exact toS_loop l hl l.length k 0 _ (by simp) (by omega) hk rfl
end Go.Proofs.YtpgefdbolcacoaaDoor.Pure
