/- Parts of rows turned: the program's turnAll is the reference's; no Go and no memory here. -/
import Derived.Test.YtkipdkkiojbbeaaDoorAx6
import Derived.Test.YtkipdkkiojbbeaaDoorAx8
import Derived.Test.YtkipdkkiojbbeaaDoorGivP
import Derived.Test.YtkipdkkiojbbeaaDoorPureWin
namespace Go.Proofs.YtkipdkkiojbbeaaDoor.Pure
open Go.RowKit Go.Proofs.YtkipdkkiojbbeaaDoor.A Go.Proofs.YtkipdkkiojbbeaaDoorW.PrintWords Go.Proofs.YtkipdkkiojbbeaaDoorW.PrintLast Go.Proofs.YtkipdkkiojbbeaaDoorW.PrintMore
set_option linter.unusedVariables false
set_option linter.unusedSimpArgs false

theorem enc_bytes (l : List Bool) : (enc l).data.toList = l.map face := by
  unfold enc
  rw [List.data_toByteArray]
theorem row_enc (l : List Bool) (h1 : 1 ≤ l.length) (h2 : l.length ≤ 60) : rowB (enc l) = true := by
  unfold rowB
  rw [Bool.and_eq_true, decide_eq_true_eq, enc_size, enc_bytes]
  refine ⟨⟨h1, h2⟩, ?_⟩
  rw [List.all_eq_true]
  intro c hc
  obtain ⟨b, _, rfl⟩ := List.mem_map.1 hc
  cases b <;> rfl
theorem turned_ok (l : List Bool) (h1 : 1 ≤ l.length) (h2 : l.length ≤ 60) : impl_turned.f (enc l) = some (enc (l.map fun b => !b)) := by
  unfold impl_turned.f
  rw [if_pos (row_enc l h1 h2)]
  congr 1
  apply ByteArray.ext
  apply Array.toList_inj.1
  rw [enc_bytes, enc_bytes]
  simp only [List.map_map]
  refine List.map_congr_left fun b _ => ?_
  cases b <;> rfl
theorem enc_mid (l : List Bool) (f t : Nat) : (enc l).extract f t = enc ((l.take t).drop f) := by
  apply ByteArray.ext
  apply Array.toList_inj.1
  rw [Go.Lib.extract_data, enc_bytes, enc_bytes, List.map_drop, List.map_take, List.drop_take]
theorem flip_parts (l : List Bool) (f t : Nat) (hft : f ≤ t) (ht : t < l.length) : l.take f ++ ((l.take (t + 1)).drop f).map (fun b => !b) ++ l.drop (t + 1) = flipL l f t := by
  apply List.ext_getElem?
  intro j
  unfold flipL
  rw [List.getElem?_mapIdx]
  have n1 : (l.take f).length = f := by rw [List.length_take]; omega
  have n2 : (((l.take (t + 1)).drop f).map (fun b => !b)).length = t + 1 - f := by rw [List.length_map, List.length_drop, List.length_take]; omega
  by_cases c1 : j < f
  · rw [List.getElem?_append_left (by rw [List.length_append, n1]; omega), List.getElem?_append_left (by omega), List.getElem?_take_of_lt c1, decide_eq_false (by omega)]
    cases l[j]? <;> simp
  · by_cases c2 : j ≤ t
    · rw [List.getElem?_append_left (by rw [List.length_append, n1, n2]; omega), List.getElem?_append_right (by omega), n1, List.getElem?_map, List.getElem?_drop, show f + (j - f) = j by omega, List.getElem?_take_of_lt (by omega), decide_eq_true (by omega)]
      cases l[j]? <;> simp
    · rw [List.getElem?_append_right (by rw [List.length_append, n1, n2]; omega), List.length_append, n1, n2, List.getElem?_drop, show t + 1 + (j - (f + (t + 1 - f))) = j by omega, decide_eq_false (by omega)]
      cases l[j]? <;> simp
theorem turnAll_ok (l : List Bool) (f t : Nat) (hft : f ≤ t) (ht : t < l.length) (hl : l.length ≤ 60) : impl_turnAll.f (enc l) (f : Int) (t : Int) = some (enc (flipL l f t)) := by
  unfold impl_turnAll.f
  have m1 : ((l.take (t + 1)).drop f).length = t + 1 - f := by rw [List.length_drop, List.length_take]; omega
  rw [enc_size, w_up (by omega), if_pos (by omega), if_pos (by omega), if_pos (by omega), if_pos (by omega), Int.toNat_natCast, Int.toNat_natCast, enc_take, enc_mid l f (t + 1), turned_ok _ (by omega) (by omega), Option.bind_some, enc_append]
  rw [if_pos (by rw [enc_size, enc_size, List.length_take, List.length_map, m1]; omega), if_pos (by omega), ← enc_size l, enc_drop l (t + 1) (by omega)]
  rw [if_pos (by rw [enc_size, enc_size, List.length_append, List.length_take, List.length_map, m1, List.length_drop]; omega), enc_append, flip_parts l f t hft ht]
theorem mx_is (a b : Int) : mx a b = max a b := by unfold mx; omega
theorem mn_is (a b : Int) : mn a b = min a b := by unfold mn; omega
theorem turnAround_ok (l : List Bool) (i : Nat) (hi : i < l.length) (hl : l.length ≤ 60) : impl_turnAround.f (enc l) (i : Int) = some (enc (around l i)) := by
  unfold impl_turnAround.f
  obtain ⟨h1, h2, _⟩ := span_ok l.length i 100 hi (by omega)
  have hle : i - 1 ≤ min (l.length - 1) (i + 1) := Nat.le_min.2 ⟨by omega, by omega⟩
  rw [mx_is, mn_is, enc_size, Int.max_comm, span_lo i (by omega), Int.min_comm, span_hi l.length i hi (by omega), turnAll_ok l (i - 1) (min (l.length - 1) (i + 1)) hle h2 hl]
  rfl
theorem one_row (a : ByteArray) (h : ordB a = true) : ∃ x : List Bool, a = enc x ∧ 1 ≤ x.length ∧ x.length ≤ 40 := by
  unfold ordB rowB at h
  simp only [Bool.and_eq_true, decide_eq_true_eq] at h
  obtain ⟨⟨h1, h2⟩, h3⟩ := h
  obtain ⟨x, hx, hxl⟩ := enc_of a h2
  exact ⟨x, hx, by omega, by omega⟩
end Go.Proofs.YtkipdkkiojbbeaaDoor.Pure
