/- Orders played one after the other: the program and the reference come to one row; no Go and no memory here. -/
import Derived.Test.YtpgefdbolcacoaaDoorAx1
import Derived.Test.YtpgefdbolcacoaaDoorAx4
import Derived.Test.YtpgefdbolcacoaaDoorPureTurn
namespace Go.Proofs.YtpgefdbolcacoaaDoor.Pure
open Go.RowKit Go.Proofs.YtpgefdbolcacoaaDoor.A Go.Proofs.YtpgefdbolcacoaaDoorW.PrintWords Go.Proofs.YtpgefdbolcacoaaDoorW.PrintLast Go.Proofs.YtpgefdbolcacoaaDoorW.PrintMore
set_option linter.unusedVariables false
set_option linter.unusedSimpArgs false

theorem rd_at' (l : List Int) (i : Nat) (h : i < l.length) : rd l (i : Int) = l[i] := by
  unfold rd
  rw [Int.toNat_natCast, List.getD_eq_getElem?_getD, List.getElem?_eq_getElem h]
  rfl
theorem all_loop (s : List Int) (lo hi : Int) (hs : s.length ≤ 1048576) (d : Nat) : ∀ (k i : Nat), i + d = s.length → d < k → spec_l1All.l0 k lo hi s (s.length : Int) (i : Int) = some ((s.drop i).all fun x => decide (lo ≤ x ∧ x ≤ hi)) := by
  induction d with
  | zero =>
    intro k i h hk
    obtain ⟨k, rfl⟩ := fuel0 (show 0 < k by omega)
    simp only [spec_l1All.l0]
    rw [if_neg (by omega), List.drop_eq_nil_of_le (by omega)]
    rfl
  | succ d ih =>
    intro k i h hk
    obtain ⟨k, rfl⟩ := fuel0 (show 0 < k by omega)
    have hi' : i < s.length := by omega
    simp only [spec_l1All.l0]
    rw [if_pos (by omega), if_pos (by omega), if_pos (by omega), l1_eq, Option.bind_some, rd_at' s i hi', List.drop_eq_getElem_cons hi', List.all_cons]
    by_cases c : lo ≤ s[i] ∧ s[i] ≤ hi
    · rw [decide_eq_true c, if_pos rfl, w_up (by omega), ih k (i + 1) (by omega) (by omega)]
      rfl
    · rw [decide_eq_false c, if_neg Bool.false_ne_true]
      rfl
theorem all_ok (s : List Int) (lo hi : Int) (hs : s.length ≤ 1048576) (k : Nat) (hk : s.length < k) : spec_l1All.f k s lo hi = some (s.all fun x => decide (lo ≤ x ∧ x ≤ hi)) := by
  unfold spec_l1All.f
  exact all_loop s lo hi hs s.length k 0 (by omega) hk
/-! ### windows -/
theorem win_end (m w : Nat) (hw : 1 ≤ w) (h : m + w ≤ 1000000) : wrap64 ((wrap64 ((m : Int) + (w : Int))) - 1) = ((m + w - 1 : Nat) : Int) := by
  have e0 : wrap64 ((m : Int) + (w : Int)) = ((m + w : Nat) : Int) := by rw [w_in (by omega) (by omega)]; omega
  rw [e0]
  exact w_down (by omega) (by omega)
/-! ### orders to neighbours -/
theorem pn_all (s : List Int) (n : Nat) (hs : s.length ≤ 100) (hn1 : 1 ≤ n) (hn : n ≤ 40) (d : Nat) : ∀ (i : Nat) (l : List Bool), i + d = s.length → l.length = n → (∀ x ∈ s.drop i, 0 ≤ x ∧ x ≤ (n : Int) - 1) →
    ∃ r : List Bool, ∀ k, 100 + d < k → spec_odPlay.l0 k (enc l) s (s.length : Int) (i : Int) = some (enc r) ∧ impl_PlayNeighbours.l0 k (enc l) s (s.length : Int) (i : Int) = some (enc r, true) := by
  induction d with
  | zero =>
    intro i l h hl hx
    refine ⟨l, fun k hk => ?_⟩
    obtain ⟨k, rfl⟩ := fuel0 (show 0 < k by omega)
    simp only [spec_odPlay.l0, impl_PlayNeighbours.l0]
    rw [if_neg (by omega), if_neg (by omega)]
    exact ⟨rfl, rfl⟩
  | succ d ih =>
    intro i l h hl hx
    have hi : i < s.length := by omega
    rw [List.drop_eq_getElem_cons hi] at hx
    obtain ⟨x0, x1⟩ := hx s[i] (List.mem_cons_self)
    obtain ⟨m, hm⟩ : ∃ m : Nat, s[i] = (m : Int) := ⟨s[i].toNat, by omega⟩
    obtain ⟨r, hr⟩ := ih (i + 1) (around l m) (by omega) (by unfold around; rw [flip_len]; exact hl) (fun x hx' => hx x (List.mem_cons_of_mem _ hx'))
    refine ⟨r, fun k hk => ?_⟩
    obtain ⟨k, rfl⟩ := fuel0 (show 0 < k by omega)
    obtain ⟨g1, g2⟩ := hr k (by omega)
    have e2 : wrap64 ((l.length : Int) - 1) = (n : Int) - 1 := by rw [w_in (by omega) (by omega), hl]
    simp only [spec_odPlay.l0, impl_PlayNeighbours.l0]
    rw [if_pos (by omega), if_pos (by omega), if_pos (by omega), if_pos (by omega), if_pos (by omega), if_pos (by omega), rd_at' s i hi, hm, enc_size, e2, odAround_ok k m l (by omega) (by omega) (by omega), Option.bind_some, in_eq, decide_eq_true (by omega), Option.bind_some, if_pos rfl, turnAround_ok l m (by omega) (by omega), Option.bind_some, w_up (by omega)]
    exact ⟨g1, g2⟩
theorem pn_fail (s : List Int) (n : Nat) (hs : s.length ≤ 100) (hn1 : 1 ≤ n) (hn : n ≤ 40) (d : Nat) : ∀ (i : Nat) (l : List Bool), i + d = s.length → l.length = n → ((s.drop i).all fun x => decide (0 ≤ x ∧ x ≤ (n : Int) - 1)) = false →
    ∀ k, 100 + d < k → impl_PlayNeighbours.l0 k (enc l) s (s.length : Int) (i : Int) = some ((⟨#[]⟩ : ByteArray), false) := by
  induction d with
  | zero =>
    intro i l h hl hx k hk
    rw [List.drop_eq_nil_of_le (by omega)] at hx
    cases hx
  | succ d ih =>
    intro i l h hl hx k hk
    have hi : i < s.length := by omega
    obtain ⟨k, rfl⟩ := fuel0 (show 0 < k by omega)
    rw [List.drop_eq_getElem_cons hi, List.all_cons] at hx
    have e2 : wrap64 ((l.length : Int) - 1) = (n : Int) - 1 := by rw [w_in (by omega) (by omega), hl]
    simp only [impl_PlayNeighbours.l0]
    rw [if_pos (by omega), if_pos (by omega), if_pos (by omega), rd_at' s i hi, enc_size, e2, in_eq, Option.bind_some]
    by_cases c : 0 ≤ s[i] ∧ s[i] ≤ (n : Int) - 1
    · rw [decide_eq_true c, Bool.true_and] at hx
      obtain ⟨m, hm⟩ : ∃ m : Nat, s[i] = (m : Int) := ⟨s[i].toNat, by omega⟩
      rw [decide_eq_true c, if_pos rfl, hm, turnAround_ok l m (by omega) (by omega), Option.bind_some, w_up (by omega)]
      exact ih (i + 1) _ (by omega) (by unfold around; rw [flip_len]; exact hl) hx k (by omega)
    · rw [decide_eq_false c, if_neg Bool.false_ne_true]
end Go.Proofs.YtpgefdbolcacoaaDoor.Pure
