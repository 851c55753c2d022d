/- What runs and first orders come to: lists of places, and what they do to a row. No condition. -/
import Derived.Test.YtkipdkkiojbbeaaDoorPureRuns
import Derived.Test.YtkipdkkiojbbeaaDoorPureTurn
import Derived.Test.YtkipdkkiojbbeaaDoorPureOrd
namespace Go.Proofs.YtkipdkkiojbbeaaDoor.Pure
open Go.RowKit Go.Proofs.YtkipdkkiojbbeaaDoor.A Go.Proofs.YtkipdkkiojbbeaaDoorW.PrintWords Go.Proofs.YtkipdkkiojbbeaaDoorW.PrintLast Go.Proofs.YtkipdkkiojbbeaaDoorW.PrintMore Go.Proofs.YtkipdkkiojbbeaaDoor.Ord
set_option linter.unusedVariables false
set_option linter.unusedSimpArgs false
def flips (P : List (Nat × Nat)) (l : List Bool) : List Bool := P.foldl (fun x p => flipL x p.1 p.2) l
theorem flips_len (P : List (Nat × Nat)) : ∀ l, (flips P l).length = l.length := by
  unfold flips
  induction P with
  | nil => intro l; rfl
  | cons p P ih => intro l; rw [List.foldl_cons, ih, flip_len]
theorem flips_app (P Q : List (Nat × Nat)) (l : List Bool) : flips (P ++ Q) l = flips Q (flips P l) := by unfold flips; rw [List.foldl_append]
theorem flips_one (f t : Nat) (l : List Bool) : flips [(f, t)] l = flipL l f t := rfl
def runE (p : Nat × Nat) : List Int := [(p.1 : Int), (p.2 : Int)]
theorem last_rd (X : List (List Int)) (y : List Int) : rd_L3 (X ++ [y]) (((X ++ [y]).length - 1 : Nat) : Int) = y := by
  unfold rd_L3
  rw [Int.toNat_natCast, List.length_append, List.length_singleton, Nat.add_sub_cancel, List.getD_eq_getElem?_getD, List.getElem?_append_right (Nat.le_refl _), Nat.sub_self]
  rfl
theorem last_put (X : List (List Int)) (y z : List Int) : (X ++ [y]).set ((X ++ [y]).length - 1) z = X ++ [z] := by
  rw [List.length_append, List.length_singleton, Nat.add_sub_cancel, List.set_append_right _ _ (Nat.le_refl _), Nat.sub_self]
  rfl
theorem runs_form (A B : List Bool) (hA : A.length = B.length) (hB : B.length ≤ 40) : ∀ n, n ≤ B.length → ∃ P : List (Nat × Nat),
    runsUp (enc A) (enc B) n = P.map runE ∧ P.length = starts (dif A B) n ∧ (∀ p ∈ P, p.1 ≤ p.2 ∧ p.2 < n) ∧
    (∀ l : List Bool, l.length = B.length → ∀ j, j < B.length → (flips P l).getD j false = (l.getD j false != (decide (j < n) && dif A B j))) ∧
    ((decide (0 < n) && dif A B (n - 1)) = true → ∃ Q f, P = Q ++ [(f, n - 1)])
  | 0, _ => ⟨[], rfl, rfl, by simp, fun l hl j hj => by simp [flips], by simp⟩
  | n + 1, hn => by
    obtain ⟨P, e, hl, hp, hf, ht⟩ := runs_form A B hA hB n (by omega)
    have hbt := bt_same A B n (by omega) (by omega)
    have hinv := (runs_inv (enc A) (enc B) n).2
    rw [runsUp, starts, Nat.add_sub_cancel, decide_eq_true (show 0 < n + 1 by omega), Bool.true_and]
    unfold runsStep
    cases d : dif A B n with
    | false =>
      rw [if_pos (hbt.2 d), Bool.false_and]
      refine ⟨P, e, hl, fun p h => ⟨(hp p h).1, by have := (hp p h).2; omega⟩, fun l h j hj => ?_, fun h => absurd h (by decide)⟩
      rw [hf l h j hj]
      by_cases q : j = n
      · subst q
        rw [d, Bool.and_false, Bool.and_false]
      · rw [decide_eq_decide.2 (show j < n ↔ j < n + 1 by omega)]
    | true =>
      rw [if_neg (fun h => by have := hbt.1 h; rw [d] at this; cases this), Bool.true_and]
      cases c : decide (0 < n) && dif A B (n - 1) with
      | true =>
        obtain ⟨Q, f, rfl⟩ := ht c
        rw [Bool.and_eq_true, decide_eq_true_eq] at c
        have hq := hp (f, n - 1) (by simp)
        dsimp only at hq
        have e1 : runsUp (enc A) (enc B) n = Q.map runE ++ [[(f : Int), ((n - 1 : Nat) : Int)]] := by rw [e, List.map_append]; rfl
        rw [e1, last_rd, last_put]
        have w : wrap64 ((n : Int) - 1) = ((n - 1 : Nat) : Int) := w_down (by omega) c.1
        rw [if_pos ⟨by simp, w.symm⟩]
        refine ⟨Q ++ [(f, n)], by rw [List.map_append]; rfl, ?_, ?_, ?_, fun _ => ⟨Q, f, rfl⟩⟩
        · rw [List.length_append] at hl ⊢
          rw [← hl]
          rfl
        · intro p h
          rcases List.mem_append.1 h with h | h
          · have := hp p (List.mem_append_left _ h)
            omega
          · rw [List.mem_singleton] at h
            subst h
            exact ⟨by dsimp only; omega, by dsimp only; omega⟩
        · intro l h j hj
          have g := hf l h j hj
          have gl : (flips Q l).length = B.length := by rw [flips_len, h]
          rw [flips_app, flips_one, flip_getD _ _ _ _ (by omega)] at g ⊢
          by_cases q : j = n
          · subst q
            rw [decide_eq_false (show ¬ (f ≤ j ∧ j ≤ j - 1) by omega), decide_eq_false (show ¬ j < j by omega), Bool.false_and] at g
            rw [decide_eq_true (show f ≤ j ∧ j ≤ j by omega), decide_eq_true (show j < j + 1 by omega), d]
            revert g
            cases (flips Q l).getD j false <;> cases l.getD j false <;> decide
          · rw [decide_eq_decide.2 (show (f ≤ j ∧ j ≤ n - 1) ↔ (f ≤ j ∧ j ≤ n) by omega), decide_eq_decide.2 (show j < n ↔ j < n + 1 by omega)] at g
            exact g
      | false =>
        have hno : ¬ (0 < (runsUp (enc A) (enc B) n).length ∧ rdOf 0 (rd_L3 (runsUp (enc A) (enc B) n) (((runsUp (enc A) (enc B) n).length - 1 : Nat) : Int)) 1 = wrap64 ((n : Int) - 1)) := by
          intro h
          have w : wrap64 ((n : Int) - 1) = (n : Int) - 1 := by unfold wrap64; omega
          rw [w] at h
          have k := hinv.2 h
          rw [now_dif A B hA (n - 1) (by omega)] at k
          rw [decide_eq_true k.1, k.2] at c
          cases c
        rw [if_neg hno]
        refine ⟨P ++ [(n, n)], by rw [e, List.map_append]; rfl, ?_, ?_, ?_, fun _ => ⟨P, n, rfl⟩⟩
        · rw [List.length_append, hl]
          rfl
        · intro p h
          rcases List.mem_append.1 h with h | h
          · have := hp p h
            omega
          · rw [List.mem_singleton] at h
            subst h
            exact ⟨Nat.le_refl _, Nat.lt_succ_self _⟩
        · intro l h j hj
          have g := hf l h j hj
          have gl : (flips P l).length = B.length := by rw [flips_len, h]
          rw [flips_app, flips_one, flip_getD _ _ _ _ (by omega), g]
          by_cases q : j = n
          · subst q
            rw [decide_eq_true (show j ≤ j ∧ j ≤ j by omega), decide_eq_false (show ¬ j < j by omega), decide_eq_true (show j < j + 1 by omega), d]
            cases l.getD j false <;> decide
          · rw [decide_eq_false (show ¬ (n ≤ j ∧ j ≤ n) by omega), decide_eq_decide.2 (show j < n ↔ j < n + 1 by omega)]
            cases l.getD j false <;> cases decide (j < n + 1) && dif A B j <;> decide
def heads (P : List Nat) (l : List Bool) : List Bool := P.foldl (fun x p => flipL x 0 (p - 1)) l
theorem heads_len (P : List Nat) : ∀ l, (heads P l).length = l.length := by
  unfold heads
  induction P with
  | nil => intro l; rfl
  | cons p P ih => intro l; rw [List.foldl_cons, ih, flip_len]
theorem heads_app (P Q : List Nat) (l : List Bool) : heads (P ++ Q) l = heads Q (heads P l) := by unfold heads; rw [List.foldl_append]
theorem heads_one (t : Nat) (l : List Bool) : heads [t] l = flipL l 0 (t - 1) := rfl
theorem firsts_form (A B : List Bool) (hA : A.length = B.length) (hB : B.length ≤ 40) : ∀ n, n ≤ B.length → ∃ P : List Nat,
    firstsUp (enc A) (enc B) n = P.map (fun p : Nat => (p : Int)) ∧ P.length = ends (dif A B) B.length n ∧ (∀ p ∈ P, 1 ≤ p ∧ p ≤ n) ∧ P.Pairwise (· < ·) ∧
    (∀ l : List Bool, l.length = B.length → ∀ j, j < B.length → (heads P l).getD j false = (l.getD j false != (decide (j < n) && (dif A B j != dn (dif A B) B.length n))))
  | 0, _ => ⟨[], rfl, rfl, by simp, .nil, fun l hl j hj => by simp [heads]⟩
  | n + 1, hn => by
    obtain ⟨P, e, hl, hp, hs, hf⟩ := firsts_form A B hA hB n (by omega)
    have e1 : nowB (enc A) (enc B) n = dn (dif A B) B.length n := by rw [now_dif A B hA n (by omega), dn_in (by omega)]
    have e2 : nextB (enc A) (enc B) n = dn (dif A B) B.length (n + 1) := by rw [next_dif A B hA n]; rfl
    rw [firstsUp, ends, e1, e2]
    have en : dn (dif A B) B.length n = dif A B n := dn_in (by omega)
    generalize hx : dn (dif A B) B.length (n + 1) = X at *
    cases c : (dn (dif A B) B.length n != X) with
    | false =>
      rw [if_neg Bool.false_ne_true]
      refine ⟨P, e, hl, fun p h => ⟨(hp p h).1, by have := (hp p h).2; omega⟩, hs, fun l h j hj => ?_⟩
      rw [hf l h j hj, (bne_eq_false_iff_eq.1 c)]
      by_cases q : j = n
      · subst q
        rw [← bne_eq_false_iff_eq.1 c, en, bne_self_eq_false, Bool.and_false, Bool.and_false]
      · rw [decide_eq_decide.2 (show j < n ↔ j < n + 1 by omega)]
    | true =>
      rw [if_pos rfl]
      refine ⟨P ++ [n + 1], by rw [e, List.map_append]; rfl, ?_, ?_, ?_, ?_⟩
      · rw [List.length_append, hl]
        rfl
      · intro p h
        rcases List.mem_append.1 h with h | h
        · have := hp p h
          omega
        · rw [List.mem_singleton] at h
          omega
      · rw [List.pairwise_append]
        refine ⟨hs, List.pairwise_singleton _ _, ?_⟩
        intro a ha b hb
        rw [List.mem_singleton] at hb
        have := (hp a ha).2
        omega
      · intro l h j hj
        have g := hf l h j hj
        have gl : (heads P l).length = B.length := by rw [heads_len, h]
        rw [heads_app, heads_one, flip_getD _ _ _ _ (by omega), g, Nat.add_sub_cancel]
        rw [en] at c ⊢
        by_cases q : j = n
        · subst q
          rw [decide_eq_true (show 0 ≤ j ∧ j ≤ j by omega), decide_eq_false (show ¬ j < j by omega), decide_eq_true (show j < j + 1 by omega)]
          revert c
          cases l.getD j false <;> cases dif A B j <;> cases X <;> decide
        · by_cases q2 : j < n
          · rw [decide_eq_true (show 0 ≤ j ∧ j ≤ n by omega), decide_eq_true q2, decide_eq_true (show j < n + 1 by omega)]
            revert c
            cases l.getD j false <;> cases dif A B j <;> cases dif A B n <;> cases X <;> decide
          · rw [decide_eq_false (show ¬ (0 ≤ j ∧ j ≤ n) by omega), decide_eq_false q2, decide_eq_false (show ¬ j < n + 1 by omega), Bool.false_and, Bool.false_and]
            cases l.getD j false <;> decide
theorem list_eq (x y : List Bool) (h : x.length = y.length) (g : ∀ j, j < y.length → x.getD j false = y.getD j false) : x = y := by
  apply List.ext_getElem h
  intro j h1 h2
  have := g j h2
  rw [List.getD_eq_getElem?_getD, List.getD_eq_getElem?_getD, List.getElem?_eq_getElem h1, List.getElem?_eq_getElem h2] at this
  exact this
/-- All runs together lead from the one row to the other. -/
theorem runs_lead (A B : List Bool) (hA : A.length = B.length) (hB : B.length ≤ 40) : ∃ P : List (Nat × Nat),
    runsUp (enc A) (enc B) B.length = P.map runE ∧ P.length = starts (dif A B) B.length ∧ (∀ p ∈ P, p.1 ≤ p.2 ∧ p.2 < B.length) ∧ flips P A = B := by
  obtain ⟨P, e, hl, hp, hf, _⟩ := runs_form A B hA hB B.length (Nat.le_refl _)
  refine ⟨P, e, hl, hp, list_eq _ _ (by rw [flips_len, hA]) fun j hj => ?_⟩
  rw [hf A hA j hj, decide_eq_true hj, Bool.true_and]
  unfold dif
  cases A.getD j false <;> cases B.getD j false <;> decide
/-- All first orders together too. -/
theorem firsts_lead (A B : List Bool) (hA : A.length = B.length) (hB : B.length ≤ 40) : ∃ P : List Nat,
    firstsUp (enc A) (enc B) B.length = P.map (fun p : Nat => (p : Int)) ∧ P.length = ends (dif A B) B.length B.length ∧ (∀ p ∈ P, 1 ≤ p ∧ p ≤ B.length) ∧ P.Pairwise (· < ·) ∧ heads P A = B := by
  obtain ⟨P, e, hl, hp, hs, hf⟩ := firsts_form A B hA hB B.length (Nat.le_refl _)
  refine ⟨P, e, hl, hp, hs, list_eq _ _ (by rw [heads_len, hA]) fun j hj => ?_⟩
  rw [hf A hA j hj, decide_eq_true hj, Bool.true_and, dn_out (Nat.le_refl _)]
  unfold dif
  cases A.getD j false <;> cases B.getD j false <;> decide
/-- One run more changes the fewest by one at most. -/
theorem runs_near (A B : List Bool) (hA : A.length = B.length) (h1 : 1 ≤ B.length) (h : Nat) (hh : h < B.length) :
    starts (dif (flipL A 0 h) B) B.length ≤ starts (dif A B) B.length + 1 ∧ starts (dif A B) B.length ≤ starts (dif (flipL A 0 h) B) B.length + 1 := by
  refine starts_near (dif A B) (dif (flipL A 0 h) B) B.length h h1 hh fun i hi => ?_
  unfold dif
  rw [flip_getD A 0 h i (by omega), decide_eq_decide.2 (show (0 ≤ i ∧ i ≤ h) ↔ i ≤ h by omega)]
  cases A.getD i false <;> cases B.getD i false <;> cases decide (i ≤ h) <;> rfl
end Go.Proofs.YtkipdkkiojbbeaaDoor.Pure
