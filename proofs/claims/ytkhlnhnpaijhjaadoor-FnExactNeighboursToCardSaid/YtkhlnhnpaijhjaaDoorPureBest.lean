/- The fewest orders to neighbours: the program's choice is the reference's, for all rows; no Go and no memory here. -/
import Derived.Test.YtkhlnhnpaijhjaaDoorAx2
import Derived.Test.YtkhlnhnpaijhjaaDoorAx3
import Derived.Test.YtkhlnhnpaijhjaaDoorAx4
import Derived.Test.YtkhlnhnpaijhjaaDoorPureTurn
namespace Go.Proofs.YtkhlnhnpaijhjaaDoor.Pure
open Go.RowKit Go.Proofs.YtkhlnhnpaijhjaaDoor.A Go.Proofs.YtkhlnhnpaijhjaaDoorW.PrintWords Go.Proofs.YtkhlnhnpaijhjaaDoorW.PrintLast Go.Proofs.YtkhlnhnpaijhjaaDoorW.PrintMore
set_option linter.unusedVariables false
set_option linter.unusedSimpArgs false

theorem nwith_congr (L M : Nat → Bool) (n : Nat) (h : ∀ j, j < n → L j = M j) (d : Nat) : ∀ (i : Nat) (out : List Int) (b m : Bool), i + d ≤ n → nwith L d i out b m = nwith M d i out b m := by
  induction d with
  | zero => intro i out b m _; rfl
  | succ d ih =>
    intro i out b m hi
    show nwith L d (i + 1) _ _ _ = nwith M d (i + 1) _ _ _
    rw [h i (by omega)]
    exact ih _ _ _ _ (by omega)
/-- Behind what stood there comes what lies from here on. -/
theorem nwith_from (L : Nat → Bool) (d : Nat) : ∀ (i : Nat) (out : List Int) (b m : Bool), ∃ r, (nwith L d i out b m).1 = out ++ r ∧ ∀ x ∈ r, (i : Int) ≤ x := by
  induction d with
  | zero => intro i out b m; exact ⟨[], by simp [nwith], by simp⟩
  | succ d ih =>
    intro i out b m
    obtain ⟨r, h1, h2⟩ := ih (i + 1) (if m then out ++ [(i : Int)] else out) m (L i != (b != m))
    cases m with
    | true =>
      refine ⟨(i : Int) :: r, ?_, ?_⟩
      · show (nwith L d (i + 1) _ _ _).1 = _
        rw [h1]
        simp
      · intro x hx
        rcases List.mem_cons.1 hx with rfl | hx
        · exact Int.le_refl _
        · have := h2 x hx
          omega
    | false =>
      refine ⟨r, ?_, fun x hx => by have := h2 x hx; omega⟩
      show (nwith L d (i + 1) _ _ _).1 = _
      rw [h1]
      simp
theorem compare_ok (x y : List Int) (z : Int) (hz : 0 < z) (k : Nat) (hk : 2 < k) : slices_Compare_int_int.f k (0 :: x) (z :: y) = some (-1) := by
  obtain ⟨k, rfl⟩ := fuel0 (show 0 < k by omega)
  unfold slices_Compare_int_int.f
  have c : cmp_Compare_int.f (rd (0 :: x) 0) (rd (z :: y) 0) = some (-1) := by
    show cmp_Compare_int.f 0 z = some (-1)
    unfold cmp_Compare_int.f cmp_isNaN_int.f
    rw [bne_self_eq_false, bne_self_eq_false, Option.bind_some, Option.bind_some, if_neg Bool.false_ne_true, if_neg Bool.false_ne_true, if_pos hz]
  simp only [slices_Compare_int_int.l0]
  rw [if_pos (by simp), if_pos (by omega), if_pos (by simp), if_neg (by simp), if_pos (by simp), c, Option.bind_some, if_neg (by decide)]
/-- The two at two rows. -/
theorem bests (A B : List Bool) (hA : A.length = B.length) (h1 : 1 ≤ B.length) (hB : B.length ≤ 40) :
    ∃ r : List Int × Bool, r.1.length ≤ 40 ∧ ∀ k, 5000 < k → spec_odBest.f k (enc A) (enc B) = some r ∧ impl_neighboursTo.f k (enc A) (enc B) = some r := by
  obtain ⟨D, d1, d2, d3⟩ := differ_ok A B hA hB
  obtain ⟨n, hn⟩ : ∃ n, B.length = n + 1 := ⟨B.length - 1, by omega⟩
  have q : ∀ first, nwith (fun j => D.getD j false) D.length 0 [] false first = nwith (dif A B) B.length 0 [] false first := fun first => by
    rw [d1]
    exact nwith_congr _ _ B.length d2 B.length 0 [] false first (by omega)
  obtain ⟨X, hX⟩ : ∃ X, X = nwith (dif A B) B.length 0 [] false true := ⟨_, rfl⟩
  obtain ⟨Y, hY⟩ : ∃ Y, Y = nwith (dif A B) B.length 0 [] false false := ⟨_, rfl⟩
  have lX : X.1.length ≤ 40 := by rw [hX]; have := nwith_len (dif A B) B.length 0 [] false true; simp at this; omega
  have lY : Y.1.length ≤ 40 := by rw [hY]; have := nwith_len (dif A B) B.length 0 [] false false; simp at this; omega
  obtain ⟨xs, hxs⟩ : ∃ xs, X.1 = 0 :: xs := by
    rw [hX, hn]
    obtain ⟨r, e, _⟩ := nwith_from (dif A B) n 1 [(0 : Int)] true (dif A B 0 != (false != true))
    refine ⟨r, ?_⟩
    show (nwith (dif A B) n 1 ([] ++ [((0 : Nat) : Int)]) true _).1 = _
    exact e
  have hys : ∀ y ∈ Y.1, 0 < y := by
    intro y hy
    rw [hY, hn] at hy
    obtain ⟨r, e, h⟩ := nwith_from (dif A B) n 1 [] false (dif A B 0 != (false != false))
    have e2 : (nwith (dif A B) (n + 1) 0 [] false false).1 = [] ++ r := e
    rw [e2, List.nil_append] at hy
    have := h y hy
    omega
  have cmpXY : X.1.length = Y.1.length → ∀ k, 2 < k → slices_Compare_int_int.f k X.1 Y.1 = some (-1) := by
    intro hl k hk
    rw [hxs] at hl ⊢
    cases hy : Y.1 with
    | nil => rw [hy] at hl; simp at hl
    | cons z ys => exact compare_ok xs ys z (hys z (by rw [hy]; exact List.mem_cons_self)) k hk
  have hk1 := fun (k : Nat) (hk : 5000 < k) (first : Bool) => chase_ok A B hA h1 (by omega) first k (by omega)
  have hk2 := fun (k : Nat) (hk : 5000 < k) (first : Bool) => (plan_ok D (by omega) first k (by omega)).trans (congrArg some (q first))
  refine ⟨if X.2 = true ∧ (Y.2 = true → X.1.length ≤ Y.1.length) then (X.1, true) else if Y.2 = true then (Y.1, true) else ([], false), ?_, fun k hk => ?_⟩
  · split
    · exact lX
    · split
      · exact lY
      · simp
  unfold spec_odBest.f impl_neighboursTo.f
  rw [hk1 k hk true, hk1 k hk false, d3 k (by omega), Option.bind_some, Option.bind_some, Option.bind_some, hk2 k hk false, hk2 k hk true, Option.bind_some, Option.bind_some, ← hX, ← hY]
  have j1 := fun (b : Bool) => show spec_odBest.j0 k X.1 Y.1 Y.2 b = (if b = true then some (X.1, true) else if Y.2 = true then some (Y.1, true) else some (([] : List Int), false)) by
    obtain ⟨k, rfl⟩ := fuel0 (show 0 < k by omega)
    rfl
  have j2 := fun (b : Bool) => show impl_neighboursTo.j0 k Y.1 Y.2 X.1 b = (if b = true then some (X.1, true) else if Y.2 = true then some (Y.1, true) else some (([] : List Int), false)) by
    obtain ⟨k, rfl⟩ := fuel0 (show 0 < k by omega)
    rfl
  cases hx2 : X.2 with
  | false =>
    rw [if_neg Bool.false_ne_true, if_neg Bool.false_ne_true, if_neg (fun h => Bool.false_ne_true h.1), j1, j2, if_neg Bool.false_ne_true]
    cases Y.2 <;> exact ⟨rfl, rfl⟩
  | true =>
    rw [if_pos rfl, if_pos rfl]
    cases hy2 : Y.2 with
    | false =>
      rw [hy2] at j1 j2
      rw [if_neg Bool.false_ne_true, if_neg Bool.false_ne_true, if_pos ⟨rfl, fun h => absurd h Bool.false_ne_true⟩, j1, j2, if_pos rfl]
      exact ⟨rfl, rfl⟩
    | true =>
      rw [hy2] at j1 j2
      rw [if_pos rfl, if_pos rfl, j1]
      by_cases c1 : X.1.length < Y.1.length
      · have ch : true = true ∧ (true = true → X.1.length ≤ Y.1.length) := ⟨rfl, fun _ => by omega⟩
        refine ⟨?_, ?_⟩
        · rw [if_pos ch, decide_eq_true (show (X.1.length : Int) ≤ (Y.1.length : Int) by omega), if_pos rfl]
        · rw [if_pos ch, if_pos (show (X.1.length : Int) < (Y.1.length : Int) by omega), j2]
          simp
      · by_cases c2 : X.1.length = Y.1.length
        · have ch : true = true ∧ (true = true → X.1.length ≤ Y.1.length) := ⟨rfl, fun _ => by omega⟩
          refine ⟨?_, ?_⟩
          · rw [if_pos ch, decide_eq_true (show (X.1.length : Int) ≤ (Y.1.length : Int) by omega), if_pos rfl]
          · rw [if_pos ch, if_neg (show ¬ (X.1.length : Int) < (Y.1.length : Int) by omega), if_pos (show (X.1.length : Int) = (Y.1.length : Int) by omega), cmpXY c2 k (by omega), Option.bind_some, j2]
            simp
        · have ch : ¬ (true = true ∧ (true = true → X.1.length ≤ Y.1.length)) := fun h => by have := h.2 rfl; omega
          refine ⟨?_, ?_⟩
          · rw [if_neg ch, decide_eq_false (show ¬ (X.1.length : Int) ≤ (Y.1.length : Int) by omega), if_neg Bool.false_ne_true, if_pos rfl]
          · rw [if_neg ch, if_neg (show ¬ (X.1.length : Int) < (Y.1.length : Int) by omega), if_neg (show ¬ (X.1.length : Int) = (Y.1.length : Int) by omega), j2]
            simp
end Go.Proofs.YtkhlnhnpaijhjaaDoor.Pure
