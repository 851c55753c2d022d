/- What the functions over files come to that the law FnFilesSearchedOfAll calls: searches, counts, ranks, files exchanged, texts written and read. No condition. -/
import Derived.Test.YtohhlkehglahhaaGreatDoorAx11
import Derived.Test.YtohhlkehglahhaaGreatDoorAx13
import Derived.Test.YtohhlkehglahhaaGreatDoorAx14
import Derived.Test.YtohhlkehglahhaaGreatDoorAx16
import Derived.Test.YtohhlkehglahhaaGreatDoorAx17
import Derived.Test.YtohhlkehglahhaaGreatDoorAx19
import Derived.Test.YtohhlkehglahhaaGreatDoorAx20
import Derived.Test.YtohhlkehglahhaaGreatDoorAx23
import Derived.Test.YtohhlkehglahhaaGreatDoorAx24
import Derived.Test.YtohhlkehglahhaaGreatDoorAx6
import Derived.Test.YtohhlkehglahhaaGreatDoorAx7
import Derived.Test.YtohhlkehglahhaaGreatDoorAx8
import Derived.Test.YtohhlkehglahhaaGreatDoorAx9
import Derived.Test.YtohhlkehglahhaaGreatDoorGivB
import Derived.Test.YtohhlkehglahhaaGreatDoorGivE
import Derived.Test.YtohhlkehglahhaaGreatDoorGivH
import Derived.Test.YtohhlkehglahhaaGreatDoorPureFText
import Derived.Test.YtohhlkehglahhaaGreatDoorPureFiles
import Derived.Test.YtohhlkehglahhaaGreatDoorPureNum
import Derived.Test.YtohhlkehglahhaaGreatDoorPureOrder
import Derived.Test.YtohhlkehglahhaaGreatDoorPureParse
import Derived.Test.YtohhlkehglahhaaGreatDoorPureSort
import Derived.Test.YtohhlkehglahhaaGreatDoorPureSyt
namespace Go.Proofs.YtohhlkehglahhaaGreatDoor.Pure
open Go.RowKit Go.Proofs.YtohhlkehglahhaaGreatDoor.A Go.Proofs.YtohhlkehglahhaaGreatDoorW.PrintWords Go.Proofs.YtohhlkehglahhaaGreatDoorW.PrintLast Go.Proofs.YtohhlkehglahhaaGreatDoorW.PrintMore
set_option linter.unusedVariables false
set_option linter.unusedSimpArgs false
theorem desc_head (a b : Int) (t : List Int) (i : Nat) : desc (a :: b :: t) (i + 1) = desc (b :: t) i := by
  unfold desc
  simp [List.getD_cons_succ]
theorem any_range_succ (p : Nat → Bool) (n : Nat) : (List.range (n + 1)).any p = (p 0 || (List.range n).any fun i => p (i + 1)) := by
  rw [List.range_succ_eq_map, List.any_cons, List.any_map]
  rfl
theorem srtB_cons (a b : Int) (t : List Int) : srtB (a :: b :: t) = (decide (a ≤ b) && srtB (b :: t)) := by
  unfold srtB
  rw [show (a :: b :: t).length - 1 = t.length + 1 by simp, any_range_succ, show (b :: t).length - 1 = t.length by simp]
  simp only [desc_head, Bool.not_or]
  congr 1
  unfold desc
  simp only [List.getD_cons_zero, List.getD_cons_succ]
  by_cases h : a ≤ b
  · rw [decide_eq_true h, decide_eq_false (by omega)]; rfl
  · rw [decide_eq_false h, decide_eq_true (by omega)]; rfl
theorem srtB_iff : ∀ r : List Int, srtB r = true ↔ Srt r
  | [] => by simp [srtB, Srt]
  | [a] => by simp [srtB, Srt]
  | a :: b :: t => by
    rw [srtB_cons, Bool.and_eq_true, decide_eq_true_eq, srtB_iff (b :: t)]
    unfold Srt
    constructor
    · rintro ⟨h1, h2⟩
      refine List.pairwise_cons.2 ⟨fun x hx => ?_, h2⟩
      rcases List.mem_cons.1 hx with rfl | hx
      · exact h1
      · exact Int.le_trans h1 ((List.pairwise_cons.1 h2).1 x hx)
    · intro h
      obtain ⟨h1, h2⟩ := List.pairwise_cons.1 h
      exact ⟨h1 b (by simp), h2⟩
def cellL (L : List (List Int)) (i c : Nat) : Int := (L.getD i []).getD c 0
def wayL (L : List (List Int)) (h : Int) : Nat → Nat → Nat → List (List Int)
  | 0, _, _ => []
  | d + 1, i, c => if i < L.length ∧ 0 < c then [(i : Int), ((c - 1 : Nat) : Int)] :: (if cellL L i (c - 1) = h then [] else if cellL L i (c - 1) > h then wayL L h d i (c - 1) else wayL L h d (i + 1) c) else []
structure Way (L : List (List Int)) (h : Int) (m i c : Nat) (P : List (List Int)) : Prop where
  len : P.length ≤ (L.length - i) + c - 1
  at0 : ∀ p, P.head? = some p → p = [(i : Int), ((c - 1 : Nat) : Int)]
  ins : ∀ p ∈ P, ∃ a b : Nat, p = [(a : Int), (b : Int)] ∧ a < L.length ∧ b < c
  one : ∀ j (hj : j + 1 < P.length), ∃ a b a' b' : Nat, P[j] = [(a : Int), (b : Int)] ∧ P[j + 1] = [(a' : Int), (b' : Int)] ∧ ((a' = a + 1 ∧ b' = b) ∨ (a' = a ∧ b = b' + 1))
  fin : ∀ p, P.getLast? = some p → ∃ a b : Nat, p = [(a : Int), (b : Int)] ∧ (cellL L a b = h ∨ ∀ r < L.length, ∀ k < m, cellL L r k ≠ h)
theorem way_of (L : List (List Int)) (h : Int) (m : Nat) (hrow : ∀ i < L.length, ∀ a b, a ≤ b → b < m → cellL L i a ≤ cellL L i b) (hcol : ∀ k < m, ∀ a b, a ≤ b → b < L.length → cellL L a k ≤ cellL L b k) (d : Nat) :
    ∀ i c, i ≤ L.length → c ≤ m → (L.length - i) + c ≤ d → (∀ r < L.length, ∀ k < m, ¬ (i ≤ r ∧ k < c) → cellL L r k ≠ h) → Way L h m i c (wayL L h d i c) ∧ ((i < L.length ∧ 0 < c) ↔ wayL L h d i c ≠ []) := by
  induction d with
  | zero =>
    intro i c hi hc hd hn
    simp only [wayL]
    refine ⟨⟨by simp, by simp, by simp, by simp, by simp⟩, by simp; omega⟩
  | succ d ih =>
    intro i c hi hc hd hn
    simp only [wayL]
    by_cases hb : i < L.length ∧ 0 < c
    · rw [if_pos hb]
      obtain ⟨c, rfl⟩ : ∃ b, c = b + 1 := ⟨c - 1, by omega⟩
      rw [Nat.add_sub_cancel]
      by_cases h1 : cellL L i c = h
      · rw [if_pos h1]
        refine ⟨⟨by simp; omega, fun p hp => by simp at hp; exact hp.symm, ?_, by simp, ?_⟩, by simp; omega⟩
        · intro p hp
          rw [List.mem_singleton.1 hp]
          exact ⟨i, c, rfl, hb.1, by omega⟩
        · intro p hp
          simp at hp
          exact ⟨i, c, hp.symm, .inl h1⟩
      · rw [if_neg h1]
        have key : ∀ i' c', i' ≤ L.length → c' ≤ m → ((i' = i + 1 ∧ c' = c + 1) ∨ (i' = i ∧ c' = c)) → (∀ r < L.length, ∀ k < m, ¬ (i' ≤ r ∧ k < c') → cellL L r k ≠ h) → Way L h m i (c + 1) ([(i : Int), (c : Int)] :: wayL L h d i' c') := by
          intro i' c' hi' hc' hio hn'
          obtain ⟨hw, hne⟩ := ih i' c' hi' hc' (by omega) hn'
          have hl := hw.len
          refine ⟨?_, ?_, ?_, ?_, ?_⟩
          · simp only [List.length_cons]
            by_cases he : wayL L h d i' c' = []
            · rw [he]; simp; omega
            · have := hne.2 he
              omega
          · intro p hp; simp at hp; rw [← hp]; rfl
          · intro p hp
            rcases List.mem_cons.1 hp with rfl | hp
            · exact ⟨i, c, rfl, hb.1, by omega⟩
            · obtain ⟨a, b, e, h2, h3⟩ := hw.ins p hp
              exact ⟨a, b, e, h2, by omega⟩
          · intro j hj
            cases j with
            | zero =>
              have hj' : 0 < (wayL L h d i' c').length := by simpa using hj
              have hne' : wayL L h d i' c' ≠ [] := fun e => by rw [e] at hj'; simp at hj'
              have hin := hne.2 hne'
              have e0 := hw.at0 (wayL L h d i' c')[0] (by rw [List.head?_eq_getElem?, List.getElem?_eq_getElem hj'])
              refine ⟨i, c, i', c' - 1, rfl, by simpa using e0, by omega⟩
            | succ j =>
              obtain ⟨a, b, a', b', e1, e2, e3⟩ := hw.one j (by simpa using hj)
              exact ⟨a, b, a', b', by simpa using e1, by simpa using e2, e3⟩
          · intro p hp
            by_cases he : wayL L h d i' c' = []
            · rw [he] at hp
              simp at hp
              refine ⟨i, c, hp.symm, .inr fun r hr k hk => ?_⟩
              have hnn : ¬ (i' < L.length ∧ 0 < c') := fun e => hne.1 e he
              exact hn' r hr k hk (by omega)
            · rw [List.getLast?_cons] at hp
              cases hq : (wayL L h d i' c').getLast? with
              | none => exact absurd (List.getLast?_eq_none_iff.1 hq) he
              | some q =>
                rw [hq] at hp
                simp at hp
                rw [← hp]
                exact hw.fin q hq
        by_cases h2 : cellL L i c > h
        · rw [if_pos h2]
          refine ⟨key i c hi (by omega) (.inr ⟨rfl, rfl⟩) ?_, by simp; omega⟩
          intro r hr k hk hnk
          by_cases h3 : i ≤ r ∧ k < c + 1
          · have : k = c := by omega
            subst this
            have := hcol k (by omega) i r h3.1 hr
            omega
          · exact hn r hr k hk h3
        · rw [if_neg h2]
          refine ⟨key (i + 1) (c + 1) (by omega) hc (.inl ⟨rfl, rfl⟩) ?_, by simp; omega⟩
          intro r hr k hk hnk
          by_cases h3 : i ≤ r ∧ k < c + 1
          · have : r = i := by omega
            subst this
            have := hrow r hr k c (by omega) (by omega)
            omega
          · exact hn r hr k hk h3
    · rw [if_neg hb]
      refine ⟨⟨by simp, by simp, by simp, by simp, by simp⟩, by simp; omega⟩
theorem cell_rd (L : List (List Int)) (i c : Nat) (hi : i < L.length) : rd L[i] (c : Int) = cellL L i c := by
  unfold cellL
  rw [rd_D, List.getD_eq_getElem?_getD (l := L), List.getElem?_eq_getElem hi]
  rfl
theorem cell_at (L : List (List Int)) (i c : Nat) (hi : i < L.length) (hc : c < L[i].length) : cellL L i c = L[i][c] := by
  unfold cellL
  rw [List.getD_eq_getElem?_getD (l := L), List.getElem?_eq_getElem hi, Option.getD_some, List.getD_eq_getElem?_getD, List.getElem?_eq_getElem hc]
  rfl
theorem cell_row (L : List (List Int)) (m : Nat) (hw : ∀ r ∈ L, r.length = m) (hs : sortedB L = true) : ∀ i < L.length, ∀ a b, a ≤ b → b < m → cellL L i a ≤ cellL L i b := by
  intro i hi a b hab hb
  have hlen := hw L[i] (List.getElem_mem hi)
  unfold sortedB at hs
  have hsrt : Srt L[i] := (srtB_iff _).1 (List.all_eq_true.1 hs _ (List.getElem_mem hi))
  rw [cell_at L i a hi (by omega), cell_at L i b hi (by omega)]
  rcases Nat.lt_or_eq_of_le hab with h | h
  · exact List.pairwise_iff_getElem.1 hsrt a b (by omega) (by omega) h
  · subst h
    exact Int.le_refl _
theorem cell_turn (L : List (List Int)) (m : Nat) (a k : Nat) (ha : a < L.length) (hk : k < m) : cellL (turnL L m) k a = cellL L a k := by
  unfold cellL turnL
  rw [List.getD_eq_getElem?_getD (l := List.map _ _), List.getElem?_map, List.getElem?_range hk, Option.map_some, Option.getD_some, List.getD_eq_getElem?_getD (l := List.map _ _), List.getElem?_map, List.getElem?_eq_getElem ha, Option.map_some, Option.getD_some, List.getD_eq_getElem?_getD (l := L), List.getElem?_eq_getElem ha, Option.getD_some]
theorem cell_col (L : List (List Int)) (m : Nat) (hw : ∀ r ∈ turnL L m, r.length = L.length) (hs : sortedB (turnL L m) = true) : ∀ k < m, ∀ a b, a ≤ b → b < L.length → cellL L a k ≤ cellL L b k := by
  intro k hk a b hab hb
  have := cell_row (turnL L m) L.length hw hs k (by rw [turn_len]; exact hk) a b hab hb
  rwa [cell_turn L m a k (by omega) hk, cell_turn L m b k hb hk] at this
theorem good_of {l : List (List Int)} {m : Nat} (h : Fi l m) : goodB l = true := by
  unfold goodB
  rw [Bool.and_eq_true, Bool.and_eq_true, decide_eq_true_eq, decide_eq_true_eq, Bool.not_eq_true', h.head.2]
  refine ⟨h.rows, h.cols, ?_⟩
  rw [List.any_eq_false]
  intro r hr
  have hb : r.any badH = false := by
    rw [List.any_eq_false]
    intro x hx
    unfold badH
    simp only [Bool.not_eq_true', decide_eq_false_iff_not, Classical.not_not]
    exact h.high r hr x hx
  rw [badRow_eq (h.wide r hr), hb]
  decide
theorem in_eq (a l h : Int) : Qu1.f a l h = some (decide (l ≤ a ∧ a ≤ h)) := in_is a l h
theorem pl_same : ∀ k : Nat, (∀ a b c d e, Qf.l0 k a b c d e = Qd.l0 k a b c d e) ∧ (∀ a b c d e f, Qf.j2 k a b c d e f = Qd.j2 k a b c d e f) := by
  intro k
  induction k with
  | zero => exact ⟨fun _ _ _ _ _ => rfl, fun _ _ _ _ _ _ => rfl⟩
  | succ k ih =>
    obtain ⟨h0, h1⟩ := ih
    refine ⟨fun a b c d e => ?_, fun a b c d e f => ?_⟩
    · simp only [Qf.l0, Qd.l0, h1]
    · simp only [Qf.j2, Qd.j2, h0]
theorem pl_search (L : List (List Int)) (hl : L.length ≤ 8) (m : Nat) (hm : m ≤ 8) (hw : ∀ r ∈ L, r.length = m) (h : Int) (d : Nat) : ∀ (i c : Nat) (out : List (List Int)), i ≤ L.length → c ≤ m → (L.length - i) + c ≤ d → out.length + d ≤ 1000 →
    ∀ k, 2 * d + 2 < k → Qd.l0 k L h out (i : Int) ((c : Int) - 1) = some (out ++ wayL L h d i c, true) := by
  have none : ∀ (i c : Nat) (out : List (List Int)), ¬ (i < L.length ∧ 0 < c) → ∀ k, 2 < k → Qd.l0 k L h out (i : Int) ((c : Int) - 1) = some (out, true) := by
    intro i c out hn k hk
    obtain ⟨k, rfl⟩ := fuel1 (show 0 < k by omega)
    simp only [Qd.l0]
    have j2 : Qd.j2 k L h out (i : Int) ((c : Int) - 1) false = some (out, true) := by
      obtain ⟨k, rfl⟩ := fuel1 (show 0 < k by omega)
      simp only [Qd.j2]
      rw [if_neg Bool.false_ne_true]
    by_cases hi : i < L.length
    · rw [if_pos (by omega), decide_eq_false (by omega)]
      exact j2
    · rw [if_neg (by omega)]
      exact j2
  induction d with
  | zero =>
    intro i c out hi hc hd ho k hk
    rw [none i c out (by omega) k (by omega)]
    simp [wayL]
  | succ d ih =>
    intro i c out hi hc hd ho k hk
    simp only [wayL]
    by_cases hb : i < L.length ∧ 0 < c
    · rw [if_pos hb]
      have hi2 := hb.1
      obtain ⟨c, rfl⟩ : ∃ b, c = b + 1 := ⟨c - 1, by omega⟩
      rw [Nat.add_sub_cancel]
      have hri := hw L[i] (List.getElem_mem hi2)
      have e1 : ((c + 1 : Nat) : Int) - 1 = (c : Int) := by omega
      have hlen : (out ++ [[(i : Int), (c : Int)]]).length = out.length + 1 := by simp
      rw [e1]
      have step : ∀ k, Qd.l0 (k + 1 + 1) L h out (i : Int) (c : Int) = (if (rd L[i] (c : Int)) = h then (some (out ++ [[(i : Int), (c : Int)]], true)) else (if (rd L[i] (c : Int)) > h then (Qd.l0 k L h (out ++ [[(i : Int), (c : Int)]]) (i : Int) ((c : Int) - 1)) else (Qd.l0 k L h (out ++ [[(i : Int), (c : Int)]]) ((i + 1 : Nat) : Int) (c : Int)))) := by
        intro k
        obtain ⟨K, hK⟩ : ∃ K, K = k + 1 := ⟨_, rfl⟩
        rw [← hK]
        simp only [Qd.l0]
        rw [if_pos (by omega), decide_eq_true (by omega), hK]
        simp only [Qd.j2]
        rw [if_pos trivial, if_pos (by omega), Option.bind_some, if_pos (by omega), if_pos (by omega), if_pos (by omega), rl_at L i hi2, if_pos (by omega), w_nat (by omega), w_in (x := (c : Int) - 1) (by omega) (by omega)]
      obtain ⟨k, rfl⟩ : ∃ j, k = j + 1 + 1 := ⟨k - 2, by omega⟩
      rw [step, cell_rd L i c hi2]
      by_cases q1 : cellL L i c = h
      · rw [if_pos q1, if_pos q1]
      · rw [if_neg q1, if_neg q1]
        by_cases q2 : cellL L i c > h
        · rw [if_pos q2, if_pos q2, ih i c _ hi (by omega) (by omega) (by omega) k (by omega), List.append_assoc, List.singleton_append]
        · rw [if_neg q2, if_neg q2]
          have := ih (i + 1) (c + 1) (out ++ [[(i : Int), (c : Int)]]) (by omega) hc (by omega) (by omega) k (by omega)
          rw [e1] at this
          rw [this, List.append_assoc, List.singleton_append]
    · rw [if_neg hb, none i c out hb k (by omega), List.append_nil]
theorem v_places (l : List (List Int)) (a : Int) : ∃ P ok, (∀ k, 10001 ≤ k → Qd.f k l a = some (P, ok) ∧ Qf.f k l a = some (P, ok)) ∧
    (if ok = true then goodB l = true ∧ (0 ≤ a ∧ a ≤ 1000) ∧ sortedB l = true ∧ sortedB (turnL l (l.headD []).length) = true ∧ P = wayL l a (l.length + (l.headD []).length) 0 (l.headD []).length else P = []) := by
  have sN : ∀ k, 1 < k → Qd.j0 k l a true = some ([], false) := by
    intro k hk
    obtain ⟨k, rfl⟩ := fuel1 (show 0 < k by omega)
    simp only [Qd.j0]
    rw [if_pos trivial]
  have iN : ∀ k, 1 < k → Qf.j0 k l a true = some ([], false) := by
    intro k hk
    obtain ⟨k, rfl⟩ := fuel1 (show 0 < k by omega)
    simp only [Qf.j0]
    rw [if_pos trivial]
  cases hg : goodB l with
  | false =>
    refine ⟨[], false, fun k hk => ⟨?_, ?_⟩, by rw [if_neg Bool.false_ne_true]⟩
    · unfold Qd.f
      rw [good_ok l k (by omega), Option.bind_some, hg, if_neg Bool.false_ne_true]
      exact sN k (by omega)
    · unfold Qf.f
      rw [are_ok, Option.bind_some, hg, if_neg Bool.false_ne_true]
      exact iN k (by omega)
  | true =>
    have hf := fi_of l hg
    have hr := hf.rows
    have hc := hf.cols
    have hw := hf.wide
    have ht := turn_fi l _ hf
    have htr := ht.rows
    have htw := ht.wide
    have hh0 : rd_L2 l 0 = l.headD [] := by
      cases l with
      | nil => rfl
      | cons a b => rfl
    generalize hmm : (l.headD []).length = m at *
    have hcols : ∀ r ∈ l, 1 ≤ r.length ∧ r.length ≤ 8 := fun r h => by rw [hw r h]; exact hc
    have hrows : ∀ r ∈ turnL l m, 1 ≤ r.length ∧ r.length ≤ 8 := fun r h => by rw [htw r h]; exact hr
    by_cases c1 : 0 ≤ a ∧ a ≤ 1000
    · cases c2 : sortedB l with
      | false =>
        refine ⟨[], false, fun k hk => ⟨?_, ?_⟩, by rw [if_neg Bool.false_ne_true]⟩
        · unfold Qd.f Qx1.f
          rw [good_ok l k (by omega), Option.bind_some, hg, if_pos rfl, l1_eq, Option.bind_some, Option.bind_some, if_pos (decide_eq_true c1), sor_ok l hr.2 hcols k (by omega), Option.bind_some, c2, if_neg Bool.false_ne_true]
          exact sN k (by omega)
        · unfold Qf.f Qw1.f
          rw [are_ok, Option.bind_some, hg, if_pos rfl, in_eq, Option.bind_some, Option.bind_some, if_pos (decide_eq_true c1), rs_ok l hr.2 hcols k (by omega), Option.bind_some, c2, if_neg Bool.false_ne_true]
          exact iN k (by omega)
      | true =>
        cases c3 : sortedB (turnL l m) with
        | false =>
          refine ⟨[], false, fun k hk => ⟨?_, ?_⟩, by rw [if_neg Bool.false_ne_true]⟩
          · unfold Qd.f Qx1.f
            rw [good_ok l k (by omega), Option.bind_some, hg, if_pos rfl, l1_eq, Option.bind_some, Option.bind_some, if_pos (decide_eq_true c1), sor_ok l hr.2 hcols k (by omega), Option.bind_some, c2, if_pos rfl, turn_ok l m hf k (by omega), Option.bind_some, sor_ok _ htr.2 hrows k (by omega), Option.bind_some, c3]
            exact sN k (by omega)
          · unfold Qf.f Qw1.f
            rw [are_ok, Option.bind_some, hg, if_pos rfl, in_eq, Option.bind_some, Option.bind_some, if_pos (decide_eq_true c1), rs_ok l hr.2 hcols k (by omega), Option.bind_some, c2, if_pos rfl, turn_same_f, turn_ok l m hf k (by omega), Option.bind_some, rs_ok _ htr.2 hrows k (by omega), Option.bind_some, c3]
            exact iN k (by omega)
        | true =>
          have hS := pl_search l hr.2 m hc.2 hw a (l.length + m) 0 m [] (by omega) (Nat.le_refl _) (by omega) (by simp; omega)
          have e0 : wrap64 (((rd_L2 l 0).length : Int) - 1) = (m : Int) - 1 := by rw [hh0, hmm, w_in (by omega) (by omega)]
          refine ⟨wayL l a (l.length + m) 0 m, true, fun k hk => ⟨?_, ?_⟩, by rw [if_pos rfl]; exact ⟨rfl, c1, rfl, rfl, rfl⟩⟩
          · unfold Qd.f Qx1.f
            rw [good_ok l k (by omega), Option.bind_some, hg, if_pos rfl, l1_eq, Option.bind_some, Option.bind_some, if_pos (decide_eq_true c1), sor_ok l hr.2 hcols k (by omega), Option.bind_some, c2, if_pos rfl, turn_ok l m hf k (by omega), Option.bind_some, sor_ok _ htr.2 hrows k (by omega), Option.bind_some, c3]
            obtain ⟨k, rfl⟩ := fuel1 (show 0 < k by omega)
            simp only [Qd.j0]
            rw [if_neg (by decide), if_pos (by omega), e0]
            exact hS k (by omega)
          · unfold Qf.f Qw1.f
            rw [are_ok, Option.bind_some, hg, if_pos rfl, in_eq, Option.bind_some, Option.bind_some, if_pos (decide_eq_true c1), rs_ok l hr.2 hcols k (by omega), Option.bind_some, c2, if_pos rfl, turn_same_f, turn_ok l m hf k (by omega), Option.bind_some, rs_ok _ htr.2 hrows k (by omega), Option.bind_some, c3]
            obtain ⟨k, rfl⟩ := fuel1 (show 0 < k by omega)
            simp only [Qf.j0]
            rw [if_neg (by decide), if_pos (by omega), e0, (pl_same k).1]
            exact hS k (by omega)
    · refine ⟨[], false, fun k hk => ⟨?_, ?_⟩, by rw [if_neg Bool.false_ne_true]⟩
      · unfold Qd.f Qx1.f
        rw [good_ok l k (by omega), Option.bind_some, hg, if_pos rfl, l1_eq, Option.bind_some, Option.bind_some, if_neg (by simpa using c1)]
        exact sN k (by omega)
      · unfold Qf.f Qw1.f
        rw [are_ok, Option.bind_some, hg, if_pos rfl, in_eq, Option.bind_some, Option.bind_some, if_neg (by simpa using c1)]
        exact iN k (by omega)
def cntL (a : Int) (l : List Int) : Nat := (l.filter fun h => decide (h ≤ a)).length
theorem same : ∀ k : Nat, ∀ a b c d e, Qe1.l0 k a b c d e = Qb1.l0 k a b c d e := by
  intro k
  induction k with
  | zero => intros; rfl
  | succ k ih => intro a b c d e; simp only [Qe1.l0, Qb1.l0, ih]
theorem cnt_loop (a : Int) (L : List Int) (hl : L.length ≤ 1000) (d : Nat) : ∀ (k i q : Nat), i + d = L.length → q ≤ i → d < k → Qb1.l0 k a (q : Int) L (L.length : Int) (i : Int) = some (((q + cntL a (L.drop i) : Nat) : Int), true) := by
  induction d with
  | zero =>
    intro k i q h hq hk
    obtain ⟨k, rfl⟩ := fuel1 (show 0 < k by omega)
    simp only [Qb1.l0]
    rw [if_neg (by omega), List.drop_eq_nil_of_le (by omega)]
    rfl
  | succ d ih =>
    intro k i q h hq hk
    obtain ⟨k, rfl⟩ := fuel1 (show 0 < k by omega)
    have hi : i < L.length := by omega
    simp only [Qb1.l0]
    rw [if_pos (by omega), if_pos (by omega), if_pos (by omega), rd_at L i hi, List.drop_eq_getElem_cons hi]
    unfold cntL
    rw [List.filter_cons]
    by_cases c : L[i] ≤ a
    · rw [if_pos c, decide_eq_true c, if_pos rfl, w_nat (by omega), w_nat (by omega), ih k (i + 1) (q + 1) (by omega) (by omega) (by omega), List.length_cons]
      unfold cntL
      congr 3
      omega
    · rw [if_neg c, decide_eq_false c, if_neg Bool.false_ne_true, w_nat (by omega), ih k (i + 1) q (by omega) (by omega) (by omega)]
      rfl
theorem cnt_perm (a : Int) (l : List Int) : cntL a (ordL l) = cntL a l := ((ord_perm l).filter _).length_eq
theorem cntL_le (a : Int) (l : List Int) : cntL a l ≤ l.length := List.length_filter_le _ _
theorem cnt_srt (a : Int) : ∀ l : List Int, Srt l → ∀ i (hi : i < l.length), l[i] ≤ a ↔ i < cntL a l
  | [], _, i, hi => by simp at hi
  | x :: l, hs, i, hi => by
    have hs' := List.pairwise_cons.1 hs
    have ih := cnt_srt a l hs'.2
    by_cases c : x ≤ a
    · have e : cntL a (x :: l) = cntL a l + 1 := by unfold cntL; rw [List.filter_cons, if_pos (decide_eq_true c)]; rfl
      rw [e]
      cases i with
      | zero => simpa using c
      | succ i =>
        have := ih i (by simpa using hi)
        simp only [List.getElem_cons_succ]
        omega
    · have e0 : cntL a (x :: l) = 0 := by
        unfold cntL
        rw [List.length_eq_zero_iff, List.filter_eq_nil_iff]
        intro y hy
        simp only [decide_eq_true_eq]
        rcases List.mem_cons.1 hy with rfl | hy
        · exact c
        · have := hs'.1 y hy
          omega
      rw [e0]
      have : x ≤ (x :: l)[i] := by
        cases i with
        | zero => simp
        | succ i => exact hs'.1 _ (List.getElem_mem _)
      omega
def upR (l : List (List Int)) (a : Int) : Int × Bool := if goodB l = true ∧ (0 ≤ a ∧ a ≤ 1000) then ((cntL a (flatL l) : Int), true) else (0, false)
theorem v_count (l : List (List Int)) (a : Int) (k : Nat) (hk : 3000010 ≤ k) : Qb1.f k l a = some (upR l a) ∧ Qe1.f k l a = some (upR l a) := by
  have sN : ∀ k, 1 < k → Qb1.j0 k l a true = some (0, false) := by
    intro k hk
    obtain ⟨k, rfl⟩ := fuel1 (show 0 < k by omega)
    simp only [Qb1.j0]
    rw [if_pos trivial]
  have iN : ∀ k, 1 < k → Qe1.j0 k l a true = some (0, false) := by
    intro k hk
    obtain ⟨k, rfl⟩ := fuel1 (show 0 < k by omega)
    simp only [Qe1.j0]
    rw [if_pos trivial]
  unfold Qb1.f Qx1.f Qe1.f Qw1.f
  cases hg : goodB l with
  | false =>
    have eR : upR l a = (0, false) := by unfold upR; rw [if_neg (fun h => by rw [hg] at h; exact Bool.false_ne_true h.1)]
    rw [eR, good_ok l k (by omega), are_ok, Option.bind_some, Option.bind_some, hg, if_neg Bool.false_ne_true, if_neg Bool.false_ne_true]
    exact ⟨sN k (by omega), iN k (by omega)⟩
  | true =>
    have hf := fi_of l hg
    have hr := hf.rows
    have hc := hf.cols
    have hcols : ∀ r ∈ l, r.length ≤ 8 := fun r h => by rw [hf.wide r h]; exact hc.2
    have hfl := flat_len l 8 hcols
    have hol := ord_len (flatL l)
    by_cases c1 : 0 ≤ a ∧ a ≤ 1000
    · have eR : upR l a = ((cntL a (flatL l) : Int), true) := by unfold upR; rw [if_pos ⟨hg, c1⟩]
      rw [eR]
      constructor
      · rw [good_ok l k (by omega), Option.bind_some, hg, if_pos rfl, l1_eq, Option.bind_some, Option.bind_some, decide_eq_true c1]
        obtain ⟨k, rfl⟩ := fuel1 (show 0 < k by omega)
        simp only [Qb1.j0]
        rw [if_neg (by decide), fall_ok l hr.2 hcols k (by omega), Option.bind_some]
        have := cnt_loop a (ordL (flatL l)) (by omega) (ordL (flatL l)).length k 0 0 (by omega) (by omega) (by omega)
        rw [List.drop_zero, Nat.zero_add, cnt_perm] at this
        exact this
      · rw [are_ok, Option.bind_some, hg, if_pos rfl, in_is, Option.bind_some, Option.bind_some, decide_eq_true c1]
        obtain ⟨k, rfl⟩ := fuel1 (show 0 < k by omega)
        simp only [Qe1.j0]
        rw [if_neg (by decide), cat_ok l hr.2 hcols k (by omega), Option.bind_some, same]
        have := cnt_loop a (flatL l) (by omega) (flatL l).length k 0 0 (by omega) (by omega) (by omega)
        rw [List.drop_zero, Nat.zero_add] at this
        exact this
    · have eR : upR l a = (0, false) := by unfold upR; rw [if_neg (fun h => c1 h.2)]
      rw [eR]
      constructor
      · rw [good_ok l k (by omega), Option.bind_some, hg, if_pos rfl, l1_eq, Option.bind_some, Option.bind_some, decide_eq_false c1]
        exact sN k (by omega)
      · rw [are_ok, Option.bind_some, hg, if_pos rfl, in_is, Option.bind_some, Option.bind_some, decide_eq_false c1]
        exact iN k (by omega)
theorem flat_eq (m : Nat) : ∀ l : List (List Int), (∀ r ∈ l, r.length = m) → (flatL l).length = l.length * m
  | [], _ => by simp [flatL]
  | r :: l, h => by
    simp only [flatL, List.length_append, List.length_cons, Nat.succ_mul]
    rw [flat_eq m l (fun x hx => h x (List.mem_cons_of_mem _ hx)), h r List.mem_cons_self, Nat.add_comm]
def rankR (l : List (List Int)) (a : Int) : Int × Bool := if goodB l = true ∧ (0 ≤ a ∧ a ≤ ((flatL l).length : Int) - 1) then (rd (ordL (flatL l)) a, true) else (0, false)
theorem v_rank (l : List (List Int)) (a : Int) (k : Nat) (hk : 3000010 ≤ k) : Qp2.f k l a = some (rankR l a) ∧ Qz1.f k l a = some (rankR l a) := by
  unfold Qp2.f Qz1.f
  cases hg : goodB l with
  | false =>
    have eR : rankR l a = (0, false) := by unfold rankR; rw [if_neg (fun h => by rw [hg] at h; exact Bool.false_ne_true h.1)]
    rw [eR, good_ok l k (by omega), are_ok, Option.bind_some, Option.bind_some, hg, if_neg Bool.false_ne_true, if_neg Bool.false_ne_true]
    exact ⟨rfl, rfl⟩
  | true =>
    have hf := fi_of l hg
    have hr := hf.rows
    have hc := hf.cols
    have hw := hf.wide
    have hh0 : rd_L2 l 0 = l.headD [] := by
      cases l with
      | nil => rfl
      | cons a b => rfl
    generalize hmm : (l.headD []).length = m at *
    have hcols : ∀ r ∈ l, r.length ≤ 8 := fun r h => by rw [hw r h]; exact hc.2
    have hfl := flat_len l 8 hcols
    have hol := ord_len (flatL l)
    have hfe := flat_eq m l hw
    have h64 : l.length * m ≤ 64 := Nat.le_trans (Nat.mul_le_mul hr.2 hc.2) (by omega)
    have hlen : 0 < (l.length : Int) := by omega
    have hb : wrap64 (wrap64 ((l.length : Int) * (m : Int)) - 1) = ((flatL l).length : Int) - 1 := by
      rw [← Int.natCast_mul, show wrap64 ((l.length * m : Nat) : Int) = ((l.length * m : Nat) : Int) by unfold wrap64; omega, hfe]
      unfold wrap64
      omega
    by_cases c1 : 0 ≤ a ∧ a ≤ ((flatL l).length : Int) - 1
    · have c2 : a < ((ordL (flatL l)).length : Int) := by omega
      have eR : rankR l a = (rd (ordL (flatL l)) a, true) := by unfold rankR; rw [if_pos ⟨hg, c1⟩]
      rw [eR]
      constructor
      · rw [good_ok l k (by omega), Option.bind_some, hg, if_pos rfl, if_pos hlen, hh0, hmm, hb, l1_eq, Option.bind_some, decide_eq_true c1, if_pos rfl, fall_ok l hr.2 hcols k (by omega), Option.bind_some, if_pos c1.1, if_pos c2]
      · rw [are_ok, Option.bind_some, hg, if_pos rfl, if_pos hlen, hh0, hmm, hb, in_is, Option.bind_some, decide_eq_true c1, if_pos rfl, cat_ok l hr.2 hcols k (by omega), Option.bind_some]
        unfold slices_Sorted_int.f
        rw [if_pos (by omega), Option.bind_some, sort_ord, if_pos c1.1, if_pos c2]
    · have eR : rankR l a = (0, false) := by unfold rankR; rw [if_neg (fun h => c1 h.2)]
      rw [eR]
      constructor
      · rw [good_ok l k (by omega), Option.bind_some, hg, if_pos rfl, if_pos hlen, hh0, hmm, hb, l1_eq, Option.bind_some, decide_eq_false c1, if_neg Bool.false_ne_true]
      · rw [are_ok, Option.bind_some, hg, if_pos rfl, if_pos hlen, hh0, hmm, hb, in_is, Option.bind_some, decide_eq_false c1, if_neg Bool.false_ne_true]
theorem rank_cnt (l : List (List Int)) (a : Int) (i : Nat) (hi : i < (flatL l).length) : rd (ordL (flatL l)) (i : Int) ≤ a ↔ i < cntL a (flatL l) := by
  have hl : i < (ordL (flatL l)).length := by rw [ord_len]; exact hi
  rw [rd_at _ i hl, cnt_srt a _ (ord_srt _) i hl, cnt_perm]
theorem v_dis (l : List (List Int)) : ∃ v, ∀ k, 10001 ≤ k → Qm2.f k l = some (v, goodB l) ∧ Ql2.f k l = some (v, goodB l) := by
  cases hg : goodB l with
  | false =>
    refine ⟨0, fun k hk => ⟨?_, ?_⟩⟩
    · unfold Qm2.f
      rw [good_ok l k (by omega), Option.bind_some, hg, if_neg Bool.false_ne_true]
    · unfold Ql2.f
      rw [are_ok, Option.bind_some, hg, if_neg Bool.false_ne_true]
  | true =>
    have hf := fi_of l hg
    have hr := hf.rows
    have hc := hf.cols
    have hw := hf.wide
    have ht := turn_fi l _ hf
    have htr := ht.rows
    have htw := ht.wide
    generalize (l.headD []).length = m at *
    refine ⟨wrap64 ((disL l : Int) + (disL (turnL l m) : Int)), fun k hk => ⟨?_, ?_⟩⟩
    · unfold Qm2.f
      rw [good_ok l k (by omega), Option.bind_some, hg, if_pos rfl, dis_ok l hr.2 (fun r h => by rw [hw r h]; exact hc) k (by omega), Option.bind_some, turn_ok l m hf k (by omega), Option.bind_some, dis_ok _ htr.2 (fun r h => by rw [htw r h]; exact hr) k (by omega), Option.bind_some]
    · unfold Ql2.f
      rw [are_ok, Option.bind_some, hg, if_pos rfl, dis_same_f, dis_ok l hr.2 (fun r h => by rw [hw r h]; exact hc) k (by omega), Option.bind_some, turn_same_f, turn_ok l m hf k (by omega), Option.bind_some, dis_same_f, dis_ok _ htr.2 (fun r h => by rw [htw r h]; exact hr) k (by omega), Option.bind_some]
def exch (l : List (List Int)) (a b : Nat) : List (List Int) := (l.set a (l.getD b [])).set b (l.getD a [])
theorem exch_len (l : List (List Int)) (a b : Nat) : (exch l a b).length = l.length := by unfold exch; rw [List.length_set, List.length_set]
theorem getD_in (l : List (List Int)) (i : Nat) (h : i < l.length) : l.getD i [] = l[i] := by rw [List.getD_eq_getElem?_getD, List.getElem?_eq_getElem h]; rfl
theorem exch_mem (l : List (List Int)) (a b : Nat) (ha : a < l.length) (hb : b < l.length) : ∀ x ∈ exch l a b, x ∈ l := by
  intro x hx
  unfold exch at hx
  rcases List.mem_or_eq_of_mem_set hx with h | h
  · rcases List.mem_or_eq_of_mem_set h with h | h
    · exact h
    · rw [h, getD_in l b hb]; exact List.getElem_mem _
  · rw [h, getD_in l a ha]; exact List.getElem_mem _
theorem exch_at (l : List (List Int)) (a b i : Nat) (ha : a < l.length) (hb : b < l.length) (hi : i < l.length) (hab : a ≠ b) : (exch l a b)[i]'(by rw [exch_len]; exact hi) = if i = a then l[b] else if i = b then l[a] else l[i] := by
  have e1 := getD_in l a ha
  have e2 := getD_in l b hb
  simp only [exch, List.getElem_set]
  simp only [e1, e2]
  by_cases h1 : i = a
  · subst h1
    rw [if_neg (fun e => hab e.symm), if_pos rfl, if_pos rfl]
  · by_cases h2 : i = b
    · subst h2
      rw [if_pos rfl, if_neg h1, if_pos rfl]
    · rw [if_neg (fun e => h2 e.symm), if_neg (fun e => h1 e.symm), if_neg h1, if_neg h2]
theorem sp_loop (l : List (List Int)) (hl : l.length ≤ 8) (hr : ∀ r ∈ l, r.length ≤ 8) (a b : Nat) (ha : a < l.length) (hb : b < l.length) (hab : a ≠ b) (d : Nat) : ∀ (k i : Nat) (acc : List (List Int)), i + d = l.length → acc = (exch l a b).take i → d < k →
    Qj.l0 k l (a : Int) (b : Int) acc (l.length : Int) (i : Int) = some (exch l a b, true) := by
  induction d with
  | zero =>
    intro k i acc h hacc hk
    obtain ⟨k, rfl⟩ := fuel1 (show 0 < k by omega)
    simp only [Qj.l0]
    rw [if_neg (by omega), hacc, List.take_of_length_le (by rw [exch_len]; omega)]
  | succ d ih =>
    intro k i acc h hacc hk
    obtain ⟨k, rfl⟩ := fuel1 (show 0 < k by omega)
    have hi : i < l.length := by omega
    have hal : acc.length ≤ 8 := by rw [hacc, List.length_take, exch_len]; omega
    have key : ∀ x, x = (exch l a b)[i]'(by rw [exch_len]; exact hi) → acc ++ [x] = (exch l a b).take (i + 1) := fun x hx => by rw [hx, hacc, List.take_succ_eq_append_getElem (by rw [exch_len]; exact hi)]
    have hra := hr _ (List.getElem_mem ha)
    have hrb := hr _ (List.getElem_mem hb)
    have hri := hr _ (List.getElem_mem hi)
    simp only [Qj.l0]
    rw [if_pos (by omega)]
    by_cases h1 : i = a
    · rw [if_pos (by omega), if_pos (by omega), if_pos (by omega), rl_at l b hb, own_ok _ (by omega), Option.bind_some, if_pos (by omega), w_nat (by omega)]
      exact ih k (i + 1) _ (by omega) (key _ (by rw [exch_at l a b i ha hb hi hab, if_pos h1])) (by omega)
    by_cases h2 : i = b
    · rw [if_neg (by omega), if_pos (by omega), if_pos (by omega), if_pos (by omega), rl_at l a ha, own_ok _ (by omega), Option.bind_some, if_pos (by omega), w_nat (by omega)]
      exact ih k (i + 1) _ (by omega) (key _ (by rw [exch_at l a b i ha hb hi hab, if_neg h1, if_pos h2])) (by omega)
    · rw [if_neg (by omega), if_neg (by omega), if_pos (by omega), if_pos (by omega), rl_at l i hi, own_ok _ (by omega), Option.bind_some, if_pos (by omega), w_nat (by omega)]
      exact ih k (i + 1) _ (by omega) (key _ (by rw [exch_at l a b i ha hb hi hab, if_neg h1, if_neg h2])) (by omega)
theorem sp_j (l : List (List Int)) (a b : Int) (k : Nat) (hk : 0 < k) : Qj.j0 k l a b true = some ([], false) := by
  obtain ⟨k, rfl⟩ := fuel1 hk
  simp only [Qj.j0]
  first | rw [if_pos rfl] | rw [if_pos trivial]
theorem v_exch (l : List (List Int)) (a1 a2 : Int) : ∃ r : List (List Int), ∃ ok : Bool, (∀ k, 10001 ≤ k → Qj.f k l a1 a2 = some (r, ok) ∧ Qt1.f k l a1 a2 = some (r, ok)) ∧
    (if ok = true then okE l a1 a2 = true ∧ r = exch l a1.toNat a2.toNat else r = []) := by
  by_cases c : okE l a1 a2 = true
  · have c0 := c
    unfold okE at c
    simp only [Bool.and_eq_true, decide_eq_true_eq, Bool.not_eq_true', decide_eq_false_iff_not] at c
    obtain ⟨hg, h1, h2, h3⟩ := c
    have hf := fi_of l hg
    have hr := hf.rows
    have hc := hf.cols
    have hw : ∀ r ∈ l, r.length ≤ 8 := fun r h => by have := hf.wide r h; omega
    obtain ⟨a, rfl⟩ : ∃ n : Nat, a1 = (n : Int) := ⟨a1.toNat, by omega⟩
    obtain ⟨b, rfl⟩ : ∃ n : Nat, a2 = (n : Int) := ⟨a2.toNat, by omega⟩
    have wl : wrap64 ((l.length : Int) - 1) = (l.length : Int) - 1 := w_in (by omega) (by omega)
    have ha : a < l.length := by omega
    have hb : b < l.length := by omega
    have hab : a ≠ b := by omega
    refine ⟨exch l a b, true, fun k hk => ⟨?_, ?_⟩, by rw [if_pos rfl]; exact ⟨c0, rfl⟩⟩
    · unfold Qj.f
      rw [good_ok l k (by omega), Option.bind_some, hg, if_pos rfl, l1_eq, Option.bind_some, wl, decide_eq_true h1, if_pos rfl, l1_eq, Option.bind_some, decide_eq_true h2, if_pos rfl]
      obtain ⟨k, rfl⟩ := fuel1 (show 0 < k by omega)
      rw [show ((a : Int) == (b : Int)) = false from beq_eq_false_iff_ne.2 h3]
      simp only [Qj.j0]
      first | rw [if_neg Bool.false_ne_true] | simp only [Bool.false_eq_true, if_false]
      exact sp_loop l hr.2 hw a b ha hb hab l.length k 0 [] (by omega) (by simp) (by omega)
    · unfold Qt1.f
      rw [if_pos c0, copied_ok l hr.2 hw k (by omega), Option.bind_some, if_pos rfl]
      rfl
  · refine ⟨[], false, fun k hk => ⟨?_, ?_⟩, by rw [if_neg Bool.false_ne_true]⟩
    · unfold Qj.f
      rw [good_ok l k (by omega), Option.bind_some]
      by_cases hg : goodB l = true
      · have hr := (fi_of l hg).rows
        have wl : wrap64 ((l.length : Int) - 1) = (l.length : Int) - 1 := w_in (by omega) (by omega)
        rw [if_pos hg, l1_eq, Option.bind_some, wl]
        by_cases h1 : 0 ≤ a1 ∧ a1 ≤ (l.length : Int) - 1
        · rw [decide_eq_true h1, if_pos rfl, l1_eq, Option.bind_some]
          by_cases h2 : 0 ≤ a2 ∧ a2 ≤ (l.length : Int) - 1
          · rw [decide_eq_true h2, if_pos rfl]
            have h3 : a1 = a2 := Decidable.byContradiction fun h3 => c (by unfold okE; rw [hg, decide_eq_true h1, decide_eq_true h2, decide_eq_false h3]; rfl)
            rw [beq_iff_eq.2 h3]
            exact sp_j l a1 a2 k (by omega)
          · rw [decide_eq_false h2, if_neg Bool.false_ne_true]
            exact sp_j l a1 a2 k (by omega)
        · rw [decide_eq_false h1, if_neg Bool.false_ne_true]
          exact sp_j l a1 a2 k (by omega)
      · rw [if_neg hg]
        exact sp_j l a1 a2 k (by omega)
    · unfold Qt1.f
      rw [if_neg c]
theorem exch_fi (l : List (List Int)) (m a b : Nat) (hf : Fi l m) (ha : a < l.length) (hb : b < l.length) : Fi (exch l a b) m := by
  have hm := exch_mem l a b ha hb
  have hl := exch_len l a b
  have hr := hf.rows
  refine ⟨by rw [hl]; exact hf.rows, hf.cols, fun r h => hf.wide r (hm r h), fun r h => hf.high r (hm r h), ?_⟩
  have h0 : (exch l a b).headD [] ∈ exch l a b := by
    cases e : exch l a b with
    | nil => rw [e] at hl; simp at hl; omega
    | cons x y => simp
  exact ⟨h0, hf.wide _ (hm _ h0)⟩
theorem exch_exch (l : List (List Int)) (a b : Nat) (ha : a < l.length) (hb : b < l.length) (hab : a ≠ b) : exch (exch l a b) a b = l := by
  refine List.ext_getElem (by rw [exch_len, exch_len]) fun i h1 h2 => ?_
  have hl := exch_len l a b
  have e := exch_at (exch l a b) a b i (by omega) (by omega) (by omega) hab
  rw [e]
  by_cases q1 : i = a
  · subst q1
    rw [if_pos rfl, exch_at l i b b ha hb hb hab, if_neg (fun e => hab e.symm), if_pos rfl]
  · rw [if_neg q1]
    by_cases q2 : i = b
    · subst q2
      rw [if_pos rfl, exch_at l a i a ha hb ha hab, if_pos rfl]
    · rw [if_neg q2, exch_at l a b i ha hb h2 hab, if_neg q1, if_neg q2]
section
open Go.Proofs.YtohhlkehglahhaaGreatDoor.Syt
set_option maxRecDepth 100000
theorem l1C (a l h : Int) : Qj1.f a l h = some (decide (l ≤ a ∧ a ≤ h)) := by
  unfold Qj1.f
  by_cases c : l ≤ a
  · rw [if_pos c]; simp [c]
  · rw [if_neg c]; simp [c]
def okAt (r c : Nat) : Bool := match Qc.f 500 (r : Int) (c : Int) with
  | some (n, true) => n == ((val r c 0 0 0 0 : Nat) : Int)
  | _ => false
def okAll : Bool := upTo 4 fun r => upTo 5 fun c => (Nat.beq r 0 || Nat.beq c 0) || okAt r c
theorem okAll_ok : okAll = true := by decide +kernel
theorem Qb3 {r c : Nat} (hr : 1 ≤ r ∧ r ≤ 4) (hc : 1 ≤ c ∧ c ≤ 5) : Qc.f 500 (r : Int) (c : Int) = some (((val r c 0 0 0 0 : Nat) : Int), true) := by
  have h := upTo_at (upTo_at okAll_ok hr.2) hc.2
  rw [show (Nat.beq r 0 || Nat.beq c 0) = false by
    have h1 : Nat.beq r 0 = false := by cases r with | zero => omega | succ _ => rfl
    have h2 : Nat.beq c 0 = false := by cases c with | zero => omega | succ _ => rfl
    rw [h1, h2]; rfl, Bool.false_or] at h
  unfold okAt at h
  split at h
  · rename_i n e
    rw [e, eq_of_beq h]
  · cases h
theorem Qa3 (a0 a1 : Int) (h : ¬ ((1 ≤ a0 ∧ a0 ≤ 4) ∧ (1 ≤ a1 ∧ a1 ≤ 5))) : Qc.f 500 a0 a1 = some (0, false) := by
  unfold Qc.f
  rw [l1C, Option.bind_some]
  by_cases h1 : 1 ≤ a0 ∧ a0 ≤ 4
  · have h2 : ¬ (1 ≤ a1 ∧ a1 ≤ 5) := fun x => h ⟨h1, x⟩
    rw [decide_eq_true h1, if_pos rfl, l1C, Option.bind_some, decide_eq_false h2]
    simp only [Qc.j0]
    rw [if_pos (by decide)]
  · rw [decide_eq_false h1, if_neg (by decide)]
    simp only [Qc.j0]
    rw [if_pos (by decide)]
def tabB (r c : Nat) : Bool := (Nat.beq r 0 || Nat.beq c 0) || (Nat.ble 1 (val r c 0 0 0 0) && ((Nat.beq r 1 || Nat.beq c 1) == Nat.beq (val r c 0 0 0 0) 1) && (Nat.ble 5 c || Nat.beq (val c r 0 0 0 0) (val r c 0 0 0 0)))
theorem tab_ok : (upTo 4 fun r => upTo 5 fun c => tabB r c) = true := by decide +kernel
theorem tab_at {r c : Nat} (hr : 1 ≤ r ∧ r ≤ 4) (hc : 1 ≤ c ∧ c ≤ 5) : 1 ≤ val r c 0 0 0 0 ∧ ((r = 1 ∨ c = 1) ↔ val r c 0 0 0 0 = 1) ∧ (c ≤ 4 → val c r 0 0 0 0 = val r c 0 0 0 0) := by
  have h := upTo_at (upTo_at tab_ok hr.2) hc.2
  unfold tabB at h
  rw [show (Nat.beq r 0 || Nat.beq c 0) = false by
    have h1 : Nat.beq r 0 = false := by cases r with | zero => omega | succ _ => rfl
    have h2 : Nat.beq c 0 = false := by cases c with | zero => omega | succ _ => rfl
    rw [h1, h2]; rfl, Bool.false_or] at h
  simp only [Bool.and_eq_true, Bool.or_eq_true, Nat.ble_eq, Nat.beq_eq, beq_iff_eq] at h
  obtain ⟨⟨h1, h2⟩, h3⟩ := h
  refine ⟨h1, ?_, fun h => by omega⟩
  have e := Bool.eq_iff_iff.1 h2
  simpa using e
end
theorem Qz2 (a0 a1 : Int) (k : Nat) (hk : 500 ≤ k) : Qc.f k a0 a1 = Qi1.f a0 a1 := by
  have hb : ∃ r, Qc.f 500 a0 a1 = some r ∧ Qi1.f a0 a1 = some r := by
    unfold Qi1.f
    by_cases h : (1 ≤ a0 ∧ a0 ≤ 4) ∧ (1 ≤ a1 ∧ a1 ≤ 5)
    · rw [if_pos h]
      obtain ⟨r, rfl⟩ : ∃ n : Nat, a0 = (n : Int) := ⟨a0.toNat, by omega⟩
      obtain ⟨c, rfl⟩ : ∃ n : Nat, a1 = (n : Int) := ⟨a1.toNat, by omega⟩
      simp only [Int.toNat_natCast]
      exact ⟨_, Qb3 (by omega) (by omega), rfl⟩
    · rw [if_neg h]
      exact ⟨_, Qa3 a0 a1 h, rfl⟩
  obtain ⟨r, h1, h2⟩ := hb
  rw [h2]
  obtain ⟨d, rfl⟩ : ∃ d, k = 500 + d := ⟨k - 500, by omega⟩
  clear hk
  induction d with
  | zero => exact h1
  | succ d ih => exact Qc.mono a0 a1 (500 + d) r ih
def txtR (l : List (List Int)) : ByteArray × Bool := if goodB l = true then (B (filL l), true) else (⟨#[]⟩, false)
theorem v_text (l : List (List Int)) (k : Nat) (hk : 5000 < k) : Qk2.f k l = some (txtR l) ∧ Qr2.f k l = some (txtR l) := by
  unfold Qk2.f Qr2.f
  rw [are_ok, good_ok l k (by omega), Option.bind_some, Option.bind_some]
  cases hg : goodB l with
  | false =>
    have eR : txtR l = (⟨#[]⟩, false) := by unfold txtR; rw [hg, if_neg Bool.false_ne_true]
    rw [eR, if_neg Bool.false_ne_true, if_neg Bool.false_ne_true]
    exact ⟨rfl, rfl⟩
  | true =>
    have hF := fi_of l hg
    have eR : txtR l = (B (filL l), true) := by unfold txtR; rw [hg, if_pos rfl]
    rw [eR, if_pos rfl, if_pos rfl, i_text l _ hF k hk, s_text l _ hF k hk]
    exact ⟨rfl, rfl⟩
theorem i_parse (s : List UInt8) (hs : s.length ≤ 1048576) (k : Nat) (hk : 10000000000000 ≤ k) : Qu.f k (B s) = match outI (pcs 47 [] s) with
      | none => some ([], false)
      | some o => some (endT (B s) o) := by
  have hp := pcs_len 47 s []
  have hm : ∀ w ∈ pcs 47 [] s, w.length ≤ s.length := fun w h => by have := pcs_mem 47 s [] w h; simp only [List.length_nil] at this; omega
  unfold Qu.f
  rw [B_slash, gosplit 47 s (by omega), Option.bind_some]
  exact i_lines (B s) (pcs 47 [] s) (by omega) (fun l hl => by have := hm l hl; omega) (pcs 47 [] s).length k 0 [] (by omega) (by simp only [List.length_nil]; omega) (by omega)
theorem parse_text (g : List (List Int)) (hg : goodB g = true) (k : Nat) (hk : 10000000000000 ≤ k) : Qu.f k (B (filL g)) = some (g, true) := by
  obtain ⟨h1, h2, h3⟩ := good_read g hg
  rw [i_parse (filL g) (by omega) k hk, h3]
  have he : endT (B (filL g)) g = (g, true) := by unfold endT; rw [if_pos ⟨hg, rfl⟩]
  simp only [he]
theorem v_parse (s : List UInt8) (hs : s.length ≤ 1048576) : ∃ g : List (List Int), ∃ ok : Bool, (∀ k, 10000000000000 ≤ k → Qd1.f k (B s) = some (g, ok) ∧ Qu.f k (B s) = some (g, ok)) ∧ (if ok = true then goodB g = true ∧ filL g = s else g = []) := by
  have hp := pcs_len 47 s []
  have hm : ∀ w ∈ pcs 47 [] s, w.length ≤ s.length := fun w h => by have := pcs_mem 47 s [] w h; simp only [List.length_nil] at this; omega
  have hS : ∀ k, 10000000000000 ≤ k → Qd1.f k (B s) = if s.length > 300 then some ([], false) else some (endT (B s) ((pcs 47 [] s).map sRow)) := by
    intro k hk
    unfold Qd1.f
    by_cases h3 : s.length > 300
    · rw [if_pos (by rw [B_size]; omega), if_pos h3]
    · have hsp := Qy2 47 s (by omega) k (by omega)
      rw [show (((47 : UInt8).toNat : Nat) : Int) = 47 from rfl] at hsp
      rw [if_neg (by rw [B_size]; omega), if_neg h3, hsp, Option.bind_some]
      exact s_lines (B s) (pcs 47 [] s) (by omega) (fun l hl => by have := hm l hl; omega) (pcs 47 [] s).length k 0 [] (by omega) (by simp only [List.length_nil]; omega) (by omega)
  by_cases hP : ∃ g, goodB g = true ∧ filL g = s
  · obtain ⟨g, hg, rfl⟩ := hP
    obtain ⟨h1, h2, h3⟩ := good_read g hg
    have he : endT (B (filL g)) g = (g, true) := by unfold endT; rw [if_pos ⟨hg, rfl⟩]
    refine ⟨g, true, fun k hk => ⟨?_, parse_text g hg k hk⟩, by rw [if_pos rfl]; exact ⟨hg, rfl⟩⟩
    rw [hS k hk, if_neg (by omega), h2, he]
  · have he : ∀ o, endT (B s) o = ([], false) := by
      intro o
      unfold endT
      rw [if_neg]
      rintro ⟨h1, h2⟩
      rw [ByteArray.toList_eq, ByteArray.toList_eq] at h2
      exact hP ⟨o, h1, h2⟩
    refine ⟨[], false, fun k hk => ⟨?_, ?_⟩, by rw [if_neg Bool.false_ne_true]⟩
    · rw [hS k hk, he]
      split <;> rfl
    · rw [i_parse s hs k hk]
      cases outI (pcs 47 [] s) with
      | none => rfl
      | some o => simp only [he]
theorem vsame_loop (a b : List Int) (hl : a.length = b.length) (h8 : a.length ≤ 1000000) (d : Nat) : ∀ (k i : Nat), i + d = a.length → d < k → Qf2.l0 k a b (a.length : Int) (i : Int) = some (decide (a.drop i = b.drop i)) := by
  induction d with
  | zero =>
    intro k i h hk
    obtain ⟨k, rfl⟩ := fuel1 (show 0 < k by omega)
    simp only [Qf2.l0]
    rw [if_neg (by omega), List.drop_eq_nil_of_le (by omega), List.drop_eq_nil_of_le (by omega)]
    rfl
  | succ d ih =>
    intro k i h hk
    obtain ⟨k, rfl⟩ := fuel1 (show 0 < k by omega)
    have hi : i < a.length := by omega
    have hj : i < b.length := by omega
    simp only [Qf2.l0]
    rw [if_pos (by omega), if_pos (by omega), if_pos (by omega), if_pos (by omega), rd_at a i hi, rd_at b i hj, List.drop_eq_getElem_cons hi, List.drop_eq_getElem_cons hj]
    by_cases c : a[i] = b[i]
    · rw [if_pos c, w_nat (by omega), ih k (i + 1) (by omega) (by omega)]
      congr 1
      exact decide_eq_decide.2 ⟨fun h => by rw [c, h], fun h => (List.cons.inj h).2⟩
    · rw [if_neg c, decide_eq_false (fun e => c (List.cons.inj e).1)]
theorem vsame_ok (a b : List Int) (h8 : a.length ≤ 1000000) (k : Nat) (hk : a.length < k) : Qf2.f k a b = some (decide (a = b)) := by
  unfold Qf2.f
  by_cases hl : a.length = b.length
  · rw [if_pos (by omega)]
    have := vsame_loop a b hl h8 a.length k 0 (by omega) hk
    simpa using this
  · rw [if_neg (by omega), decide_eq_false (fun e => hl (by rw [e]))]
theorem vrows_loop (a b : List (List Int)) (hl : a.length = b.length) (h8 : a.length ≤ 1000000) (hr : ∀ r ∈ a, r.length ≤ 1000) (d : Nat) : ∀ (k i : Nat), i + d = a.length → d + 1001 < k → Qr1.l0 k a b (a.length : Int) (i : Int) = some (decide (a.drop i = b.drop i)) := by
  induction d with
  | zero =>
    intro k i h hk
    obtain ⟨k, rfl⟩ := fuel1 (show 0 < k by omega)
    simp only [Qr1.l0]
    rw [if_neg (by omega), List.drop_eq_nil_of_le (by omega), List.drop_eq_nil_of_le (by omega)]
    rfl
  | succ d ih =>
    intro k i h hk
    obtain ⟨k, rfl⟩ := fuel1 (show 0 < k by omega)
    have hi : i < a.length := by omega
    have hj : i < b.length := by omega
    have hri := hr a[i] (List.getElem_mem hi)
    simp only [Qr1.l0]
    rw [if_pos (by omega), if_pos (by omega), if_pos (by omega), if_pos (by omega), rl_at a i hi, rl_at b i hj, vsame_ok _ _ (by omega) k (by omega), Option.bind_some, List.drop_eq_getElem_cons hi, List.drop_eq_getElem_cons hj]
    by_cases c : a[i] = b[i]
    · rw [decide_eq_true c, if_pos rfl, w_nat (by omega), ih k (i + 1) (by omega) (by omega)]
      congr 1
      exact decide_eq_decide.2 ⟨fun h => by rw [c, h], fun h => (List.cons.inj h).2⟩
    · rw [decide_eq_false c, if_neg Bool.false_ne_true, decide_eq_false (fun e => c (List.cons.inj e).1)]
theorem vrows_ok (a b : List (List Int)) (h8 : a.length ≤ 1000000) (hr : ∀ r ∈ a, r.length ≤ 1000) (k : Nat) (hk : a.length + 1001 < k) : Qr1.f k a b = some (decide (a = b)) := by
  unfold Qr1.f
  by_cases hl : a.length = b.length
  · rw [if_pos (by omega)]
    have := vrows_loop a b hl h8 hr a.length k 0 (by omega) (by omega)
    simpa using this
  · rw [if_neg (by omega), decide_eq_false (fun e => hl (by rw [e]))]
theorem vself (k : Nat) (L : List (List Int)) (h8 : L.length ≤ 1000) (hr : ∀ r ∈ L, r.length ≤ 1000) (hk : 3000 ≤ k) : Qr1.f k L L = some true := by
  rw [vrows_ok L L (by omega) hr k (by omega), decide_eq_true rfl]
theorem vhas_loop (a : Int) (r : List Int) (h8 : r.length ≤ 1000) (d : Nat) : ∀ (k i : Nat), i + d = r.length → d < k → Qo2.l0 k a r (r.length : Int) (i : Int) = some (decide (a ∈ r.drop i)) := by
  induction d with
  | zero =>
    intro k i h hk
    obtain ⟨k, rfl⟩ := fuel1 (show 0 < k by omega)
    simp only [Qo2.l0]
    rw [if_neg (by omega), List.drop_eq_nil_of_le (by omega)]
    rfl
  | succ d ih =>
    intro k i h hk
    obtain ⟨k, rfl⟩ := fuel1 (show 0 < k by omega)
    have hi : i < r.length := by omega
    simp only [Qo2.l0]
    rw [if_pos (by omega), if_pos (by omega), if_pos (by omega), rd_at r i hi, List.drop_eq_getElem_cons hi]
    by_cases c : r[i] = a
    · rw [if_pos c, decide_eq_true (by rw [c]; exact List.mem_cons_self)]
    · rw [if_neg c, w_nat (by omega), ih k (i + 1) (by omega) (by omega)]
      congr 1
      refine decide_eq_decide.2 ⟨fun h => List.mem_cons_of_mem _ h, fun h => ?_⟩
      rcases List.mem_cons.1 h with e | h
      · exact absurd e.symm c
      · exact h
theorem vhas_ok (a : Int) (r : List Int) (h8 : r.length ≤ 1000) (k : Nat) (hk : 1001 < k) : Qo2.f k r a = some (decide (a ∈ r)) := by
  unfold Qo2.f
  have := vhas_loop a r h8 r.length k 0 (by omega) (by omega)
  rwa [List.drop_zero] at this
end Go.Proofs.YtohhlkehglahhaaGreatDoor.Pure
