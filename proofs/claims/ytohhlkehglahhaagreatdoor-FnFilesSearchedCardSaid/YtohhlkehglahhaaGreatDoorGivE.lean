/- ExchangeFiles of the program copies the files and exchanges two of them: its contract, by hand. No condition. -/
import Derived.Test.YtohhlkehglahhaaGreatDoorAx13
import Derived.Test.YtohhlkehglahhaaGreatDoorAx4
import Derived.Test.YtohhlkehglahhaaGreatDoorGiv
import Derived.Test.YtohhlkehglahhaaGreatDoorWW
import Derived.Test.YtohhlkehglahhaaGreatDoorX
namespace Go.Proofs.YtohhlkehglahhaaGreatDoor.A
open Go.RowKit Go.Proofs.YtohhlkehglahhaaGreatDoorW.PrintWords Go.Proofs.YtohhlkehglahhaaGreatDoorW.PrintLast Go.Proofs.YtohhlkehglahhaaGreatDoorW.PrintMore Go.Proofs.YtohhlkehglahhaaGreatDoor.X
set_option linter.unusedVariables false
set_option linter.unusedSimpArgs false
theorem one_at {l : List Value} {j : Nat} {v : Value} (h : l[j]? = some v) : (l.drop (j * 1)).take 1 = [v] := by
 obtain ⟨hj, rfl⟩ := List.getElem?_eq_some_iff.1 h
 rw [Nat.mul_one, List.drop_eq_getElem_cons hj]
 rfl
theorem S_swap {α : Type} {d : Kd α} (hsz : d.sz = 1) {e g n cap base : Nat} {ok : Nat → Prop} {W : World} {xs : List α} (z : α) (h : Kd.S d e W base ok (.slice (some ⟨g, 0, none⟩) n cap) xs) (a b : Nat) (hab : a ≠ b) (ha : a < n) (hb : b < n) {va vb : Value}
  (hva : W.cell? ⟨g, a, none⟩ = some va) (hvb : W.cell? ⟨g, b, none⟩ = some vb) :
  Kd.S d e ((W.setCell ⟨g, a, none⟩ vb).setCell ⟨g, b, none⟩ va) base ok (.slice (some ⟨g, 0, none⟩) n cap) ((xs.set a (xs.getD b z)).set b (xs.getD a z)) := by
 obtain ⟨f, h0, inner, ho, hr⟩ := h
 have ho1 : W.ownsRow base e 1 (.slice (some ⟨g, 0, none⟩) n cap) xs.zipIdx.length inner := by rw [← hsz]; exact ho
 have hr2 := hr.2
 have hil : inner.length = xs.zipIdx.length := by have := ho1.1; omega
 have hxl : xs.zipIdx.length = xs.length := List.length_zipIdx
 obtain ⟨A', c', he⟩ := own_slice ho1
 injection he with he1 he2 he3
 have hn : n = inner.length := by omega
 have ho3 : W.ownsRow base e 1 (.slice (some ⟨g, 0, none⟩) n cap) n inner := by rw [← he2] at ho1; exact ho1
 have hia : inner[a]? = some va := (ho3.cellAt a (by omega)).symm.trans hva
 have hib : inner[b]? = some vb := (ho3.cellAt b (by omega)).symm.trans hvb
 have ho2 : W.ownsRow base e 1 (.slice (some ⟨g, 0, none⟩) inner.length cap) inner.length (encs (fun v : Value => v) inner) := by
  unfold encs
  rw [List.map_id', ← hn]
  exact ho3
 obtain ⟨o1, g1⟩ := own_store_of ho2 (a : Int) vb
 rw [Int.toNat_natCast] at o1 g1
 have o1' : (W.setCell ⟨g, a, none⟩ vb).ownsRow base e 1 (.slice (some ⟨g, 0, none⟩) (inner.set a vb).length cap) (inner.set a vb).length (encs (fun v : Value => v) (inner.set a vb)) := by
  rw [List.length_set]
  exact o1
 obtain ⟨o2, g2⟩ := own_store_of o1' (b : Int) va
 rw [Int.toNat_natCast, List.length_set] at o2
 have hfar : ∀ k, k ≠ g → ((W.setCell ⟨g, a, none⟩ vb).setCell ⟨g, b, none⟩ va).heap[k]? = W.heap[k]? := fun k hk => (setCells_far [va] b k hk).trans (setCells_far [vb] a k hk)
 have hlen : ((xs.set a (xs.getD b z)).set b (xs.getD a z)).zipIdx.length = inner.length := by rw [List.length_zipIdx, List.length_set, List.length_set]; omega
 refine ⟨fun k => if f k = a then b else if f k = b then a else f k, h0, (inner.set a vb).set b va, ?_, ?_, ?_⟩
 ·show World.ownsRow _ base e d.sz _ _ _
  rw [hsz, hlen, hn]
  unfold encs at o2
  rw [List.map_id'] at o2
  exact o2
 ·show _ = _ * d.sz
  rw [hsz, hlen, List.length_set, List.length_set, Nat.mul_one]
 ·intro j p hj
  rw [List.getElem?_zipIdx, Nat.zero_add] at hj
  obtain ⟨q, hq, rfl⟩ := Option.map_eq_some_iff.1 hj
  show d.M _ base _ q ((((inner.set a vb).set b va).drop (j * d.sz)).take d.sz)
  rw [hsz]
  have key : ∀ (i : Nat) (y : α) (v : Value), xs[i]? = some y → inner[i]? = some v → (∀ k, f k = i → (if f k = a then b else if f k = b then a else f k) = j) → d.M ((W.setCell ⟨g, a, none⟩ vb).setCell ⟨g, b, none⟩ va) base (fun k => (ok k ∧ some k ≠ (Value.slice (some ⟨g, 0, none⟩) n cap).ownBlock) ∧ (if f k = a then b else if f k = b then a else f k) = j) y [v] := by
   intro i y v hy hv hf
   have h1 := hr2 i (y, i) (Kd.zip_at hy)
   have h2 : d.M W base (fun k => (ok k ∧ some k ≠ (Value.slice (some ⟨g, 0, none⟩) n cap).ownBlock) ∧ f k = i) y [v] := by
    have h3 : d.M W base (fun k => (ok k ∧ some k ≠ (Value.slice (some ⟨g, 0, none⟩) n cap).ownBlock) ∧ f k = i) y ((inner.drop (i * d.sz)).take d.sz) := h1
    rw [hsz, one_at hv] at h3
    exact h3
   refine d.M_mono (fun k hk => ⟨hk.1, hf k hk.2⟩) (d.M_move (fun k hk => hfar k (fun e => hk.1.2 (by rw [e]; rfl))) h2)
  have hjl : j < xs.length := by have := (List.getElem?_eq_some_iff.1 hq).1; rw [List.length_set, List.length_set] at this; exact this
  by_cases jb : j = b
  ·subst jb
   have e1 : ((inner.set a vb).set j va)[j]? = some va := by rw [List.getElem?_set_self (by rw [List.length_set]; omega)]
   have e2 : ((xs.set a (xs.getD j z)).set j (xs.getD a z))[j]? = some (xs.getD a z) := by rw [List.getElem?_set_self (by rw [List.length_set]; omega)]
   rw [e2] at hq
   obtain rfl := Option.some.inj hq
   rw [one_at e1]
   refine key a _ va ?_ hia (fun k hk => by rw [if_pos hk])
   rw [List.getD_eq_getElem?_getD, List.getElem?_eq_getElem (show a < xs.length by omega)]
   rfl
  by_cases ja : j = a
  ·subst ja
   have e1 : ((inner.set j vb).set b va)[j]? = some vb := by rw [List.getElem?_set_ne (by omega), List.getElem?_set_self (by omega)]
   have e2 : ((xs.set j (xs.getD b z)).set b (xs.getD j z))[j]? = some (xs.getD b z) := by rw [List.getElem?_set_ne (by omega), List.getElem?_set_self (by omega)]
   rw [e2] at hq
   obtain rfl := Option.some.inj hq
   rw [one_at e1]
   refine key b _ vb ?_ hib (fun k hk => by rw [if_neg (by omega), if_pos hk])
   rw [List.getD_eq_getElem?_getD, List.getElem?_eq_getElem (show b < xs.length by omega)]
   rfl
  ·have hq2 : xs[j]? = some q := by rw [List.getElem?_set_ne (by omega), List.getElem?_set_ne (by omega)] at hq; exact hq
   have e1 : ((inner.set a vb).set b va)[j]? = inner[j]? := by rw [List.getElem?_set_ne (by omega), List.getElem?_set_ne (by omega)]
   have e3 : inner[j]? = some (inner[j]'(by omega)) := List.getElem?_eq_getElem (by omega)
   rw [one_at (e1.trans e3)]
   exact key j q _ hq2 e3 (fun k hk => by rw [if_neg (by omega), if_neg (by omega)]; exact hk)
theorem drawn_under {w w' : World} (h : Drawn0 w w') : Below w.heap.size w w' := by
 obtain ⟨n, rfl⟩ := h
 exact Qi (Below.refl _ _) n
structure Ph (n : Nat) : Prop where
theorem headE {W : World} {b : Nat} {ok : Nat → Prop} {A : Option Addr} {n c : Nat} {xs : List (List Int)} (h : Kd.S (Kd.slice 3 (Kd.int .i64)) 32 W b ok (.slice A n c) xs) (hn : 0 < n) : ∃ g, A = some ⟨g, 0, none⟩ := by
 cases A with
 | none =>
  obtain ⟨_, _, he, _, _, _, hr⟩ := Kd.R_reads (Kd.S_R h)
  injection he with h1 h2 h3
  subst h1 h2
  obtain ⟨_, h4, _⟩ := hr hn
  cases h4
 | some a =>
  obtain ⟨g, rfl⟩ := Kd.R_head (Kd.S_R h)
  exact ⟨g, rfl⟩
theorem cellE {W : World} {b g : Nat} {ok : Nat → Prop} {n c : Nat} {xs : List (List Int)} (h : Kd.S (Kd.slice 3 (Kd.int .i64)) 32 W b ok (.slice (some ⟨g, 0, none⟩) n c) xs) (i : Nat) (hi : i < n) : ∃ A' m c', W.cell? ⟨g, i, none⟩ = some (.slice A' m c') ∧ W.frozen? ⟨g, i, none⟩ = false := by
 obtain ⟨oki, cs, hcl, hMM, hcc, hf, _, _⟩ := Kd.S_elem h [] (i : Int) (by omega) (by omega)
 obtain ⟨vi, rfl, hR⟩ := hMM
 have h1 := hcc 0 _ rfl
 have h2 := hf 0
 have hz : (Kd.slice 3 (Kd.int .i64)).sz = 1 := rfl
 rw [hz, Int.toNat_natCast, Nat.mul_one, Nat.add_zero] at h1 h2
 obtain ⟨A', c', rfl⟩ := Kd.R_slice hR
 exact ⟨A', _, c', h1, h2⟩
theorem inE (a l h : Int) : Qu1.f a l h = some (decide (l ≤ a ∧ a ≤ h)) := by
 unfold Qu1.f
 by_cases c : l ≤ a
 ·rw [if_pos c]; simp [c]
 ·rw [if_neg c]; simp [c]
def okE (l0 : List (List Int)) (a b : Int) : Bool := goodB l0 && (decide (0 ≤ a ∧ a ≤ (l0.length : Int) - 1) && (decide (0 ≤ b ∧ b ≤ (l0.length : Int) - 1) && !decide (a = b)))
def Qt1.f (k : Nat) (l0 : List (List Int)) (a1 a2 : Int) : Option (List (List Int) × Bool) := if okE l0 a1 a2 = true then (Qg2.f k l0).bind fun t => (if t.length = l0.length then some ((t.set a1.toNat (t.getD a2.toNat [])).set a2.toNat (t.getD a1.toNat []), true) else none) else some ([], false)
set_option maxHeartbeats 2000000 in
theorem Qt1.calls (k : Nat) (A0 : Option Addr) (c0 : Nat) (l0 : List (List Int)) (a1 a2 : Int) (r1 : List (List Int)) (r2 : Bool) (w : World) (hr0 : Kd.C (Kd.slice 3 (Kd.int .i64)) w A0 l0.length l0) (hc0 : l0.length ≤ c0) (h : Qt1.f k l0 a1 a2 = some (r1, r2)) :
  Calls Tryz.prog 17 #[.slice A0 l0.length c0, .int .i64 a1, .int .i64 a2] w fun e w' => ∃ v0_ : Value, e = .returned (.tuple #[v0_, .bool r2]) ∧ Kd.S (Kd.slice 3 (Kd.int .i64)) 32 w' w.heap.size (fun _ => True) v0_ r1 ∧ Below w.heap.size w w' := by
 have HR := Qa.mk hr0
 have HC := Qa.mk hc0
 unfold Qt1.f at h
 clear hr0 hc0
 have hlen : goodB l0 = true → l0.length ≤ 8 := fun hg => by
  unfold goodB at hg
  rw [Bool.and_eq_true] at hg
  exact (of_decide_eq_true hg.1).2
 cases hg : goodB l0 with
 | false =>
  rw [if_neg (by unfold okE; rw [hg]; simp)] at h
  simp only [Option.some.injEq, Prod.mk.injEq] at h
  obtain ⟨rfl, rfl⟩ := h
  have HG : Qa (Qz.f l0 = some false) := ⟨by unfold Qz.f; rw [hg]⟩
  clear hg hlen
  go_enter Tryz.func17, Tryz.ntmps17
  go_wp2_with (go_at_call 38; (with_reducible refine (Qz.calls _ _ l0 false _ ?s1 ?s2 HG.out).mono ?_); (case s1 => exact HR.out); (case s2 => exact HC.out); rintro e w1 ⟨rfl, hb⟩; have HB := Qa.mk hb; clear hb)
  go_ret2
  exact ⟨_, rfl, Kd.S_nil _ _ _ _ _, HB.out⟩
 | true =>
  have h8 := hlen hg
  clear hlen
  have HG : Qa (Qz.f l0 = some true) := ⟨by unfold Qz.f; rw [hg]⟩
  have hw : wrap64 ((l0.length : Int) - 1) = (l0.length : Int) - 1 := by unfold wrap64; omega
  by_cases h1 : 0 ≤ a1 ∧ a1 ≤ (l0.length : Int) - 1
  rotate_left
  ·rw [if_neg (by unfold okE; rw [hg, decide_eq_false h1]; simp)] at h
   simp only [Option.some.injEq, Prod.mk.injEq] at h
   obtain ⟨rfl, rfl⟩ := h
   have F1 : Qa (Qu1.f a1 0 (wrap64 ((l0.length : Int) - 1)) = some false) := ⟨by rw [inE, hw, decide_eq_false h1]⟩
   clear hg h8 hw h1
   go_enter Tryz.func17, Tryz.ntmps17
   go_wp2_with (first | (go_at_call 38; (with_reducible refine (Qz.calls _ _ l0 true _ ?s1 ?s2 HG.out).mono ?_); (case s1 => exact HR.out); (case s2 => exact HC.out); rintro e w1 ⟨rfl, hb⟩; have HB := Qa.mk hb; clear hb HG; have P1 : Ph 1 := ⟨⟩) | (have _ := P1; clear P1; go_at_call 46; (with_reducible refine (Qu1.calls a1 0 (wrap64 ((l0.length : Int) - 1)) false _ F1.out).mono ?_); rintro e w2 ⟨rfl, hd⟩; have hb := drawn_under hd; clear hd; have n0_ := Qa.mk (Qh HB.out hb); clear HB hb; have HB := n0_; clear n0_; have P2 : Ph 2 := ⟨⟩))
   go_ret2
   exact ⟨_, rfl, Kd.S_nil _ _ _ _ _, HB.out⟩
  have F1 : Qa (Qu1.f a1 0 (wrap64 ((l0.length : Int) - 1)) = some true) := ⟨by rw [inE, hw, decide_eq_true h1]⟩
  by_cases h2 : 0 ≤ a2 ∧ a2 ≤ (l0.length : Int) - 1
  rotate_left
  ·rw [if_neg (by unfold okE; rw [hg, decide_eq_true h1, decide_eq_false h2]; simp)] at h
   simp only [Option.some.injEq, Prod.mk.injEq] at h
   obtain ⟨rfl, rfl⟩ := h
   have F2 : Qa (Qu1.f a2 0 (wrap64 ((l0.length : Int) - 1)) = some false) := ⟨by rw [inE, hw, decide_eq_false h2]⟩
   clear hg h8 hw h1 h2
   go_enter Tryz.func17, Tryz.ntmps17
   go_wp2_with (first | (go_at_call 38; (with_reducible refine (Qz.calls _ _ l0 true _ ?s1 ?s2 HG.out).mono ?_); (case s1 => exact HR.out); (case s2 => exact HC.out); rintro e w1 ⟨rfl, hb⟩; have HB := Qa.mk hb; clear hb HG; have P1 : Ph 1 := ⟨⟩) | (have _ := P1; clear P1; go_at_call 46; (with_reducible refine (Qu1.calls _ 0 (wrap64 ((l0.length : Int) - 1)) true _ F1.out).mono ?_); rintro e w2 ⟨rfl, hd⟩; have hb := drawn_under hd; clear hd; have n0_ := Qa.mk (Qh HB.out hb); clear HB hb; have HB := n0_; clear n0_; have P2 : Ph 2 := ⟨⟩) | (have _ := P2; clear P2; go_at_call 46; (with_reducible refine (Qu1.calls a2 0 (wrap64 ((l0.length : Int) - 1)) false _ F2.out).mono ?_); rintro e w2 ⟨rfl, hd⟩; have hb := drawn_under hd; clear hd; have n0_ := Qa.mk (Qh HB.out hb); clear HB hb; have HB := n0_; clear n0_; have P3 : Ph 3 := ⟨⟩))
   go_ret2
   exact ⟨_, rfl, Kd.S_nil _ _ _ _ _, HB.out⟩
  have F2 : Qa (Qu1.f a2 0 (wrap64 ((l0.length : Int) - 1)) = some true) := ⟨by rw [inE, hw, decide_eq_true h2]⟩
  by_cases h3 : a1 = a2
  ·rw [if_neg (by unfold okE; rw [hg, decide_eq_true h1, decide_eq_true h2, decide_eq_true h3]; simp)] at h
   simp only [Option.some.injEq, Prod.mk.injEq] at h
   obtain ⟨rfl, rfl⟩ := h
   have g3 : (a1 == a2) = true := beq_iff_eq.2 h3
   clear hg h8 hw h1 h2 h3
   go_enter Tryz.func17, Tryz.ntmps17
   go_wp2_with (first | (go_at_call 38; (with_reducible refine (Qz.calls _ _ l0 true _ ?s1 ?s2 HG.out).mono ?_); (case s1 => exact HR.out); (case s2 => exact HC.out); rintro e w1 ⟨rfl, hb⟩; have HB := Qa.mk hb; clear hb HG; have P1 : Ph 1 := ⟨⟩) | (have _ := P1; clear P1; go_at_call 46; (with_reducible refine (Qu1.calls _ 0 (wrap64 ((l0.length : Int) - 1)) true _ F1.out).mono ?_); rintro e w2 ⟨rfl, hd⟩; have hb := drawn_under hd; clear hd; have n0_ := Qa.mk (Qh HB.out hb); clear HB hb; have HB := n0_; clear n0_; have P2 : Ph 2 := ⟨⟩) | (have _ := P2; clear P2; go_at_call 46; (with_reducible refine (Qu1.calls _ 0 (wrap64 ((l0.length : Int) - 1)) true _ F2.out).mono ?_); rintro e w2 ⟨rfl, hd⟩; have hb := drawn_under hd; clear hd; have n0_ := Qa.mk (Qh HB.out hb); clear HB hb; have HB := n0_; clear n0_; have P3 : Ph 3 := ⟨⟩))
   go_ret2
   exact ⟨_, rfl, Kd.S_nil _ _ _ _ _, HB.out⟩
  rw [if_pos (by unfold okE; rw [hg, decide_eq_true h1, decide_eq_true h2, decide_eq_false h3]; rfl)] at h
  obtain ⟨t, ht, h4⟩ := Option.bind_eq_some_iff.1 h
  clear h
  by_cases h5 : t.length = l0.length
  rotate_left
  ·rw [if_neg h5] at h4; cases h4
  rw [if_pos h5] at h4
  simp only [Option.some.injEq, Prod.mk.injEq] at h4
  obtain ⟨rfl, rfl⟩ := h4
  have HT := Qa.mk ht
  have g3 : (a1 == a2) = false := beq_eq_false_iff_ne.2 h3
  obtain ⟨na, rfl⟩ : ∃ n : Nat, a1 = (n : Int) := ⟨a1.toNat, by omega⟩
  obtain ⟨nb, rfl⟩ : ∃ n : Nat, a2 = (n : Int) := ⟨a2.toNat, by omega⟩
  simp only [Int.toNat_natCast]
  have L1 : na < t.length := by omega
  have L2 : nb < t.length := by omega
  have L3 : na ≠ nb := by omega
  have HL := Qa.mk (And.intro L1 (And.intro L2 L3))
  have p1 : 0 ≤ (na : Int) := by omega
  have p2 : 0 ≤ (nb : Int) := by omega
  have q1 : (na : Int) < (t.length : Int) := by omega
  have q2 : (nb : Int) < (t.length : Int) := by omega
  clear hg h8 hw h1 h2 h3 ht h5 L1 L2 L3
  go_enter Tryz.func17, Tryz.ntmps17
  go_wp2_with (first | (go_at_call 38; (with_reducible refine (Qz.calls _ _ l0 true _ ?s1 ?s2 HG.out).mono ?_); (case s1 => exact HR.out); (case s2 => exact HC.out); rintro e w1 ⟨rfl, hb⟩; have HB := Qa.mk hb; clear hb HG; have P1 : Ph 1 := ⟨⟩) | (have _ := P1; clear P1; go_at_call 46; (with_reducible refine (Qu1.calls _ 0 (wrap64 ((l0.length : Int) - 1)) true _ F1.out).mono ?_); rintro e w2 ⟨rfl, hd⟩; have hb := drawn_under hd; clear hd; have n0_ := Qa.mk (Qh HB.out hb); clear HB hb; have HB := n0_; clear n0_; have P2 : Ph 2 := ⟨⟩) | (have _ := P2; clear P2; go_at_call 46; (with_reducible refine (Qu1.calls _ 0 (wrap64 ((l0.length : Int) - 1)) true _ F2.out).mono ?_); rintro e w2 ⟨rfl, hd⟩; have hb := drawn_under hd; clear hd; have n0_ := Qa.mk (Qh HB.out hb); clear HB hb; have HB := n0_; clear n0_; have P3 : Ph 3 := ⟨⟩) | (have _ := P3; clear P3; go_at_call 50; (with_reducible refine (Qg2.calls k _ _ l0 t _ ?s1 ?s2 HT.out).mono ?_); (case s1 => exact Kd.C_below HR.out HB.out); (case s2 => exact HC.out); rintro e w4 ⟨v, rfl, hS, hb⟩; obtain ⟨A, cc, rfl, hcap, _, _, _⟩ := Kd.R_reads (Kd.S_R hS); have HS := Qa.mk (Kd.S_lower hS HB.out.size); have n0_ := Qa.mk (Qh HB.out hb); clear HB; have HB := n0_; clear n0_ hS hb; obtain ⟨g, rfl⟩ : ∃ g, A = some ⟨g, 0, none⟩ := headE HS.out (by have := HL.out.1; omega); have cellA := cellE HS.out na HL.out.1; have cellB := cellE HS.out nb HL.out.2.1; obtain ⟨Aa, ma, xa, ca, fa⟩ := cellA; obtain ⟨Ab, mb, xb, cb, fb⟩ := cellB))
  have n1 : (⟨g, na, none⟩ : Addr) ≠ ⟨g, nb, none⟩ := fun e => HL.out.2.2 (by injection e)
  have c5 : (w4.setCell ⟨g, na, none⟩ (.slice Ab mb xb)).cell? ⟨g, nb, none⟩ = some (.slice Ab mb xb) := by rw [World.cell?_setCell_other (h := n1)]; exact cb
  have c6 : (w4.setCell ⟨g, na, none⟩ (.slice Ab mb xb)).frozen? ⟨g, nb, none⟩ = false := by rw [World.frozen?_setCell]; exact fb
  have hg : w.heap.size ≤ g := by
   obtain ⟨_, inner, ho, _⟩ := Kd.S_R HS.out
   exact own_base ho g rfl
  have HF := Qa.mk (S_swap rfl [] HS.out na nb HL.out.2.2 HL.out.1 HL.out.2.1 ca cb)
  clear n1 HL
  go_region
  go_wp2
  go_ret2
  exact ⟨_, rfl, Kd.S_drew HF.out, below_drew ((HB.out.setCell hg _).setCell hg _)⟩
end Go.Proofs.YtohhlkehglahhaaGreatDoor.A
