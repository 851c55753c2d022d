/- sortRows of the program copies lists and puts each in order: its contract, by hand: one list after the other, each apart from the others. No condition. -/
import Derived.Test.YtieahbiaoceokaaAx6
import Derived.Test.YtieahbiaoceokaaGivS
namespace Go.Proofs.Ytieahbiaoceokaa.A
open Go.RowKit Go.Proofs.YtieahbiaoceokaaW.PrintWords Go.Proofs.YtieahbiaoceokaaW.PrintLast Go.Proofs.YtieahbiaoceokaaW.PrintMore Go.Proofs.Ytieahbiaoceokaa.X
set_option linter.unusedVariables false
set_option linter.unusedSimpArgs false

def rdRow (l : List (List Int)) (i : Int) : List Int := l.getD i.toNat []
def impl_sortRows.l0 : Nat → List (List Int) → Int → Option (List (List Int))
  | 0, _, _ => none
  | k + 1, x, i => if i < (x.length : Int) then ((slices_Sort_int_int.f (rdRow x i)).bind fun p => impl_sortRows.l0 k (x.set i.toNat p) (wrap64 (i + 1))) else some x
def impl_sortRows.f (k : Nat) (l0 : List (List Int)) : Option (List (List Int)) := (impl_copied.f k l0).bind fun t => impl_sortRows.l0 k t 0
theorem headR {W : World} {b : Nat} {ok : Nat → Prop} {A : Option Addr} {n c : Nat} {xs : List (List Int)} (h : Kd.S (Kd.slice 3 (Kd.int .i64)) 34 W b ok (.slice A n c) xs) (hn : 0 < n) : ∃ g, A = some ⟨g, 0, none⟩ := by
  cases A with
  | none =>
    obtain ⟨_, _, he, _, _, _, hr⟩ := Kd.R_reads (Kd.S_R h)
    injection he with h1 h2 h3
    subst h1 h2
    obtain ⟨_, h4, _⟩ := hr hn
    cases h4
  | some a =>
    obtain ⟨g, rfl⟩ := Kd.R_head (Kd.S_R h)
    exact ⟨g, rfl⟩
set_option maxHeartbeats 2000000 in
theorem impl_sortRows.calls (k : Nat) (A0 : Option Addr) (c0 : Nat) (l0 : List (List Int)) (r : List (List Int)) (w : World) (hr0 : Kd.C (Kd.slice 3 (Kd.int .i64)) w A0 l0.length l0) (hc0 : l0.length ≤ c0) (h : impl_sortRows.f k l0 = some r) :
    Calls Try.prog 31 #[.slice A0 l0.length c0] w fun e w' => ∃ v0_ : Value, e = .returned (v0_) ∧ Kd.S (Kd.slice 3 (Kd.int .i64)) 34 w' w.heap.size (fun _ => True) v0_ r ∧ Below w.heap.size w w' := by
  obtain ⟨t, ht, h2⟩ := Option.bind_eq_some_iff.1 h
  clear h
  have HR := Aside0.mk hr0
  have HC := Aside0.mk hc0
  have HT := Aside0.mk ht
  have HH := Aside0.mk h2
  clear hr0 hc0 ht h2
  go_enter Try.func31, Try.ntmps31
  go_wp2_with (go_at_call 53; (with_reducible refine (impl_copied.calls k _ _ l0 t _ ?s1 ?s2 HT.out).mono ?_); (case s1 => exact HR.out); (case s2 => exact HC.out); rintro e w1 ⟨v, rfl, hS, hb⟩; obtain ⟨A, cc, rfl, hcap, hlen, hmax, _⟩ := Kd.R_reads (Kd.S_R hS); have HS := Aside0.mk hS; have HB := Aside0.mk hb; have HM := Aside0.mk hmax; clear hS hb hcap hlen hmax)
  generalize hn : t.length = n at *
  have HN := Aside0.mk hn
  clear hn
  go_loopg [10] k (fun gg s10 wr => ∃ (ys : List (List Int)) (i : Nat), s10 = .int .i64 (i : Int) ∧ i ≤ n ∧ Aside0 (ys.length = n) ∧ Aside0 (impl_sortRows.l0 gg ys (i : Int) = some r) ∧ Aside0 (Kd.S (Kd.slice 3 (Kd.int .i64)) 34 wr w.heap.size (fun _ => True) (.slice A n cc) ys) ∧ Aside0 (Below w.heap.size w wr))
  case atStart => exact ⟨t, 0, rfl, Nat.zero_le _, HN, HH, HS, HB⟩
  case round =>
    obtain ⟨ys, i, rfl, hi, HL, HF, HS2, HB2⟩ := hrel
    obtain ⟨g', rfl⟩ : ∃ g', gk = g' + 1 := by
      cases gk with
      | zero =>
        have := HF.out
        simp only [impl_sortRows.l0] at this
        cases this
      | succ g => exact ⟨g, rfl⟩
    have hF := HF.out
    clear HF
    simp only [impl_sortRows.l0] at hF
    rw [HL.out] at hF
    have hM1 := HM.out
    by_cases hlt : i < n
    · have hltz : (i : Int) < (n : Int) := by omega
      rw [if_pos hltz] at hF
      obtain ⟨p2, hp, hF2⟩ := Option.bind_eq_some_iff.1 hF
      clear hF
      have e1 : wrap64 ((i : Int) + 1) = ((i + 1 : Nat) : Int) := by unfold wrap64; omega
      have hF3 : impl_sortRows.l0 g' (ys.set i p2) ((i + 1 : Nat) : Int) = some r := by
        have := hF2
        simp only [e1, Int.toNat_natCast] at this
        exact this
      have HE1 := Aside0.mk e1
      clear hF2 hM1 e1
      have HF2 := Aside0.mk hF3
      clear hF3
      obtain ⟨g, rfl⟩ := headR HS2.out (by omega)
      obtain ⟨oki, c, hcl, hMM, hcc, _, hoki, hH⟩ := Kd.S_elem HS2.out [] (i : Int) (by omega) hltz
      obtain ⟨vi, rfl, hR⟩ := hMM
      have hx : rdRow ys (i : Int) = ys.getD (i : Int).toNat [] := rfl
      rw [← hx] at hR
      clear hx
      generalize rdRow ys (i : Int) = x at hp hR
      obtain ⟨A', c', rfl⟩ := Kd.R_slice hR
      have hcell : wr.cell? ⟨g, i, none⟩ = some (.slice A' x.length c') := by
        have := hcc 0 _ rfl
        have hz : (Kd.slice 3 (Kd.int .i64)).sz = 1 := rfl
        rwa [hz, Int.toNat_natCast, Nat.mul_one, Nat.add_zero] at this
      have HP := Aside0.mk hp
      have HR2 := Aside0.mk hR
      have HH2 := Aside0.mk hH
      have HO := Aside0.mk hoki
      clear hp hR hH hoki hcc hcl
      go_wp2_with (go_at_call 54; (with_reducible refine (slices_Sort_int_int.calls oki _ x p2 w wr HB2.out HR2.out HP.out).mono ?_); rintro e w' ⟨rfl, hR2, hB3, hK3⟩; have HR3 := Aside0.mk hR2; have HB3 := Aside0.mk hB3; have HK3 := Aside0.mk hK3; clear hR2 hB3 hK3)
      go_roundg g'
      case measure => omega
      case rel =>
        refine ⟨ys.set i p2, i + 1, by rw [HE1.out], by omega, ⟨by rw [List.length_set]; exact HL.out⟩, HF2, ⟨?_⟩, HB3⟩
        have h1 := Kd.H_kept HH2.out HK3.out (fun k _ h2 => h2)
        have h2 := Kd.R_reok rfl HR3.out (fun k hk => HR2.out.1 k hk)
        have h3 := Kd.H_back (x' := p2) h1 ⟨_, rfl, h2⟩ (fun _ hk => hk)
        simpa using h3
    · have hltz : ¬ (i : Int) < (n : Int) := by omega
      rw [if_neg hltz] at hF
      obtain rfl := Option.some.inj hF
      clear hF
      go_wp2
      go_ret
      exact ⟨_, rfl, HS2.out, HB2.out⟩
end Go.Proofs.Ytieahbiaoceokaa.A
