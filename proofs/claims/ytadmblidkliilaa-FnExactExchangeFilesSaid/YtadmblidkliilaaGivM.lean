/- markIntSS of the laws marks lists of lists that are the call's own: its contract, by hand: one list after the other, each apart from the others. No condition. -/
import Derived.Test.YtadmblidkliilaaAx5
namespace Go.Proofs.Ytadmblidkliilaa.A
open Go.RowKit Go.Proofs.YtadmblidkliilaaW.PrintWords Go.Proofs.YtadmblidkliilaaW.PrintLast Go.Proofs.YtadmblidkliilaaW.PrintMore Go.Proofs.Ytadmblidkliilaa.X
set_option linter.unusedVariables false
set_option linter.unusedSimpArgs false

def rdLL (l : List (List Int)) (i : Int) : List Int := l.getD i.toNat []
def laws_markIntSS.l0 : Nat → List (List Int) → Int → Int → Option (Int × List (List Int))
  | 0, _, _, _ => none
  | k + 1, x, a, i => if i < (x.length : Int) then ((laws_markIntS.f k (rdLL x i) a).bind fun p => laws_markIntSS.l0 k (x.set i.toNat p.2) p.1 (wrap64 (i + 1))) else some (a, x)
def laws_markIntSS.f (k : Nat) (l0 : List (List Int)) (a1 : Int) : Option (Int × List (List Int)) := laws_markIntSS.l0 k l0 a1 0
theorem headS {W : World} {b : Nat} {ok : Nat → Prop} {A : Option Addr} {n c : Nat} {xs : List (List Int)} (h : Kd.S (Kd.slice 3 (Kd.int .i64)) 35 W b ok (.slice A n c) xs) (hn : 0 < n) : ∃ g, A = some ⟨g, 0, none⟩ := by
  cases A with
  | none =>
    obtain ⟨_, _, he, _, _, _, hr⟩ := Kd.R_reads (Kd.S_R h)
    injection he with h1 h2 h3
    subst h1 h2
    obtain ⟨_, h4, _⟩ := hr hn
    cases h4
  | some a =>
    obtain ⟨g, rfl⟩ := Kd.R_head (Kd.S_R h)
    exact ⟨g, rfl⟩
set_option maxHeartbeats 2000000 in
theorem laws_markIntSS.calls (k : Nat) (P0_ : Nat → Prop) (u9000_ : Value) (l0 : List (List Int)) (a1 : Int) (r1 : Int) (r2 : List (List Int)) (w0 w : World) (hB : Below w0.heap.size w0 w) (ho0 : Kd.S (Kd.slice 3 (Kd.int .i64)) 35 w w0.heap.size P0_ u9000_ l0) (h : laws_markIntSS.f k l0 a1 = some (r1, r2)) :
    Calls Try.prog 13 #[u9000_, .int .i64 a1] w fun e w' => e = .returned (.int .i64 r1) ∧ Kd.S (Kd.slice 3 (Kd.int .i64)) 35 w' w0.heap.size P0_ u9000_ r2 ∧ Below w0.heap.size w0 w' ∧ Kept w w' P0_ := by
  obtain ⟨A, cc, rfl, hcap, hlen, hmax, _⟩ := Kd.R_reads (Kd.S_R ho0)
  have h' : laws_markIntSS.l0 k l0 a1 ((0 : Nat) : Int) = some (r1, r2) := h
  have HS := Aside0.mk ho0
  have HB := Aside0.mk hB
  have HH := Aside0.mk h'
  have HM := Aside0.mk hmax
  clear ho0 hB h h' hcap hlen hmax
  generalize hn : l0.length = n at *
  have HN := Aside0.mk hn
  clear hn
  go_enter Try.func13, Try.ntmps13
  go_wp2
  go_loopg [1, 5] k (fun gg s1 s5 wr => ∃ (ys : List (List Int)) (a : Int) (i : Nat), s1 = .int .i64 a ∧ s5 = .int .i64 (i : Int) ∧ i ≤ n ∧ Aside0 (ys.length = n) ∧ Aside0 (laws_markIntSS.l0 gg ys a (i : Int) = some (r1, r2)) ∧ Aside0 (Kd.S (Kd.slice 3 (Kd.int .i64)) 35 wr w0.heap.size P0_ (.slice A n cc) ys) ∧ Aside0 (Below w0.heap.size w0 wr) ∧ Aside0 (Kept w wr P0_))
  case atStart => exact ⟨l0, a1, 0, rfl, rfl, Nat.zero_le _, HN, HH, HS, HB, ⟨Kept.refl _ _⟩⟩
  case round =>
    obtain ⟨ys, a, i, rfl, rfl, hi, HL, HF, HS2, HB2, HK⟩ := hrel
    obtain ⟨g', rfl⟩ : ∃ g', gk = g' + 1 := by
      cases gk with
      | zero =>
        have := HF.out
        simp only [laws_markIntSS.l0] at this
        cases this
      | succ g => exact ⟨g, rfl⟩
    have hF := HF.out
    clear HF
    simp only [laws_markIntSS.l0] at hF
    rw [HL.out] at hF
    have hM1 := HM.out
    by_cases hlt : i < n
    · have hltz : (i : Int) < (n : Int) := by omega
      rw [if_pos hltz] at hF
      obtain ⟨⟨p1, p2⟩, hp, hF2⟩ := Option.bind_eq_some_iff.1 hF
      clear hF
      have e1 : wrap64 ((i : Int) + 1) = ((i + 1 : Nat) : Int) := by unfold wrap64; omega
      have hF3 : laws_markIntSS.l0 g' (ys.set i p2) p1 ((i + 1 : Nat) : Int) = some (r1, r2) := by
        have := hF2
        simp only [e1, Int.toNat_natCast] at this
        exact this
      have HE1 := Aside0.mk e1
      clear hF2 hM1 e1
      have HF2 := Aside0.mk hF3
      clear hF3
      obtain ⟨g, rfl⟩ := headS HS2.out (by omega)
      obtain ⟨oki, c, hcl, hMM, hcc, _, hoki, hH⟩ := Kd.S_elem HS2.out [] (i : Int) (by omega) hltz
      obtain ⟨vi, rfl, hR⟩ := hMM
      have hx : rdLL ys (i : Int) = ys.getD (i : Int).toNat [] := rfl
      rw [← hx] at hR
      clear hx
      generalize rdLL ys (i : Int) = x at hp hR
      obtain ⟨A', c', rfl⟩ := Kd.R_slice hR
      have hcell : wr.cell? ⟨g, i, none⟩ = some (.slice A' x.length c') := by
        have := hcc 0 _ rfl
        have hz : (Kd.slice 3 (Kd.int .i64)).sz = 1 := rfl
        rwa [hz, Int.toNat_natCast, Nat.mul_one, Nat.add_zero] at this
      have HP := Aside0.mk hp
      have HR := Aside0.mk hR
      have HH2 := Aside0.mk hH
      have HO := Aside0.mk hoki
      clear hp hR hH hoki hcc hcl
      go_wp2_with (go_at_call 28; (with_reducible refine (laws_markIntS.calls g' oki _ x a p1 p2 w0 wr HB2.out HR.out HP.out).mono ?_); rintro e w' ⟨rfl, hR2, hB3, hK3⟩; have HR2 := Aside0.mk hR2; have HB3 := Aside0.mk hB3; have HK3 := Aside0.mk hK3; clear hR2 hB3 hK3)
      go_roundg g'
      case measure => omega
      case rel =>
        refine ⟨ys.set i p2, p1, i + 1, rfl, by rw [HE1.out], by omega, ⟨by rw [List.length_set]; exact HL.out⟩, HF2, ⟨?_⟩, HB3, ⟨Kept.then_ HK.out HK3.out (fun k hk => .inl (HO.out k hk).1)⟩⟩
        have h1 := Kd.H_kept HH2.out HK3.out (fun k _ h2 => h2)
        have h2 := Kd.R_reok rfl HR2.out (fun k hk => HR.out.1 k hk)
        have h3 := Kd.H_back (x' := p2) h1 ⟨_, rfl, h2⟩ (fun _ hk => hk)
        simpa using h3
    · have hltz : ¬ (i : Int) < (n : Int) := by omega
      rw [if_neg hltz] at hF
      obtain ⟨rfl, rfl⟩ := Prod.mk.inj (Option.some.inj hF)
      clear hF
      go_wp2
      go_ret
      exact ⟨rfl, HS2.out, HB2.out, HK.out⟩
end Go.Proofs.Ytadmblidkliilaa.A
