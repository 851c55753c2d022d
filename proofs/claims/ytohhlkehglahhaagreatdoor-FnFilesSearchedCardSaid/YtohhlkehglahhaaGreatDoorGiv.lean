/- areFiles of the program tells whether lists are files: its contract, by hand: the one closure that reads a captured list. No condition. -/
import Derived.Test.YtohhlkehglahhaaGreatDoorAx4
import Derived.Deep.Slices
namespace Go.Proofs.YtohhlkehglahhaaGreatDoor.A
open Go.RowKit Go.Proofs.YtohhlkehglahhaaGreatDoorW.PrintWords Go.Proofs.YtohhlkehglahhaaGreatDoorW.PrintLast Go.Proofs.YtohhlkehglahhaaGreatDoorW.PrintMore Go.Proofs.YtohhlkehglahhaaGreatDoor.X
set_option linter.unusedVariables false
set_option linter.unusedSimpArgs false
def badH (h : Int) : Bool := !decide (1 ≤ h ∧ h ≤ 999)
def badRow (m : Nat) (r : List Int) : Bool := (r.length != m) || r.any badH
def goodB (l : List (List Int)) : Bool := decide (1 ≤ l.length ∧ l.length ≤ 8) && (decide (1 ≤ (l.headD []).length ∧ (l.headD []).length ≤ 8) && !(l.any (badRow (l.headD []).length)))
def Qz.f (l0 : List (List Int)) : Option Bool := some (goodB l0)
theorem badRow_eq {m : Nat} {r : List Int} (h : r.length = m) : badRow m r = r.any badH := by
  subst h
  simp [badRow]
theorem badRow_ne {m : Nat} {r : List Int} (h : r.length ≠ m) : badRow m r = true := by
  unfold badRow
  rw [Bool.or_eq_true]
  exact .inl (by simpa using h)
theorem goodB_cons (r : List Int) (l : List (List Int)) : goodB (r :: l) = (decide (1 ≤ (r :: l).length ∧ (r :: l).length ≤ 8) && (decide (1 ≤ r.length ∧ r.length ≤ 8) && !((r :: l).any (badRow r.length)))) := rfl
theorem in_is (a l h : Int) : Qu1.f a l h = some (decide (l ≤ a ∧ a ≤ h)) := by
  unfold Qu1.f
  by_cases h1 : l ≤ a
  · rw [if_pos h1]; simp [h1]
  · rw [if_neg h1]; simp [h1]
theorem bad_is (h : Int) : Qn2.f h = some (badH h) := by
  unfold Qn2.f
  rw [in_is, Option.bind_some]
  rfl
theorem ix_loop (l : List Int) (hl : l.length ≤ 9223372036854775806) (d : Nat) : ∀ (k i : Nat), i + d = l.length → d < k → ∃ r : Int, Qk.l0 k l (l.length : Int) (i : Int) = some r ∧ decide (r ≥ 0) = (l.drop i).any badH := by
  induction d with
  | zero =>
    intro k i h hk
    obtain ⟨k, rfl⟩ : ∃ m, k = m + 1 := ⟨k - 1, by omega⟩
    refine ⟨-1, ?_, ?_⟩
    · simp only [Qk.l0]
      rw [if_neg (by omega)]
    · rw [List.drop_eq_nil_of_le (by omega)]; rfl
  | succ d ih =>
    intro k i h hk
    obtain ⟨k, rfl⟩ : ∃ m, k = m + 1 := ⟨k - 1, by omega⟩
    have hi : i < l.length := by omega
    have hr : rd l (i : Int) = l[i] := by
      unfold rd
      rw [Int.toNat_natCast, List.getD_eq_getElem?_getD, List.getElem?_eq_getElem hi]
      rfl
    have hd : l.drop i = l[i] :: l.drop (i + 1) := List.drop_eq_getElem_cons hi
    simp only [Qk.l0]
    rw [if_pos (by omega), if_pos (by omega), if_pos (by omega), hr, bad_is, Option.bind_some, hd, List.any_cons]
    cases hb : badH l[i] with
    | true =>
      refine ⟨i, by rw [if_pos rfl], ?_⟩
      simp
    | false =>
      obtain ⟨r, h1, h2⟩ := ih k (i + 1) (by omega) (by omega)
      refine ⟨r, ?_, by rw [h2]; simp⟩
      have e : wrap64 ((i : Int) + 1) = ((i + 1 : Nat) : Int) := by unfold wrap64; omega
      rw [if_neg (by simp), e]
      exact h1
theorem cf_ok (l : List Int) (hl : l.length ≤ 9223372036854775806) : ∃ k, Qo1.f k l = some (l.any badH) := by
  obtain ⟨r, h1, h2⟩ := ix_loop l hl l.length (l.length + 1) 0 (by omega) (by omega)
  refine ⟨l.length + 1, ?_⟩
  unfold Qo1.f Qk.f
  have h1' : Qk.l0 (l.length + 1) l (l.length : Int) 0 = some r := h1
  rw [h1', Option.bind_some, h2]
  rfl
theorem alloc_keeps {w : World} {a : Addr} {v : Value} (o : Obj) (h : w.cell? a = some v) : (w.alloc o).cell? a = some v := ((below_alloc (Below.refl w.heap.size w) o).cell (World.block_lt_of_cell? w _ h)).trans h
theorem af1_ne (W : World) (B n c m c0 : Nat) (ad : Addr) (A0 A : Option Addr) (L C : Nat) (hB : W.cell? ⟨B, 0, none⟩ = some (.slice (some ad) n c)) (h0 : W.cell? ad = some (.slice A0 m c0)) (hn : 0 < n) (hne : L ≠ m) :
    Calls Tryz.prog 68 #[.slice A L C, .pointer (some ⟨B, 0, none⟩)] W fun e w' => e = .returned (.bool true) ∧ ∃ q, w' = W.drewN q := by
  have e1 : (L == m) = false := by simpa using hne
  have hn' : (0 : Int) < (n : Int) := by omega
  go_enter Tryz.func68, Tryz.ntmps68
  go_wp2
  go_ret
  exact ⟨rfl, 0, rfl⟩
theorem af1_eq (W : World) (B n c c0 : Nat) (ad : Addr) (A0 A : Option Addr) (row : List Int) (C : Nat) (hB : W.cell? ⟨B, 0, none⟩ = some (.slice (some ad) n c)) (h0 : W.cell? ad = some (.slice A0 row.length c0)) (hn : 0 < n) (hr : (Kd.int .i64).C W A row.length row) (hc : row.length ≤ C) (hl : row.length ≤ 9223372036854775806) :
    Calls Tryz.prog 68 #[.slice A row.length C, .pointer (some ⟨B, 0, none⟩)] W fun e w' => e = .returned (.bool (row.any badH)) ∧ ∃ q, w' = W.drewN q := by
  obtain ⟨k, hk⟩ := cf_ok row hl
  have HK := Qa.mk hk
  clear hk
  have hR := Qa.mk hr
  clear hr
  have hC := Qa.mk hc
  clear hc
  have hn' : (0 : Int) < (n : Int) := by omega
  go_enter Tryz.func68, Tryz.ntmps68
  go_wp2_with (go_at_call 69; (with_reducible refine (Qo1.calls k A C row (row.any badH) _ hR.out hC.out HK.out).mono ?_); rintro e w' ⟨rfl, q, rfl⟩)
  go_ret
  exact ⟨rfl, _, rfl⟩
set_option maxHeartbeats 2000000 in
theorem ixr (V : Nat → Value) (p : Nat → Bool) (ad : Addr) (n c B : Nat) (w : World) (hbig : n ≤ 9223372036854775807) (hc : ∀ j, j < n → w.cell? (ad.add j) = some (V j))
    (hcall : ∀ j q, j < n → Calls Tryz.prog 68 #[V j, .pointer (some ⟨B, 0, none⟩)] (w.drewN q) fun e w' => e = .returned (.bool (p j)) ∧ ∃ q', w' = (w.drewN q).drewN q') :
    Calls Tryz.prog 84 #[.slice (some ad) n c, .func (.func 68) #[] #[.pointer (some ⟨B, 0, none⟩)]] w fun e w' => (∃ r : Int, e = .returned (.int .i64 r) ∧ decide (r ≥ 0) = (List.range n).any p) ∧ ∃ q, w' = w.drewN q := by
  have HA := Qa.mk hcall
  clear hcall
  have HC := Qa.mk hc
  clear hc
  go_enter Tryz.func84, Tryz.ntmps84
  go_wp2
  go_loopg [5, 8] n (fun gg _ s8 wr => ∃ kk q : Nat, kk ≤ n ∧ n - kk ≤ gg ∧ s8 = .int .i64 kk ∧ wr = w.drewN q ∧ Qa (∀ j, j < kk → p j = false))
  case atStart => exact ⟨0, 0, Nat.zero_le _, by omega, rfl, rfl, ⟨fun j hj => absurd hj (Nat.not_lt_zero _)⟩⟩
  case round =>
    obtain ⟨kk, q, hkk, hg, rfl, rfl, AA⟩ := hrel
    by_cases hlt : kk < n
    · have hltz : (kk : Int) < (n : Int) := by omega
      have hcell : w.cell? (ad.add kk) = some (V kk) := HC.out kk hlt
      have hcl := fun q => HA.out kk q hlt
      generalize V kk = y at hcell hcl
      cases hq : p kk with
      | true =>
        rw [hq] at hcl
        have HQ := Qa.mk hq
        clear hq
        have HL := Qa.mk hcl
        clear hcl
        go_wp2_with fail
        refine (HL.out _).mono ?_
        rintro e w' ⟨rfl, q', rfl⟩
        go_wp2
        go_ret
        refine ⟨⟨_, rfl, ?_⟩, _, rfl⟩
        rw [List.any_eq_true.2 ⟨kk, List.mem_range.2 hlt, HQ.out⟩]
        simp
      | false =>
        rw [hq] at hcl
        have HQ := Qa.mk hq
        clear hq
        have HL := Qa.mk hcl
        clear hcl
        go_wp2_with fail
        refine (HL.out _).mono ?_
        rintro e w' ⟨rfl, q', rfl⟩
        go_wp2
        go_roundg (n - (kk + 1))
        case measure => omega
        case rel =>
          refine ⟨kk + 1, _, by omega, by omega, by go_num, rfl, ⟨fun j hj => ?_⟩⟩
          by_cases e : j = kk
          · subst e
            exact HQ.out
          · exact AA.out j (by omega)
    · have hltz : ¬ (kk : Int) < (n : Int) := by omega
      have : kk = n := by omega
      subst this
      go_wp2
      go_ret
      refine ⟨⟨_, rfl, ?_⟩, q, rfl⟩
      have e : (List.range kk).any p = false := by
        rw [List.any_eq_false]
        intro j hj
        simp [AA.out j (List.mem_range.1 hj)]
      rw [e]
      rfl
theorem cfr (V : Nat → Value) (p : Nat → Bool) (ad : Addr) (n c B : Nat) (w : World) (hbig : n ≤ 9223372036854775807) (hc : ∀ j, j < n → w.cell? (ad.add j) = some (V j))
    (hcall : ∀ j q, j < n → Calls Tryz.prog 68 #[V j, .pointer (some ⟨B, 0, none⟩)] (w.drewN q) fun e w' => e = .returned (.bool (p j)) ∧ ∃ q', w' = (w.drewN q).drewN q') :
    Calls Tryz.prog 67 #[.slice (some ad) n c, .func (.func 68) #[] #[.pointer (some ⟨B, 0, none⟩)]] w fun e w' => e = .returned (.bool ((List.range n).any p)) ∧ ∃ q, w' = w.drewN q := by
  have HA := Qa.mk hcall
  clear hcall
  have HC := Qa.mk hc
  clear hc
  go_enter Tryz.func67, Tryz.ntmps67
  go_wp2_with fail
  refine (ixr V p ad n c B _ hbig HC.out HA.out).mono ?_
  rintro e w' ⟨⟨r, rfl, hr⟩, q, rfl⟩
  have HR := Qa.mk hr
  clear hr
  go_wp2
  go_ret
  exact ⟨by show Ending.returned (.bool (decide (r ≥ 0))) = _; rw [HR.out], q, rfl⟩
theorem Qz.calls (A0 : Option Addr) (c0 : Nat) (l0 : List (List Int)) (r : Bool) (w : World) (hr0 : Kd.C (Kd.slice 3 (Kd.int .i64)) w A0 l0.length l0) (hc0 : l0.length ≤ c0) (h : Qz.f l0 = some r) :
    Calls Tryz.prog 38 #[.slice A0 l0.length c0] w fun e w' => e = .returned (.bool r) ∧ Below w.heap.size w w' := by
  obtain rfl := Option.some.inj h
  clear h
  have H0 := Qa.mk hr0
  clear hr0 hc0
  by_cases h1 : 1 ≤ l0.length ∧ l0.length ≤ 8
  rotate_left
  · have e : goodB l0 = false := by simp [goodB, h1]
    have e1 : Qu1.f (l0.length : Int) 1 8 = some false := by rw [in_is]; simp only [Option.some.injEq, decide_eq_false_iff_not]; omega
    rw [e]
    clear e
    have E1 := Qa.mk e1
    clear e1
    go_enter Tryz.func38, Tryz.ntmps38
    go_wp2_with fail
    refine (Qu1.calls _ _ _ false _ E1.out).mono ?_
    rintro e w' ⟨rfl, hd⟩
    go_wp2
    go_ret
    exact ⟨rfl, Qh (below_alloc (Below.refl _ _) _) hd.below⟩
  obtain ⟨r0, rest, rfl⟩ : ∃ r0 rest, l0 = r0 :: rest := by
    cases l0 with
    | nil => simp at h1
    | cons a b => exact ⟨a, b, rfl⟩
  obtain ⟨hlen, hmax, hrow⟩ := H0.out
  obtain ⟨ad, rfl, hel⟩ := hrow (by omega)
  have each : ∀ j, j < (r0 :: rest).length → ∃ z : Option Addr × Nat, w.cell? (ad.add j) = some (.slice z.1 ((r0 :: rest).getD j []).length z.2) ∧ ((r0 :: rest).getD j []).length ≤ z.2 ∧ (Kd.int .i64).C w z.1 ((r0 :: rest).getD j []).length ((r0 :: rest).getD j []) := by
    intro j hj
    obtain ⟨c, _, hK, hcell⟩ := hel j ((r0 :: rest).getD j []) (by rw [List.getD_eq_getElem?_getD, List.getElem?_eq_getElem hj]; rfl)
    obtain ⟨A', c', rfl, g1, g2⟩ := hK
    refine ⟨(A', c'), ?_, g1, g2⟩
    have := hcell 0 _ rfl
    have hz : (Kd.slice 3 (Kd.int .i64)).sz = 1 := rfl
    rwa [hz, Nat.mul_one, Nat.add_zero] at this
  obtain ⟨z, hz⟩ := Go.Deep.choose_lt each
  clear each hel hrow
  have hlenj : ∀ j, j < (r0 :: rest).length → ((r0 :: rest).getD j []).length ≤ 9223372036854775807 := fun j hj => (hz j hj).2.2.2.1
  have hz0 := hz 0 (by simp)
  have hc00 : w.cell? ad = some (.slice (z 0).1 r0.length (z 0).2) := hz0.1
  clear hz0
  have hc0w := fun o => alloc_keeps o hc00
  clear hc00
  by_cases h2 : 1 ≤ r0.length ∧ r0.length ≤ 8
  rotate_left
  · have e : goodB (r0 :: rest) = false := by simp [goodB, h2]
    have e1 : Qu1.f ((r0 :: rest).length : Int) 1 8 = some true := by rw [in_is]; simp only [Option.some.injEq, decide_eq_true_eq]; omega
    have e2 : Qu1.f (r0.length : Int) 1 8 = some false := by rw [in_is]; simp only [Option.some.injEq, decide_eq_false_iff_not]; omega
    rw [e]
    clear e hz hlenj hlen hmax H0
    generalize hn : (r0 :: rest).length = n at *
    have hn0 : 0 < n := by omega
    have hnz : (0 : Int) < (n : Int) := by omega
    clear hn
    have E1 := Qa.mk e1
    have E2 := Qa.mk e2
    clear e1 e2
    have hc0 := hc0w (.cells #[.slice (some ad) n c0] 24)
    clear hc0w
    go_enter Tryz.func38, Tryz.ntmps38
    go_wp2_with fail
    refine (Qu1.calls _ _ _ true _ E1.out).mono ?_
    rintro e w' ⟨rfl, ⟨q, rfl⟩⟩
    go_wp2_with fail
    refine (Qu1.calls _ _ _ false _ E2.out).mono ?_
    rintro e w' ⟨rfl, ⟨q2, rfl⟩⟩
    go_wp2
    go_ret
    exact ⟨rfl, Qi (below_alloc (Below.refl _ _) _) _⟩
  have hm : ∀ j q, j < (r0 :: rest).length → Calls Tryz.prog 68 #[.slice (z j).1 ((r0 :: rest).getD j []).length (z j).2, .pointer (some ⟨w.heap.size, 0, none⟩)] ((w.alloc (.cells #[.slice (some ad) (r0 :: rest).length c0] 24)).drewN q)
      fun e w' => e = .returned (.bool (badRow r0.length ((r0 :: rest).getD j []))) ∧ ∃ q', w' = ((w.alloc (.cells #[.slice (some ad) (r0 :: rest).length c0] 24)).drewN q).drewN q' := by
    intro j q hj
    have hB : ((w.alloc (.cells #[.slice (some ad) (r0 :: rest).length c0] 24)).drewN q).cell? ⟨w.heap.size, 0, none⟩ = some (.slice (some ad) (r0 :: rest).length c0) := by
      rw [World.cell?_drewN]
      exact cell_one_new _ _ _ 0 _ rfl
    have h0 : ((w.alloc (.cells #[.slice (some ad) (r0 :: rest).length c0] 24)).drewN q).cell? ad = some (.slice (z 0).1 r0.length (z 0).2) := by
      rw [World.cell?_drewN]
      exact hc0w _
    by_cases hne : ((r0 :: rest).getD j []).length = r0.length
    rotate_left
    · have e : badRow r0.length ((r0 :: rest).getD j []) = true := badRow_ne hne
      rw [e]
      exact af1_ne _ _ _ _ _ _ ad _ _ _ _ hB h0 (by simp) hne
    have e : badRow r0.length ((r0 :: rest).getD j []) = ((r0 :: rest).getD j []).any badH := badRow_eq hne
    rw [e]
    obtain ⟨g1, g2, g3⟩ := hz j hj
    have hl := hlenj j hj
    have g4 : (Kd.int .i64).C ((w.alloc (.cells #[.slice (some ad) (r0 :: rest).length c0] 24)).drewN q) (z j).1 ((r0 :: rest).getD j []).length ((r0 :: rest).getD j []) := Kd.C_drewN (Kd.C_alloc g3 _) _
    rw [← hne] at h0
    exact af1_eq _ _ _ _ _ ad _ _ _ _ hB h0 (by simp) g4 g2 (by omega)
  have hcell : ∀ j, j < (r0 :: rest).length → (w.alloc (.cells #[.slice (some ad) (r0 :: rest).length c0] 24)).cell? (ad.add j) = some (.slice (z j).1 ((r0 :: rest).getD j []).length (z j).2) := fun j hj => alloc_keeps _ (hz j hj).1
  have e : goodB (r0 :: rest) = !((List.range (r0 :: rest).length).any fun j => badRow r0.length ((r0 :: rest).getD j [])) := by
    have e2 : ((List.range (r0 :: rest).length).any fun j => badRow r0.length ((r0 :: rest).getD j [])) = (r0 :: rest).any (badRow r0.length) := by
      rw [Bool.eq_iff_iff, List.any_eq_true, List.any_eq_true]
      constructor
      · rintro ⟨j, hj, h⟩
        have hj' := List.mem_range.1 hj
        refine ⟨_, List.getElem_mem hj', ?_⟩
        rwa [List.getD_eq_getElem?_getD, List.getElem?_eq_getElem hj'] at h
      · rintro ⟨x, hx, h⟩
        obtain ⟨j, hj, rfl⟩ := List.mem_iff_getElem.1 hx
        refine ⟨j, List.mem_range.2 hj, ?_⟩
        rw [List.getD_eq_getElem?_getD, List.getElem?_eq_getElem hj]
        exact h
    rw [e2]
    rw [goodB_cons, decide_eq_true h1, decide_eq_true h2]
    rfl
  have e1 : Qu1.f ((r0 :: rest).length : Int) 1 8 = some true := by rw [in_is]; simp only [Option.some.injEq, decide_eq_true_eq]; omega
  have e2 : Qu1.f (r0.length : Int) 1 8 = some true := by rw [in_is]; simp only [Option.some.injEq, decide_eq_true_eq]; omega
  rw [e]
  clear e hz hlenj hlen H0
  generalize hP : (fun j => badRow r0.length ((r0 :: rest).getD j [])) = pB at *
  have hm' : ∀ j q, j < (r0 :: rest).length → Calls Tryz.prog 68 #[.slice (z j).1 ((r0 :: rest).getD j []).length (z j).2, .pointer (some ⟨w.heap.size, 0, none⟩)] ((w.alloc (.cells #[.slice (some ad) (r0 :: rest).length c0] 24)).drewN q)
      fun e w' => e = .returned (.bool (pB j)) ∧ ∃ q', w' = ((w.alloc (.cells #[.slice (some ad) (r0 :: rest).length c0] 24)).drewN q).drewN q' := by
    rw [← hP]
    exact hm
  clear hm hP
  generalize hV : (fun j => Value.slice (z j).1 ((r0 :: rest).getD j []).length (z j).2) = V
  have hV' : ∀ j, Value.slice (z j).1 ((r0 :: rest).getD j []).length (z j).2 = V j := fun j => by rw [← hV]
  simp only [hV'] at hm' hcell
  clear hV hV'
  generalize hn : (r0 :: rest).length = n at *
  have hn0 : 0 < n := by omega
  have hnz : (0 : Int) < (n : Int) := by omega
  clear hn
  have E1 := Qa.mk e1
  have E2 := Qa.mk e2
  have HM := Qa.mk hm'
  have HC := Qa.mk hcell
  clear e1 e2 hm' hcell
  have hc0 := hc0w (.cells #[.slice (some ad) n c0] 24)
  clear hc0w
  go_enter Tryz.func38, Tryz.ntmps38
  go_wp2_with fail
  refine (Qu1.calls _ _ _ true _ E1.out).mono ?_
  rintro e w' ⟨rfl, ⟨q, rfl⟩⟩
  go_wp2_with fail
  refine (Qu1.calls _ _ _ true _ E2.out).mono ?_
  rintro e w' ⟨rfl, ⟨q2, rfl⟩⟩
  go_wp2_with fail
  have hcw : ∀ j, j < n → ((w.alloc (.cells #[.slice (some ad) n c0] 24)).drewN (q + q2)).cell? (ad.add j) = some (V j) := fun j hj => by
    rw [World.cell?_drewN]
    exact HC.out j hj
  have hmw : ∀ j k, j < n → Calls Tryz.prog 68 #[V j, .pointer (some ⟨w.heap.size, 0, none⟩)] (((w.alloc (.cells #[.slice (some ad) n c0] 24)).drewN (q + q2)).drewN k)
      fun e w' => e = .returned (.bool (pB j)) ∧ ∃ q', w' = (((w.alloc (.cells #[.slice (some ad) n c0] 24)).drewN (q + q2)).drewN k).drewN q' := fun j k hj => by
    rw [World.drewN_drewN]
    exact HM.out j _ hj
  have HCW := Qa.mk hcw
  have HMW := Qa.mk hmw
  clear hcw hmw
  refine (cfr V pB ad n c0 w.heap.size _ hmax HCW.out HMW.out).mono ?_
  rintro e w' ⟨rfl, q3, rfl⟩
  go_wp2
  go_ret
  exact ⟨rfl, Qi (below_alloc (Below.refl _ _) _) _⟩
end Go.Proofs.YtohhlkehglahhaaGreatDoor.A
