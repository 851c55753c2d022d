/- countSorted of the program: in how many ways rows are filled on, by a map of known ones: its contract, by hand. No condition. -/
import Derived.Test.YtohhlkehglahhaaGreatDoorAx4
import Derived.Test.YtohhlkehglahhaaGreatDoorPureSyt
import Derived.Test.YtohhlkehglahhaaGreatDoorWW
import Derived.Test.YtohhlkehglahhaaGreatDoorX
import Derived.Maps.OwnSet
import Derived.Maps.Own
import Derived.WideKeyPair
import Derived.KernelRfl
namespace Go.Proofs.YtohhlkehglahhaaGreatDoor.A
open Go.RowKit Go.Maps Go.WideMaps Go.Proofs.YtohhlkehglahhaaGreatDoor.Syt Go.Proofs.YtohhlkehglahhaaGreatDoorW.PrintWords Go.Proofs.YtohhlkehglahhaaGreatDoorW.PrintLast Go.Proofs.YtohhlkehglahhaaGreatDoorW.PrintMore Go.Proofs.YtohhlkehglahhaaGreatDoor.X
set_option linter.unusedVariables false
set_option linter.unusedSimpArgs false
theorem arrK : ArrKey Tryz.prog 65 3 4 := ⟨Tryz.underlying65, by kernel_rfl, by kernel_rfl, by kernel_rfl⟩
theorem lawK : Keyed Tryz.prog 65 := Keyed.of_law arrK.law
theorem zeroK (w : World) : (zeroValue 3).run Tryz.prog w = .ok (.int .i64 0) w := by kernel_rfl
theorem sizeK : ∃ m, Tryz.prog.types.size = m + 1 := ⟨Tryz.prog.types.size - 1, by kernel_rfl⟩
def kV (a b d e : Int) : Value := .agg #[.int .i64 a, .int .i64 b, .int .i64 d, .int .i64 e]
def kL (a b d e : Int) : Lit := .string (keyBytes [.int .i64 a, .int .i64 b, .int .i64 d, .int .i64 e])
theorem keyOf_four {a b d e : Int} (wa : (Lit.int .i64 a).wf = true) (wb : (Lit.int .i64 b).wf = true) (wd : (Lit.int .i64 d).wf = true) (we : (Lit.int .i64 e).wf = true) : keyOf Tryz.prog 65 (kV a b d e) = some (kL a b d e) := by
  have hkt := arrK.keyType sizeK
  obtain ⟨m, hm⟩ := sizeK
  unfold keyOf kV kL
  simp only [arrK.hu]
  rw [if_pos (by simp [hkt, Value.formed, arrK.hu, arrK.size]), hm]
  unfold Program.keyLits
  simp only [arrK.hu, Value.cells]
  rw [if_pos (by rw [arrK.size]; rfl), show List.range 4 = [0, 1, 2, 3] from rfl, List.mapM_cons, List.mapM_cons, List.mapM_cons, List.mapM_cons, List.mapM_nil]
  simp [arrK.one, Program.keyLits, Tryz.underlying3, wa, wb, wd, we]
theorem wf_low {n : Nat} (h : n ≤ 1000000000) : (Lit.int .i64 (n : Int)).wf = true := WalkArith.wf_i64 (by omega)
def kN (a b d e : Nat) : Lit := kL a b d e
theorem key_at {a b d e : Nat} (ha : a ≤ 5) (hb : b ≤ 5) (hd : d ≤ 5) (he : e ≤ 5) : keyOf Tryz.prog 65 (kV a b d e) = some (kN a b d e) := keyOf_four (wf_low (by omega)) (wf_low (by omega)) (wf_low (by omega)) (wf_low (by omega))
theorem key_inj {a b d e a' b' d' e' : Nat} (ha : a ≤ 5) (hb : b ≤ 5) (hd : d ≤ 5) (he : e ≤ 5) (ha' : a' ≤ 5) (hb' : b' ≤ 5) (hd' : d' ≤ 5) (he' : e' ≤ 5) (h : kN a b d e = kN a' b' d' e') : a = a' ∧ b = b' ∧ d = d' ∧ e = e' := by
  have h1 := key_at ha hb hd he
  have h2 := key_at ha' hb' hd' he'
  rw [← h] at h2
  have h3 := lawK.inj h1 h2
  unfold kV at h3
  injection h3 with h3
  simp only [Array.mk.injEq, List.cons.injEq, Value.int.injEq, true_and, and_true] at h3
  omega
structure Known (r c : Nat) (D : DataW Unit) : Prop where
  isMap : IsMap D
  at_ : ∀ a b d e : Nat, valid r c a b d e = true → Maps.has D (kN a b d e) = true → D.atKey (kN a b d e) (.lit (.int .i64 0)) = .lit (.int .i64 (val r c a b d e))
theorem known_empty (r c : Nat) : Known r c (.map []) := ⟨isMap_empty, fun _ _ _ _ _ h => by simp [Maps.has] at h⟩
theorem valid_low {r c a b d e : Nat} (hc : c ≤ 5) (h : valid r c a b d e = true) : a ≤ 5 ∧ b ≤ 5 ∧ d ≤ 5 ∧ e ≤ 5 := by
  have := valid_iff.1 h
  omega
theorem Known.put {r c : Nat} (hc : c ≤ 5) {D : DataW Unit} (h : Known r c D) {a b d e : Nat} (hv : valid r c a b d e = true) : Known r c (D.put (kN a b d e) (.lit (.int .i64 (val r c a b d e)))) := by
  refine ⟨h.isMap.put _ _, fun a' b' d' e' hv' hh => ?_⟩
  obtain ⟨l1, l2, l3, l4⟩ := valid_low hc hv
  obtain ⟨m1, m2, m3, m4⟩ := valid_low hc hv'
  by_cases hk : kN a' b' d' e' = kN a b d e
  · obtain ⟨rfl, rfl, rfl, rfl⟩ := key_inj m1 m2 m3 m4 l1 l2 l3 l4 hk
    exact atKey_put_same h.isMap (lawK.key (key_at l1 l2 l3 l4)) _ _
  · rw [atKey_put_other hk]
    rw [has_put_other hk] at hh
    exact h.at_ a' b' d' e' hv' hh
def tt : Nat → Nat
  | 0 => 1
  | m + 1 => 1 + 4 * tt m
theorem grown_cell {W W' : World} {B b : Nat} {cur : Array Value} {t : TypeId} {f : Nat × Nat} (h : W.heap[b]? = some (.cells cur t f)) (hg : W.grownBy W' (some B)) (hne : b ≠ B) : W'.heap[b]? = some (.cells cur t f) :=
  (hg.block b (Array.getElem?_eq_some_iff.1 h).1 (fun e => hne (by injection e))).trans h
theorem box4_cell {W : World} {b : Nat} {v0 v1 v2 v3 : Value} {t : TypeId} (h : W.heap[b]? = some (.cells #[v0, v1, v2, v3] t (0, 0))) : (W.cell? ⟨b, 0, none⟩ = some v0 ∧ W.cell? ⟨b, 1, none⟩ = some v1 ∧ W.cell? ⟨b, 2, none⟩ = some v2 ∧ W.cell? ⟨b, 3, none⟩ = some v3) ∧ ∀ i, W.frozen? ⟨b, i, none⟩ = false := by
  refine ⟨⟨?_, ?_, ?_, ?_⟩, fun i => ?_⟩ <;> simp [World.cell?, World.frozen?, h]
set_option maxRecDepth 100000 in
set_option maxHeartbeats 4000000 in
theorem count_known (r c : Nat) (hr : 1 ≤ r ∧ r ≤ 4) (hc : 1 ≤ c ∧ c ≤ 5) (a b d e : Nat) (hv : valid r c a b d e = true) (w : World) (B n : Nat) (D : DataW Unit) (hown : w.ownsMap Tryz.prog 65 (plainElem Tryz.prog 3) B n D) (hD : Known r c D) (hh : Maps.has D (kN a b d e) = true) :
    Calls Tryz.prog 52 #[kV a b d e, .int .i64 r, .int .i64 c, .map (some B)] w fun en w' => en = .returned (.int .i64 (val r c a b d e)) ∧ ∃ n' D', w'.ownsMap Tryz.prog 65 (plainElem Tryz.prog 3) B n' D' ∧ Known r c D' ∧ n' ≤ n + 1 ∧ w.grownBy w' (some B) := by
  obtain ⟨l1, l2, l3, l4⟩ := valid_low hc.2 hv
  have HK := Qa.mk (key_at l1 l2 l3 l4)
  have HA := Qa.mk (hD.at_ a b d e hv hh)
  have HO := Qa.mk hown
  unfold kV at *
  clear hown l1 l2 l3 l4
  go_enter Tryz.func52, Tryz.ntmps52
  go_wp2_with ((at_lookup; refine wpList_lookup_own_ok_int _ rfl _ _ 66 rfl 65 3 .i64 lawK Tryz.underlying66 Tryz.underlying3 (zeroK _) B n D rfl (HO.out.alloc _) _ _ rfl HK.out ?_; intro cv hat hwc; rw [hh]; rw [HA.out] at hat; injection hat with hat; injection hat with _ hat; subst hat; clear hwc))
  go_ret
  exact ⟨rfl, n, D, HO.out.alloc _, hD, by omega, World.grownBy_alloc _ _ _⟩
theorem new_block (w : World) (o : Obj) : (w.alloc o).heap[w.heap.size]? = some o := (MapKept.heap_alloc w _).1
theorem nb {a c : Nat} (h : a ≠ c) : Nat.beq a c = false := by
  cases h2 : Nat.beq a c with
  | false => rfl
  | true => exact absurd (Nat.eq_of_beq_eq_true h2) h
theorem psum_step (r c a b d e k : Nat) : psum r c a b d e k ≤ psum r c a b d e (k + 1) := by
  match k with
  | 0 => simp [psum]
  | 1 => simp [psum]
  | 2 => simp [psum]
  | 3 => simp [psum]
  | k + 4 => simp [psum]
theorem psum_le (r c a b d e : Nat) {k m : Nat} (h : k ≤ m) : psum r c a b d e k ≤ psum r c a b d e m := by
  induction h with
  | refl => exact Nat.le_refl _
  | step _ ih => exact Nat.le_trans ih (psum_step r c a b d e _)
theorem adv {p v q : Nat} (h : q ≤ 2000000) (e : q = p + v) : wrap64 ((p : Int) + (v : Int)) = (q : Int) := by
  unfold wrap64
  omega
theorem gb_refl (w : World) (row : Option Nat) : w.grownBy w row := ⟨rfl, rfl, rfl, Nat.le_refl _, fun _ _ _ => rfl⟩
theorem gb_drew {w W : World} {row : Option Nat} (h : w.grownBy W row) : w.grownBy W.drew row := ⟨h.os, h.tape, h.output, h.size, h.block⟩
set_option maxRecDepth 100000 in
set_option maxHeartbeats 4000000 in
theorem count_new (r c : Nat) (hr : 1 ≤ r ∧ r ≤ 4) (hc : 1 ≤ c ∧ c ≤ 5) (a b d e : Nat) (hv : valid r c a b d e = true) (T' B : Nat)
    (Hrec : ∀ (a' b' d' e' : Nat) (ya yb yd ye zr zc : Int), ya = a' → yb = b' → yd = d' → ye = e' → zr = r → zc = c → valid r c a' b' d' e' = true → a' + b' + d' + e' = a + b + d + e + 1 → ∀ (w : World) (n : Nat) (D : DataW Unit), w.ownsMap Tryz.prog 65 (plainElem Tryz.prog 3) B n D → Known r c D → n + T' ≤ 4611686018427387904 →
      Calls Tryz.prog 52 #[.agg #[.int .i64 ya, .int .i64 yb, .int .i64 yd,   .int .i64 ye], .int .i64 zr, .int .i64 zc, .map (some B)] w fun en w' => en = .returned (.int .i64 (val r c a' b' d' e')) ∧ ∃ n' D', w'.ownsMap Tryz.prog 65 (plainElem Tryz.prog 3) B n' D' ∧ Known r c D' ∧ n' ≤ n + T' ∧ w.grownBy w' (some B))
    (w : World) (n : Nat) (D : DataW Unit) (hown : w.ownsMap Tryz.prog 65 (plainElem Tryz.prog 3) B n D) (hD : Known r c D) (hn : n + (1 + 4 * T') ≤ 4611686018427387904) (hh : Maps.has D (kN a b d e) = false) :
    Calls Tryz.prog 52 #[kV a b d e, .int .i64 r, .int .i64 c, .map (some B)] w fun en w' => en = .returned (.int .i64 (val r c a b d e)) ∧ ∃ n' D', w'.ownsMap Tryz.prog 65 (plainElem Tryz.prog 3) B n' D' ∧ Known r c D' ∧ n' ≤ n + (1 + 4 * T') ∧ w.grownBy w' (some B) := by
  obtain ⟨l1, l2, l3, l4⟩ := valid_low hc.2 hv
  have HK := Qa.mk (key_at l1 l2 l3 l4)
  have HO := Qa.mk hown
  have HV := Qa.mk hv
  have HN := Qa.mk hn
  have HKD := Qa.mk hD
  have HX := Qa.mk (chk_at hr hc hv)
  have HRC := Qa.mk (And.intro hr hc)
  have HRec := Qa.mk Hrec
  have hBw : w.heap.size ≠ B := fun h => by have := hown.lt; omega
  have HBW := Qa.mk hBw
  unfold kV at *
  obtain ⟨xa, hxa⟩ : ∃ x : Int, x = (a : Int) := ⟨_, rfl⟩
  obtain ⟨xb, hxb⟩ : ∃ x : Int, x = (b : Int) := ⟨_, rfl⟩
  obtain ⟨xd, hxd⟩ : ∃ x : Int, x = (d : Int) := ⟨_, rfl⟩
  obtain ⟨xe, hxe⟩ : ∃ x : Int, x = (e : Int) := ⟨_, rfl⟩
  obtain ⟨xc, hxc⟩ : ∃ x : Int, x = (c : Int) := ⟨_, rfl⟩
  obtain ⟨xr, hxr⟩ : ∃ x : Int, x = (r : Int) := ⟨_, rfl⟩
  rw [← hxa, ← hxb, ← hxd, ← hxe] at HK
  rw [← hxa, ← hxb, ← hxd, ← hxe, ← hxc, ← hxr]
  have HXX := Qa.mk (And.intro hxa (And.intro hxb (And.intro hxd (And.intro hxe (And.intro hxc hxr)))))
  have HL := Qa.mk (And.intro l1 (And.intro l2 (And.intro l3 l4)))
  have hbox := new_block w (.cells #[.int .i64 xa, .int .i64 xb, .int .i64 xd, .int .i64 xe] 65)
  have HBX := Qa.mk hbox
  clear hown l1 l2 l3 l4 hv hn hD hr hc Hrec hBw hxa hxb hxd hxe hxc hxr hbox
  go_enter Tryz.func52, Tryz.ntmps52
  go_wp2_with ((at_lookup; refine wpList_lookup_own_ok_int _ rfl _ _ 66 rfl 65 3 .i64 lawK Tryz.underlying66 Tryz.underlying3 (zeroK _) B n D rfl (HO.out.alloc _) _ _ rfl HK.out ?_; intro cv hat hwc; rw [hh]; clear hwc hat))
  go_loopw [11, 12, 24] (fun v11 v12 v24 wr => ∃ (k : Nat) (ki ps : Int) (pw : Bool), k ≤ r ∧ v24 = .int .i64 ki ∧ v11 = .int .i64 ps ∧ v12 = .bool pw ∧ Qa (ki = (k : Int)) ∧ Qa (ps = (psum r c a b d e k : Nat) ∧ pw = pwhole c a b d e k) ∧ Qa (∃ n' D', wr.ownsMap Tryz.prog 65 (plainElem Tryz.prog 3) B n' D' ∧ Known r c D' ∧ n' ≤ n + k * T') ∧ Qa ((w.alloc (.cells #[.int .i64 xa, .int .i64 xb, .int .i64 xd, .int .i64 xe] 65)).grownBy wr (some B)))
    (fun _ _ v _ => r - (intOf v).toNat)
  case atStart => exact ⟨0, 0, 0, true, Nat.zero_le _, rfl, rfl, rfl, ⟨rfl⟩, ⟨⟨rfl, rfl⟩⟩, ⟨⟨n, D, HO.out.alloc _, HKD.out, by omega⟩⟩, ⟨gb_refl _ _⟩⟩
  case round =>
    obtain ⟨k, ki, ps, pw, hk, rfl, rfl, rfl, HKI, HP, HM, HG⟩ := hrel
    obtain ⟨n', D', ho, hD', hn'⟩ := HM.out
    have HO1 := Qa.mk ho
    have HD1 := Qa.mk hD'
    have HN1 := Qa.mk hn'
    obtain ⟨⟨ca, cb, cd, ce⟩, hfz⟩ := box4_cell (grown_cell HBX.out HG.out HBW.out)
    clear ho hD' hn' HM
    by_cases hlt : k < r
    · have hr4 := HRC.out.1.2
      obtain rfl | rfl | rfl | rfl : k = 0 ∨ k = 1 ∨ k = 2 ∨ k = 3 := by omega
      · obtain rfl : ki = 0 := by have := HKI.out; omega
        have hq : decide ((0 : Int) < xr) = true := decide_eq_true (by have := HXX.out.2.2.2.2.2; omega)
        by_cases hf : a = c
        · have hg : (xa == xc) = true := beq_iff_eq.2 (by have := HXX.out; omega)
          have HF := Qa.mk hf
          clear hf
          go_wp2
          go_roundw
          case rel => exact ⟨1, _, _, _, by have := hlt; omega, rfl, rfl, rfl, ⟨by decide⟩, ⟨⟨HP.out.1.trans (by simp [psum, t0, HF.out]), HP.out.2.trans (by simp [pwhole, HF.out, Nat.beq_refl])⟩⟩, ⟨⟨_, _, HO1.out, HD1.out, by have := HN1.out; omega⟩⟩, HG⟩
          case measure => simp [intOf]; omega
        · have hg : (xa == xc) = false := beq_eq_false_iff_ne.2 (by have := HXX.out; omega)
          have HF := Qa.mk (And.intro hf trivial)
          clear hf
          have hv' : valid r c (a + 1) b d e = true := valid_iff.2 (by have h1 := valid_iff.1 HV.out; have h2 := HF.out; omega)
          have HV' := Qa.mk hv'
          have hw1 : wrap64 (xa + 1) = ((a + 1 : Nat) : Int) := by have h1 := HXX.out; have h2 := HL.out; unfold wrap64; omega
          have HW1 := Qa.mk hw1
          clear hv' hw1
          go_wp2
          go_region
          go_wp2_with ((go_at_call 52; (with_reducible refine (HRec.out (a + 1) b d e (wrap64 (xa + 1)) xb xd xe xr xc ?e1 ?e2 ?e3 ?e4 ?e5 ?e6 HV'.out ?hs _ n' D' ?ho HD1.out ?hn).mono ?_); (case e1 => exact HW1.out); (case e2 => exact HXX.out.2.1); (case e3 => exact HXX.out.2.2.1); (case e4 => exact HXX.out.2.2.2.1); (case e5 => exact HXX.out.2.2.2.2.2); (case e6 => exact HXX.out.2.2.2.2.1); (case hs => omega); (case ho => exact (HO1.out.alloc _).drew); (case hn => have h1 := HN1.out; have h2 := HN.out; omega); rintro en w2 ⟨rfl, n2, D2, ho2, hD2, hn2, hg2⟩; have HO2 := Qa.mk ho2; have HD2 := Qa.mk hD2; have HN2 := Qa.mk hn2; have HG2 := Qa.mk hg2; clear ho2 hD2 hn2 hg2))
          go_roundw
          case rel => exact ⟨1, _, _, _, by have := hlt; omega, rfl, rfl, rfl, ⟨by decide⟩, ⟨⟨by rw [HP.out.1]; exact adv (by have h1 := HX.out.2.2; have h2 := psum_le r c a b d e (show 1 ≤ r by omega); omega) (by simp [psum, t0, HF.out.1]), by simp [pwhole, nb HF.out.1]⟩⟩, ⟨⟨_, _, HO2.out, HD2.out, by have h1 := HN1.out; have h2 := HN2.out; omega⟩⟩, ⟨(gb_drew (HG.out.trans (World.grownBy_alloc _ _ _))).trans HG2.out⟩⟩
          case measure => simp [intOf]; omega
      · obtain rfl : ki = 1 := by have := HKI.out; omega
        have hq : decide ((1 : Int) < xr) = true := decide_eq_true (by have := HXX.out.2.2.2.2.2; omega)
        by_cases hf : b = c
        · have hg : (xb == xc) = true := beq_iff_eq.2 (by have := HXX.out; omega)
          have HF := Qa.mk hf
          clear hf
          go_wp2
          go_roundw
          case rel => exact ⟨2, _, _, _, by have := hlt; omega, rfl, rfl, rfl, ⟨by decide⟩, ⟨⟨HP.out.1.trans (by simp [psum, t1, HF.out]), HP.out.2.trans (by simp [pwhole, HF.out, Nat.beq_refl])⟩⟩, ⟨⟨_, _, HO1.out, HD1.out, by have := HN1.out; omega⟩⟩, HG⟩
          case measure => simp [intOf]; omega
        · have hg : (xb == xc) = false := beq_eq_false_iff_ne.2 (by have := HXX.out; omega)
          by_cases hp : b < a
          rotate_left
          · have hz : decide (xb < xa) = false := decide_eq_false (by have := HXX.out; omega)
            have HF := Qa.mk (And.intro hf hp)
            clear hf hp
            go_wp2
            go_region
            go_wp2
            go_roundw
            case rel => exact ⟨2, _, _, _, by have := hlt; omega, rfl, rfl, rfl, ⟨by decide⟩, ⟨⟨HP.out.1.trans (by simp [psum, t1, HF.out.1, HF.out.2]), by simp [pwhole, nb HF.out.1]⟩⟩, ⟨⟨_, _, HO1.out.drew, HD1.out, by have := HN1.out; omega⟩⟩, ⟨gb_drew HG.out⟩⟩
            case measure => simp [intOf]; omega
          have hz : decide (xb < xa) = true := decide_eq_true (by have := HXX.out; omega)
          have HF := Qa.mk (And.intro hf hp)
          clear hf hp
          have hv' : valid r c a (b + 1) d e = true := valid_iff.2 (by have h1 := valid_iff.1 HV.out; have h2 := HF.out; omega)
          have HV' := Qa.mk hv'
          have hw1 : wrap64 (xb + 1) = ((b + 1 : Nat) : Int) := by have h1 := HXX.out; have h2 := HL.out; unfold wrap64; omega
          have HW1 := Qa.mk hw1
          clear hv' hw1
          go_wp2
          go_region
          go_wp2_with ((go_at_call 52; (with_reducible refine (HRec.out a (b + 1) d e xa (wrap64 (xb + 1)) xd xe xr xc ?e1 ?e2 ?e3 ?e4 ?e5 ?e6 HV'.out ?hs _ n' D' ?ho HD1.out ?hn).mono ?_); (case e1 => exact HXX.out.1); (case e2 => exact HW1.out); (case e3 => exact HXX.out.2.2.1); (case e4 => exact HXX.out.2.2.2.1); (case e5 => exact HXX.out.2.2.2.2.2); (case e6 => exact HXX.out.2.2.2.2.1); (case hs => omega); (case ho => exact (HO1.out.alloc _).drew); (case hn => have h1 := HN1.out; have h2 := HN.out; omega); rintro en w2 ⟨rfl, n2, D2, ho2, hD2, hn2, hg2⟩; have HO2 := Qa.mk ho2; have HD2 := Qa.mk hD2; have HN2 := Qa.mk hn2; have HG2 := Qa.mk hg2; clear ho2 hD2 hn2 hg2))
          go_roundw
          case rel => exact ⟨2, _, _, _, by have := hlt; omega, rfl, rfl, rfl, ⟨by decide⟩, ⟨⟨by rw [HP.out.1]; exact adv (by have h1 := HX.out.2.2; have h2 := psum_le r c a b d e (show 2 ≤ r by omega); omega) (by simp [psum, t1, HF.out.1, HF.out.2]), by simp [pwhole, nb HF.out.1]⟩⟩, ⟨⟨_, _, HO2.out, HD2.out, by have h1 := HN1.out; have h2 := HN2.out; omega⟩⟩, ⟨(gb_drew (HG.out.trans (World.grownBy_alloc _ _ _))).trans HG2.out⟩⟩
          case measure => simp [intOf]; omega
      · obtain rfl : ki = 2 := by have := HKI.out; omega
        have hq : decide ((2 : Int) < xr) = true := decide_eq_true (by have := HXX.out.2.2.2.2.2; omega)
        by_cases hf : d = c
        · have hg : (xd == xc) = true := beq_iff_eq.2 (by have := HXX.out; omega)
          have HF := Qa.mk hf
          clear hf
          go_wp2
          go_roundw
          case rel => exact ⟨3, _, _, _, by have := hlt; omega, rfl, rfl, rfl, ⟨by decide⟩, ⟨⟨HP.out.1.trans (by simp [psum, t2, HF.out]), HP.out.2.trans (by simp [pwhole, HF.out, Nat.beq_refl])⟩⟩, ⟨⟨_, _, HO1.out, HD1.out, by have := HN1.out; omega⟩⟩, HG⟩
          case measure => simp [intOf]; omega
        · have hg : (xd == xc) = false := beq_eq_false_iff_ne.2 (by have := HXX.out; omega)
          by_cases hp : d < b
          rotate_left
          · have hz : decide (xd < xb) = false := decide_eq_false (by have := HXX.out; omega)
            have HF := Qa.mk (And.intro hf hp)
            clear hf hp
            go_wp2
            go_region
            go_wp2
            go_roundw
            case rel => exact ⟨3, _, _, _, by have := hlt; omega, rfl, rfl, rfl, ⟨by decide⟩, ⟨⟨HP.out.1.trans (by simp [psum, t2, HF.out.1, HF.out.2]), by simp [pwhole, nb HF.out.1]⟩⟩, ⟨⟨_, _, HO1.out.drew, HD1.out, by have := HN1.out; omega⟩⟩, ⟨gb_drew HG.out⟩⟩
            case measure => simp [intOf]; omega
          have hz : decide (xd < xb) = true := decide_eq_true (by have := HXX.out; omega)
          have HF := Qa.mk (And.intro hf hp)
          clear hf hp
          have hv' : valid r c a b (d + 1) e = true := valid_iff.2 (by have h1 := valid_iff.1 HV.out; have h2 := HF.out; omega)
          have HV' := Qa.mk hv'
          have hw1 : wrap64 (xd + 1) = ((d + 1 : Nat) : Int) := by have h1 := HXX.out; have h2 := HL.out; unfold wrap64; omega
          have HW1 := Qa.mk hw1
          clear hv' hw1
          go_wp2
          go_region
          go_wp2_with ((go_at_call 52; (with_reducible refine (HRec.out a b (d + 1) e xa xb (wrap64 (xd + 1)) xe xr xc ?e1 ?e2 ?e3 ?e4 ?e5 ?e6 HV'.out ?hs _ n' D' ?ho HD1.out ?hn).mono ?_); (case e1 => exact HXX.out.1); (case e2 => exact HXX.out.2.1); (case e3 => exact HW1.out); (case e4 => exact HXX.out.2.2.2.1); (case e5 => exact HXX.out.2.2.2.2.2); (case e6 => exact HXX.out.2.2.2.2.1); (case hs => omega); (case ho => exact (HO1.out.alloc _).drew); (case hn => have h1 := HN1.out; have h2 := HN.out; omega); rintro en w2 ⟨rfl, n2, D2, ho2, hD2, hn2, hg2⟩; have HO2 := Qa.mk ho2; have HD2 := Qa.mk hD2; have HN2 := Qa.mk hn2; have HG2 := Qa.mk hg2; clear ho2 hD2 hn2 hg2))
          go_roundw
          case rel => exact ⟨3, _, _, _, by have := hlt; omega, rfl, rfl, rfl, ⟨by decide⟩, ⟨⟨by rw [HP.out.1]; exact adv (by have h1 := HX.out.2.2; have h2 := psum_le r c a b d e (show 3 ≤ r by omega); omega) (by simp [psum, t2, HF.out.1, HF.out.2]), by simp [pwhole, nb HF.out.1]⟩⟩, ⟨⟨_, _, HO2.out, HD2.out, by have h1 := HN1.out; have h2 := HN2.out; omega⟩⟩, ⟨(gb_drew (HG.out.trans (World.grownBy_alloc _ _ _))).trans HG2.out⟩⟩
          case measure => simp [intOf]; omega
      · obtain rfl : ki = 3 := by have := HKI.out; omega
        have hq : decide ((3 : Int) < xr) = true := decide_eq_true (by have := HXX.out.2.2.2.2.2; omega)
        by_cases hf : e = c
        · have hg : (xe == xc) = true := beq_iff_eq.2 (by have := HXX.out; omega)
          have HF := Qa.mk hf
          clear hf
          go_wp2
          go_roundw
          case rel => exact ⟨4, _, _, _, by have := hlt; omega, rfl, rfl, rfl, ⟨by decide⟩, ⟨⟨HP.out.1.trans (by simp [psum, t3, HF.out]), HP.out.2.trans (by simp [pwhole, HF.out, Nat.beq_refl])⟩⟩, ⟨⟨_, _, HO1.out, HD1.out, by have := HN1.out; omega⟩⟩, HG⟩
          case measure => simp [intOf]; omega
        · have hg : (xe == xc) = false := beq_eq_false_iff_ne.2 (by have := HXX.out; omega)
          by_cases hp : e < d
          rotate_left
          · have hz : decide (xe < xd) = false := decide_eq_false (by have := HXX.out; omega)
            have HF := Qa.mk (And.intro hf hp)
            clear hf hp
            go_wp2
            go_region
            go_wp2
            go_roundw
            case rel => exact ⟨4, _, _, _, by have := hlt; omega, rfl, rfl, rfl, ⟨by decide⟩, ⟨⟨HP.out.1.trans (by simp [psum, t3, HF.out.1, HF.out.2]), by simp [pwhole, nb HF.out.1]⟩⟩, ⟨⟨_, _, HO1.out.drew, HD1.out, by have := HN1.out; omega⟩⟩, ⟨gb_drew HG.out⟩⟩
            case measure => simp [intOf]; omega
          have hz : decide (xe < xd) = true := decide_eq_true (by have := HXX.out; omega)
          have HF := Qa.mk (And.intro hf hp)
          clear hf hp
          have hv' : valid r c a b d (e + 1) = true := valid_iff.2 (by have h1 := valid_iff.1 HV.out; have h2 := HF.out; omega)
          have HV' := Qa.mk hv'
          have hw1 : wrap64 (xe + 1) = ((e + 1 : Nat) : Int) := by have h1 := HXX.out; have h2 := HL.out; unfold wrap64; omega
          have HW1 := Qa.mk hw1
          clear hv' hw1
          go_wp2
          go_region
          go_wp2_with ((go_at_call 52; (with_reducible refine (HRec.out a b d (e + 1) xa xb xd (wrap64 (xe + 1)) xr xc ?e1 ?e2 ?e3 ?e4 ?e5 ?e6 HV'.out ?hs _ n' D' ?ho HD1.out ?hn).mono ?_); (case e1 => exact HXX.out.1); (case e2 => exact HXX.out.2.1); (case e3 => exact HXX.out.2.2.1); (case e4 => exact HW1.out); (case e5 => exact HXX.out.2.2.2.2.2); (case e6 => exact HXX.out.2.2.2.2.1); (case hs => omega); (case ho => exact (HO1.out.alloc _).drew); (case hn => have h1 := HN1.out; have h2 := HN.out; omega); rintro en w2 ⟨rfl, n2, D2, ho2, hD2, hn2, hg2⟩; have HO2 := Qa.mk ho2; have HD2 := Qa.mk hD2; have HN2 := Qa.mk hn2; have HG2 := Qa.mk hg2; clear ho2 hD2 hn2 hg2))
          go_roundw
          case rel => exact ⟨4, _, _, _, by have := hlt; omega, rfl, rfl, rfl, ⟨by decide⟩, ⟨⟨by rw [HP.out.1]; exact adv (by have h1 := HX.out.2.2; have h2 := psum_le r c a b d e (show 4 ≤ r by omega); omega) (by simp [psum, t3, HF.out.1, HF.out.2]), by simp [pwhole, nb HF.out.1]⟩⟩, ⟨⟨_, _, HO2.out, HD2.out, by have h1 := HN1.out; have h2 := HN2.out; omega⟩⟩, ⟨(gb_drew (HG.out.trans (World.grownBy_alloc _ _ _))).trans HG2.out⟩⟩
          case measure => simp [intOf]; omega
    · obtain rfl : k = r := by omega
      have hq : decide (ki < xr) = false := decide_eq_false (by have h1 := HKI.out; have h2 := HXX.out.2.2.2.2.2; omega)
      have HT := Qa.mk (Nat.mul_le_mul_right T' HRC.out.1.2)
      have hX := HX.out.1
      rw [← HP.out.2] at hX
      cases pw with
      | true =>
        rw [if_pos rfl] at hX
        have HVAL : Qa ((1 : Int) = ((val k c a b d e : Nat) : Int)) := ⟨by rw [← hX]; rfl⟩
        have HWF : Qa ((Lit.int .i64 1).wf = true) := ⟨by decide⟩
        clear hX
        go_wp2_with ((at_mapUpdate; refine wpList_mapUpdate_own _ rfl _ _ _ 66 rfl 65 3 lawK Tryz.underlying66 _ B n' _ rfl HO1.out ?lt _ _ _ rfl rfl HK.out _ [] (plainElem_int Tryz.underlying3 ?wf) ?_; (case lt => have h1 := HN.out; have h2 := HT.out; have h3 := HN1.out; unfold maxLen; omega); (case wf => exact HWF.out); intro w1 hown1 hgrow1))
        go_ret
        refine ⟨by rw [HVAL.out]; exact rfl, n' + 1, _, hown1, ?_, by have h2 := HT.out; have h3 := HN1.out; omega, (World.grownBy_alloc _ _ _).trans (HG.out.trans hgrow1)⟩
        rw [HVAL.out]
        exact HD1.out.put HRC.out.2.2 HV.out
      | false =>
        rw [if_neg (by decide)] at hX
        have HVAL : Qa (ps = ((val k c a b d e : Nat) : Int)) := ⟨by rw [← hX]; exact HP.out.1⟩
        have HWF : Qa ((Lit.int .i64 ps).wf = true) := ⟨by rw [HVAL.out]; exact wf_low (by have := HX.out.2.1; omega)⟩
        clear hX
        go_wp2_with ((at_mapUpdate; refine wpList_mapUpdate_own _ rfl _ _ _ 66 rfl 65 3 lawK Tryz.underlying66 _ B n' _ rfl HO1.out ?lt _ _ _ rfl rfl HK.out _ [] (plainElem_int Tryz.underlying3 ?wf) ?_; (case lt => have h1 := HN.out; have h2 := HT.out; have h3 := HN1.out; unfold maxLen; omega); (case wf => exact HWF.out); intro w1 hown1 hgrow1))
        go_ret
        refine ⟨by rw [HVAL.out]; exact rfl, n' + 1, _, hown1, ?_, by have h2 := HT.out; have h3 := HN1.out; omega, (World.grownBy_alloc _ _ _).trans (HG.out.trans hgrow1)⟩
        rw [HVAL.out]
        exact HD1.out.put HRC.out.2.2 HV.out
theorem valid_sum {r c a b d e : Nat} (hr : 1 ≤ r ∧ r ≤ 4) (hv : valid r c a b d e = true) : a + b + d + e ≤ r * c := by
  have h := valid_iff.1 hv
  obtain rfl | rfl | rfl | rfl : r = 1 ∨ r = 2 ∨ r = 3 ∨ r = 4 := by omega
  all_goals omega
theorem count_all (r c : Nat) (hr : 1 ≤ r ∧ r ≤ 4) (hc : 1 ≤ c ∧ c ≤ 5) (B : Nat) (m : Nat) : ∀ (a b d e : Nat), valid r c a b d e = true → a + b + d + e + m = r * c → ∀ (w : World) (n : Nat) (D : DataW Unit), w.ownsMap Tryz.prog 65 (plainElem Tryz.prog 3) B n D → Known r c D → n + tt m ≤ 4611686018427387904 →
      Calls Tryz.prog 52 #[kV a b d e, .int .i64 r, .int .i64 c, .map (some B)] w fun en w' => en = .returned (.int .i64 (val r c a b d e)) ∧ ∃ n' D', w'.ownsMap Tryz.prog 65 (plainElem Tryz.prog 3) B n' D' ∧ Known r c D' ∧ n' ≤ n + tt m ∧ w.grownBy w' (some B) := by
  induction m with
  | zero =>
    intro a b d e hv hs w n D ho hD hn
    cases hh : Maps.has D (kN a b d e) with
    | true => exact count_known r c hr hc a b d e hv w B n D ho hD hh
    | false =>
      refine count_new r c hr hc a b d e hv 0 B ?_ w n D ho hD hn hh
      intro a' b' d' e' _ _ _ _ _ _ _ _ _ _ _ _ hv' hs'
      have := valid_sum hr hv'
      omega
  | succ m ih =>
    intro a b d e hv hs w n D ho hD hn
    have hn1 : n + (1 + 4 * tt m) ≤ 4611686018427387904 := hn
    cases hh : Maps.has D (kN a b d e) with
    | true =>
      refine (count_known r c hr hc a b d e hv w B n D ho hD hh).mono ?_
      rintro en w' ⟨h1, n', D', h2, h3, h4, h5⟩
      exact ⟨h1, n', D', h2, h3, by show n' ≤ n + (1 + 4 * tt m); omega, h5⟩
    | false =>
      refine count_new r c hr hc a b d e hv (tt m) B ?_ w n D ho hD hn1 hh
      intro a' b' d' e' ya yb yd ye zr zc e1 e2 e3 e4 e5 e6 hv' hs' w1 n1 D1 ho1 hD1 hn1
      subst e1 e2 e3 e4 e5 e6
      exact ih a' b' d' e' hv' (by omega) w1 n1 D1 ho1 hD1 hn1
theorem inB (a l h : Int) : Qu1.f a l h = some (decide (l ≤ a ∧ a ≤ h)) := by
  unfold Qu1.f
  by_cases c : l ≤ a
  · rw [if_pos c]; simp [c]
  · rw [if_neg c]; simp [c]
theorem drawn_underB {w w' : World} (h : Drawn0 w w') : Below w.heap.size w w' := by
  obtain ⟨n, rfl⟩ := h
  exact Qi (Below.refl _ _) n
structure PhB (n : Nat) : Prop where
def Qi1.f (a0 a1 : Int) : Option (Int × Bool) := if (1 ≤ a0 ∧ a0 ≤ 4) ∧ (1 ≤ a1 ∧ a1 ≤ 5) then some (((val a0.toNat a1.toNat 0 0 0 0 : Nat) : Int), true) else some (0, false)
set_option maxHeartbeats 2000000 in
theorem Qi1.calls (a0 : Int) (a1 : Int) (r1 : Int) (r2 : Bool) (w : World) (h : Qi1.f a0 a1 = some (r1, r2)) :
    Calls Tryz.prog 20 #[.int .i64 a0, .int .i64 a1] w fun e w' => e = .returned (.tuple #[.int .i64 r1, .bool r2]) ∧ Below w.heap.size w w' := by
  unfold Qi1.f at h
  by_cases h1 : 1 ≤ a0 ∧ a0 ≤ 4
  rotate_left
  · rw [if_neg (fun x => h1 x.1)] at h
    simp only [Option.some.injEq, Prod.mk.injEq] at h
    obtain ⟨rfl, rfl⟩ := h
    have F1 : Qa (Qu1.f a0 1 4 = some false) := ⟨by rw [inB, decide_eq_false h1]⟩
    clear h1
    go_enter Tryz.func20, Tryz.ntmps20
    go_wp2_with (go_at_call 46; (with_reducible refine (Qu1.calls a0 1 4 false _ F1.out).mono ?_); rintro e w2 ⟨rfl, hd⟩; have hb := drawn_underB hd; clear hd; have HB := Qa.mk hb; clear hb)
    go_ret2
    exact ⟨rfl, HB.out⟩
  have F1 : Qa (Qu1.f a0 1 4 = some true) := ⟨by rw [inB, decide_eq_true h1]⟩
  by_cases h2 : 1 ≤ a1 ∧ a1 ≤ 5
  rotate_left
  · rw [if_neg (fun x => h2 x.2)] at h
    simp only [Option.some.injEq, Prod.mk.injEq] at h
    obtain ⟨rfl, rfl⟩ := h
    have F2 : Qa (Qu1.f a1 1 5 = some false) := ⟨by rw [inB, decide_eq_false h2]⟩
    clear h1 h2
    have P0 : PhB 0 := ⟨⟩
    go_enter Tryz.func20, Tryz.ntmps20
    go_wp2_with (first | (have _ := P0; clear P0; go_at_call 46; (with_reducible refine (Qu1.calls a0 1 4 true _ F1.out).mono ?_); rintro e w2 ⟨rfl, hd⟩; have hb := drawn_underB hd; clear hd; have HB := Qa.mk hb; clear hb; have P1 : PhB 1 := ⟨⟩) | (have _ := P1; clear P1; go_at_call 46; (with_reducible refine (Qu1.calls a1 1 5 false _ F2.out).mono ?_); rintro e w3 ⟨rfl, hd⟩; have hb := drawn_underB hd; clear hd; have n0_ := Qa.mk (Qh HB.out hb); clear HB hb; have HB := n0_; clear n0_))
    go_ret2
    exact ⟨rfl, HB.out⟩
  have F2 : Qa (Qu1.f a1 1 5 = some true) := ⟨by rw [inB, decide_eq_true h2]⟩
  rw [if_pos ⟨h1, h2⟩] at h
  simp only [Option.some.injEq, Prod.mk.injEq] at h
  obtain ⟨rfl, rfl⟩ := h
  obtain ⟨r, rfl⟩ : ∃ n : Nat, a0 = (n : Int) := ⟨a0.toNat, by omega⟩
  obtain ⟨c, rfl⟩ : ∃ n : Nat, a1 = (n : Int) := ⟨a1.toNat, by omega⟩
  simp only [Int.toNat_natCast]
  have hr : 1 ≤ r ∧ r ≤ 4 := by omega
  have hc : 1 ≤ c ∧ c ≤ 5 := by omega
  have hm : r * c ≤ 20 := Nat.le_trans (Nat.mul_le_mul hr.2 hc.2) (by omega)
  have HM := Qa.mk (fun (w : World) => count_all r c hr hc w.heap.size (r * c) 0 0 0 0 (valid_iff.2 (by omega)) (by omega) (w.alloc (.map #[] 0)) 0 (.map []) (World.ownsMap_made _ _ _ _) (known_empty r c) (by
    have : ∀ m, m ≤ 20 → tt m ≤ tt 20 := fun m hm => by
      obtain ⟨j, hj⟩ : ∃ j, m + j = 20 := ⟨20 - m, by omega⟩
      rw [← hj]
      clear hj hm
      induction j with
      | zero => exact Nat.le_refl _
      | succ j ih => exact Nat.le_trans ih (by show tt (m + j) ≤ 1 + 4 * tt (m + j); omega)
    have h20 : tt 20 = 1466015503701 := by decide +kernel
    have := this _ hm
    omega))
  clear h1 h2 hr hc hm
  have hmm := @run_makeMap Tryz.prog
  have P0 : PhB 0 := ⟨⟩
  unfold kV at HM
  go_enter Tryz.func20, Tryz.ntmps20
  go_wp2_with (first | (have _ := P0; clear P0; go_at_call 46; (with_reducible refine (Qu1.calls _ 1 4 true _ F1.out).mono ?_); rintro e w2 ⟨rfl, hd⟩; have hb := drawn_underB hd; clear hd; have HB := Qa.mk hb; clear hb; have P1 : PhB 1 := ⟨⟩) | (have _ := P1; clear P1; go_at_call 46; (with_reducible refine (Qu1.calls _ 1 5 true _ F2.out).mono ?_); rintro e w3 ⟨rfl, hd⟩; have hb := drawn_underB hd; clear hd; have n0_ := Qa.mk (Qh HB.out hb); clear HB hb; have HB := n0_; clear n0_) | (go_at_call 52; (refine (HM.out w3).mono ?_); rintro e w4 ⟨rfl, n', D', _, _, _, hg⟩; have n0_ := Qa.mk ((below_alloc HB.out _).grown hg (by have := HB.out.size; simp; omega) (fun k hk => by injection hk with hk; subst hk; exact HB.out.size)); clear HB hg; have HB := n0_; clear n0_))
  go_ret2
  exact ⟨rfl, HB.out⟩
end Go.Proofs.YtohhlkehglahhaaGreatDoor.A
