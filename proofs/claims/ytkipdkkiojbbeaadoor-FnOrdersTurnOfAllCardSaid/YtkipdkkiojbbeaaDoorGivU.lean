/- odRuns of the reference: a range over a string that gathers runs: its contract, by hand, at texts of plain bytes that are as long. No condition. -/
import Derived.Test.YtkipdkkiojbbeaaDoorAx0
import Derived.Test.YtkipdkkiojbbeaaDoorGivO
import Derived.Test.YtkipdkkiojbbeaaDoorX
namespace Go.Proofs.YtkipdkkiojbbeaaDoor.A
open Go.RowKit Go.Lib Go.Proofs.YtkipdkkiojbbeaaDoorW.PrintWords Go.Proofs.YtkipdkkiojbbeaaDoorW.PrintLast Go.Proofs.YtkipdkkiojbbeaaDoorW.PrintMore Go.Proofs.YtkipdkkiojbbeaaDoor.X
set_option linter.unusedVariables false
set_option linter.unusedSimpArgs false

section
variable {w w' : World} {k : Nat} {s : ByteArray} {pos : Nat}
theorem iter_atS {α : Type} {d : Kd α} {e base : Nat} {ok : Nat → Prop} {v : Value} {xs : List α} (h : w.heap[k]? = some (.stringIter s pos)) (hr : Kd.S d e w base ok v xs) (p : Nat) : Kd.S d e (w.iterAt k s p) base ok v xs := by
  have h2 := Kd.S_bound hr
  refine Kd.S_mono (Kd.S_step h2 (w1 := w.iterAt k s p) (fun j hj _ => ?_)) (fun j hj => hj.1)
  obtain ⟨_, _, _, q, _, cells, hc⟩ := hj
  refine iterAt_other w k j s p ?_
  intro e
  rw [e, h] at hc
  cases hc
theorem iter_grownS {α : Type} {d : Kd α} {e base : Nat} {ok : Nat → Prop} {v : Value} {xs : List α} (h : w.heap[k]? = some (.stringIter s pos)) (hr : Kd.S d e w base ok v xs) (hg : w.grownBy w' v.ownBlock) : w'.heap[k]? = some (.stringIter s pos) := by
  rw [hg.block k (Array.getElem?_eq_some_iff.1 h).1]
  · exact h
  · intro e
    obtain ⟨cells, hc⟩ := Kd.S_typed hr k e.symm
    rw [h] at hc
    cases hc
end

def runsStep (a b : ByteArray) (n : Nat) (o : List (List Int)) : List (List Int) :=
  if bt a (n : Int) = bt b (n : Int) then o
  else if 0 < o.length ∧ rdOf 0 (rd_L3 o ((o.length - 1 : Nat) : Int)) 1 = wrap64 ((n : Int) - 1) then o.set (o.length - 1) ((rd_L3 o ((o.length - 1 : Nat) : Int)).set (1 : Int).toNat (n : Int))
  else o ++ [[(n : Int), (n : Int)]]
def runsUp (a b : ByteArray) : Nat → List (List Int)
  | 0 => []
  | n + 1 => runsStep a b n (runsUp a b n)
theorem runs_len (a b : ByteArray) : ∀ n, (runsUp a b n).length ≤ n
  | 0 => Nat.le_refl _
  | n + 1 => by
    have := runs_len a b n
    rw [runsUp]
    unfold runsStep
    split
    · omega
    · split
      · rw [List.length_set]; omega
      · simp; omega
theorem runs_two (a b : ByteArray) : ∀ n, ∀ r ∈ runsUp a b n, r.length = 2
  | 0 => by intro r h; cases h
  | n + 1 => by
    have ih := runs_two a b n
    rw [runsUp]
    unfold runsStep
    split
    · exact ih
    · split
      · rename_i h
        intro r hr
        rcases List.mem_or_eq_of_mem_set hr with h1 | rfl
        · exact ih r h1
        · rw [List.length_set]
          refine ih _ ?_
          unfold rd_L3
          rw [Int.toNat_natCast, List.getD_eq_getElem?_getD, List.getElem?_eq_getElem (by omega)]
          exact List.getElem_mem _
      · intro r hr
        rw [List.mem_append] at hr
        rcases hr with h1 | h1
        · exact ih r h1
        · rw [List.mem_singleton] at h1
          rw [h1]; rfl
theorem runs_two' (a b : ByteArray) (n : Nat) (o : List (List Int)) (ho : o = runsUp a b n) (j : Int) (hj : j = ((o.length - 1 : Nat) : Int)) (h : 0 < o.length) : (rd_L3 o j).length = 2 := by
  refine runs_two a b n _ ?_
  rw [← ho, hj]
  unfold rd_L3
  rw [Int.toNat_natCast, List.getD_eq_getElem?_getD, List.getElem?_eq_getElem (by omega)]
  exact List.getElem_mem _
def spec_odRuns.f (a0 a1 : ByteArray) : Option (List (List Int)) := if plainB a0 a1 = true then some (runsUp a0 a1 a0.size) else none
set_option maxHeartbeats 8000000 in
set_option maxRecDepth 100000 in
theorem spec_odRuns.calls (a0 a1 : ByteArray) (r : List (List Int)) (w : World) (h : spec_odRuns.f a0 a1 = some r) :
    Calls Tryd.prog 29 #[.string a0, .string a1] w fun e w' => ∃ v0_ : Value, e = .returned v0_ ∧ Kd.S (Kd.slice 3 (Kd.int .i64)) 27 w' w.heap.size (fun _ => True) v0_ r ∧ Below w.heap.size w w' := by
  unfold spec_odRuns.f at h
  by_cases hp : plainB a0 a1 = true
  case neg => rw [if_neg hp] at h; cases h
  rw [if_pos hp] at h
  have hr := Aside0.mk (Option.some.inj h)
  clear h
  unfold plainB at hp
  rw [Bool.and_eq_true, decide_eq_true_eq] at hp
  obtain ⟨⟨h1, h2⟩, h3⟩ := hp
  have hsz := Aside0.mk h2
  have hsz2 := Aside0.mk h1
  have hpl := Aside0.mk h3
  clear h1 h2 h3
  have HB := Aside0.mk (Below.refl w.heap.size w)
  go_enter Tryd.func29, Tryd.ntmps29
  go_wp2
  repeat (go_quiet (fail); try go_wp2)
  go_loopg [5] a0.size (fun kq v5 w' => ∃ n : Nat, Aside0 (n + kq = a0.size) ∧ Aside0 (Kd.S (Kd.slice 3 (Kd.int .i64)) 27 w' w.heap.size (fun _ => True) v5 (runsUp a0 a1 n)) ∧ Aside0 (w'.heap[w.heap.size]? = some (.stringIter a0 n)) ∧ Aside0 (Below w.heap.size w w'))
  case atStart => exact ⟨0, ⟨by omega⟩, ⟨Kd.S_nil _ _ _ _ _⟩, ⟨by have := World.iter_heap w a0 0; simpa using this⟩, ⟨by first | exact below_alloc (Below.refl _ _) _ | exact (Below.refl _ _).alloc (Nat.le_refl _) _⟩⟩
  case round =>
    obtain ⟨n, hk, HO, HI, HB⟩ := hrel
    cases gk with
    | zero =>
      have hnx : ∀ ty, (Instr.next (.pointer (some ⟨w.heap.size, 0, none⟩)) true ty).run Tryd.prog wr = _ := fun ty => Lib.run_next_end_at wr w.heap.size a0 n ty HI.out (by have := hk.out; omega)
      go_wp2
      repeat (go_quiet (fail); try go_wp2)
      go_ret
      refine ⟨_, rfl, ?_, HB.out⟩
      rw [← hr.out, show a0.size = n by have := hk.out; omega]
      exact HO.out
    | succ k1 =>
      have hlt := Aside0.mk (show n < a0.size by have := hk.out; omega)
      obtain ⟨x, hx⟩ : ∃ x : Int, x = (n : Int) := ⟨_, rfl⟩
      have hnx : ∀ ty, (Instr.next (.pointer (some ⟨w.heap.size, 0, none⟩)) true ty).run Tryd.prog wr = .ok (.tuple #[.bool true, .int .i64 x, .int .i32 ((a0[n]'hlt.out).toNat)]) (wr.iterAt w.heap.size a0 (n + 1)) := fun ty => by rw [hx]; exact Lib.run_next_ascii_at wr w.heap.size a0 n ty HI.out hlt.out (plain_at (b := a1) hpl.out n hlt.out)
      have n0_ := Aside0.mk (iter_atS HI.out HO.out (n + 1))
      have n1_ := Aside0.mk (Lib.iterAt_heap wr w.heap.size a0 n (n + 1) HI.out)
      have n2_ := Aside0.mk (Lib.below_iterAt HB.out (k := w.heap.size) (Nat.le_refl _) a0 (n + 1))
      clear HO HI HB
      have HO := n0_
      have HI := n1_
      have HB := n2_
      clear n0_ n1_ n2_
      have p7 : 0 ≤ x := by omega
      have q7 : x < (a0.size : Int) := by have := hlt.out; omega
      have q9 : x < (a1.size : Int) := by have := hlt.out; have := hsz2.out; omega
      have hx7 := bt_at a0 x
      have hx9 := bt_at a1 x
      replace p7 := eq_true p7
      replace q7 := eq_true q7
      replace q9 := eq_true q9
      have hX := Aside0.mk hx
      clear hx
      obtain ⟨o, ho⟩ : ∃ o_ : List (List Int), o_ = runsUp a0 a1 n := ⟨_, rfl⟩
      rw [← ho] at HO
      have hln := Aside0.mk (show o.length ≤ n by rw [ho]; exact runs_len a0 a1 n)
      have hO := Aside0.mk ho
      clear ho
      by_cases c10 : bt a0 x = bt a1 x
      · have c10b0 : (bt a0 x == bt a1 x) = true := beq_iff_eq.mpr c10
        have c10b1 : (bt a0 x != bt a1 x) = false := bne_eq_false_iff_eq.mpr c10
        have HF := Aside0.mk (show runsUp a0 a1 (n + 1) = runsUp a0 a1 n by rw [runsUp, runsStep, if_pos (by rw [← hX.out]; exact c10)])
        clear c10
        go_wp2
        repeat (go_quiet (fail); try go_wp2)
        go_roundg k1
        case measure => omega
        case rel => exact ⟨n + 1, ⟨by have := hlt.out; have := hk.out; omega⟩, ⟨by rw [HF.out, ← hO.out]; exact (by (with_reducible repeat (first | apply Kd.S_alloc | apply Kd.S_drewN | apply Kd.S_drew)); exact HO.out)⟩, ⟨(by repeat (first | exact HI.out | apply iter_alloc | apply iter_drewN | apply iter_drew))⟩, ⟨(by repeat (first | (with_reducible first | exact HB.out | apply below_alloc | apply pw_below_drewN | apply below_drew1) | exact HB.out))⟩⟩
      · have c10b0 : (bt a0 x == bt a1 x) = false := beq_eq_false_iff_ne.mpr c10
        have c10b1 : (bt a0 x != bt a1 x) = true := bne_iff_ne.mpr c10
        obtain ⟨Ao27, co27, eo27⟩ := Kd.S_slice HO.out
        subst eo27
        go_wp2
        go_quiet (fail)
        have n0_ := Aside0.mk (Kd.S_drewN HO.out nq)
        have n1_ := Aside0.mk (iter_drewN HI.out nq)
        have n2_ := Aside0.mk (pw_below_drewN HB.out nq)
        clear HO HI HB
        have HO := n0_
        have HI := n1_
        have HB := n2_
        clear n0_ n1_ n2_
        by_cases c20 : 0 < o.length
        · have c20b0 : decide ((o.length : Int) > 0) = true := decide_eq_true (by omega)
          have c20b1 : decide (0 < o.length) = true := decide_eq_true c20
          obtain ⟨ji, hji⟩ : ∃ j_ : Int, wrap64 ((o.length : Int) - 1) = j_ := ⟨_, rfl⟩
          have hjiw : (IntKind.i64.wrap ((o.length : Int) - 1)) = ji := (i64_w _).trans hji
          have hJ0 : ji = ((o.length - 1 : Nat) : Int) := by have := hln.out; have := hsz.out; have := hlt.out; rw [← hji]; unfold wrap64; omega
          have hJ := Aside0.mk hJ0
          have c23b0 : decide (0 ≤ ji) = true := decide_eq_true (by omega)
          have c24b0 : decide (ji < (o.length : Int)) = true := decide_eq_true (by omega)
          have h2 := runs_two' a0 a1 n o hO.out ji hJ.out c20
          have c25b0 : decide (1 < ((rd_L3 o ji).length : Int)) = true := decide_eq_true (by omega)
          have c25b1 : decide (1 < (rd_L3 o ji).length) = true := decide_eq_true (by omega)
          have H2 := Aside0.mk h2
          clear h2 hJ0
          have p151 : 0 ≤ (ji : Int) := of_decide_eq_true c23b0
          have q151 : ji < (o.length : Int) := of_decide_eq_true c24b0
          obtain ⟨ad151, A151_0, c151_0, e151, hx151_0, hl151_0, hi151_0⟩ := at_L3 (Kd.S_reads' HO.out).2.2 ji p151 q151
          cases e151
          obtain ⟨ce151, hce151, hMe151, hcc151⟩ := Kd.S_get HO.out [] ji p151 q151
          obtain ⟨ve151_0, rfl, ge151_0⟩ := hMe151
          have hv151_0 := hcc151 0 _ rfl
          rw [Nat.add_zero, show ((Kd.slice 3 (Kd.int .i64))).sz = 1 from rfl, Nat.mul_one] at hv151_0
          replace hv151_0 := Option.some.inj (hv151_0.symm.trans hx151_0)
          rw [hv151_0] at ge151_0
          have HL151_0 := Aside0.mk (show Kd.R (Kd.int .i64) 3 _ _ _ _ (rd_L3 o ji) from ge151_0)
          clear hv151_0 ge151_0
          have HX151_0 := Aside0.mk hx151_0
          clear hcc151 hce151
          have HR151_0 := Aside0.mk hi151_0
          have HC151_0 := Aside0.mk hl151_0
          clear hi151_0 hl151_0
          replace p151 := eq_true p151
          replace q151 := eq_true q151
          have p26 : 0 ≤ (1 : Int) := (by omega)
          have q26 : (1 : Int) < (((rd_L3 o ji).length : Int) : Int) := of_decide_eq_true c25b0
          have qi26 : (1 < (rd_L3 o ji).length) = True := eq_true (by omega)
          obtain ⟨go26, co26, eo26, gb26, gl26, cl26, HG26⟩ := Kd.R_form HL151_0.out (by omega)
          (first | cases eo26 | (injection eo26 with ea_ en_ ec_; (first | subst ea_ | (injection ea_ with ea_; subst ea_)); subst ec_; clear en_))
          have GB26 := Aside0.mk gb26
          have GG26 := Aside0.mk HG26
          clear gb26 gl26 HG26
          obtain ⟨hx26_0, hf26_0⟩ := Kd.R_celln 0 HL151_0.out (1 : Int) p26 q26
          (try rw [show ((1 : Int)).toNat = 1 from rfl] at hx26_0)
          (try rw [show ((1 : Int)).toNat = 1 from rfl] at hf26_0)
          replace p26 := eq_true p26
          replace q26 := eq_true q26
          by_cases c30 : rdOf 0 (rd_L3 o ji) 1 = wrap64 (x - 1)
          · have c30b0 : (rdOf 0 (rd_L3 o ji) 1 == wrap64 (x - 1)) = true := beq_iff_eq.mpr c30
            have HF := Aside0.mk (show runsUp a0 a1 (n + 1) = o.set (o.length - 1) ((rd_L3 o ((o.length - 1 : Nat) : Int)).set (1 : Int).toNat ((n : Nat) : Int)) by rw [runsUp, ← hO.out, runsStep, if_neg (by rw [← hX.out]; exact c10), if_pos ⟨c20, by rw [← hJ.out, ← hX.out]; exact c30⟩])
            clear c30 c10 c20
            obtain ⟨y, hy⟩ : ∃ y_ : List Int, y_ = ((rd_L3 o ji).set (1 : Int).toNat x) := ⟨_, rfl⟩
            have Ny := Aside0.mk hy
            clear hy
            obtain ⟨oki28, ce28, hcl28, hM28, hcc28, hok28, hbk28⟩ := Kd.S_borrow HO.out [] ji (of_decide_eq_true c23b0) (of_decide_eq_true c24b0)
            obtain ⟨ve28_0, rfl, ge28_0⟩ := hM28
            have hv28 := hcc28 0 _ rfl
            rw [Nat.add_zero, show ((Kd.slice 3 (Kd.int .i64))).sz = 1 from rfl, Nat.mul_one] at hv28
            replace hv28 := Option.some.inj (hv28.symm.trans HX151_0.out)
            subst hv28
            clear hcc28 hcl28
            replace ge28_0 := (show Kd.R (Kd.int .i64) 3 _ _ _ _ (rd_L3 o ji) from ge28_0)
            have HP28 := Kd.R_putg ge28_0 (1 : Int) x
            go_wp2_with ((with_reducible refine gate_store (t := 3) (p := 42) rfl ?_); refine store_event (t := 3) (p := 42) (v := ?vo_w29) (w1 := (((wr.iterAt w.heap.size a0 (n + 1)).drewN nq).setCell ⟨go26, 1, none⟩ (.int .i64 x))) ?hg ?ho ?hn ?hr ?_; (case ho => rfl); (case hg => rfl); (case hn => rfl); (case hr => first | (go_simp; done) | (go_simp; rfl)); intro w29 hw; have hg : ((wr.iterAt w.heap.size a0 (n + 1)).drewN nq).grownBy w29 (some go26) := (by rw [hw]; exact HP28.2); have hz_ : Kd.R (Kd.int .i64) 3 w29 w.heap.size oki28 (.slice (some ⟨go26, 0, none⟩) (rd_L3 o ji).length c151_0) y := (by rw [hw, Ny.out]; exact HP28.1); have hp_ : Kd.S (Kd.slice 3 (Kd.int .i64)) 27 w29 w.heap.size (fun _ => True) (.slice (some ad151) o.length co27) (o.set ji.toNat y) := (hbk28 hg (fun k_ e_ => by injection e_ with e_; subst e_; exact ge28_0.1 _ rfl) (Kd.M_row hz_)); have n2_ := Aside0.mk (iter_grown (by repeat (first | exact HI.out | apply iter_alloc | apply iter_drewN | apply iter_drew)) HL151_0.out hg); clear HP28 hbk28; have n0_ := Aside0.mk (hp_); have n1_ := Aside0.mk ((by rw [hw]; exact below_set (HB.out) GB26.out : Below w.heap.size w w29)); clear HO HB HI HL151_0; have HO := n0_; have HB := n1_; have HI := n2_; clear n0_ n1_ n2_; clear hg hw hp_ hz_ hok28)
            go_roundg k1
            case measure => omega
            case rel => exact ⟨n + 1, ⟨by have := hlt.out; have := hk.out; omega⟩, ⟨by rw [HF.out, ← hX.out, ← hJ.out, ← Ny.out, show o.length - 1 = ji.toNat by have := hJ.out; omega]; exact (by (with_reducible repeat (first | apply Kd.S_alloc | apply Kd.S_drewN | apply Kd.S_drew)); exact HO.out)⟩, ⟨(by repeat (first | exact HI.out | apply iter_alloc | apply iter_drewN | apply iter_drew))⟩, ⟨(by repeat (first | (with_reducible first | exact HB.out | apply below_alloc | apply pw_below_drewN | apply below_drew1) | exact HB.out))⟩⟩
          · have c30b0 : (rdOf 0 (rd_L3 o ji) 1 == wrap64 (x - 1)) = false := beq_eq_false_iff_ne.mpr c30
            have HF := Aside0.mk (show runsUp a0 a1 (n + 1) = o ++ [[((n : Nat) : Int), ((n : Nat) : Int)]] by rw [runsUp, ← hO.out, runsStep, if_neg (by rw [← hX.out]; exact c10), if_neg (by rw [← hJ.out, ← hX.out]; exact fun h => c30 h.2)])
            clear c30 c10 c20
            obtain ⟨y, hy⟩ : ∃ y_ : List Int, y_ = ([x, x] : List Int) := ⟨_, rfl⟩
            have Ny := Aside0.mk hy
            clear hy
            go_wp2_with (first | ((with_reducible refine gate_dst (N := 46) rfl ?_); refine Kd.R_lit (Kd.int .i64) _ 3 ?hg (N := 46) ?hd (xs := ([x, x] : List Int)) (inner := [.int .i64 x, .int .i64 x]) (ok := fun _ => True) (okp := fun _ => True) ?hr ?hp (fun _ hk => hk) trivial (Below.refl _ _) (Nat.le_refl _) (by simp) ?_; (case hd => rfl); (case hg => rfl); (case hr => first | (go_simp; done) | (go_simp; rfl)); (case hp => exact (Reps.one (show Kd.M (Kd.int .i64) _ _ _ x [.int .i64 x] from rfl) (Reps.one (show Kd.M (Kd.int .i64) _ _ _ x [.int .i64 x] from rfl) (Reps.none _ _)))); intro v146 w16 ho17 hb hg_ hnew_; clear hg_ hnew_; rw [← Ny.out] at ho17; have n0_ := Aside0.mk (Kd.S_elder' (by (with_reducible repeat (first | apply Kd.S_alloc | apply Kd.S_drewN | apply Kd.S_drew)); exact HO.out) (Kd.R_base ho17) hb); have n3_ := Aside0.mk (iter_below (by repeat (first | exact HI.out | apply iter_alloc | apply iter_drewN | apply iter_drew)) hb); have n1_ := Aside0.mk (Kd.R_lower ho17 (below_size (by repeat (first | (with_reducible first | exact HB.out | apply below_alloc | apply pw_below_drewN | apply below_drew1) | exact HB.out)))); have n2_ := Aside0.mk (below_step (by repeat (first | (with_reducible first | exact HB.out | apply below_alloc | apply pw_below_drewN | apply below_drew1) | exact HB.out)) hb); clear HO HB HI; have HO := n0_; have HON := n1_; have HB := n2_; have HI := n3_; clear n0_ n1_ n2_ n3_; clear hb ho17; obtain ⟨Ao19, co19, eo19⟩ := Kd.R_slice HON.out; subst eo19) | ((with_reducible refine gate_builtin (b := .append) (xs := #[.tmp 43, .tmp 47]) rfl ?_); at_builtin; refine Kd.S_append (Kd.slice 3 (Kd.int .i64)) (w0 := w) w.heap.size rfl (.tmp 43) (.tmp 47) 22 27 (.slice none 0 0) 24 rfl Tryd.underlying22 info27 rfl (by decide) (by omega) (.slice (some ad151) o.length co27) o y [.slice Ao19 y.length co19] (fun _ => True) (fun k_ => some k_ = (.slice Ao19 y.length co19 : Value).ownBlock) rfl rfl ?aP (fun k_ hk_ => ((Kd.R_mono (ok' := fun k_ => ((fun _ => True)) k_ ∧ some k_ ≠ ((.slice (some ad151) o.length co27) : Value).ownBlock) (Kd.R_apart' (HON.out) (Kd.S_typed HO.out) (by decide)) (fun k_ hk => ⟨trivial, hk.2⟩))).1 k_ hk_.symm) ?aF ?aO ?aB ?aS ?aL ?_; (case aP => exact Kd.M_row (Kd.R_mono (Kd.R_tight rfl (Kd.R_mono (ok' := fun k_ => ((fun _ => True)) k_ ∧ some k_ ≠ ((.slice (some ad151) o.length co27) : Value).ownBlock) (Kd.R_apart' (HON.out) (Kd.S_typed HO.out) (by decide)) (fun k_ hk => ⟨trivial, hk.2⟩))) (fun _ h_ => h_))); (case aB => exact (by repeat (first | (with_reducible first | exact HB.out | apply below_alloc | apply pw_below_drewN | apply below_drew1) | exact HB.out))); (case aF => exact (fun _ _ => trivial)); (case aO => exact (by (with_reducible repeat (first | apply Kd.S_alloc | apply Kd.S_drewN | apply Kd.S_drew)); exact Kd.S_mono HO.out (fun k_ hk => ⟨trivial, fun e_ => hk.2 e_⟩))); (case aS => exact (below_size (by repeat (first | (with_reducible first | exact HB.out | apply below_alloc | apply pw_below_drewN | apply below_drew1) | exact HB.out)))); (case aL => have := hln.out; have := hsz.out; have := hlt.out; omega); intro v149 w18 ho hb hg hat; have n2_ := Aside0.mk (iter_grownS (by repeat (first | exact HI.out | apply iter_alloc | apply iter_drewN | apply iter_drew)) HO.out hg); have n0_ := Aside0.mk (hb); have n1_ := Aside0.mk (ho); clear HB HO HON HI; have HB := n0_; have HO := n1_; have HI := n2_; clear n0_ n1_ n2_; clear ho hb hg hat))
            repeat (go_quiet (fail); try go_wp2_with (first | ((with_reducible refine gate_dst (N := 46) rfl ?_); refine Kd.R_lit (Kd.int .i64) _ 3 ?hg (N := 46) ?hd (xs := ([x, x] : List Int)) (inner := [.int .i64 x, .int .i64 x]) (ok := fun _ => True) (okp := fun _ => True) ?hr ?hp (fun _ hk => hk) trivial (Below.refl _ _) (Nat.le_refl _) (by simp) ?_; (case hd => rfl); (case hg => rfl); (case hr => first | (go_simp; done) | (go_simp; rfl)); (case hp => exact (Reps.one (show Kd.M (Kd.int .i64) _ _ _ x [.int .i64 x] from rfl) (Reps.one (show Kd.M (Kd.int .i64) _ _ _ x [.int .i64 x] from rfl) (Reps.none _ _)))); intro v146 w16 ho17 hb hg_ hnew_; clear hg_ hnew_; rw [← Ny.out] at ho17; have n0_ := Aside0.mk (Kd.S_elder' (by (with_reducible repeat (first | apply Kd.S_alloc | apply Kd.S_drewN | apply Kd.S_drew)); exact HO.out) (Kd.R_base ho17) hb); have n3_ := Aside0.mk (iter_below (by repeat (first | exact HI.out | apply iter_alloc | apply iter_drewN | apply iter_drew)) hb); have n1_ := Aside0.mk (Kd.R_lower ho17 (below_size (by repeat (first | (with_reducible first | exact HB.out | apply below_alloc | apply pw_below_drewN | apply below_drew1) | exact HB.out)))); have n2_ := Aside0.mk (below_step (by repeat (first | (with_reducible first | exact HB.out | apply below_alloc | apply pw_below_drewN | apply below_drew1) | exact HB.out)) hb); clear HO HB HI; have HO := n0_; have HON := n1_; have HB := n2_; have HI := n3_; clear n0_ n1_ n2_ n3_; clear hb ho17; obtain ⟨Ao19, co19, eo19⟩ := Kd.R_slice HON.out; subst eo19) | ((with_reducible refine gate_builtin (b := .append) (xs := #[.tmp 43, .tmp 47]) rfl ?_); at_builtin; refine Kd.S_append (Kd.slice 3 (Kd.int .i64)) (w0 := w) w.heap.size rfl (.tmp 43) (.tmp 47) 22 27 (.slice none 0 0) 24 rfl Tryd.underlying22 info27 rfl (by decide) (by omega) (.slice (some ad151) o.length co27) o y [.slice Ao19 y.length co19] (fun _ => True) (fun k_ => some k_ = (.slice Ao19 y.length co19 : Value).ownBlock) rfl rfl ?aP (fun k_ hk_ => ((Kd.R_mono (ok' := fun k_ => ((fun _ => True)) k_ ∧ some k_ ≠ ((.slice (some ad151) o.length co27) : Value).ownBlock) (Kd.R_apart' (HON.out) (Kd.S_typed HO.out) (by decide)) (fun k_ hk => ⟨trivial, hk.2⟩))).1 k_ hk_.symm) ?aF ?aO ?aB ?aS ?aL ?_; (case aP => exact Kd.M_row (Kd.R_mono (Kd.R_tight rfl (Kd.R_mono (ok' := fun k_ => ((fun _ => True)) k_ ∧ some k_ ≠ ((.slice (some ad151) o.length co27) : Value).ownBlock) (Kd.R_apart' (HON.out) (Kd.S_typed HO.out) (by decide)) (fun k_ hk => ⟨trivial, hk.2⟩))) (fun _ h_ => h_))); (case aB => exact (by repeat (first | (with_reducible first | exact HB.out | apply below_alloc | apply pw_below_drewN | apply below_drew1) | exact HB.out))); (case aF => exact (fun _ _ => trivial)); (case aO => exact (by (with_reducible repeat (first | apply Kd.S_alloc | apply Kd.S_drewN | apply Kd.S_drew)); exact Kd.S_mono HO.out (fun k_ hk => ⟨trivial, fun e_ => hk.2 e_⟩))); (case aS => exact (below_size (by repeat (first | (with_reducible first | exact HB.out | apply below_alloc | apply pw_below_drewN | apply below_drew1) | exact HB.out)))); (case aL => have := hln.out; have := hsz.out; have := hlt.out; omega); intro v149 w18 ho hb hg hat; have n2_ := Aside0.mk (iter_grownS (by repeat (first | exact HI.out | apply iter_alloc | apply iter_drewN | apply iter_drew)) HO.out hg); have n0_ := Aside0.mk (hb); have n1_ := Aside0.mk (ho); clear HB HO HON HI; have HB := n0_; have HO := n1_; have HI := n2_; clear n0_ n1_ n2_; clear ho hb hg hat)))
            go_roundg k1
            case measure => omega
            case rel => exact ⟨n + 1, ⟨by have := hlt.out; have := hk.out; omega⟩, ⟨by rw [HF.out, ← hX.out, ← Ny.out]; exact (by (with_reducible repeat (first | apply Kd.S_alloc | apply Kd.S_drewN | apply Kd.S_drew)); exact HO.out)⟩, ⟨(by repeat (first | exact HI.out | apply iter_alloc | apply iter_drewN | apply iter_drew))⟩, ⟨(by repeat (first | (with_reducible first | exact HB.out | apply below_alloc | apply pw_below_drewN | apply below_drew1) | exact HB.out))⟩⟩
        · have c20b0 : decide ((o.length : Int) > 0) = false := decide_eq_false (by omega)
          have c20b1 : decide (0 < o.length) = false := decide_eq_false c20
          have HF := Aside0.mk (show runsUp a0 a1 (n + 1) = o ++ [[((n : Nat) : Int), ((n : Nat) : Int)]] by rw [runsUp, ← hO.out, runsStep, if_neg (by rw [← hX.out]; exact c10), if_neg (fun h => c20 h.1)])
          clear c10 c20
          obtain ⟨y, hy⟩ : ∃ y_ : List Int, y_ = ([x, x] : List Int) := ⟨_, rfl⟩
          have Ny := Aside0.mk hy
          clear hy
          go_wp2_with (first | ((with_reducible refine gate_dst (N := 46) rfl ?_); refine Kd.R_lit (Kd.int .i64) _ 3 ?hg (N := 46) ?hd (xs := ([x, x] : List Int)) (inner := [.int .i64 x, .int .i64 x]) (ok := fun _ => True) (okp := fun _ => True) ?hr ?hp (fun _ hk => hk) trivial (Below.refl _ _) (Nat.le_refl _) (by simp) ?_; (case hd => rfl); (case hg => rfl); (case hr => first | (go_simp; done) | (go_simp; rfl)); (case hp => exact (Reps.one (show Kd.M (Kd.int .i64) _ _ _ x [.int .i64 x] from rfl) (Reps.one (show Kd.M (Kd.int .i64) _ _ _ x [.int .i64 x] from rfl) (Reps.none _ _)))); intro v146 w16 ho17 hb hg_ hnew_; clear hg_ hnew_; rw [← Ny.out] at ho17; have n0_ := Aside0.mk (Kd.S_elder' (by (with_reducible repeat (first | apply Kd.S_alloc | apply Kd.S_drewN | apply Kd.S_drew)); exact HO.out) (Kd.R_base ho17) hb); have n3_ := Aside0.mk (iter_below (by repeat (first | exact HI.out | apply iter_alloc | apply iter_drewN | apply iter_drew)) hb); have n1_ := Aside0.mk (Kd.R_lower ho17 (below_size (by repeat (first | (with_reducible first | exact HB.out | apply below_alloc | apply pw_below_drewN | apply below_drew1) | exact HB.out)))); have n2_ := Aside0.mk (below_step (by repeat (first | (with_reducible first | exact HB.out | apply below_alloc | apply pw_below_drewN | apply below_drew1) | exact HB.out)) hb); clear HO HB HI; have HO := n0_; have HON := n1_; have HB := n2_; have HI := n3_; clear n0_ n1_ n2_ n3_; clear hb ho17; obtain ⟨Ao19, co19, eo19⟩ := Kd.R_slice HON.out; subst eo19) | ((with_reducible refine gate_builtin (b := .append) (xs := #[.tmp 43, .tmp 47]) rfl ?_); at_builtin; refine Kd.S_append (Kd.slice 3 (Kd.int .i64)) (w0 := w) w.heap.size rfl (.tmp 43) (.tmp 47) 22 27 (.slice none 0 0) 24 rfl Tryd.underlying22 info27 rfl (by decide) (by omega) (.slice Ao27 o.length co27) o y [.slice Ao19 y.length co19] (fun _ => True) (fun k_ => some k_ = (.slice Ao19 y.length co19 : Value).ownBlock) rfl rfl ?aP (fun k_ hk_ => ((Kd.R_mono (ok' := fun k_ => ((fun _ => True)) k_ ∧ some k_ ≠ ((.slice Ao27 o.length co27) : Value).ownBlock) (Kd.R_apart' (HON.out) (Kd.S_typed HO.out) (by decide)) (fun k_ hk => ⟨trivial, hk.2⟩))).1 k_ hk_.symm) ?aF ?aO ?aB ?aS ?aL ?_; (case aP => exact Kd.M_row (Kd.R_mono (Kd.R_tight rfl (Kd.R_mono (ok' := fun k_ => ((fun _ => True)) k_ ∧ some k_ ≠ ((.slice Ao27 o.length co27) : Value).ownBlock) (Kd.R_apart' (HON.out) (Kd.S_typed HO.out) (by decide)) (fun k_ hk => ⟨trivial, hk.2⟩))) (fun _ h_ => h_))); (case aB => exact (by repeat (first | (with_reducible first | exact HB.out | apply below_alloc | apply pw_below_drewN | apply below_drew1) | exact HB.out))); (case aF => exact (fun _ _ => trivial)); (case aO => exact (by (with_reducible repeat (first | apply Kd.S_alloc | apply Kd.S_drewN | apply Kd.S_drew)); exact Kd.S_mono HO.out (fun k_ hk => ⟨trivial, fun e_ => hk.2 e_⟩))); (case aS => exact (below_size (by repeat (first | (with_reducible first | exact HB.out | apply below_alloc | apply pw_below_drewN | apply below_drew1) | exact HB.out)))); (case aL => have := hln.out; have := hsz.out; have := hlt.out; omega); intro v149 w18 ho hb hg hat; have n2_ := Aside0.mk (iter_grownS (by repeat (first | exact HI.out | apply iter_alloc | apply iter_drewN | apply iter_drew)) HO.out hg); have n0_ := Aside0.mk (hb); have n1_ := Aside0.mk (ho); clear HB HO HON HI; have HB := n0_; have HO := n1_; have HI := n2_; clear n0_ n1_ n2_; clear ho hb hg hat))
          repeat (go_quiet (fail); try go_wp2_with (first | ((with_reducible refine gate_dst (N := 46) rfl ?_); refine Kd.R_lit (Kd.int .i64) _ 3 ?hg (N := 46) ?hd (xs := ([x, x] : List Int)) (inner := [.int .i64 x, .int .i64 x]) (ok := fun _ => True) (okp := fun _ => True) ?hr ?hp (fun _ hk => hk) trivial (Below.refl _ _) (Nat.le_refl _) (by simp) ?_; (case hd => rfl); (case hg => rfl); (case hr => first | (go_simp; done) | (go_simp; rfl)); (case hp => exact (Reps.one (show Kd.M (Kd.int .i64) _ _ _ x [.int .i64 x] from rfl) (Reps.one (show Kd.M (Kd.int .i64) _ _ _ x [.int .i64 x] from rfl) (Reps.none _ _)))); intro v146 w16 ho17 hb hg_ hnew_; clear hg_ hnew_; rw [← Ny.out] at ho17; have n0_ := Aside0.mk (Kd.S_elder' (by (with_reducible repeat (first | apply Kd.S_alloc | apply Kd.S_drewN | apply Kd.S_drew)); exact HO.out) (Kd.R_base ho17) hb); have n3_ := Aside0.mk (iter_below (by repeat (first | exact HI.out | apply iter_alloc | apply iter_drewN | apply iter_drew)) hb); have n1_ := Aside0.mk (Kd.R_lower ho17 (below_size (by repeat (first | (with_reducible first | exact HB.out | apply below_alloc | apply pw_below_drewN | apply below_drew1) | exact HB.out)))); have n2_ := Aside0.mk (below_step (by repeat (first | (with_reducible first | exact HB.out | apply below_alloc | apply pw_below_drewN | apply below_drew1) | exact HB.out)) hb); clear HO HB HI; have HO := n0_; have HON := n1_; have HB := n2_; have HI := n3_; clear n0_ n1_ n2_ n3_; clear hb ho17; obtain ⟨Ao19, co19, eo19⟩ := Kd.R_slice HON.out; subst eo19) | ((with_reducible refine gate_builtin (b := .append) (xs := #[.tmp 43, .tmp 47]) rfl ?_); at_builtin; refine Kd.S_append (Kd.slice 3 (Kd.int .i64)) (w0 := w) w.heap.size rfl (.tmp 43) (.tmp 47) 22 27 (.slice none 0 0) 24 rfl Tryd.underlying22 info27 rfl (by decide) (by omega) (.slice Ao27 o.length co27) o y [.slice Ao19 y.length co19] (fun _ => True) (fun k_ => some k_ = (.slice Ao19 y.length co19 : Value).ownBlock) rfl rfl ?aP (fun k_ hk_ => ((Kd.R_mono (ok' := fun k_ => ((fun _ => True)) k_ ∧ some k_ ≠ ((.slice Ao27 o.length co27) : Value).ownBlock) (Kd.R_apart' (HON.out) (Kd.S_typed HO.out) (by decide)) (fun k_ hk => ⟨trivial, hk.2⟩))).1 k_ hk_.symm) ?aF ?aO ?aB ?aS ?aL ?_; (case aP => exact Kd.M_row (Kd.R_mono (Kd.R_tight rfl (Kd.R_mono (ok' := fun k_ => ((fun _ => True)) k_ ∧ some k_ ≠ ((.slice Ao27 o.length co27) : Value).ownBlock) (Kd.R_apart' (HON.out) (Kd.S_typed HO.out) (by decide)) (fun k_ hk => ⟨trivial, hk.2⟩))) (fun _ h_ => h_))); (case aB => exact (by repeat (first | (with_reducible first | exact HB.out | apply below_alloc | apply pw_below_drewN | apply below_drew1) | exact HB.out))); (case aF => exact (fun _ _ => trivial)); (case aO => exact (by (with_reducible repeat (first | apply Kd.S_alloc | apply Kd.S_drewN | apply Kd.S_drew)); exact Kd.S_mono HO.out (fun k_ hk => ⟨trivial, fun e_ => hk.2 e_⟩))); (case aS => exact (below_size (by repeat (first | (with_reducible first | exact HB.out | apply below_alloc | apply pw_below_drewN | apply below_drew1) | exact HB.out)))); (case aL => have := hln.out; have := hsz.out; have := hlt.out; omega); intro v149 w18 ho hb hg hat; have n2_ := Aside0.mk (iter_grownS (by repeat (first | exact HI.out | apply iter_alloc | apply iter_drewN | apply iter_drew)) HO.out hg); have n0_ := Aside0.mk (hb); have n1_ := Aside0.mk (ho); clear HB HO HON HI; have HB := n0_; have HO := n1_; have HI := n2_; clear n0_ n1_ n2_; clear ho hb hg hat)))
          go_roundg k1
          case measure => omega
          case rel => exact ⟨n + 1, ⟨by have := hlt.out; have := hk.out; omega⟩, ⟨by rw [HF.out, ← hX.out, ← Ny.out]; exact (by (with_reducible repeat (first | apply Kd.S_alloc | apply Kd.S_drewN | apply Kd.S_drew)); exact HO.out)⟩, ⟨(by repeat (first | exact HI.out | apply iter_alloc | apply iter_drewN | apply iter_drew))⟩, ⟨(by repeat (first | (with_reducible first | exact HB.out | apply below_alloc | apply pw_below_drewN | apply below_drew1) | exact HB.out))⟩⟩
end Go.Proofs.YtkipdkkiojbbeaaDoor.A
