/- odFirsts of the reference: a range over a string: its contract, by hand, at texts of plain bytes that are as long. No condition. -/
import Derived.Test.YtkipdkkiojbbeaaDoorAx0
import Derived.Test.YtkipdkkiojbbeaaDoorX
import Derived.Lib.OthersKept
import Derived.Laws.RangeString
import Derived.LoopTactic
namespace Go.Proofs.YtkipdkkiojbbeaaDoor.A
open Go.RowKit Go.Lib Go.Proofs.YtkipdkkiojbbeaaDoorW.PrintWords Go.Proofs.YtkipdkkiojbbeaaDoorW.PrintLast Go.Proofs.YtkipdkkiojbbeaaDoorW.PrintMore Go.Proofs.YtkipdkkiojbbeaaDoor.X
set_option linter.unusedVariables false
set_option linter.unusedSimpArgs false

/-! ### a string's iterator -/
section
variable {w w' : World} {k : Nat} {s : ByteArray} {pos : Nat}
theorem iter_alloc (h : w.heap[k]? = some (.stringIter s pos)) (o : Obj) : (w.alloc o).heap[k]? = some (.stringIter s pos) := by
  rw [alloc_old w o k (Array.getElem?_eq_some_iff.1 h).1]; exact h
theorem iter_drewN (h : w.heap[k]? = some (.stringIter s pos)) (n : Nat) : (w.drewN n).heap[k]? = some (.stringIter s pos) := by
  have := (pw_below_drewN (Below.refl w.heap.size w) n).block k (Array.getElem?_eq_some_iff.1 h).1
  rw [this]; exact h
theorem iter_drew (h : w.heap[k]? = some (.stringIter s pos)) : w.drew.heap[k]? = some (.stringIter s pos) := h
theorem iter_below (h : w.heap[k]? = some (.stringIter s pos)) (hb : Below w.heap.size w w') : w'.heap[k]? = some (.stringIter s pos) := by
  rw [hb.block k (Array.getElem?_eq_some_iff.1 h).1]; exact h
theorem iter_at {α : Type} {d : Kd α} {e base : Nat} {ok : Nat → Prop} {v : Value} {xs : List α} (h : w.heap[k]? = some (.stringIter s pos)) (hr : d.R e w base ok v xs) (p : Nat) : d.R e (w.iterAt k s p) base ok v xs := by
  have h2 := Kd.R_bound hr
  refine Kd.R_mono (Kd.R_step h2 (w1 := w.iterAt k s p) (fun j hj _ => ?_)) (fun j hj => hj.1)
  obtain ⟨_, _, _, q, _, cells, hc⟩ := hj
  refine iterAt_other w k j s p ?_
  intro e
  rw [e, h] at hc
  cases hc
theorem iter_grown {α : Type} {d : Kd α} {e base : Nat} {ok : Nat → Prop} {v : Value} {xs : List α} (h : w.heap[k]? = some (.stringIter s pos)) (hr : d.R e w base ok v xs) (hg : w.grownBy w' v.ownBlock) : w'.heap[k]? = some (.stringIter s pos) := by
  rw [hg.block k (Array.getElem?_eq_some_iff.1 h).1]
  · exact h
  · intro e
    obtain ⟨cells, hc⟩ := Kd.R_typed hr k e.symm
    rw [h] at hc
    cases hc
theorem iter_below_at {base : Nat} {w0 : World} (hb : Below base w0 w) (hk : base ≤ k) (p : Nat) : Below base w0 (w.iterAt k s p) := Lib.below_iterAt hb hk s p
end

def nowB (a b : ByteArray) (i : Nat) : Bool := bt a (i : Int) != bt b (i : Int)
def nextB (a b : ByteArray) (i : Nat) : Bool := decide (i + 1 < a.size) && (bt a ((i + 1 : Nat) : Int) != bt b ((i + 1 : Nat) : Int))
def firstsUp (a b : ByteArray) : Nat → List Int
  | 0 => []
  | n + 1 => if (nowB a b n != nextB a b n) = true then firstsUp a b n ++ [((n + 1 : Nat) : Int)] else firstsUp a b n
theorem firsts_len (a b : ByteArray) : ∀ n, (firstsUp a b n).length ≤ n
  | 0 => Nat.le_refl _
  | n + 1 => by
    have := firsts_len a b n
    rw [firstsUp]
    split <;> simp <;> omega
def plainB (a b : ByteArray) : Bool := decide (a.size = b.size ∧ a.size ≤ 60) && a.data.toList.all (fun c => c.toNat < 128)
def spec_odFirsts.f (a0 a1 : ByteArray) : Option (List Int) := if plainB a0 a1 = true then some (firstsUp a0 a1 a0.size) else none
theorem plain_at {a b : ByteArray} (h : a.data.toList.all (fun c => c.toNat < 128) = true) (i : Nat) (hi : i < a.size) : (a[i]'hi).toNat < 128 := by
  have := List.all_eq_true.1 h (a[i]'hi) (by
    show a.data[i] ∈ a.data.toList
    simp)
  simpa using this
set_option maxHeartbeats 8000000 in
set_option maxRecDepth 100000 in
theorem spec_odFirsts.calls (a0 a1 : ByteArray) (r : List Int) (w : World) (h : spec_odFirsts.f a0 a1 = some r) :
    Calls Tryd.prog 30 #[.string a0, .string a1] w fun e w' => ∃ v0_ : Value, e = .returned v0_ ∧ Kd.R (Kd.int .i64) 3 w' w.heap.size (fun _ => True) v0_ r ∧ Below w.heap.size w w' := by
  unfold spec_odFirsts.f at h
  by_cases hp : plainB a0 a1 = true
  case neg => rw [if_neg hp] at h; cases h
  rw [if_pos hp] at h
  have hr := Aside0.mk (Option.some.inj h)
  clear h
  unfold plainB at hp
  rw [Bool.and_eq_true, decide_eq_true_eq] at hp
  obtain ⟨⟨h1, h2⟩, h3⟩ := hp
  have hsz := Aside0.mk h2
  have hsz2 := Aside0.mk h1
  have hpl := Aside0.mk h3
  clear h1 h2 h3
  have HB := Aside0.mk (Below.refl w.heap.size w)
  go_enter Tryd.func30, Tryd.ntmps30
  go_wp2
  repeat (go_quiet (fail); try go_wp2)
  go_loopg [5] a0.size (fun kq v5 w' => ∃ n : Nat, Aside0 (n + kq = a0.size) ∧ Aside0 (Kd.R (Kd.int .i64) 3 w' w.heap.size (fun _ => True) v5 (firstsUp a0 a1 n)) ∧ Aside0 (w'.heap[w.heap.size]? = some (.stringIter a0 n)) ∧ Aside0 (Below w.heap.size w w'))
  case atStart => exact ⟨0, ⟨by omega⟩, ⟨Kd.R_nil _ _ _ _ _⟩, ⟨by have := World.iter_heap w a0 0; simpa using this⟩, ⟨by first | exact below_alloc (Below.refl _ _) _ | exact (Below.refl _ _).alloc (Nat.le_refl _) _⟩⟩
  case round =>
    obtain ⟨n, hk, HO, HI, HB⟩ := hrel
    cases gk with
    | zero =>
      have hnx : ∀ ty, (Instr.next (.pointer (some ⟨w.heap.size, 0, none⟩)) true ty).run Tryd.prog wr = _ := fun ty => Lib.run_next_end_at wr w.heap.size a0 n ty HI.out (by have := hk.out; omega)
      go_wp2
      repeat (go_quiet (fail); try go_wp2)
      go_ret
      refine ⟨_, rfl, ?_, HB.out⟩
      rw [← hr.out, show a0.size = n by have := hk.out; omega]
      exact HO.out
    | succ k1 =>
      have hlt := Aside0.mk (show n < a0.size by have := hk.out; omega)
      obtain ⟨x, hx⟩ : ∃ x : Int, x = (n : Int) := ⟨_, rfl⟩
      have hnx : ∀ ty, (Instr.next (.pointer (some ⟨w.heap.size, 0, none⟩)) true ty).run Tryd.prog wr = .ok (.tuple #[.bool true, .int .i64 x, .int .i32 ((a0[n]'hlt.out).toNat)]) (wr.iterAt w.heap.size a0 (n + 1)) := fun ty => by rw [hx]; exact Lib.run_next_ascii_at wr w.heap.size a0 n ty HI.out hlt.out (plain_at (b := a1) hpl.out n hlt.out)
      have n0_ := Aside0.mk (iter_at HI.out HO.out (n + 1))
      have n1_ := Aside0.mk (Lib.iterAt_heap wr w.heap.size a0 n (n + 1) HI.out)
      have n2_ := Aside0.mk (Lib.below_iterAt HB.out (k := w.heap.size) (Nat.le_refl _) a0 (n + 1))
      clear HO HI HB
      have HO := n0_
      have HI := n1_
      have HB := n2_
      clear n0_ n1_ n2_
      have hy0 : wrap64 (x + 1) = ((n + 1 : Nat) : Int) := by have := hlt.out; have := hsz.out; unfold wrap64; omega
      have p7 : 0 ≤ x := by omega
      have q7 : x < (a0.size : Int) := by have := hlt.out; omega
      have q9 : x < (a1.size : Int) := by have := hlt.out; have := hsz2.out; omega
      have hx7 := bt_at a0 x
      have hx9 := bt_at a1 x
      replace p7 := eq_true p7
      replace q7 := eq_true q7
      replace q9 := eq_true q9
      have hX := Aside0.mk hx
      clear hx
      have hy := Aside0.mk hy0
      clear hy0
      by_cases c10 : bt a0 x = bt a1 x
      · have c10b0 : (bt a0 x == bt a1 x) = true := beq_iff_eq.mpr c10
        have c10b1 : (bt a0 x != bt a1 x) = false := bne_eq_false_iff_eq.mpr c10
        clear c10
        by_cases hlt2 : n + 1 < a0.size
        · have c12b0 : decide (wrap64 (x + 1) < (a0.size : Int)) = true := decide_eq_true (by have := hy.out; omega)
          have p17 : 0 ≤ wrap64 (x + 1) := by have := hy.out; omega
          have q17 : wrap64 (x + 1) < (a0.size : Int) := by have := hy.out; omega
          have q19 : wrap64 (x + 1) < (a1.size : Int) := by have := hy.out; have := hsz2.out; omega
          have hLT := Aside0.mk hlt2
          clear hlt2
          have hx17 := bt_at a0 (wrap64 (x + 1))
          have hx19 := bt_at a1 (wrap64 (x + 1))
          replace p17 := eq_true p17
          replace q17 := eq_true q17
          replace q19 := eq_true q19
          by_cases e10 : bt a0 (wrap64 (x + 1)) = bt a1 (wrap64 (x + 1))
          · have e10b0 : (bt a0 (wrap64 (x + 1)) == bt a1 (wrap64 (x + 1))) = true := beq_iff_eq.mpr e10
            have e10b1 : (bt a0 (wrap64 (x + 1)) != bt a1 (wrap64 (x + 1))) = false := bne_eq_false_iff_eq.mpr e10
            clear e10
            have hn : nowB a0 a1 n = false := by unfold nowB; rw [← hX.out]; exact c10b1
            have hm : nextB a0 a1 n = false := by unfold nextB; rw [← hy.out, decide_eq_true hLT.out, e10b1]; rfl
            have HF := Aside0.mk (show firstsUp a0 a1 (n + 1) = firstsUp a0 a1 n by rw [firstsUp, hn, hm]; rfl)
            clear hn hm
            go_wp2
            repeat (go_quiet (fail); try go_wp2)
            go_roundg k1
            case measure => omega
            case rel => exact ⟨n + 1, ⟨by have := hlt.out; have := hk.out; omega⟩, ⟨by rw [HF.out]; exact (by (with_reducible repeat (first | apply Kd.R_alloc | apply Kd.R_drewN | apply Kd.R_drew)); exact HO.out)⟩, ⟨(by repeat (first | exact HI.out | apply iter_alloc | apply iter_drewN | apply iter_drew))⟩, ⟨(by repeat (first | (with_reducible first | exact HB.out | apply below_alloc | apply pw_below_drewN | apply below_drew1) | exact HB.out))⟩⟩
          · have e10b0 : (bt a0 (wrap64 (x + 1)) == bt a1 (wrap64 (x + 1))) = false := beq_eq_false_iff_ne.mpr e10
            have e10b1 : (bt a0 (wrap64 (x + 1)) != bt a1 (wrap64 (x + 1))) = true := bne_iff_ne.mpr e10
            clear e10
            have hn : nowB a0 a1 n = false := by unfold nowB; rw [← hX.out]; exact c10b1
            have hm : nextB a0 a1 n = true := by unfold nextB; rw [← hy.out, decide_eq_true hLT.out, e10b1]; rfl
            have HF := Aside0.mk (show firstsUp a0 a1 (n + 1) = firstsUp a0 a1 n ++ [wrap64 (x + 1)] by rw [firstsUp, hn, hm, hy.out]; rfl)
            clear hn hm
            go_wp2_with (((with_reducible refine gate_builtin (b := .append) (xs := #[.tmp 40, .tmp 43]) rfl ?_); at_builtin; refine Kd.R_append (Kd.int .i64) (w0 := w) w.heap.size rfl (.tmp 40) (.tmp 43) 27 3 (.int .i64 0) 8 rfl Tryd.underlying27 info3 rfl (by decide) (by omega) u5 (firstsUp a0 a1 n) (wrap64 (x + 1)) [.int .i64 (wrap64 (x + 1))] (fun _ => True) (fun _ => False) rfl rfl ?aP (fun _ hk => hk.elim) ?aF ?aO ?aB ?aS ?aL ?_; (case aP => exact rfl); (case aB => exact (by repeat (first | (with_reducible first | exact HB.out | apply below_alloc | apply pw_below_drewN | apply below_drew1) | exact HB.out))); (case aF => exact (fun _ _ => trivial)); (case aO => exact (by (with_reducible repeat (first | apply Kd.R_alloc | apply Kd.R_drewN | apply Kd.R_drew)); exact HO.out)); (case aS => exact (below_size (by repeat (first | (with_reducible first | exact HB.out | apply below_alloc | apply pw_below_drewN | apply below_drew1) | exact HB.out)))); (case aL => have := firsts_len a0 a1 n; have := hsz.out; have := hlt.out; omega); intro v1 w1 ho hb hg hat; rw [← HF.out] at ho; have HI1 := Aside0.mk (iter_grown (by repeat (first | exact HI.out | apply iter_alloc | apply iter_drewN | apply iter_drew)) (by (with_reducible repeat (first | apply Kd.R_alloc | apply Kd.R_drewN | apply Kd.R_drew)); exact HO.out) hg); have n0_ := Aside0.mk hb; have n1_ := Aside0.mk ho; clear HB HO HI; have HB := n0_; have HO := n1_; have HI := HI1; clear n0_ n1_ HI1; clear ho hb hg hat))
            repeat (go_quiet (((with_reducible refine gate_builtin (b := .append) (xs := #[.tmp 40, .tmp 43]) rfl ?_); at_builtin; refine Kd.R_append (Kd.int .i64) (w0 := w) w.heap.size rfl (.tmp 40) (.tmp 43) 27 3 (.int .i64 0) 8 rfl Tryd.underlying27 info3 rfl (by decide) (by omega) u5 (firstsUp a0 a1 n) (wrap64 (x + 1)) [.int .i64 (wrap64 (x + 1))] (fun _ => True) (fun _ => False) rfl rfl ?aP (fun _ hk => hk.elim) ?aF ?aO ?aB ?aS ?aL ?_; (case aP => exact rfl); (case aB => exact (by repeat (first | (with_reducible first | exact HB.out | apply below_alloc | apply pw_below_drewN | apply below_drew1) | exact HB.out))); (case aF => exact (fun _ _ => trivial)); (case aO => exact (by (with_reducible repeat (first | apply Kd.R_alloc | apply Kd.R_drewN | apply Kd.R_drew)); exact HO.out)); (case aS => exact (below_size (by repeat (first | (with_reducible first | exact HB.out | apply below_alloc | apply pw_below_drewN | apply below_drew1) | exact HB.out)))); (case aL => have := firsts_len a0 a1 n; have := hsz.out; have := hlt.out; omega); intro v1 w1 ho hb hg hat; rw [← HF.out] at ho; have HI1 := Aside0.mk (iter_grown (by repeat (first | exact HI.out | apply iter_alloc | apply iter_drewN | apply iter_drew)) (by (with_reducible repeat (first | apply Kd.R_alloc | apply Kd.R_drewN | apply Kd.R_drew)); exact HO.out) hg); have n0_ := Aside0.mk hb; have n1_ := Aside0.mk ho; clear HB HO HI; have HB := n0_; have HO := n1_; have HI := HI1; clear n0_ n1_ HI1; clear ho hb hg hat)); try go_wp2_with (((with_reducible refine gate_builtin (b := .append) (xs := #[.tmp 40, .tmp 43]) rfl ?_); at_builtin; refine Kd.R_append (Kd.int .i64) (w0 := w) w.heap.size rfl (.tmp 40) (.tmp 43) 27 3 (.int .i64 0) 8 rfl Tryd.underlying27 info3 rfl (by decide) (by omega) u5 (firstsUp a0 a1 n) (wrap64 (x + 1)) [.int .i64 (wrap64 (x + 1))] (fun _ => True) (fun _ => False) rfl rfl ?aP (fun _ hk => hk.elim) ?aF ?aO ?aB ?aS ?aL ?_; (case aP => exact rfl); (case aB => exact (by repeat (first | (with_reducible first | exact HB.out | apply below_alloc | apply pw_below_drewN | apply below_drew1) | exact HB.out))); (case aF => exact (fun _ _ => trivial)); (case aO => exact (by (with_reducible repeat (first | apply Kd.R_alloc | apply Kd.R_drewN | apply Kd.R_drew)); exact HO.out)); (case aS => exact (below_size (by repeat (first | (with_reducible first | exact HB.out | apply below_alloc | apply pw_below_drewN | apply below_drew1) | exact HB.out)))); (case aL => have := firsts_len a0 a1 n; have := hsz.out; have := hlt.out; omega); intro v1 w1 ho hb hg hat; rw [← HF.out] at ho; have HI1 := Aside0.mk (iter_grown (by repeat (first | exact HI.out | apply iter_alloc | apply iter_drewN | apply iter_drew)) (by (with_reducible repeat (first | apply Kd.R_alloc | apply Kd.R_drewN | apply Kd.R_drew)); exact HO.out) hg); have n0_ := Aside0.mk hb; have n1_ := Aside0.mk ho; clear HB HO HI; have HB := n0_; have HO := n1_; have HI := HI1; clear n0_ n1_ HI1; clear ho hb hg hat)))
            go_roundg k1
            case measure => omega
            case rel => exact ⟨n + 1, ⟨by have := hlt.out; have := hk.out; omega⟩, ⟨(by (with_reducible repeat (first | apply Kd.R_alloc | apply Kd.R_drewN | apply Kd.R_drew)); exact HO.out)⟩, ⟨(by repeat (first | exact HI.out | apply iter_alloc | apply iter_drewN | apply iter_drew))⟩, ⟨(by repeat (first | (with_reducible first | exact HB.out | apply below_alloc | apply pw_below_drewN | apply below_drew1) | exact HB.out))⟩⟩
        · have c12b0 : decide (wrap64 (x + 1) < (a0.size : Int)) = false := decide_eq_false (by have := hy.out; omega)
          have hLT := Aside0.mk hlt2
          clear hlt2
          have hn : nowB a0 a1 n = false := by unfold nowB; rw [← hX.out]; exact c10b1
          have hm : nextB a0 a1 n = false := by unfold nextB; rw [decide_eq_false hLT.out]; rfl
          have HF := Aside0.mk (show firstsUp a0 a1 (n + 1) = firstsUp a0 a1 n by rw [firstsUp, hn, hm]; rfl)
          clear hn hm
          go_wp2
          repeat (go_quiet (fail); try go_wp2)
          go_roundg k1
          case measure => omega
          case rel => exact ⟨n + 1, ⟨by have := hlt.out; have := hk.out; omega⟩, ⟨by rw [HF.out]; exact (by (with_reducible repeat (first | apply Kd.R_alloc | apply Kd.R_drewN | apply Kd.R_drew)); exact HO.out)⟩, ⟨(by repeat (first | exact HI.out | apply iter_alloc | apply iter_drewN | apply iter_drew))⟩, ⟨(by repeat (first | (with_reducible first | exact HB.out | apply below_alloc | apply pw_below_drewN | apply below_drew1) | exact HB.out))⟩⟩
      · have c10b0 : (bt a0 x == bt a1 x) = false := beq_eq_false_iff_ne.mpr c10
        have c10b1 : (bt a0 x != bt a1 x) = true := bne_iff_ne.mpr c10
        clear c10
        by_cases hlt2 : n + 1 < a0.size
        · have c12b0 : decide (wrap64 (x + 1) < (a0.size : Int)) = true := decide_eq_true (by have := hy.out; omega)
          have p17 : 0 ≤ wrap64 (x + 1) := by have := hy.out; omega
          have q17 : wrap64 (x + 1) < (a0.size : Int) := by have := hy.out; omega
          have q19 : wrap64 (x + 1) < (a1.size : Int) := by have := hy.out; have := hsz2.out; omega
          have hLT := Aside0.mk hlt2
          clear hlt2
          have hx17 := bt_at a0 (wrap64 (x + 1))
          have hx19 := bt_at a1 (wrap64 (x + 1))
          replace p17 := eq_true p17
          replace q17 := eq_true q17
          replace q19 := eq_true q19
          by_cases e10 : bt a0 (wrap64 (x + 1)) = bt a1 (wrap64 (x + 1))
          · have e10b0 : (bt a0 (wrap64 (x + 1)) == bt a1 (wrap64 (x + 1))) = true := beq_iff_eq.mpr e10
            have e10b1 : (bt a0 (wrap64 (x + 1)) != bt a1 (wrap64 (x + 1))) = false := bne_eq_false_iff_eq.mpr e10
            clear e10
            have hn : nowB a0 a1 n = true := by unfold nowB; rw [← hX.out]; exact c10b1
            have hm : nextB a0 a1 n = false := by unfold nextB; rw [← hy.out, decide_eq_true hLT.out, e10b1]; rfl
            have HF := Aside0.mk (show firstsUp a0 a1 (n + 1) = firstsUp a0 a1 n ++ [wrap64 (x + 1)] by rw [firstsUp, hn, hm, hy.out]; rfl)
            clear hn hm
            go_wp2_with (((with_reducible refine gate_builtin (b := .append) (xs := #[.tmp 40, .tmp 43]) rfl ?_); at_builtin; refine Kd.R_append (Kd.int .i64) (w0 := w) w.heap.size rfl (.tmp 40) (.tmp 43) 27 3 (.int .i64 0) 8 rfl Tryd.underlying27 info3 rfl (by decide) (by omega) u5 (firstsUp a0 a1 n) (wrap64 (x + 1)) [.int .i64 (wrap64 (x + 1))] (fun _ => True) (fun _ => False) rfl rfl ?aP (fun _ hk => hk.elim) ?aF ?aO ?aB ?aS ?aL ?_; (case aP => exact rfl); (case aB => exact (by repeat (first | (with_reducible first | exact HB.out | apply below_alloc | apply pw_below_drewN | apply below_drew1) | exact HB.out))); (case aF => exact (fun _ _ => trivial)); (case aO => exact (by (with_reducible repeat (first | apply Kd.R_alloc | apply Kd.R_drewN | apply Kd.R_drew)); exact HO.out)); (case aS => exact (below_size (by repeat (first | (with_reducible first | exact HB.out | apply below_alloc | apply pw_below_drewN | apply below_drew1) | exact HB.out)))); (case aL => have := firsts_len a0 a1 n; have := hsz.out; have := hlt.out; omega); intro v1 w1 ho hb hg hat; rw [← HF.out] at ho; have HI1 := Aside0.mk (iter_grown (by repeat (first | exact HI.out | apply iter_alloc | apply iter_drewN | apply iter_drew)) (by (with_reducible repeat (first | apply Kd.R_alloc | apply Kd.R_drewN | apply Kd.R_drew)); exact HO.out) hg); have n0_ := Aside0.mk hb; have n1_ := Aside0.mk ho; clear HB HO HI; have HB := n0_; have HO := n1_; have HI := HI1; clear n0_ n1_ HI1; clear ho hb hg hat))
            repeat (go_quiet (((with_reducible refine gate_builtin (b := .append) (xs := #[.tmp 40, .tmp 43]) rfl ?_); at_builtin; refine Kd.R_append (Kd.int .i64) (w0 := w) w.heap.size rfl (.tmp 40) (.tmp 43) 27 3 (.int .i64 0) 8 rfl Tryd.underlying27 info3 rfl (by decide) (by omega) u5 (firstsUp a0 a1 n) (wrap64 (x + 1)) [.int .i64 (wrap64 (x + 1))] (fun _ => True) (fun _ => False) rfl rfl ?aP (fun _ hk => hk.elim) ?aF ?aO ?aB ?aS ?aL ?_; (case aP => exact rfl); (case aB => exact (by repeat (first | (with_reducible first | exact HB.out | apply below_alloc | apply pw_below_drewN | apply below_drew1) | exact HB.out))); (case aF => exact (fun _ _ => trivial)); (case aO => exact (by (with_reducible repeat (first | apply Kd.R_alloc | apply Kd.R_drewN | apply Kd.R_drew)); exact HO.out)); (case aS => exact (below_size (by repeat (first | (with_reducible first | exact HB.out | apply below_alloc | apply pw_below_drewN | apply below_drew1) | exact HB.out)))); (case aL => have := firsts_len a0 a1 n; have := hsz.out; have := hlt.out; omega); intro v1 w1 ho hb hg hat; rw [← HF.out] at ho; have HI1 := Aside0.mk (iter_grown (by repeat (first | exact HI.out | apply iter_alloc | apply iter_drewN | apply iter_drew)) (by (with_reducible repeat (first | apply Kd.R_alloc | apply Kd.R_drewN | apply Kd.R_drew)); exact HO.out) hg); have n0_ := Aside0.mk hb; have n1_ := Aside0.mk ho; clear HB HO HI; have HB := n0_; have HO := n1_; have HI := HI1; clear n0_ n1_ HI1; clear ho hb hg hat)); try go_wp2_with (((with_reducible refine gate_builtin (b := .append) (xs := #[.tmp 40, .tmp 43]) rfl ?_); at_builtin; refine Kd.R_append (Kd.int .i64) (w0 := w) w.heap.size rfl (.tmp 40) (.tmp 43) 27 3 (.int .i64 0) 8 rfl Tryd.underlying27 info3 rfl (by decide) (by omega) u5 (firstsUp a0 a1 n) (wrap64 (x + 1)) [.int .i64 (wrap64 (x + 1))] (fun _ => True) (fun _ => False) rfl rfl ?aP (fun _ hk => hk.elim) ?aF ?aO ?aB ?aS ?aL ?_; (case aP => exact rfl); (case aB => exact (by repeat (first | (with_reducible first | exact HB.out | apply below_alloc | apply pw_below_drewN | apply below_drew1) | exact HB.out))); (case aF => exact (fun _ _ => trivial)); (case aO => exact (by (with_reducible repeat (first | apply Kd.R_alloc | apply Kd.R_drewN | apply Kd.R_drew)); exact HO.out)); (case aS => exact (below_size (by repeat (first | (with_reducible first | exact HB.out | apply below_alloc | apply pw_below_drewN | apply below_drew1) | exact HB.out)))); (case aL => have := firsts_len a0 a1 n; have := hsz.out; have := hlt.out; omega); intro v1 w1 ho hb hg hat; rw [← HF.out] at ho; have HI1 := Aside0.mk (iter_grown (by repeat (first | exact HI.out | apply iter_alloc | apply iter_drewN | apply iter_drew)) (by (with_reducible repeat (first | apply Kd.R_alloc | apply Kd.R_drewN | apply Kd.R_drew)); exact HO.out) hg); have n0_ := Aside0.mk hb; have n1_ := Aside0.mk ho; clear HB HO HI; have HB := n0_; have HO := n1_; have HI := HI1; clear n0_ n1_ HI1; clear ho hb hg hat)))
            go_roundg k1
            case measure => omega
            case rel => exact ⟨n + 1, ⟨by have := hlt.out; have := hk.out; omega⟩, ⟨(by (with_reducible repeat (first | apply Kd.R_alloc | apply Kd.R_drewN | apply Kd.R_drew)); exact HO.out)⟩, ⟨(by repeat (first | exact HI.out | apply iter_alloc | apply iter_drewN | apply iter_drew))⟩, ⟨(by repeat (first | (with_reducible first | exact HB.out | apply below_alloc | apply pw_below_drewN | apply below_drew1) | exact HB.out))⟩⟩
          · have e10b0 : (bt a0 (wrap64 (x + 1)) == bt a1 (wrap64 (x + 1))) = false := beq_eq_false_iff_ne.mpr e10
            have e10b1 : (bt a0 (wrap64 (x + 1)) != bt a1 (wrap64 (x + 1))) = true := bne_iff_ne.mpr e10
            clear e10
            have hn : nowB a0 a1 n = true := by unfold nowB; rw [← hX.out]; exact c10b1
            have hm : nextB a0 a1 n = true := by unfold nextB; rw [← hy.out, decide_eq_true hLT.out, e10b1]; rfl
            have HF := Aside0.mk (show firstsUp a0 a1 (n + 1) = firstsUp a0 a1 n by rw [firstsUp, hn, hm]; rfl)
            clear hn hm
            go_wp2
            repeat (go_quiet (fail); try go_wp2)
            go_roundg k1
            case measure => omega
            case rel => exact ⟨n + 1, ⟨by have := hlt.out; have := hk.out; omega⟩, ⟨by rw [HF.out]; exact (by (with_reducible repeat (first | apply Kd.R_alloc | apply Kd.R_drewN | apply Kd.R_drew)); exact HO.out)⟩, ⟨(by repeat (first | exact HI.out | apply iter_alloc | apply iter_drewN | apply iter_drew))⟩, ⟨(by repeat (first | (with_reducible first | exact HB.out | apply below_alloc | apply pw_below_drewN | apply below_drew1) | exact HB.out))⟩⟩
        · have c12b0 : decide (wrap64 (x + 1) < (a0.size : Int)) = false := decide_eq_false (by have := hy.out; omega)
          have hLT := Aside0.mk hlt2
          clear hlt2
          have hn : nowB a0 a1 n = true := by unfold nowB; rw [← hX.out]; exact c10b1
          have hm : nextB a0 a1 n = false := by unfold nextB; rw [decide_eq_false hLT.out]; rfl
          have HF := Aside0.mk (show firstsUp a0 a1 (n + 1) = firstsUp a0 a1 n ++ [wrap64 (x + 1)] by rw [firstsUp, hn, hm, hy.out]; rfl)
          clear hn hm
          go_wp2_with (((with_reducible refine gate_builtin (b := .append) (xs := #[.tmp 40, .tmp 43]) rfl ?_); at_builtin; refine Kd.R_append (Kd.int .i64) (w0 := w) w.heap.size rfl (.tmp 40) (.tmp 43) 27 3 (.int .i64 0) 8 rfl Tryd.underlying27 info3 rfl (by decide) (by omega) u5 (firstsUp a0 a1 n) (wrap64 (x + 1)) [.int .i64 (wrap64 (x + 1))] (fun _ => True) (fun _ => False) rfl rfl ?aP (fun _ hk => hk.elim) ?aF ?aO ?aB ?aS ?aL ?_; (case aP => exact rfl); (case aB => exact (by repeat (first | (with_reducible first | exact HB.out | apply below_alloc | apply pw_below_drewN | apply below_drew1) | exact HB.out))); (case aF => exact (fun _ _ => trivial)); (case aO => exact (by (with_reducible repeat (first | apply Kd.R_alloc | apply Kd.R_drewN | apply Kd.R_drew)); exact HO.out)); (case aS => exact (below_size (by repeat (first | (with_reducible first | exact HB.out | apply below_alloc | apply pw_below_drewN | apply below_drew1) | exact HB.out)))); (case aL => have := firsts_len a0 a1 n; have := hsz.out; have := hlt.out; omega); intro v1 w1 ho hb hg hat; rw [← HF.out] at ho; have HI1 := Aside0.mk (iter_grown (by repeat (first | exact HI.out | apply iter_alloc | apply iter_drewN | apply iter_drew)) (by (with_reducible repeat (first | apply Kd.R_alloc | apply Kd.R_drewN | apply Kd.R_drew)); exact HO.out) hg); have n0_ := Aside0.mk hb; have n1_ := Aside0.mk ho; clear HB HO HI; have HB := n0_; have HO := n1_; have HI := HI1; clear n0_ n1_ HI1; clear ho hb hg hat))
          repeat (go_quiet (((with_reducible refine gate_builtin (b := .append) (xs := #[.tmp 40, .tmp 43]) rfl ?_); at_builtin; refine Kd.R_append (Kd.int .i64) (w0 := w) w.heap.size rfl (.tmp 40) (.tmp 43) 27 3 (.int .i64 0) 8 rfl Tryd.underlying27 info3 rfl (by decide) (by omega) u5 (firstsUp a0 a1 n) (wrap64 (x + 1)) [.int .i64 (wrap64 (x + 1))] (fun _ => True) (fun _ => False) rfl rfl ?aP (fun _ hk => hk.elim) ?aF ?aO ?aB ?aS ?aL ?_; (case aP => exact rfl); (case aB => exact (by repeat (first | (with_reducible first | exact HB.out | apply below_alloc | apply pw_below_drewN | apply below_drew1) | exact HB.out))); (case aF => exact (fun _ _ => trivial)); (case aO => exact (by (with_reducible repeat (first | apply Kd.R_alloc | apply Kd.R_drewN | apply Kd.R_drew)); exact HO.out)); (case aS => exact (below_size (by repeat (first | (with_reducible first | exact HB.out | apply below_alloc | apply pw_below_drewN | apply below_drew1) | exact HB.out)))); (case aL => have := firsts_len a0 a1 n; have := hsz.out; have := hlt.out; omega); intro v1 w1 ho hb hg hat; rw [← HF.out] at ho; have HI1 := Aside0.mk (iter_grown (by repeat (first | exact HI.out | apply iter_alloc | apply iter_drewN | apply iter_drew)) (by (with_reducible repeat (first | apply Kd.R_alloc | apply Kd.R_drewN | apply Kd.R_drew)); exact HO.out) hg); have n0_ := Aside0.mk hb; have n1_ := Aside0.mk ho; clear HB HO HI; have HB := n0_; have HO := n1_; have HI := HI1; clear n0_ n1_ HI1; clear ho hb hg hat)); try go_wp2_with (((with_reducible refine gate_builtin (b := .append) (xs := #[.tmp 40, .tmp 43]) rfl ?_); at_builtin; refine Kd.R_append (Kd.int .i64) (w0 := w) w.heap.size rfl (.tmp 40) (.tmp 43) 27 3 (.int .i64 0) 8 rfl Tryd.underlying27 info3 rfl (by decide) (by omega) u5 (firstsUp a0 a1 n) (wrap64 (x + 1)) [.int .i64 (wrap64 (x + 1))] (fun _ => True) (fun _ => False) rfl rfl ?aP (fun _ hk => hk.elim) ?aF ?aO ?aB ?aS ?aL ?_; (case aP => exact rfl); (case aB => exact (by repeat (first | (with_reducible first | exact HB.out | apply below_alloc | apply pw_below_drewN | apply below_drew1) | exact HB.out))); (case aF => exact (fun _ _ => trivial)); (case aO => exact (by (with_reducible repeat (first | apply Kd.R_alloc | apply Kd.R_drewN | apply Kd.R_drew)); exact HO.out)); (case aS => exact (below_size (by repeat (first | (with_reducible first | exact HB.out | apply below_alloc | apply pw_below_drewN | apply below_drew1) | exact HB.out)))); (case aL => have := firsts_len a0 a1 n; have := hsz.out; have := hlt.out; omega); intro v1 w1 ho hb hg hat; rw [← HF.out] at ho; have HI1 := Aside0.mk (iter_grown (by repeat (first | exact HI.out | apply iter_alloc | apply iter_drewN | apply iter_drew)) (by (with_reducible repeat (first | apply Kd.R_alloc | apply Kd.R_drewN | apply Kd.R_drew)); exact HO.out) hg); have n0_ := Aside0.mk hb; have n1_ := Aside0.mk ho; clear HB HO HI; have HB := n0_; have HO := n1_; have HI := HI1; clear n0_ n1_ HI1; clear ho hb hg hat)))
          go_roundg k1
          case measure => omega
          case rel => exact ⟨n + 1, ⟨by have := hlt.out; have := hk.out; omega⟩, ⟨(by (with_reducible repeat (first | apply Kd.R_alloc | apply Kd.R_drewN | apply Kd.R_drew)); exact HO.out)⟩, ⟨(by repeat (first | exact HI.out | apply iter_alloc | apply iter_drewN | apply iter_drew))⟩, ⟨(by repeat (first | (with_reducible first | exact HB.out | apply below_alloc | apply pw_below_drewN | apply below_drew1) | exact HB.out))⟩⟩
end Go.Proofs.YtkipdkkiojbbeaaDoor.A
