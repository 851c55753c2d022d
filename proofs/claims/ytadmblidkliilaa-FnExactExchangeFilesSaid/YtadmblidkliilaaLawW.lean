/- Words for the walks of laws whose results are lists of lists: what is the call's own lies between two sizes of the heap. No condition. -/
import Derived.Test.YtadmblidkliilaaGivM
namespace Go.Proofs.Ytadmblidkliilaa.A
open Go.RowKit Go.Proofs.YtadmblidkliilaaW.PrintWords Go.Proofs.YtadmblidkliilaaW.PrintLast Go.Proofs.YtadmblidkliilaaW.PrintMore Go.Proofs.Ytadmblidkliilaa.X
set_option linter.unusedVariables false

/-- A list of lists of one's own, made while the heap grew from lo to hi. -/
@[reducible] def Own (w W : World) (lo hi : Nat) (v : Value) (l : List (List Int)) : Prop := Kd.S (Kd.slice 3 (Kd.int .i64)) 35 W w.heap.size (fun k => lo ≤ k ∧ k < hi) v l
section
variable {w W W' : World} {lo hi lo' hi' n c : Nat} {v : Value} {l : List (List Int)} {A : Option Addr}
theorem own_new (h : Kd.S (Kd.slice 3 (Kd.int .i64)) 35 W' W.heap.size (fun _ => True) v l) (hb : Below w.heap.size w W) : Own w W' W.heap.size W'.heap.size v l :=
  Kd.S_mono (Kd.S_lower (Kd.S_bound h) hb.size) (fun k hk => ⟨hk.2.1, hk.2.2.1⟩)
theorem own_below (h : Own w W lo hi v l) (hb : Below W.heap.size W W') : Own w W' lo hi v l := Kd.S_below h hb
theorem own_kept (h : Own w W lo hi v l) (hk : Kept W W' (fun k => lo' ≤ k ∧ k < hi')) (hd : hi ≤ lo' ∨ hi' ≤ lo) : Own w W' lo hi v l := Kd.S_kept h hk (fun k h1 h2 => by omega)
theorem own_form (h : Own w W lo hi v l) : ∃ A c, v = .slice A l.length c := Kd.R_slice (Kd.S_R h)
theorem own_reads (h : Own w W lo hi (.slice A n c) l) : l.length ≤ c ∧ Kd.C (Kd.slice 3 (Kd.int .i64)) W A l.length l := by
  obtain ⟨A', c', he, hl, hr⟩ := Kd.R_reads (Kd.S_R h)
  injection he with h1 h2 h3
  subst h1 h3
  exact ⟨hl, hr⟩
theorem own_len (h : Own w W lo hi (.slice A n c) l) : l.length = n := by
  obtain ⟨A', c', he, hl, hr⟩ := Kd.R_reads (Kd.S_R h)
  injection he with h1 h2 h3
  exact h2.symm
theorem drawn_below {w w' : World} (h : Drawn0 w w') : Below w.heap.size w w' := by
  obtain ⟨n, rfl⟩ := h
  exact pw_below_drewN (Below.refl _ _) n
end
end Go.Proofs.Ytadmblidkliilaa.A
