/- How data that came in reads as the kinds of the printed words: slices of slices of numbers, slices of structs of two numbers. Any program. -/
import Derived.Test.YteohjnmiifmldaaGreatDoorWWords
import Derived.Deep.Slices
import Derived.Deep.Strs
import Derived.ChangeSame
import Derived.SizedLaws
import Derived.WideShapes
import Derived.DataReads
namespace Go.Proofs.YteohjnmiifmldaaGreatDoor.Opn
open Go.ChangeShapes Go.WideShapes Go.Deep Go.Proofs.YteohjnmiifmldaaGreatDoorW.PrintWords

/-- Whatever reads as of the type t is of the kind d. -/
def Opens {H : Type} (enc : TypeId × Value → H) (P : Program) (t : TypeId) {α : Type} (d : Kd α) (ok : α → Prop) : Prop :=
  ∀ (w : World) (base : Nat) (held : Bool) (fuel : Nat) (cs : List Value) (x : DataW H × List MemPlace), DataW.trod enc P w base (fun _ => true) held fuel t cs = some x → ∃ a, d.K w a cs ∧ ok a
section
variable {H : Type} {enc : TypeId × Value → H} {P : Program}
theorem row_of {t e : TypeId} {α : Type} {d : Kd α} {ok : α → Prop} (ht : P.underlying t = some (.slice e)) (hs : d.sz = P.cellsOf e) (he : Opens enc P e d ok) {w : World} {base : Nat} {held : Bool} {fuel : Nat} {cs : List Value} {x : DataW H × List MemPlace}
    (h : DataW.trod enc P w base (fun _ => true) held fuel t cs = some x) : ∃ (A : Option Addr) (c : Nat) (xs : List α), cs = [.slice A xs.length c] ∧ xs.length ≤ c ∧ c ≤ maxLen ∧ d.C w A xs.length xs ∧ (∀ a ∈ xs, ok a) ∧
      ((x.1 = .nil ∧ xs = []) ∨ ∃ l s, x.1 = .slice l s ∧ l.length = xs.length) := by
  rcases open_slice ht h with ⟨rfl, rfl⟩ | ⟨a, len, cap, m, n, D, Pl, rfl, hb, hl, hm, hmm, hx0, hx⟩
  · exact ⟨none, 0, [], rfl, Nat.le_refl _, Nat.zero_le _, ⟨rfl, by simp, fun h => absurd h (Nat.lt_irrefl 0)⟩, by simp, .inl ⟨rfl, rfl⟩⟩
  · simp only [if_true] at hmm
    have each : ∀ i, i < len → ∃ p : α, (∃ c, c.length = d.sz ∧ d.K w p c ∧ ∀ j u, c[j]? = some u → w.cell? (a.add (i * d.sz + j)) = some u) ∧ ok p := by
      intro i hi
      obtain ⟨cs', h1, h2⟩ := hx i (by omega)
      obtain ⟨_, h3, h4⟩ := World.cells?_some h1
      obtain ⟨p, h5, h6⟩ := he w base held n cs' _ h2
      refine ⟨p, ⟨cs', by rw [h3, hs], h5, fun j u hu => ?_⟩, h6⟩
      have hj : j < cs'.length := (List.getElem?_eq_some_iff.1 hu).1
      have h7 := h4 j (by omega)
      rw [hu] at h7
      rw [← h7, hs, Go.Deep.add_add]
    rcases Nat.eq_zero_or_pos len with h0 | h0
    · subst h0
      exact ⟨some a, cap, [], rfl, Nat.zero_le _, hm, ⟨rfl, by simp, fun h => absurd h (Nat.lt_irrefl 0)⟩, by simp, .inr ⟨_, _, by rw [hx0], by simp⟩⟩
    obtain ⟨p0, _⟩ := each 0 h0
    haveI : Inhabited α := ⟨p0⟩
    obtain ⟨p, hp⟩ := choose_lt each
    refine ⟨some a, cap, (List.range len).map p, by simp, by simpa using hl, hm, ⟨rfl, ?_, fun _ => ⟨a, rfl, fun j q hq => ?_⟩⟩, ?_, .inr ⟨_, _, by rw [hx0], by simp⟩⟩
    · unfold maxLen at hm
      simp
      omega
    · have hj : j < len := by
        have := (List.getElem?_eq_some_iff.1 hq).1
        simpa using this
      rw [List.getElem?_map, List.getElem?_range hj] at hq
      simp only [Option.map_some, Option.some.injEq] at hq
      subst hq
      exact (hp j hj).1
    · intro q hq
      obtain ⟨j, hj, rfl⟩ := List.mem_map.1 hq
      exact (hp j (List.mem_range.1 hj)).2
/-- a struct of two numbers -/
theorem opens_two {t : TypeId} {f0 f1 : Field} {k0 k1 : IntKind} {β : Type} (f : β → Int × Int) (g : Int → Int → β) (hg : ∀ a b, f (g a b) = (a, b)) (ht : P.underlying t = some (.struct #[f0, f1])) (hC : P.cellsOf t = 2)
    (o0 : f0.offset = 0) (o1 : f1.offset = 1) (c0 : P.cellsOf f0.type = 1) (c1 : P.cellsOf f1.type = 1) (h0 : P.underlying f0.type = some (.int k0)) (h1 : P.underlying f1.type = some (.int k1)) :
    Opens enc P t (Kd.iso (Kd.pair (Kd.int k0) (Kd.int k1)) f) (fun x => (Lit.int k0 (f x).1).wf = true ∧ (Lit.int k1 (f x).2).wf = true) := by
  intro w base held fuel cs x h
  obtain ⟨y0, y1, n, hx, hl, e0, e1⟩ := trod_struct2 ht h
  rw [o0, c0] at e0
  rw [o1, c1] at e1
  rw [hC] at hl
  match cs, hl with
  | [u, v], _ =>
    obtain ⟨a, ha, _, wa⟩ := DataW.trod_int h0 e0
    obtain ⟨b, hb, _, wb⟩ := DataW.trod_int h1 e1
    simp at ha hb
    subst ha hb
    refine ⟨g a b, ?_, by show (Lit.int k0 (f (g a b)).1).wf = true ∧ (Lit.int k1 (f (g a b)).2).wf = true; rw [hg]; exact ⟨wa, wb⟩⟩
    refine ⟨[.int k0 a], [.int k1 b], rfl, ?_, ?_⟩
    · rw [hg]; rfl
    · rw [hg]; rfl
/-- A slice that came in, at the top: its row, its length's bound. -/
theorem top_slice {t e : TypeId} {α : Type} {d : Kd α} {ok : α → Prop} (ht : P.underlying t = some (.slice e)) (hs : d.sz = P.cellsOf e) (he : Opens enc P e d ok) {w : World} {base : Nat} {held : Bool} {a : Option Addr} {len cap : Nat} {d0 : DataW H} {ps : List MemPlace}
    (h : DataW.Trod enc P w base (fun _ => true) held t (.slice a len cap) d0 ps) {ts : List TypeId} {ds : List (DataW H)} (hsz : (DataW.weightsEach P ts ds).all (· ≤ reachBytes) = true) {j : Nat} (htj : ts[j]? = some t) (hdj : ds[j]? = some d0) {B : Nat} (hB : P.bytesOf e = B) :
    ∃ xs : List α, len = xs.length ∧ xs.length ≤ cap ∧ d.C w a xs.length xs ∧ (∀ x ∈ xs, ok x) ∧ xs.length ≤ maxLen ∧ xs.length * B ≤ 140737488351232 := by
  obtain ⟨fuel, hf⟩ := h
  obtain ⟨A, c, xs, hcs, h1, h2, h3, h4, h5⟩ := row_of ht hs he hf
  simp only [Value.cells, List.cons.injEq, Value.slice.injEq, and_true] at hcs
  obtain ⟨rfl, rfl, rfl⟩ := hcs
  refine ⟨xs, rfl, h1, h3, h4, by omega, ?_⟩
  rcases h5 with ⟨_, rfl⟩ | ⟨l, s, hd, hl⟩
  · simp
  · simp only at hd
    subst hd
    have z := sized_slice hsz htj hdj ht
    rw [hB, hl] at z
    have : xs.length * B ≤ (xs.length + s.length) * B := Nat.mul_le_mul_right _ (by omega)
    have r : reachBytes = 140737488351232 := by decide
    omega
end
end Go.Proofs.YteohjnmiifmldaaGreatDoor.Opn
