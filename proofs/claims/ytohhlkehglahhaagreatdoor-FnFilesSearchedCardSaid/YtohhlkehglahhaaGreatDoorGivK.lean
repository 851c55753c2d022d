/- strconv.Itoa below a hundred, strings.Join: their contracts as the print takes them, over the shelf's. No condition. -/
import Derived.Test.YtohhlkehglahhaaGreatDoorShelf
import Derived.Test.YtohhlkehglahhaaGreatDoorWW
import Derived.Test.YtohhlkehglahhaaGreatDoorX
import Derived.Shelf.Strings.OnBuilder
import Derived.WalkKit
import Derived.Lib.SmallJoins
import Derived.Lib.LaidTab
namespace Go.Proofs.YtohhlkehglahhaaGreatDoor.A
open Go.RowKit Go.Proofs.YtohhlkehglahhaaGreatDoorW.PrintWords Go.Proofs.YtohhlkehglahhaaGreatDoorW.PrintLast Go.Proofs.YtohhlkehglahhaaGreatDoorW.PrintMore Go.Proofs.YtohhlkehglahhaaGreatDoor.X
set_option linter.unusedVariables false
set_option linter.unusedSimpArgs false
theorem cell_spot {w : World} {a : Addr} {v : Value} (h : w.cell? a = some v) : a = ⟨a.block, a.off, none⟩ ∧ a.block < w.heap.size := by
  unfold World.cell? at h
  split at h
  · rename_i c t z hb
    split at h
    · cases h
    · rename_i hs
      refine ⟨?_, (Array.getElem?_eq_some_iff.1 hb).1⟩
      obtain ⟨b, o, s⟩ := a
      cases s with
      | none => rfl
      | some x => exact absurd rfl hs
  · cases h
theorem add_spot (b o j : Nat) : (⟨b, o, none⟩ : Addr).add j = ⟨b, o + j, none⟩ := by
  unfold Addr.add
  split
  · rename_i h; rw [h]; rfl
  · rfl
structure TabOK (w : World) : Prop where
  pow : Go.Lib.TabIs Tryz.prog w "internal/strconv.uint64pow10" .u64 Go.Lib.pow10Tab
  syn : ∃ (tp : TypeId) (p : Value), w.var? Tryz.prog "strconv.ErrSyntax" = some #[.iface tp p]
  ran : ∃ (tp : TypeId) (p : Value), w.var? Tryz.prog "strconv.ErrRange" = some #[.iface tp p]
  max : ∃ m : Int, w.cell? ⟨2, 0, none⟩ = some (.int .i64 m)
theorem gPow : Tryz.prog.globalNamed "internal/strconv.uint64pow10" = some 3 := by kernel_rfl
theorem gSyn : Tryz.prog.globalNamed "strconv.ErrSyntax" = some 0 := by kernel_rfl
theorem gRan : Tryz.prog.globalNamed "strconv.ErrRange" = some 1 := by kernel_rfl
theorem tab_below {w w' : World} (h : TabOK w) (hb : Below w.heap.size w w') : TabOK w' := by
  obtain ⟨h1, ⟨t1, p1, h2⟩, ⟨t2, p2, h3⟩, ⟨m, h4⟩⟩ := h
  exact ⟨Go.Joins.var_stays gPow h1 hb (Nat.le_refl _), ⟨t1, p1, Go.Joins.var_stays gSyn h2 hb (Nat.le_refl _)⟩, ⟨t2, p2, Go.Joins.var_stays gRan h3 hb (Nat.le_refl _)⟩, ⟨m, (hb.cell (cell_spot h4).2).trans h4⟩⟩
theorem below_grow {w w1 : World} (h : Below w.heap.size w w1) (os : Array Obj) : Below w.heap.size w (Go.Sort.grow w1 os) := by
  have hs := h.size
  refine ⟨h.os, h.tape, h.output, ?_, fun k hk => ?_⟩
  · show _ ≤ (w1.heap ++ os).size
    rw [Array.size_append]
    omega
  · show (w1.heap ++ os)[k]? = _
    rw [Array.getElem?_append_left (by omega)]
    exact h.block k hk
def strconv_Itoa.f (a0 : Int) : Option ByteArray := if 0 ≤ a0 ∧ a0 ≤ 1000000 then some ⟨(Lib.decDigits a0.toNat).toArray⟩ else none
theorem strconv_Itoa.calls (a0 : Int) (r : ByteArray) (w : World) (hU : TabOK w) (h : strconv_Itoa.f a0 = some r) : Calls Tryz.prog 78 #[.int .i64 a0] w fun e w' => e = .returned (.string r) ∧ Below w.heap.size w w' := by
  unfold strconv_Itoa.f at h
  by_cases c : 0 ≤ a0 ∧ a0 ≤ 1000000
  · rw [if_pos c] at h
    obtain rfl := Option.some.inj h
    have e : Lib.itoa a0 = Lib.decDigits a0.toNat := by unfold Lib.itoa; rw [if_neg (by omega)]
    refine (Tryz.strconv_Itoa a0 (by omega) (by omega) w hU.pow).mono fun e' w' ⟨he, k, os, hw⟩ => ⟨by rw [he, e], ?_⟩
    rw [hw]
    exact below_grow (Qi (Below.refl _ _) k) os
  · rw [if_neg c] at h
    cases h
def strings_Join.f (l0 : List ByteArray) (a1 : ByteArray) : Option ByteArray := if (Lib.join (l0.map (·.data.toList)) a1.data.toList).length ≤ 140737488355328 ∧ l0.length ≤ 140737488355328 then some ⟨(Lib.join (l0.map (·.data.toList)) a1.data.toList).toArray⟩ else none
theorem strings_Join.calls (A0 : Option Addr) (c0 : Nat) (l0 : List ByteArray) (a1 : ByteArray) (r : ByteArray) (w : World) (hr0 : Kd.C Kd.string w A0 l0.length l0) (hc0 : l0.length ≤ c0) (h : strings_Join.f l0 a1 = some r) :
    Calls Tryz.prog 79 #[.slice A0 l0.length c0, .string a1] w fun e w' => e = .returned (.string r) ∧ Below w.heap.size w w' := by
  unfold strings_Join.f at h
  by_cases c : (Lib.join (l0.map (·.data.toList)) a1.data.toList).length ≤ 140737488355328 ∧ l0.length ≤ 140737488355328
  · rw [if_pos c] at h
    obtain rfl := Option.some.inj h
    by_cases hn : l0 = []
    · subst hn
      exact (Tryz.strings_Join_none A0 c0 a1 w).mono fun e w' ⟨he, hw⟩ => ⟨by rw [he]; rfl, by rw [hw]; exact Below.refl _ _⟩
    · have hp : 0 < l0.length := List.length_pos_iff.2 hn
      obtain ⟨ad, rfl, hx⟩ := hr0.2.2 hp
      have cells : ∀ (j : Nat) x, l0[j]? = some x → w.cell? (ad.add j) = some (.string x) := by
        intro j x hj
        obtain ⟨cs, hl, hR, hcc⟩ := hx j x hj
        have hcs : cs = [.string x] := hR
        subst hcs
        have h0 : w.cell? (ad.add (j * 1 + 0)) = some (.string x) := hcc 0 (.string x) rfl
        rwa [Nat.mul_one, Nat.add_zero] at h0
      have h0 := cells 0 l0[0] (List.getElem?_eq_getElem hp)
      obtain ⟨e1, e2⟩ := cell_spot h0
      have had : ad = ⟨ad.block, ad.off, none⟩ := by
        obtain ⟨b, o, s⟩ := ad
        have : (Addr.add ⟨b, o, s⟩ 0).spot = none := by rw [e1]
        have hs : s = none := this
        rw [hs]
      rw [had] at cells ⊢
      exact Tryz.strings_Join ad.block ad.off c0 l0 a1 w (fun j x hj => by rw [← add_spot]; exact cells j x hj) e2 c.2 hc0 c.1
  · rw [if_neg c] at h
    cases h
end Go.Proofs.YtohhlkehglahhaaGreatDoor.A
