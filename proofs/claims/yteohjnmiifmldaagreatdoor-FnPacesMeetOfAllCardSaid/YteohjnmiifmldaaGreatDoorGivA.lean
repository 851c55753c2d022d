/- strconv.Atoi at every text, as the print takes it, over the shelf's; what it needs of memory is TabOK. No condition. -/
import Derived.Test.YteohjnmiifmldaaGreatDoorGivN
import Derived.Test.YteohjnmiifmldaaGreatDoorShelf
import Derived.Test.YteohjnmiifmldaaGreatDoorWMore
import Derived.Test.YteohjnmiifmldaaGreatDoorX
namespace Go.Proofs.YteohjnmiifmldaaGreatDoor.A
open Go.RowKit Go.Proofs.YteohjnmiifmldaaGreatDoorW.PrintWords Go.Proofs.YteohjnmiifmldaaGreatDoorW.PrintLast Go.Proofs.YteohjnmiifmldaaGreatDoorW.PrintMore Go.Proofs.YteohjnmiifmldaaGreatDoor.X
set_option linter.unusedVariables false
set_option linter.unusedSimpArgs false

def strconv_Atoi.f (a0 : ByteArray) : Option (Int × Option Int) := if a0.size ≤ 281474976710656 then (match Lib.atoiAll a0.data.toList with
  | .ok v => some (v, none)
  | .«syntax» => some (0, some 0)
  | .range => some (Lib.atoiSat a0.data.toList, some 1)) else none
theorem strconv_Atoi.calls (a0 : ByteArray) (r1 : Int) (r2 : Option Int) (w : World) (hU : TabOK w) (h : strconv_Atoi.f a0 = some (r1, r2)) (hn : r2 = none := by rfl) : Calls Tryz.prog 48 #[.string a0] w fun e w' => e = .returned (.tuple #[.int .i64 r1, .nilIface]) ∧ Below w.heap.size w w' := by
  subst hn
  unfold strconv_Atoi.f at h
  by_cases c : a0.size ≤ 281474976710656
  · rw [if_pos c] at h
    cases e : Lib.atoiAll a0.data.toList with
    | ok v =>
      rw [e] at h
      simp only [Option.some.injEq, Prod.mk.injEq] at h
      obtain ⟨rfl, _⟩ := h
      refine (Tryz.strconv_Atoi_ok a0 (by omega) _ e w).mono fun e' w' ⟨he, hw⟩ => ⟨he, ?_⟩
      rcases hw with rfl | ⟨t, rfl⟩
      · exact Below.refl _ _
      · exact Lib.bytesWorld_below _ _ _
    | «syntax» => rw [e] at h; simp at h
    | range => rw [e] at h; simp at h
  · rw [if_neg c] at h
    cases h
theorem strconv_Atoi.callsE (a0 : ByteArray) (r1 : Int) (r2 : Option Int) (w : World) (hU : TabOK w) (h : strconv_Atoi.f a0 = some (r1, r2)) (hn : ∃ x, r2 = some x := by exact ⟨_, rfl⟩) : Calls Tryz.prog 48 #[.string a0] w fun e w' => ∃ (te : TypeId) (pe : Value), e = .returned (.tuple #[.int .i64 r1, .iface te pe]) ∧ Below w.heap.size w w' := by
  unfold strconv_Atoi.f at h
  by_cases c : a0.size ≤ 281474976710656
  · rw [if_pos c] at h
    cases e : Lib.atoiAll a0.data.toList with
    | ok v =>
      rw [e] at h
      simp only [Option.some.injEq, Prod.mk.injEq] at h
      obtain ⟨_, rfl⟩ := h
      obtain ⟨_, hn⟩ := hn; cases hn
    | «syntax» =>
      rw [e] at h
      simp only [Option.some.injEq, Prod.mk.injEq] at h
      obtain ⟨rfl, _⟩ := h
      obtain ⟨tp, p, hv⟩ := hU.syn
      exact (Tryz.strconv_Atoi_syntax_var a0 c e tp p w hv).mono fun e' w' ⟨M, he, _, _, hb⟩ => ⟨_, _, he, hb⟩
    | range =>
      rw [e] at h
      simp only [Option.some.injEq, Prod.mk.injEq] at h
      obtain ⟨rfl, _⟩ := h
      obtain ⟨tp, p, hv⟩ := hU.ran
      exact (Tryz.strconv_Atoi_range_var a0 c e tp p w hv).mono fun e' w' ⟨M, he, _, _, hb⟩ => ⟨_, _, he, hb⟩
  · rw [if_neg c] at h
    cases h
theorem strconv_Atoi.callsA (a0 : ByteArray) (r1 : Int) (r2 : Option Int) (w : World) (hU : TabOK w) (h : strconv_Atoi.f a0 = some (r1, r2)) : Calls Tryz.prog 48 #[.string a0] w fun e w' => ∃ ve_ : Value, e = .returned (.tuple #[.int .i64 r1, ve_]) ∧ Below w.heap.size w w' := by
  cases r2 with
  | none => exact (strconv_Atoi.calls a0 r1 none w hU h).mono fun e w' ⟨he, hb⟩ => ⟨_, he, hb⟩
  | some x => exact (strconv_Atoi.callsE a0 r1 (some x) w hU h).mono fun e w' ⟨te, pe, he, hb⟩ => ⟨_, he, hb⟩
end Go.Proofs.YteohjnmiifmldaaGreatDoor.A
