-- WRITTEN BY printx.py, a program of this session over the kit's print: not typed by hand. Lean checks it.
import Derived.Test.YtieahbiaoceokaaAx0
import Derived.Test.YtieahbiaoceokaaAx1
import Derived.Test.YtieahbiaoceokaaAx7
import Derived.Test.YtieahbiaoceokaaAx8
import Derived.Test.YtieahbiaoceokaaAx9
import Derived.Test.YtieahbiaoceokaaAx10
import Derived.Test.YtieahbiaoceokaaAx11
import Derived.Test.YtieahbiaoceokaaAx12
import Derived.Test.YtieahbiaoceokaaGivF
namespace Go.Proofs.Ytieahbiaoceokaa.A
open Go.RowKit Go.Proofs.YtieahbiaoceokaaW.PrintWords Go.Proofs.YtieahbiaoceokaaW.PrintLast Go.Proofs.YtieahbiaoceokaaW.PrintMore Go.Proofs.Ytieahbiaoceokaa.X
attribute [local go_sem] max2_int min2_int max_two min_two max_three min_three max_four min_four   -- for this text's walks alone
set_option linter.unusedVariables false
set_option linter.unusedSimpArgs false

/-! ### laws_FnFilesSorted: function 3 -/
mutual
def laws_FnFilesSorted.j0 : Nat → List (List Int) → List (List Int) → Bool → List (List Int) → List (List Int) → Bool → Bool → List (List Int) → Int → Int → List (List Int) → Bool → Option (Bool)
  | 0, _, _, _, _, _, _, _, _, _, _, _, _ => none
  | k + 1, x5, x6, x7, x10, x14, x18, x22, x26, x30, x34, x38, x297 => if x297 = true then (some false) else (if x7 = true then ((impl_AreRowsSorted.f k x6).bind fun bt498 => ((impl_AreColumnsSorted.f k x6).bind fun bt500 => ((impl_SortFileColumns.f k x10).bind fun bt502 => ((impl_TurnFiles.f k x26).bind fun bt506 => (if bt498.2 = true then (if bt498.1 = true then (if bt500.2 = true then (if bt500.1 = true then (if bt502.2 = true then ((laws_vRows.f k bt502.1 x6).bind fun t510 => (if t510 = true then (if bt506.2 = true then ((laws_vRows.f k bt506.1 x5).bind fun t511 => (if t511 = true then (if x30 > x34 then (laws_FnFilesSorted.j1 k x5 x6 x18 x22 x30 x34 x38 true) else ((laws_vRows.f k x10 x5).bind fun t512 => (if (x18 != t512) = true then (laws_FnFilesSorted.j1 k x5 x6 x18 x22 x30 x34 x38 true) else ((laws_vRows.f k x14 x5).bind fun t513 => (laws_FnFilesSorted.j1 k x5 x6 x18 x22 x30 x34 x38 (x22 != t513)))))) else (laws_FnFilesSorted.j1 k x5 x6 x18 x22 x30 x34 x38 true))) else (laws_FnFilesSorted.j1 k x5 x6 x18 x22 x30 x34 x38 true)) else (laws_FnFilesSorted.j1 k x5 x6 x18 x22 x30 x34 x38 true))) else (laws_FnFilesSorted.j1 k x5 x6 x18 x22 x30 x34 x38 true)) else (laws_FnFilesSorted.j1 k x5 x6 x18 x22 x30 x34 x38 true)) else (laws_FnFilesSorted.j1 k x5 x6 x18 x22 x30 x34 x38 true)) else (laws_FnFilesSorted.j1 k x5 x6 x18 x22 x30 x34 x38 true)) else (laws_FnFilesSorted.j1 k x5 x6 x18 x22 x30 x34 x38 true)))))) else (some true))
def laws_FnFilesSorted.j1 : Nat → List (List Int) → List (List Int) → Bool → Bool → Int → Int → List (List Int) → Bool → Option (Bool)
  | 0, _, _, _, _, _, _, _, _ => none
  | k + 1, x5, x6, x18, x22, x30, x34, x38, x372 => if x372 = true then (some false) else (laws_FnFilesSorted.l0 k x5 x6 x18 x22 x30 x34 x38 x38 (x38.length : Int) 0)
def laws_FnFilesSorted.l0 : Nat → List (List Int) → List (List Int) → Bool → Bool → Int → Int → List (List Int) → List (List Int) → Int → Int → Option (Bool)
  | 0, _, _, _, _, _, _, _, _, _, _ => none
  | k + 1, x5, x6, x18, x22, x30, x34, x38, x373, x374, x375 => if x375 < x374 then (if 0 ≤ x375 then (if x375 < (x373.length : Int) then (if ((rd_L2 x373 x375).length : Int) = 2 then (if 0 < ((rd_L2 x373 x375).length : Int) then (if 0 ≤ (rd (rd_L2 x373 x375) 0) then (if (rd (rd_L2 x373 x375) 0) < (x5.length : Int) then (if 1 < ((rd_L2 x373 x375).length : Int) then (if 0 ≤ (rd (rd_L2 x373 x375) 1) then (if (rd (rd_L2 x373 x375) 1) < ((rd_L2 x5 (rd (rd_L2 x373 x375) 0)).length : Int) then (if (rd (rd_L2 x5 (rd (rd_L2 x373 x375) 0)) (rd (rd_L2 x373 x375) 1)) = x30 then (if (rd (rd_L2 x5 (rd (rd_L2 x373 x375) 0)) (rd (rd_L2 x373 x375) 1)) = x34 then (laws_FnFilesSorted.l0 k x5 x6 x18 x22 x30 x34 x38 x373 x374 (wrap64 (x375 + 1))) else (some false)) else (some false)) else (none)) else (none)) else (none)) else (none)) else (none)) else (none)) else (some false)) else (none)) else (none)) else (if ((decide ((x38.length : Int) > 0)) != (x30 == x34)) = true then (some false) else ((impl_FileDisorder.f k x5).bind fun bt519 => ((impl_FileDisorder.f k x6).bind fun bt521 => (if bt519.2 = true then (if bt519.1 ≥ 0 then (if x18 = true then (if ((bt519.1 == 0) == x22) = true then (if bt521.2 = true then (some (bt521.1 == 0)) else (some false)) else (some false)) else (if ((bt519.1 == 0) == false) = true then (if bt521.2 = true then (some (bt521.1 == 0)) else (some false)) else (some false))) else (some false)) else (some false)))))
end
def laws_FnFilesSorted.f (k : Nat) (l0 : List Int) (l1 : List Int) : Option (Bool) := (laws_big.f l0 l1).bind fun t430 => (if t430 = true then (some true) else ((spec_DrawSortBoth.f k l0).bind fun t431 => ((impl_SortBoth.f k t431).bind fun bt434 => ((spec_SortBoth.f k t431).bind fun bt438 => ((impl_SortFileRows.f k t431).bind fun bt442 => ((spec_SortFileRows.f k t431).bind fun bt446 => ((impl_SortFileColumns.f k t431).bind fun bt450 => ((spec_SortFileColumns.f k t431).bind fun bt454 => ((impl_AreRowsSorted.f k t431).bind fun bt458 => ((spec_AreRowsSorted.f k t431).bind fun bt460 => ((impl_AreColumnsSorted.f k t431).bind fun bt462 => ((spec_AreColumnsSorted.f k t431).bind fun bt464 => ((impl_TurnFiles.f k t431).bind fun bt466 => ((spec_TurnFiles.f k t431).bind fun bt470 => ((impl_TallestOfShortest.f k t431).bind fun bt474 => ((spec_TallestOfShortest.f k t431).bind fun bt476 => ((impl_ShortestOfTallest.f k t431).bind fun bt478 => ((spec_ShortestOfTallest.f k t431).bind fun bt480 => ((impl_SaddlePlaces.f k t431).bind fun bt482 => ((spec_SaddlePlaces.f k t431).bind fun bt486 => (if (bt434.2 != bt438.2) = true then (laws_FnFilesSorted.j0 k t431 bt434.1 bt434.2 bt442.1 bt450.1 bt458.1 bt462.1 bt466.1 bt474.1 bt478.1 bt482.1 true) else ((laws_vRows.f k bt434.1 bt438.1).bind fun t490 => (if t490 = true then (if (bt442.2 != bt446.2) = true then (laws_FnFilesSorted.j0 k t431 bt434.1 bt434.2 bt442.1 bt450.1 bt458.1 bt462.1 bt466.1 bt474.1 bt478.1 bt482.1 true) else ((laws_vRows.f k bt442.1 bt446.1).bind fun t491 => (if t491 = true then (if (bt450.2 != bt454.2) = true then (laws_FnFilesSorted.j0 k t431 bt434.1 bt434.2 bt442.1 bt450.1 bt458.1 bt462.1 bt466.1 bt474.1 bt478.1 bt482.1 true) else ((laws_vRows.f k bt450.1 bt454.1).bind fun t492 => (if t492 = true then (if (bt458.2 != bt460.2) = true then (laws_FnFilesSorted.j0 k t431 bt434.1 bt434.2 bt442.1 bt450.1 bt458.1 bt462.1 bt466.1 bt474.1 bt478.1 bt482.1 true) else (if (bt458.1 != bt460.1) = true then (laws_FnFilesSorted.j0 k t431 bt434.1 bt434.2 bt442.1 bt450.1 bt458.1 bt462.1 bt466.1 bt474.1 bt478.1 bt482.1 true) else (if (bt462.2 != bt464.2) = true then (laws_FnFilesSorted.j0 k t431 bt434.1 bt434.2 bt442.1 bt450.1 bt458.1 bt462.1 bt466.1 bt474.1 bt478.1 bt482.1 true) else (if (bt462.1 != bt464.1) = true then (laws_FnFilesSorted.j0 k t431 bt434.1 bt434.2 bt442.1 bt450.1 bt458.1 bt462.1 bt466.1 bt474.1 bt478.1 bt482.1 true) else (if (bt466.2 != bt470.2) = true then (laws_FnFilesSorted.j0 k t431 bt434.1 bt434.2 bt442.1 bt450.1 bt458.1 bt462.1 bt466.1 bt474.1 bt478.1 bt482.1 true) else ((laws_vRows.f k bt466.1 bt470.1).bind fun t493 => (if t493 = true then (if (bt474.2 != bt476.2) = true then (laws_FnFilesSorted.j0 k t431 bt434.1 bt434.2 bt442.1 bt450.1 bt458.1 bt462.1 bt466.1 bt474.1 bt478.1 bt482.1 true) else (if bt474.1 = bt476.1 then (if (bt478.2 != bt480.2) = true then (laws_FnFilesSorted.j0 k t431 bt434.1 bt434.2 bt442.1 bt450.1 bt458.1 bt462.1 bt466.1 bt474.1 bt478.1 bt482.1 true) else (if bt478.1 = bt480.1 then (if (bt482.2 != bt486.2) = true then (laws_FnFilesSorted.j0 k t431 bt434.1 bt434.2 bt442.1 bt450.1 bt458.1 bt462.1 bt466.1 bt474.1 bt478.1 bt482.1 true) else ((laws_vRows.f k bt482.1 bt486.1).bind fun t494 => (if t494 = true then ((impl_AreFiles.f t431).bind fun t495 => (if (bt434.2 != t495) = true then (laws_FnFilesSorted.j0 k t431 bt434.1 bt434.2 bt442.1 bt450.1 bt458.1 bt462.1 bt466.1 bt474.1 bt478.1 bt482.1 true) else ((impl_AreFiles.f t431).bind fun t496 => ((spec_AreFiles.f k t431).bind fun t497 => (if (t496 != t497) = true then (laws_FnFilesSorted.j0 k t431 bt434.1 bt434.2 bt442.1 bt450.1 bt458.1 bt462.1 bt466.1 bt474.1 bt478.1 bt482.1 true) else (if (bt442.2 != bt434.2) = true then (laws_FnFilesSorted.j0 k t431 bt434.1 bt434.2 bt442.1 bt450.1 bt458.1 bt462.1 bt466.1 bt474.1 bt478.1 bt482.1 true) else (if (bt450.2 != bt434.2) = true then (laws_FnFilesSorted.j0 k t431 bt434.1 bt434.2 bt442.1 bt450.1 bt458.1 bt462.1 bt466.1 bt474.1 bt478.1 bt482.1 true) else (if (bt458.2 != bt434.2) = true then (laws_FnFilesSorted.j0 k t431 bt434.1 bt434.2 bt442.1 bt450.1 bt458.1 bt462.1 bt466.1 bt474.1 bt478.1 bt482.1 true) else (if (bt462.2 != bt434.2) = true then (laws_FnFilesSorted.j0 k t431 bt434.1 bt434.2 bt442.1 bt450.1 bt458.1 bt462.1 bt466.1 bt474.1 bt478.1 bt482.1 true) else (if (bt466.2 != bt434.2) = true then (laws_FnFilesSorted.j0 k t431 bt434.1 bt434.2 bt442.1 bt450.1 bt458.1 bt462.1 bt466.1 bt474.1 bt478.1 bt482.1 true) else (if (bt474.2 != bt434.2) = true then (laws_FnFilesSorted.j0 k t431 bt434.1 bt434.2 bt442.1 bt450.1 bt458.1 bt462.1 bt466.1 bt474.1 bt478.1 bt482.1 true) else (if (bt478.2 != bt434.2) = true then (laws_FnFilesSorted.j0 k t431 bt434.1 bt434.2 bt442.1 bt450.1 bt458.1 bt462.1 bt466.1 bt474.1 bt478.1 bt482.1 true) else (laws_FnFilesSorted.j0 k t431 bt434.1 bt434.2 bt442.1 bt450.1 bt458.1 bt462.1 bt466.1 bt474.1 bt478.1 bt482.1 (bt482.2 != bt434.2)))))))))))))) else (laws_FnFilesSorted.j0 k t431 bt434.1 bt434.2 bt442.1 bt450.1 bt458.1 bt462.1 bt466.1 bt474.1 bt478.1 bt482.1 true)))) else (laws_FnFilesSorted.j0 k t431 bt434.1 bt434.2 bt442.1 bt450.1 bt458.1 bt462.1 bt466.1 bt474.1 bt478.1 bt482.1 true))) else (laws_FnFilesSorted.j0 k t431 bt434.1 bt434.2 bt442.1 bt450.1 bt458.1 bt462.1 bt466.1 bt474.1 bt478.1 bt482.1 true))) else (laws_FnFilesSorted.j0 k t431 bt434.1 bt434.2 bt442.1 bt450.1 bt458.1 bt462.1 bt466.1 bt474.1 bt478.1 bt482.1 true)))))))) else (laws_FnFilesSorted.j0 k t431 bt434.1 bt434.2 bt442.1 bt450.1 bt458.1 bt462.1 bt466.1 bt474.1 bt478.1 bt482.1 true)))) else (laws_FnFilesSorted.j0 k t431 bt434.1 bt434.2 bt442.1 bt450.1 bt458.1 bt462.1 bt466.1 bt474.1 bt478.1 bt482.1 true)))) else (laws_FnFilesSorted.j0 k t431 bt434.1 bt434.2 bt442.1 bt450.1 bt458.1 bt462.1 bt466.1 bt474.1 bt478.1 bt482.1 true))))))))))))))))))))))))
theorem laws_FnFilesSorted.j0_false {k : Nat} {x0 x1 x2 x3 x4 x5 x6 x7 x8 x9 x10} {r : Bool} (h : laws_FnFilesSorted.j0 k x0 x1 x2 x3 x4 x5 x6 x7 x8 x9 x10 true = some r) : r = false := by
  cases k with
  | zero => simp [laws_FnFilesSorted.j0] at h
  | succ k => simp only [laws_FnFilesSorted.j0, if_true, Option.some.injEq] at h; exact h.symm
theorem laws_FnFilesSorted.j1_false {k : Nat} {x0 x1 x2 x3 x4 x5 x6} {r : Bool} (h : laws_FnFilesSorted.j1 k x0 x1 x2 x3 x4 x5 x6 true = some r) : r = false := by
  cases k with
  | zero => simp [laws_FnFilesSorted.j1] at h
  | succ k => simp only [laws_FnFilesSorted.j1, if_true, Option.some.injEq] at h; exact h.symm
set_option maxHeartbeats 8000000 in
set_option maxRecDepth 100000 in
theorem laws_FnFilesSorted.calls (k : Nat) (A0 : Option Addr) (c0 : Nat) (l0 : List Int) (A1 : Option Addr) (c1 : Nat) (l1 : List Int) (r : Bool) (w : World) (hr0 : Kd.C (Kd.int .u8) w A0 l0.length l0) (hc0 : l0.length ≤ c0) (hr1 : Kd.C (Kd.int .u8) w A1 l1.length l1) (hc1 : l1.length ≤ c1) (h : r = true ∧ laws_FnFilesSorted.f k l0 l1 = some r) :
    Calls Try.prog 3 #[.slice A0 l0.length c0, .slice A1 l1.length c1] w fun e w' => e = .returned (.bool r) ∧ Below w.heap.size w w' := by
  obtain ⟨hrt, h⟩ := h
  have HR0 := Aside0.mk hr0
  have HC0 := Aside0.mk hc0
  clear hr0 hc0
  have HR1 := Aside0.mk hr1
  have HC1 := Aside0.mk hc1
  clear hr1 hc1
  have HB := Aside0.mk (Below.refl w.heap.size w)
  have H : ((laws_big.f l0 l1).bind fun t430 => (if t430 = true then (some true) else ((spec_DrawSortBoth.f k l0).bind fun t431 => ((impl_SortBoth.f k t431).bind fun bt434 => ((spec_SortBoth.f k t431).bind fun bt438 => ((impl_SortFileRows.f k t431).bind fun bt442 => ((spec_SortFileRows.f k t431).bind fun bt446 => ((impl_SortFileColumns.f k t431).bind fun bt450 => ((spec_SortFileColumns.f k t431).bind fun bt454 => ((impl_AreRowsSorted.f k t431).bind fun bt458 => ((spec_AreRowsSorted.f k t431).bind fun bt460 => ((impl_AreColumnsSorted.f k t431).bind fun bt462 => ((spec_AreColumnsSorted.f k t431).bind fun bt464 => ((impl_TurnFiles.f k t431).bind fun bt466 => ((spec_TurnFiles.f k t431).bind fun bt470 => ((impl_TallestOfShortest.f k t431).bind fun bt474 => ((spec_TallestOfShortest.f k t431).bind fun bt476 => ((impl_ShortestOfTallest.f k t431).bind fun bt478 => ((spec_ShortestOfTallest.f k t431).bind fun bt480 => ((impl_SaddlePlaces.f k t431).bind fun bt482 => ((spec_SaddlePlaces.f k t431).bind fun bt486 => (if (bt434.2 != bt438.2) = true then (laws_FnFilesSorted.j0 k t431 bt434.1 bt434.2 bt442.1 bt450.1 bt458.1 bt462.1 bt466.1 bt474.1 bt478.1 bt482.1 true) else ((laws_vRows.f k bt434.1 bt438.1).bind fun t490 => (if t490 = true then (if (bt442.2 != bt446.2) = true then (laws_FnFilesSorted.j0 k t431 bt434.1 bt434.2 bt442.1 bt450.1 bt458.1 bt462.1 bt466.1 bt474.1 bt478.1 bt482.1 true) else ((laws_vRows.f k bt442.1 bt446.1).bind fun t491 => (if t491 = true then (if (bt450.2 != bt454.2) = true then (laws_FnFilesSorted.j0 k t431 bt434.1 bt434.2 bt442.1 bt450.1 bt458.1 bt462.1 bt466.1 bt474.1 bt478.1 bt482.1 true) else ((laws_vRows.f k bt450.1 bt454.1).bind fun t492 => (if t492 = true then (if (bt458.2 != bt460.2) = true then (laws_FnFilesSorted.j0 k t431 bt434.1 bt434.2 bt442.1 bt450.1 bt458.1 bt462.1 bt466.1 bt474.1 bt478.1 bt482.1 true) else (if (bt458.1 != bt460.1) = true then (laws_FnFilesSorted.j0 k t431 bt434.1 bt434.2 bt442.1 bt450.1 bt458.1 bt462.1 bt466.1 bt474.1 bt478.1 bt482.1 true) else (if (bt462.2 != bt464.2) = true then (laws_FnFilesSorted.j0 k t431 bt434.1 bt434.2 bt442.1 bt450.1 bt458.1 bt462.1 bt466.1 bt474.1 bt478.1 bt482.1 true) else (if (bt462.1 != bt464.1) = true then (laws_FnFilesSorted.j0 k t431 bt434.1 bt434.2 bt442.1 bt450.1 bt458.1 bt462.1 bt466.1 bt474.1 bt478.1 bt482.1 true) else (if (bt466.2 != bt470.2) = true then (laws_FnFilesSorted.j0 k t431 bt434.1 bt434.2 bt442.1 bt450.1 bt458.1 bt462.1 bt466.1 bt474.1 bt478.1 bt482.1 true) else ((laws_vRows.f k bt466.1 bt470.1).bind fun t493 => (if t493 = true then (if (bt474.2 != bt476.2) = true then (laws_FnFilesSorted.j0 k t431 bt434.1 bt434.2 bt442.1 bt450.1 bt458.1 bt462.1 bt466.1 bt474.1 bt478.1 bt482.1 true) else (if bt474.1 = bt476.1 then (if (bt478.2 != bt480.2) = true then (laws_FnFilesSorted.j0 k t431 bt434.1 bt434.2 bt442.1 bt450.1 bt458.1 bt462.1 bt466.1 bt474.1 bt478.1 bt482.1 true) else (if bt478.1 = bt480.1 then (if (bt482.2 != bt486.2) = true then (laws_FnFilesSorted.j0 k t431 bt434.1 bt434.2 bt442.1 bt450.1 bt458.1 bt462.1 bt466.1 bt474.1 bt478.1 bt482.1 true) else ((laws_vRows.f k bt482.1 bt486.1).bind fun t494 => (if t494 = true then ((impl_AreFiles.f t431).bind fun t495 => (if (bt434.2 != t495) = true then (laws_FnFilesSorted.j0 k t431 bt434.1 bt434.2 bt442.1 bt450.1 bt458.1 bt462.1 bt466.1 bt474.1 bt478.1 bt482.1 true) else ((impl_AreFiles.f t431).bind fun t496 => ((spec_AreFiles.f k t431).bind fun t497 => (if (t496 != t497) = true then (laws_FnFilesSorted.j0 k t431 bt434.1 bt434.2 bt442.1 bt450.1 bt458.1 bt462.1 bt466.1 bt474.1 bt478.1 bt482.1 true) else (if (bt442.2 != bt434.2) = true then (laws_FnFilesSorted.j0 k t431 bt434.1 bt434.2 bt442.1 bt450.1 bt458.1 bt462.1 bt466.1 bt474.1 bt478.1 bt482.1 true) else (if (bt450.2 != bt434.2) = true then (laws_FnFilesSorted.j0 k t431 bt434.1 bt434.2 bt442.1 bt450.1 bt458.1 bt462.1 bt466.1 bt474.1 bt478.1 bt482.1 true) else (if (bt458.2 != bt434.2) = true then (laws_FnFilesSorted.j0 k t431 bt434.1 bt434.2 bt442.1 bt450.1 bt458.1 bt462.1 bt466.1 bt474.1 bt478.1 bt482.1 true) else (if (bt462.2 != bt434.2) = true then (laws_FnFilesSorted.j0 k t431 bt434.1 bt434.2 bt442.1 bt450.1 bt458.1 bt462.1 bt466.1 bt474.1 bt478.1 bt482.1 true) else (if (bt466.2 != bt434.2) = true then (laws_FnFilesSorted.j0 k t431 bt434.1 bt434.2 bt442.1 bt450.1 bt458.1 bt462.1 bt466.1 bt474.1 bt478.1 bt482.1 true) else (if (bt474.2 != bt434.2) = true then (laws_FnFilesSorted.j0 k t431 bt434.1 bt434.2 bt442.1 bt450.1 bt458.1 bt462.1 bt466.1 bt474.1 bt478.1 bt482.1 true) else (if (bt478.2 != bt434.2) = true then (laws_FnFilesSorted.j0 k t431 bt434.1 bt434.2 bt442.1 bt450.1 bt458.1 bt462.1 bt466.1 bt474.1 bt478.1 bt482.1 true) else (laws_FnFilesSorted.j0 k t431 bt434.1 bt434.2 bt442.1 bt450.1 bt458.1 bt462.1 bt466.1 bt474.1 bt478.1 bt482.1 (bt482.2 != bt434.2)))))))))))))) else (laws_FnFilesSorted.j0 k t431 bt434.1 bt434.2 bt442.1 bt450.1 bt458.1 bt462.1 bt466.1 bt474.1 bt478.1 bt482.1 true)))) else (laws_FnFilesSorted.j0 k t431 bt434.1 bt434.2 bt442.1 bt450.1 bt458.1 bt462.1 bt466.1 bt474.1 bt478.1 bt482.1 true))) else (laws_FnFilesSorted.j0 k t431 bt434.1 bt434.2 bt442.1 bt450.1 bt458.1 bt462.1 bt466.1 bt474.1 bt478.1 bt482.1 true))) else (laws_FnFilesSorted.j0 k t431 bt434.1 bt434.2 bt442.1 bt450.1 bt458.1 bt462.1 bt466.1 bt474.1 bt478.1 bt482.1 true)))))))) else (laws_FnFilesSorted.j0 k t431 bt434.1 bt434.2 bt442.1 bt450.1 bt458.1 bt462.1 bt466.1 bt474.1 bt478.1 bt482.1 true)))) else (laws_FnFilesSorted.j0 k t431 bt434.1 bt434.2 bt442.1 bt450.1 bt458.1 bt462.1 bt466.1 bt474.1 bt478.1 bt482.1 true)))) else (laws_FnFilesSorted.j0 k t431 bt434.1 bt434.2 bt442.1 bt450.1 bt458.1 bt462.1 bt466.1 bt474.1 bt478.1 bt482.1 true))))))))))))))))))))))))) = some r := h
  clear h
  replace H := Option.bind_eq_some_iff.mp H
  obtain ⟨t430, A30, H⟩ := H
  (try dsimp only at H)
  have A3 := Aside0.mk A30
  clear A30
  by_cases c4 : t430 = true
  · subst c4
    rw [if_pos rfl] at H
    obtain rfl := Option.some.inj H
    clear hrt
    go_enter Try.func3, Try.ntmps3
    go_wp2_with (first | (go_at_call 4; (with_reducible refine (laws_big.calls _ _ l0 _ _ l1 true _ ?side1 ?side2 ?side3 ?side4 A3.out).mono ?_); (case side1 => repeat (first | exact HR0.out | (with_reducible refine Kd.C_alloc ?_ _) | (with_reducible refine Kd.C_drewN ?_ _) | (with_reducible refine Kd.C_drew ?_))); (case side2 => exact HC0.out); (case side3 => repeat (first | exact HR1.out | (with_reducible refine Kd.C_alloc ?_ _) | (with_reducible refine Kd.C_drewN ?_ _) | (with_reducible refine Kd.C_drew ?_))); (case side4 => exact HC1.out); rintro e w' ⟨rfl, ⟨nd, rfl⟩⟩; (try first | exact ⟨rfl, _, World.drewN_drewN _ _ _⟩ | exact ⟨rfl, _, Eq.trans (World.drewN_drewN _ _ _) (congrArg (World.drewN _) (Nat.add_assoc _ _ _))⟩)))
    repeat (go_quiet (first | (go_at_call 4; (with_reducible refine (laws_big.calls _ _ l0 _ _ l1 true _ ?side1 ?side2 ?side3 ?side4 A3.out).mono ?_); (case side1 => repeat (first | exact HR0.out | (with_reducible refine Kd.C_alloc ?_ _) | (with_reducible refine Kd.C_drewN ?_ _) | (with_reducible refine Kd.C_drew ?_))); (case side2 => exact HC0.out); (case side3 => repeat (first | exact HR1.out | (with_reducible refine Kd.C_alloc ?_ _) | (with_reducible refine Kd.C_drewN ?_ _) | (with_reducible refine Kd.C_drew ?_))); (case side4 => exact HC1.out); rintro e w' ⟨rfl, ⟨nd, rfl⟩⟩; (try first | exact ⟨rfl, _, World.drewN_drewN _ _ _⟩ | exact ⟨rfl, _, Eq.trans (World.drewN_drewN _ _ _) (congrArg (World.drewN _) (Nat.add_assoc _ _ _))⟩))); try go_wp2_with (first | (go_at_call 4; (with_reducible refine (laws_big.calls _ _ l0 _ _ l1 true _ ?side1 ?side2 ?side3 ?side4 A3.out).mono ?_); (case side1 => repeat (first | exact HR0.out | (with_reducible refine Kd.C_alloc ?_ _) | (with_reducible refine Kd.C_drewN ?_ _) | (with_reducible refine Kd.C_drew ?_))); (case side2 => exact HC0.out); (case side3 => repeat (first | exact HR1.out | (with_reducible refine Kd.C_alloc ?_ _) | (with_reducible refine Kd.C_drewN ?_ _) | (with_reducible refine Kd.C_drew ?_))); (case side4 => exact HC1.out); rintro e w' ⟨rfl, ⟨nd, rfl⟩⟩; (try first | exact ⟨rfl, _, World.drewN_drewN _ _ _⟩ | exact ⟨rfl, _, Eq.trans (World.drewN_drewN _ _ _) (congrArg (World.drewN _) (Nat.add_assoc _ _ _))⟩))))
    go_ret
    exact ⟨by first | rfl | (simp [errW_none, errW_some] <;> rfl) | (simp [*, errW_none, errW_some] <;> rfl), by repeat (first | (with_reducible first | exact HB.out | apply below_alloc | apply pw_below_drewN | apply below_drew1) | exact HB.out)⟩
  · replace c4 := Bool.eq_false_iff.mpr c4
    subst c4
    rw [if_neg (show ¬ (false = true) by decide)] at H
    replace H := Option.bind_eq_some_iff.mp H
    obtain ⟨t431, A50, H⟩ := H
    (try dsimp only at H)
    have A5 := Aside0.mk A50
    clear A50
    replace H := Option.bind_eq_some_iff.mp H
    obtain ⟨⟨t434, t435⟩, A60, H⟩ := H
    (try dsimp only at H)
    have A6 := Aside0.mk A60
    clear A60
    replace H := Option.bind_eq_some_iff.mp H
    obtain ⟨⟨t438, t439⟩, A70, H⟩ := H
    (try dsimp only at H)
    have A7 := Aside0.mk A70
    clear A70
    replace H := Option.bind_eq_some_iff.mp H
    obtain ⟨⟨t442, t443⟩, A80, H⟩ := H
    (try dsimp only at H)
    have A8 := Aside0.mk A80
    clear A80
    replace H := Option.bind_eq_some_iff.mp H
    obtain ⟨⟨t446, t447⟩, A90, H⟩ := H
    (try dsimp only at H)
    have A9 := Aside0.mk A90
    clear A90
    replace H := Option.bind_eq_some_iff.mp H
    obtain ⟨⟨t450, t451⟩, A100, H⟩ := H
    (try dsimp only at H)
    have A10 := Aside0.mk A100
    clear A100
    replace H := Option.bind_eq_some_iff.mp H
    obtain ⟨⟨t454, t455⟩, A110, H⟩ := H
    (try dsimp only at H)
    have A11 := Aside0.mk A110
    clear A110
    replace H := Option.bind_eq_some_iff.mp H
    obtain ⟨⟨t458, t459⟩, A120, H⟩ := H
    (try dsimp only at H)
    have A12 := Aside0.mk A120
    clear A120
    replace H := Option.bind_eq_some_iff.mp H
    obtain ⟨⟨t460, t461⟩, A130, H⟩ := H
    (try dsimp only at H)
    have A13 := Aside0.mk A130
    clear A130
    replace H := Option.bind_eq_some_iff.mp H
    obtain ⟨⟨t462, t463⟩, A140, H⟩ := H
    (try dsimp only at H)
    have A14 := Aside0.mk A140
    clear A140
    replace H := Option.bind_eq_some_iff.mp H
    obtain ⟨⟨t464, t465⟩, A150, H⟩ := H
    (try dsimp only at H)
    have A15 := Aside0.mk A150
    clear A150
    replace H := Option.bind_eq_some_iff.mp H
    obtain ⟨⟨t466, t467⟩, A160, H⟩ := H
    (try dsimp only at H)
    have A16 := Aside0.mk A160
    clear A160
    replace H := Option.bind_eq_some_iff.mp H
    obtain ⟨⟨t470, t471⟩, A170, H⟩ := H
    (try dsimp only at H)
    have A17 := Aside0.mk A170
    clear A170
    replace H := Option.bind_eq_some_iff.mp H
    obtain ⟨⟨t474, t475⟩, A180, H⟩ := H
    (try dsimp only at H)
    have A18 := Aside0.mk A180
    clear A180
    replace H := Option.bind_eq_some_iff.mp H
    obtain ⟨⟨t476, t477⟩, A190, H⟩ := H
    (try dsimp only at H)
    have A19 := Aside0.mk A190
    clear A190
    replace H := Option.bind_eq_some_iff.mp H
    obtain ⟨⟨t478, t479⟩, A200, H⟩ := H
    (try dsimp only at H)
    have A20 := Aside0.mk A200
    clear A200
    replace H := Option.bind_eq_some_iff.mp H
    obtain ⟨⟨t480, t481⟩, A210, H⟩ := H
    (try dsimp only at H)
    have A21 := Aside0.mk A210
    clear A210
    replace H := Option.bind_eq_some_iff.mp H
    obtain ⟨⟨t482, t483⟩, A220, H⟩ := H
    (try dsimp only at H)
    have A22 := Aside0.mk A220
    clear A220
    replace H := Option.bind_eq_some_iff.mp H
    obtain ⟨⟨t486, t487⟩, A230, H⟩ := H
    (try dsimp only at H)
    have A23 := Aside0.mk A230
    clear A230
    have HC24 := Aside0.mk H
    clear H
    go_enter Try.func3, Try.ntmps3
    go_upto_region 22 with (first | (go_at_call 4; (with_reducible refine (laws_big.calls _ _ l0 _ _ l1 false _ ?side1 ?side2 ?side3 ?side4 A3.out).mono ?_); (case side1 => repeat (first | exact HR0.out | (with_reducible refine Kd.C_alloc ?_ _) | (with_reducible refine Kd.C_drewN ?_ _) | (with_reducible refine Kd.C_drew ?_))); (case side2 => exact HC0.out); (case side3 => repeat (first | exact HR1.out | (with_reducible refine Kd.C_alloc ?_ _) | (with_reducible refine Kd.C_drewN ?_ _) | (with_reducible refine Kd.C_drew ?_))); (case side4 => exact HC1.out); rintro e w' ⟨rfl, ⟨nd, rfl⟩⟩; (try first | exact ⟨rfl, _, World.drewN_drewN _ _ _⟩ | exact ⟨rfl, _, Eq.trans (World.drewN_drewN _ _ _) (congrArg (World.drewN _) (Nat.add_assoc _ _ _))⟩)) | (go_at_call 5; (with_reducible refine (spec_DrawSortBoth.calls k _ _ l0 t431 _ ?side1 ?side2 A5.out).mono ?_); (case side1 => repeat (first | exact HR0.out | (with_reducible refine Kd.C_alloc ?_ _) | (with_reducible refine Kd.C_drewN ?_ _) | (with_reducible refine Kd.C_drew ?_))); (case side2 => exact HC0.out); rintro e w25 ⟨v432, rfl, ho0, hb⟩; have n0_ := Aside0.mk (Kd.N_lower (Kd.N_mono (ok' := fun k_ => True) ho0 (fun k_ hk_ => trivial)) (below_size (by repeat (first | (with_reducible first | exact HB.out | apply below_alloc | apply pw_below_drewN | apply below_drew1) | exact HB.out)))); have n1_ := Aside0.mk (below_step (by repeat (first | (with_reducible first | exact HB.out | apply below_alloc | apply pw_below_drewN | apply below_drew1) | exact HB.out)) hb); clear HB; have HO433 := n0_; have HB := n1_; clear n0_ n1_; (try clear hb); (try clear hb2); (try clear hk); (try clear hi); (try clear ho0); obtain ⟨Ao26, co26, eo26⟩ := Kd.N_slice HO433.out; subst eo26) | (go_at_call 6; (with_reducible refine (impl_SortBoth.calls k _ _ t431 t434 t435 _ ?side1 ?side2 A6.out).mono ?_); (case side1 => repeat (first | exact (Kd.N_reads' HO433.out).2.2 | (with_reducible refine Kd.C_alloc ?_ _) | (with_reducible refine Kd.C_drewN ?_ _) | (with_reducible refine Kd.C_drew ?_))); (case side2 => exact (Kd.N_reads' HO433.out).2.1); rintro e w27 ⟨v436, rfl, ho0, hb⟩; have n0_ := Aside0.mk (Kd.N_elder' (by (with_reducible repeat (first | apply Kd.N_alloc | apply Kd.N_drewN | apply Kd.N_drew)); exact HO433.out) (Kd.S_base ho0) hb); have n1_ := Aside0.mk (Kd.N_lower (Kd.N_mono (ok' := fun k_ => some k_ ≠ (.slice Ao26 t431.length co26 : Value).ownBlock) (Kd.S_N (Kd.S_bound ho0)) (fun k_ hk_ => (Kd.fresh' (Kd.N_lt (by (with_reducible repeat (first | apply Kd.N_alloc | apply Kd.N_drewN | apply Kd.N_drew)); exact HO433.out)) k_ hk_.2.1))) (below_size (by repeat (first | (with_reducible first | exact HB.out | apply below_alloc | apply pw_below_drewN | apply below_drew1) | exact HB.out)))); have n2_ := Aside0.mk (below_step (by repeat (first | (with_reducible first | exact HB.out | apply below_alloc | apply pw_below_drewN | apply below_drew1) | exact HB.out)) hb); clear HO433; clear HB; have HO433 := n0_; have HO437 := n1_; have HB := n2_; clear n0_ n1_ n2_; (try clear hb); (try clear hb2); (try clear hk); (try clear hi); (try clear ho0)) | (go_at_call 7; (with_reducible refine (spec_SortBoth.calls k _ _ t431 t438 t439 _ ?side1 ?side2 A7.out).mono ?_); (case side1 => repeat (first | exact (Kd.N_reads' HO433.out).2.2 | (with_reducible refine Kd.C_alloc ?_ _) | (with_reducible refine Kd.C_drewN ?_ _) | (with_reducible refine Kd.C_drew ?_))); (case side2 => exact (Kd.N_reads' HO433.out).2.1); rintro e w28 ⟨v440, rfl, ho0, hb⟩; have n0_ := Aside0.mk (Kd.N_elder' (by (with_reducible repeat (first | apply Kd.N_alloc | apply Kd.N_drewN | apply Kd.N_drew)); exact HO433.out) (Kd.S_base ho0) hb); have n1_ := Aside0.mk (Kd.N_elder' (by (with_reducible repeat (first | apply Kd.N_alloc | apply Kd.N_drewN | apply Kd.N_drew)); exact HO437.out) (Kd.S_base ho0) hb); have n2_ := Aside0.mk (Kd.N_lower (Kd.N_mono (ok' := fun k_ => some k_ ≠ (.slice Ao26 t431.length co26 : Value).ownBlock ∧ some k_ ≠ (v436 : Value).ownBlock) (Kd.S_N (Kd.S_bound ho0)) (fun k_ hk_ => ⟨(Kd.fresh' (Kd.N_lt (by (with_reducible repeat (first | apply Kd.N_alloc | apply Kd.N_drewN | apply Kd.N_drew)); exact HO433.out)) k_ hk_.2.1), (Kd.fresh' (Kd.N_lt (by (with_reducible repeat (first | apply Kd.N_alloc | apply Kd.N_drewN | apply Kd.N_drew)); exact HO437.out)) k_ hk_.2.1)⟩)) (below_size (by repeat (first | (with_reducible first | exact HB.out | apply below_alloc | apply pw_below_drewN | apply below_drew1) | exact HB.out)))); have n3_ := Aside0.mk (below_step (by repeat (first | (with_reducible first | exact HB.out | apply below_alloc | apply pw_below_drewN | apply below_drew1) | exact HB.out)) hb); clear HO433; clear HO437; clear HB; have HO433 := n0_; have HO437 := n1_; have HO441 := n2_; have HB := n3_; clear n0_ n1_ n2_ n3_; (try clear hb); (try clear hb2); (try clear hk); (try clear hi); (try clear ho0)) | (go_at_call 8; (with_reducible refine (impl_SortFileRows.calls k _ _ t431 t442 t443 _ ?side1 ?side2 A8.out).mono ?_); (case side1 => repeat (first | exact (Kd.N_reads' HO433.out).2.2 | (with_reducible refine Kd.C_alloc ?_ _) | (with_reducible refine Kd.C_drewN ?_ _) | (with_reducible refine Kd.C_drew ?_))); (case side2 => exact (Kd.N_reads' HO433.out).2.1); rintro e w29 ⟨v444, rfl, ho0, hb⟩; have n0_ := Aside0.mk (Kd.N_elder' (by (with_reducible repeat (first | apply Kd.N_alloc | apply Kd.N_drewN | apply Kd.N_drew)); exact HO433.out) (Kd.S_base ho0) hb); have n1_ := Aside0.mk (Kd.N_elder' (by (with_reducible repeat (first | apply Kd.N_alloc | apply Kd.N_drewN | apply Kd.N_drew)); exact HO437.out) (Kd.S_base ho0) hb); have n2_ := Aside0.mk (Kd.N_elder' (by (with_reducible repeat (first | apply Kd.N_alloc | apply Kd.N_drewN | apply Kd.N_drew)); exact HO441.out) (Kd.S_base ho0) hb); have n3_ := Aside0.mk (Kd.N_lower (Kd.N_mono (ok' := fun k_ => some k_ ≠ (.slice Ao26 t431.length co26 : Value).ownBlock ∧ some k_ ≠ (v436 : Value).ownBlock ∧ some k_ ≠ (v440 : Value).ownBlock) (Kd.S_N (Kd.S_bound ho0)) (fun k_ hk_ => ⟨(Kd.fresh' (Kd.N_lt (by (with_reducible repeat (first | apply Kd.N_alloc | apply Kd.N_drewN | apply Kd.N_drew)); exact HO433.out)) k_ hk_.2.1), (Kd.fresh' (Kd.N_lt (by (with_reducible repeat (first | apply Kd.N_alloc | apply Kd.N_drewN | apply Kd.N_drew)); exact HO437.out)) k_ hk_.2.1), (Kd.fresh' (Kd.N_lt (by (with_reducible repeat (first | apply Kd.N_alloc | apply Kd.N_drewN | apply Kd.N_drew)); exact HO441.out)) k_ hk_.2.1)⟩)) (below_size (by repeat (first | (with_reducible first | exact HB.out | apply below_alloc | apply pw_below_drewN | apply below_drew1) | exact HB.out)))); have n4_ := Aside0.mk (below_step (by repeat (first | (with_reducible first | exact HB.out | apply below_alloc | apply pw_below_drewN | apply below_drew1) | exact HB.out)) hb); clear HO433; clear HO437; clear HO441; clear HB; have HO433 := n0_; have HO437 := n1_; have HO441 := n2_; have HO445 := n3_; have HB := n4_; clear n0_ n1_ n2_ n3_ n4_; (try clear hb); (try clear hb2); (try clear hk); (try clear hi); (try clear ho0)) | (go_at_call 9; (with_reducible refine (spec_SortFileRows.calls k _ _ t431 t446 t447 _ ?side1 ?side2 A9.out).mono ?_); (case side1 => repeat (first | exact (Kd.N_reads' HO433.out).2.2 | (with_reducible refine Kd.C_alloc ?_ _) | (with_reducible refine Kd.C_drewN ?_ _) | (with_reducible refine Kd.C_drew ?_))); (case side2 => exact (Kd.N_reads' HO433.out).2.1); rintro e w30 ⟨v448, rfl, ho0, hb⟩; have n0_ := Aside0.mk (Kd.N_elder' (by (with_reducible repeat (first | apply Kd.N_alloc | apply Kd.N_drewN | apply Kd.N_drew)); exact HO433.out) (Kd.S_base ho0) hb); have n1_ := Aside0.mk (Kd.N_elder' (by (with_reducible repeat (first | apply Kd.N_alloc | apply Kd.N_drewN | apply Kd.N_drew)); exact HO437.out) (Kd.S_base ho0) hb); have n2_ := Aside0.mk (Kd.N_elder' (by (with_reducible repeat (first | apply Kd.N_alloc | apply Kd.N_drewN | apply Kd.N_drew)); exact HO441.out) (Kd.S_base ho0) hb); have n3_ := Aside0.mk (Kd.N_elder' (by (with_reducible repeat (first | apply Kd.N_alloc | apply Kd.N_drewN | apply Kd.N_drew)); exact HO445.out) (Kd.S_base ho0) hb); have n4_ := Aside0.mk (Kd.N_lower (Kd.N_mono (ok' := fun k_ => some k_ ≠ (.slice Ao26 t431.length co26 : Value).ownBlock ∧ some k_ ≠ (v436 : Value).ownBlock ∧ some k_ ≠ (v440 : Value).ownBlock ∧ some k_ ≠ (v444 : Value).ownBlock) (Kd.S_N (Kd.S_bound ho0)) (fun k_ hk_ => ⟨(Kd.fresh' (Kd.N_lt (by (with_reducible repeat (first | apply Kd.N_alloc | apply Kd.N_drewN | apply Kd.N_drew)); exact HO433.out)) k_ hk_.2.1), (Kd.fresh' (Kd.N_lt (by (with_reducible repeat (first | apply Kd.N_alloc | apply Kd.N_drewN | apply Kd.N_drew)); exact HO437.out)) k_ hk_.2.1), (Kd.fresh' (Kd.N_lt (by (with_reducible repeat (first | apply Kd.N_alloc | apply Kd.N_drewN | apply Kd.N_drew)); exact HO441.out)) k_ hk_.2.1), (Kd.fresh' (Kd.N_lt (by (with_reducible repeat (first | apply Kd.N_alloc | apply Kd.N_drewN | apply Kd.N_drew)); exact HO445.out)) k_ hk_.2.1)⟩)) (below_size (by repeat (first | (with_reducible first | exact HB.out | apply below_alloc | apply pw_below_drewN | apply below_drew1) | exact HB.out)))); have n5_ := Aside0.mk (below_step (by repeat (first | (with_reducible first | exact HB.out | apply below_alloc | apply pw_below_drewN | apply below_drew1) | exact HB.out)) hb); clear HO433; clear HO437; clear HO441; clear HO445; clear HB; have HO433 := n0_; have HO437 := n1_; have HO441 := n2_; have HO445 := n3_; have HO449 := n4_; have HB := n5_; clear n0_ n1_ n2_ n3_ n4_ n5_; (try clear hb); (try clear hb2); (try clear hk); (try clear hi); (try clear ho0)) | (go_at_call 10; (with_reducible refine (impl_SortFileColumns.calls k _ _ t431 t450 t451 _ ?side1 ?side2 A10.out).mono ?_); (case side1 => repeat (first | exact (Kd.N_reads' HO433.out).2.2 | (with_reducible refine Kd.C_alloc ?_ _) | (with_reducible refine Kd.C_drewN ?_ _) | (with_reducible refine Kd.C_drew ?_))); (case side2 => exact (Kd.N_reads' HO433.out).2.1); rintro e w31 ⟨v452, rfl, ho0, hb⟩; have n0_ := Aside0.mk (Kd.N_elder' (by (with_reducible repeat (first | apply Kd.N_alloc | apply Kd.N_drewN | apply Kd.N_drew)); exact HO433.out) (Kd.S_base ho0) hb); have n1_ := Aside0.mk (Kd.N_elder' (by (with_reducible repeat (first | apply Kd.N_alloc | apply Kd.N_drewN | apply Kd.N_drew)); exact HO437.out) (Kd.S_base ho0) hb); have n2_ := Aside0.mk (Kd.N_elder' (by (with_reducible repeat (first | apply Kd.N_alloc | apply Kd.N_drewN | apply Kd.N_drew)); exact HO441.out) (Kd.S_base ho0) hb); have n3_ := Aside0.mk (Kd.N_elder' (by (with_reducible repeat (first | apply Kd.N_alloc | apply Kd.N_drewN | apply Kd.N_drew)); exact HO445.out) (Kd.S_base ho0) hb); have n4_ := Aside0.mk (Kd.N_elder' (by (with_reducible repeat (first | apply Kd.N_alloc | apply Kd.N_drewN | apply Kd.N_drew)); exact HO449.out) (Kd.S_base ho0) hb); have n5_ := Aside0.mk (Kd.N_lower (Kd.N_mono (ok' := fun k_ => some k_ ≠ (.slice Ao26 t431.length co26 : Value).ownBlock ∧ some k_ ≠ (v436 : Value).ownBlock ∧ some k_ ≠ (v440 : Value).ownBlock ∧ some k_ ≠ (v444 : Value).ownBlock ∧ some k_ ≠ (v448 : Value).ownBlock) (Kd.S_N (Kd.S_bound ho0)) (fun k_ hk_ => ⟨(Kd.fresh' (Kd.N_lt (by (with_reducible repeat (first | apply Kd.N_alloc | apply Kd.N_drewN | apply Kd.N_drew)); exact HO433.out)) k_ hk_.2.1), (Kd.fresh' (Kd.N_lt (by (with_reducible repeat (first | apply Kd.N_alloc | apply Kd.N_drewN | apply Kd.N_drew)); exact HO437.out)) k_ hk_.2.1), (Kd.fresh' (Kd.N_lt (by (with_reducible repeat (first | apply Kd.N_alloc | apply Kd.N_drewN | apply Kd.N_drew)); exact HO441.out)) k_ hk_.2.1), (Kd.fresh' (Kd.N_lt (by (with_reducible repeat (first | apply Kd.N_alloc | apply Kd.N_drewN | apply Kd.N_drew)); exact HO445.out)) k_ hk_.2.1), (Kd.fresh' (Kd.N_lt (by (with_reducible repeat (first | apply Kd.N_alloc | apply Kd.N_drewN | apply Kd.N_drew)); exact HO449.out)) k_ hk_.2.1)⟩)) (below_size (by repeat (first | (with_reducible first | exact HB.out | apply below_alloc | apply pw_below_drewN | apply below_drew1) | exact HB.out)))); have n6_ := Aside0.mk (below_step (by repeat (first | (with_reducible first | exact HB.out | apply below_alloc | apply pw_below_drewN | apply below_drew1) | exact HB.out)) hb); clear HO433; clear HO437; clear HO441; clear HO445; clear HO449; clear HB; have HO433 := n0_; have HO437 := n1_; have HO441 := n2_; have HO445 := n3_; have HO449 := n4_; have HO453 := n5_; have HB := n6_; clear n0_ n1_ n2_ n3_ n4_ n5_ n6_; (try clear hb); (try clear hb2); (try clear hk); (try clear hi); (try clear ho0)) | (go_at_call 11; (with_reducible refine (spec_SortFileColumns.calls k _ _ t431 t454 t455 _ ?side1 ?side2 A11.out).mono ?_); (case side1 => repeat (first | exact (Kd.N_reads' HO433.out).2.2 | (with_reducible refine Kd.C_alloc ?_ _) | (with_reducible refine Kd.C_drewN ?_ _) | (with_reducible refine Kd.C_drew ?_))); (case side2 => exact (Kd.N_reads' HO433.out).2.1); rintro e w32 ⟨v456, rfl, ho0, hb⟩; have n0_ := Aside0.mk (Kd.N_elder' (by (with_reducible repeat (first | apply Kd.N_alloc | apply Kd.N_drewN | apply Kd.N_drew)); exact HO433.out) (Kd.S_base ho0) hb); have n1_ := Aside0.mk (Kd.N_elder' (by (with_reducible repeat (first | apply Kd.N_alloc | apply Kd.N_drewN | apply Kd.N_drew)); exact HO437.out) (Kd.S_base ho0) hb); have n2_ := Aside0.mk (Kd.N_elder' (by (with_reducible repeat (first | apply Kd.N_alloc | apply Kd.N_drewN | apply Kd.N_drew)); exact HO441.out) (Kd.S_base ho0) hb); have n3_ := Aside0.mk (Kd.N_elder' (by (with_reducible repeat (first | apply Kd.N_alloc | apply Kd.N_drewN | apply Kd.N_drew)); exact HO445.out) (Kd.S_base ho0) hb); have n4_ := Aside0.mk (Kd.N_elder' (by (with_reducible repeat (first | apply Kd.N_alloc | apply Kd.N_drewN | apply Kd.N_drew)); exact HO449.out) (Kd.S_base ho0) hb); have n5_ := Aside0.mk (Kd.N_elder' (by (with_reducible repeat (first | apply Kd.N_alloc | apply Kd.N_drewN | apply Kd.N_drew)); exact HO453.out) (Kd.S_base ho0) hb); have n6_ := Aside0.mk (Kd.N_lower (Kd.N_mono (ok' := fun k_ => some k_ ≠ (.slice Ao26 t431.length co26 : Value).ownBlock ∧ some k_ ≠ (v436 : Value).ownBlock ∧ some k_ ≠ (v440 : Value).ownBlock ∧ some k_ ≠ (v444 : Value).ownBlock ∧ some k_ ≠ (v448 : Value).ownBlock ∧ some k_ ≠ (v452 : Value).ownBlock) (Kd.S_N (Kd.S_bound ho0)) (fun k_ hk_ => ⟨(Kd.fresh' (Kd.N_lt (by (with_reducible repeat (first | apply Kd.N_alloc | apply Kd.N_drewN | apply Kd.N_drew)); exact HO433.out)) k_ hk_.2.1), (Kd.fresh' (Kd.N_lt (by (with_reducible repeat (first | apply Kd.N_alloc | apply Kd.N_drewN | apply Kd.N_drew)); exact HO437.out)) k_ hk_.2.1), (Kd.fresh' (Kd.N_lt (by (with_reducible repeat (first | apply Kd.N_alloc | apply Kd.N_drewN | apply Kd.N_drew)); exact HO441.out)) k_ hk_.2.1), (Kd.fresh' (Kd.N_lt (by (with_reducible repeat (first | apply Kd.N_alloc | apply Kd.N_drewN | apply Kd.N_drew)); exact HO445.out)) k_ hk_.2.1), (Kd.fresh' (Kd.N_lt (by (with_reducible repeat (first | apply Kd.N_alloc | apply Kd.N_drewN | apply Kd.N_drew)); exact HO449.out)) k_ hk_.2.1), (Kd.fresh' (Kd.N_lt (by (with_reducible repeat (first | apply Kd.N_alloc | apply Kd.N_drewN | apply Kd.N_drew)); exact HO453.out)) k_ hk_.2.1)⟩)) (below_size (by repeat (first | (with_reducible first | exact HB.out | apply below_alloc | apply pw_below_drewN | apply below_drew1) | exact HB.out)))); have n7_ := Aside0.mk (below_step (by repeat (first | (with_reducible first | exact HB.out | apply below_alloc | apply pw_below_drewN | apply below_drew1) | exact HB.out)) hb); clear HO433; clear HO437; clear HO441; clear HO445; clear HO449; clear HO453; clear HB; have HO433 := n0_; have HO437 := n1_; have HO441 := n2_; have HO445 := n3_; have HO449 := n4_; have HO453 := n5_; have HO457 := n6_; have HB := n7_; clear n0_ n1_ n2_ n3_ n4_ n5_ n6_ n7_; (try clear hb); (try clear hb2); (try clear hk); (try clear hi); (try clear ho0)) | (go_at_call 12; (with_reducible refine (impl_AreRowsSorted.calls k _ _ t431 t458 t459 _ ?side1 ?side2 A12.out).mono ?_); (case side1 => repeat (first | exact (Kd.N_reads' HO433.out).2.2 | (with_reducible refine Kd.C_alloc ?_ _) | (with_reducible refine Kd.C_drewN ?_ _) | (with_reducible refine Kd.C_drew ?_))); (case side2 => exact (Kd.N_reads' HO433.out).2.1); rintro e w33 ⟨rfl, hb⟩; have n0_ := Aside0.mk (Kd.N_below (by (with_reducible repeat (first | apply Kd.N_alloc | apply Kd.N_drewN | apply Kd.N_drew)); exact HO433.out) hb); have n1_ := Aside0.mk (Kd.N_below (by (with_reducible repeat (first | apply Kd.N_alloc | apply Kd.N_drewN | apply Kd.N_drew)); exact HO437.out) hb); have n2_ := Aside0.mk (Kd.N_below (by (with_reducible repeat (first | apply Kd.N_alloc | apply Kd.N_drewN | apply Kd.N_drew)); exact HO441.out) hb); have n3_ := Aside0.mk (Kd.N_below (by (with_reducible repeat (first | apply Kd.N_alloc | apply Kd.N_drewN | apply Kd.N_drew)); exact HO445.out) hb); have n4_ := Aside0.mk (Kd.N_below (by (with_reducible repeat (first | apply Kd.N_alloc | apply Kd.N_drewN | apply Kd.N_drew)); exact HO449.out) hb); have n5_ := Aside0.mk (Kd.N_below (by (with_reducible repeat (first | apply Kd.N_alloc | apply Kd.N_drewN | apply Kd.N_drew)); exact HO453.out) hb); have n6_ := Aside0.mk (Kd.N_below (by (with_reducible repeat (first | apply Kd.N_alloc | apply Kd.N_drewN | apply Kd.N_drew)); exact HO457.out) hb); have n7_ := Aside0.mk (below_step (by repeat (first | (with_reducible first | exact HB.out | apply below_alloc | apply pw_below_drewN | apply below_drew1) | exact HB.out)) hb); clear HO433; clear HO437; clear HO441; clear HO445; clear HO449; clear HO453; clear HO457; clear HB; have HO433 := n0_; have HO437 := n1_; have HO441 := n2_; have HO445 := n3_; have HO449 := n4_; have HO453 := n5_; have HO457 := n6_; have HB := n7_; clear n0_ n1_ n2_ n3_ n4_ n5_ n6_ n7_; (try clear hb); (try clear hb2); (try clear hk); (try clear hi)) | (go_at_call 13; (with_reducible refine (spec_AreRowsSorted.calls k _ _ t431 t460 t461 _ ?side1 ?side2 A13.out).mono ?_); (case side1 => repeat (first | exact (Kd.N_reads' HO433.out).2.2 | (with_reducible refine Kd.C_alloc ?_ _) | (with_reducible refine Kd.C_drewN ?_ _) | (with_reducible refine Kd.C_drew ?_))); (case side2 => exact (Kd.N_reads' HO433.out).2.1); rintro e w' ⟨rfl, ⟨nd, rfl⟩⟩; (try first | exact ⟨rfl, _, World.drewN_drewN _ _ _⟩ | exact ⟨rfl, _, Eq.trans (World.drewN_drewN _ _ _) (congrArg (World.drewN _) (Nat.add_assoc _ _ _))⟩)) | (go_at_call 14; (with_reducible refine (impl_AreColumnsSorted.calls k _ _ t431 t462 t463 _ ?side1 ?side2 A14.out).mono ?_); (case side1 => repeat (first | exact (Kd.N_reads' HO433.out).2.2 | (with_reducible refine Kd.C_alloc ?_ _) | (with_reducible refine Kd.C_drewN ?_ _) | (with_reducible refine Kd.C_drew ?_))); (case side2 => exact (Kd.N_reads' HO433.out).2.1); rintro e w34 ⟨rfl, hb⟩; have n0_ := Aside0.mk (Kd.N_below (by (with_reducible repeat (first | apply Kd.N_alloc | apply Kd.N_drewN | apply Kd.N_drew)); exact HO433.out) hb); have n1_ := Aside0.mk (Kd.N_below (by (with_reducible repeat (first | apply Kd.N_alloc | apply Kd.N_drewN | apply Kd.N_drew)); exact HO437.out) hb); have n2_ := Aside0.mk (Kd.N_below (by (with_reducible repeat (first | apply Kd.N_alloc | apply Kd.N_drewN | apply Kd.N_drew)); exact HO441.out) hb); have n3_ := Aside0.mk (Kd.N_below (by (with_reducible repeat (first | apply Kd.N_alloc | apply Kd.N_drewN | apply Kd.N_drew)); exact HO445.out) hb); have n4_ := Aside0.mk (Kd.N_below (by (with_reducible repeat (first | apply Kd.N_alloc | apply Kd.N_drewN | apply Kd.N_drew)); exact HO449.out) hb); have n5_ := Aside0.mk (Kd.N_below (by (with_reducible repeat (first | apply Kd.N_alloc | apply Kd.N_drewN | apply Kd.N_drew)); exact HO453.out) hb); have n6_ := Aside0.mk (Kd.N_below (by (with_reducible repeat (first | apply Kd.N_alloc | apply Kd.N_drewN | apply Kd.N_drew)); exact HO457.out) hb); have n7_ := Aside0.mk (below_step (by repeat (first | (with_reducible first | exact HB.out | apply below_alloc | apply pw_below_drewN | apply below_drew1) | exact HB.out)) hb); clear HO433; clear HO437; clear HO441; clear HO445; clear HO449; clear HO453; clear HO457; clear HB; have HO433 := n0_; have HO437 := n1_; have HO441 := n2_; have HO445 := n3_; have HO449 := n4_; have HO453 := n5_; have HO457 := n6_; have HB := n7_; clear n0_ n1_ n2_ n3_ n4_ n5_ n6_ n7_; (try clear hb); (try clear hb2); (try clear hk); (try clear hi)) | (go_at_call 15; (with_reducible refine (spec_AreColumnsSorted.calls k _ _ t431 t464 t465 _ ?side1 ?side2 A15.out).mono ?_); (case side1 => repeat (first | exact (Kd.N_reads' HO433.out).2.2 | (with_reducible refine Kd.C_alloc ?_ _) | (with_reducible refine Kd.C_drewN ?_ _) | (with_reducible refine Kd.C_drew ?_))); (case side2 => exact (Kd.N_reads' HO433.out).2.1); rintro e w35 ⟨rfl, hb⟩; have n0_ := Aside0.mk (Kd.N_below (by (with_reducible repeat (first | apply Kd.N_alloc | apply Kd.N_drewN | apply Kd.N_drew)); exact HO433.out) hb); have n1_ := Aside0.mk (Kd.N_below (by (with_reducible repeat (first | apply Kd.N_alloc | apply Kd.N_drewN | apply Kd.N_drew)); exact HO437.out) hb); have n2_ := Aside0.mk (Kd.N_below (by (with_reducible repeat (first | apply Kd.N_alloc | apply Kd.N_drewN | apply Kd.N_drew)); exact HO441.out) hb); have n3_ := Aside0.mk (Kd.N_below (by (with_reducible repeat (first | apply Kd.N_alloc | apply Kd.N_drewN | apply Kd.N_drew)); exact HO445.out) hb); have n4_ := Aside0.mk (Kd.N_below (by (with_reducible repeat (first | apply Kd.N_alloc | apply Kd.N_drewN | apply Kd.N_drew)); exact HO449.out) hb); have n5_ := Aside0.mk (Kd.N_below (by (with_reducible repeat (first | apply Kd.N_alloc | apply Kd.N_drewN | apply Kd.N_drew)); exact HO453.out) hb); have n6_ := Aside0.mk (Kd.N_below (by (with_reducible repeat (first | apply Kd.N_alloc | apply Kd.N_drewN | apply Kd.N_drew)); exact HO457.out) hb); have n7_ := Aside0.mk (below_step (by repeat (first | (with_reducible first | exact HB.out | apply below_alloc | apply pw_below_drewN | apply below_drew1) | exact HB.out)) hb); clear HO433; clear HO437; clear HO441; clear HO445; clear HO449; clear HO453; clear HO457; clear HB; have HO433 := n0_; have HO437 := n1_; have HO441 := n2_; have HO445 := n3_; have HO449 := n4_; have HO453 := n5_; have HO457 := n6_; have HB := n7_; clear n0_ n1_ n2_ n3_ n4_ n5_ n6_ n7_; (try clear hb); (try clear hb2); (try clear hk); (try clear hi)) | (go_at_call 16; (with_reducible refine (impl_TurnFiles.calls k _ _ t431 t466 t467 _ ?side1 ?side2 A16.out).mono ?_); (case side1 => repeat (first | exact (Kd.N_reads' HO433.out).2.2 | (with_reducible refine Kd.C_alloc ?_ _) | (with_reducible refine Kd.C_drewN ?_ _) | (with_reducible refine Kd.C_drew ?_))); (case side2 => exact (Kd.N_reads' HO433.out).2.1); rintro e w36 ⟨v468, rfl, ho0, hb⟩; have n0_ := Aside0.mk (Kd.N_elder' (by (with_reducible repeat (first | apply Kd.N_alloc | apply Kd.N_drewN | apply Kd.N_drew)); exact HO433.out) (Kd.S_base ho0) hb); have n1_ := Aside0.mk (Kd.N_elder' (by (with_reducible repeat (first | apply Kd.N_alloc | apply Kd.N_drewN | apply Kd.N_drew)); exact HO437.out) (Kd.S_base ho0) hb); have n2_ := Aside0.mk (Kd.N_elder' (by (with_reducible repeat (first | apply Kd.N_alloc | apply Kd.N_drewN | apply Kd.N_drew)); exact HO441.out) (Kd.S_base ho0) hb); have n3_ := Aside0.mk (Kd.N_elder' (by (with_reducible repeat (first | apply Kd.N_alloc | apply Kd.N_drewN | apply Kd.N_drew)); exact HO445.out) (Kd.S_base ho0) hb); have n4_ := Aside0.mk (Kd.N_elder' (by (with_reducible repeat (first | apply Kd.N_alloc | apply Kd.N_drewN | apply Kd.N_drew)); exact HO449.out) (Kd.S_base ho0) hb); have n5_ := Aside0.mk (Kd.N_elder' (by (with_reducible repeat (first | apply Kd.N_alloc | apply Kd.N_drewN | apply Kd.N_drew)); exact HO453.out) (Kd.S_base ho0) hb); have n6_ := Aside0.mk (Kd.N_elder' (by (with_reducible repeat (first | apply Kd.N_alloc | apply Kd.N_drewN | apply Kd.N_drew)); exact HO457.out) (Kd.S_base ho0) hb); have n7_ := Aside0.mk (Kd.N_lower (Kd.N_mono (ok' := fun k_ => some k_ ≠ (.slice Ao26 t431.length co26 : Value).ownBlock ∧ some k_ ≠ (v436 : Value).ownBlock ∧ some k_ ≠ (v440 : Value).ownBlock ∧ some k_ ≠ (v444 : Value).ownBlock ∧ some k_ ≠ (v448 : Value).ownBlock ∧ some k_ ≠ (v452 : Value).ownBlock ∧ some k_ ≠ (v456 : Value).ownBlock) (Kd.S_N (Kd.S_bound ho0)) (fun k_ hk_ => ⟨(Kd.fresh' (Kd.N_lt (by (with_reducible repeat (first | apply Kd.N_alloc | apply Kd.N_drewN | apply Kd.N_drew)); exact HO433.out)) k_ hk_.2.1), (Kd.fresh' (Kd.N_lt (by (with_reducible repeat (first | apply Kd.N_alloc | apply Kd.N_drewN | apply Kd.N_drew)); exact HO437.out)) k_ hk_.2.1), (Kd.fresh' (Kd.N_lt (by (with_reducible repeat (first | apply Kd.N_alloc | apply Kd.N_drewN | apply Kd.N_drew)); exact HO441.out)) k_ hk_.2.1), (Kd.fresh' (Kd.N_lt (by (with_reducible repeat (first | apply Kd.N_alloc | apply Kd.N_drewN | apply Kd.N_drew)); exact HO445.out)) k_ hk_.2.1), (Kd.fresh' (Kd.N_lt (by (with_reducible repeat (first | apply Kd.N_alloc | apply Kd.N_drewN | apply Kd.N_drew)); exact HO449.out)) k_ hk_.2.1), (Kd.fresh' (Kd.N_lt (by (with_reducible repeat (first | apply Kd.N_alloc | apply Kd.N_drewN | apply Kd.N_drew)); exact HO453.out)) k_ hk_.2.1), (Kd.fresh' (Kd.N_lt (by (with_reducible repeat (first | apply Kd.N_alloc | apply Kd.N_drewN | apply Kd.N_drew)); exact HO457.out)) k_ hk_.2.1)⟩)) (below_size (by repeat (first | (with_reducible first | exact HB.out | apply below_alloc | apply pw_below_drewN | apply below_drew1) | exact HB.out)))); have n8_ := Aside0.mk (below_step (by repeat (first | (with_reducible first | exact HB.out | apply below_alloc | apply pw_below_drewN | apply below_drew1) | exact HB.out)) hb); clear HO433; clear HO437; clear HO441; clear HO445; clear HO449; clear HO453; clear HO457; clear HB; have HO433 := n0_; have HO437 := n1_; have HO441 := n2_; have HO445 := n3_; have HO449 := n4_; have HO453 := n5_; have HO457 := n6_; have HO469 := n7_; have HB := n8_; clear n0_ n1_ n2_ n3_ n4_ n5_ n6_ n7_ n8_; (try clear hb); (try clear hb2); (try clear hk); (try clear hi); (try clear ho0)) | (go_at_call 17; (with_reducible refine (spec_TurnFiles.calls k _ _ t431 t470 t471 _ ?side1 ?side2 A17.out).mono ?_); (case side1 => repeat (first | exact (Kd.N_reads' HO433.out).2.2 | (with_reducible refine Kd.C_alloc ?_ _) | (with_reducible refine Kd.C_drewN ?_ _) | (with_reducible refine Kd.C_drew ?_))); (case side2 => exact (Kd.N_reads' HO433.out).2.1); rintro e w37 ⟨v472, rfl, ho0, hb⟩; have n0_ := Aside0.mk (Kd.N_elder' (by (with_reducible repeat (first | apply Kd.N_alloc | apply Kd.N_drewN | apply Kd.N_drew)); exact HO433.out) (Kd.S_base ho0) hb); have n1_ := Aside0.mk (Kd.N_elder' (by (with_reducible repeat (first | apply Kd.N_alloc | apply Kd.N_drewN | apply Kd.N_drew)); exact HO437.out) (Kd.S_base ho0) hb); have n2_ := Aside0.mk (Kd.N_elder' (by (with_reducible repeat (first | apply Kd.N_alloc | apply Kd.N_drewN | apply Kd.N_drew)); exact HO441.out) (Kd.S_base ho0) hb); have n3_ := Aside0.mk (Kd.N_elder' (by (with_reducible repeat (first | apply Kd.N_alloc | apply Kd.N_drewN | apply Kd.N_drew)); exact HO445.out) (Kd.S_base ho0) hb); have n4_ := Aside0.mk (Kd.N_elder' (by (with_reducible repeat (first | apply Kd.N_alloc | apply Kd.N_drewN | apply Kd.N_drew)); exact HO449.out) (Kd.S_base ho0) hb); have n5_ := Aside0.mk (Kd.N_elder' (by (with_reducible repeat (first | apply Kd.N_alloc | apply Kd.N_drewN | apply Kd.N_drew)); exact HO453.out) (Kd.S_base ho0) hb); have n6_ := Aside0.mk (Kd.N_elder' (by (with_reducible repeat (first | apply Kd.N_alloc | apply Kd.N_drewN | apply Kd.N_drew)); exact HO457.out) (Kd.S_base ho0) hb); have n7_ := Aside0.mk (Kd.N_elder' (by (with_reducible repeat (first | apply Kd.N_alloc | apply Kd.N_drewN | apply Kd.N_drew)); exact HO469.out) (Kd.S_base ho0) hb); have n8_ := Aside0.mk (Kd.N_lower (Kd.N_mono (ok' := fun k_ => some k_ ≠ (.slice Ao26 t431.length co26 : Value).ownBlock ∧ some k_ ≠ (v436 : Value).ownBlock ∧ some k_ ≠ (v440 : Value).ownBlock ∧ some k_ ≠ (v444 : Value).ownBlock ∧ some k_ ≠ (v448 : Value).ownBlock ∧ some k_ ≠ (v452 : Value).ownBlock ∧ some k_ ≠ (v456 : Value).ownBlock ∧ some k_ ≠ (v468 : Value).ownBlock) (Kd.S_N (Kd.S_bound ho0)) (fun k_ hk_ => ⟨(Kd.fresh' (Kd.N_lt (by (with_reducible repeat (first | apply Kd.N_alloc | apply Kd.N_drewN | apply Kd.N_drew)); exact HO433.out)) k_ hk_.2.1), (Kd.fresh' (Kd.N_lt (by (with_reducible repeat (first | apply Kd.N_alloc | apply Kd.N_drewN | apply Kd.N_drew)); exact HO437.out)) k_ hk_.2.1), (Kd.fresh' (Kd.N_lt (by (with_reducible repeat (first | apply Kd.N_alloc | apply Kd.N_drewN | apply Kd.N_drew)); exact HO441.out)) k_ hk_.2.1), (Kd.fresh' (Kd.N_lt (by (with_reducible repeat (first | apply Kd.N_alloc | apply Kd.N_drewN | apply Kd.N_drew)); exact HO445.out)) k_ hk_.2.1), (Kd.fresh' (Kd.N_lt (by (with_reducible repeat (first | apply Kd.N_alloc | apply Kd.N_drewN | apply Kd.N_drew)); exact HO449.out)) k_ hk_.2.1), (Kd.fresh' (Kd.N_lt (by (with_reducible repeat (first | apply Kd.N_alloc | apply Kd.N_drewN | apply Kd.N_drew)); exact HO453.out)) k_ hk_.2.1), (Kd.fresh' (Kd.N_lt (by (with_reducible repeat (first | apply Kd.N_alloc | apply Kd.N_drewN | apply Kd.N_drew)); exact HO457.out)) k_ hk_.2.1), (Kd.fresh' (Kd.N_lt (by (with_reducible repeat (first | apply Kd.N_alloc | apply Kd.N_drewN | apply Kd.N_drew)); exact HO469.out)) k_ hk_.2.1)⟩)) (below_size (by repeat (first | (with_reducible first | exact HB.out | apply below_alloc | apply pw_below_drewN | apply below_drew1) | exact HB.out)))); have n9_ := Aside0.mk (below_step (by repeat (first | (with_reducible first | exact HB.out | apply below_alloc | apply pw_below_drewN | apply below_drew1) | exact HB.out)) hb); clear HO433; clear HO437; clear HO441; clear HO445; clear HO449; clear HO453; clear HO457; clear HO469; clear HB; have HO433 := n0_; have HO437 := n1_; have HO441 := n2_; have HO445 := n3_; have HO449 := n4_; have HO453 := n5_; have HO457 := n6_; have HO469 := n7_; have HO473 := n8_; have HB := n9_; clear n0_ n1_ n2_ n3_ n4_ n5_ n6_ n7_ n8_ n9_; (try clear hb); (try clear hb2); (try clear hk); (try clear hi); (try clear ho0)) | (go_at_call 18; (with_reducible refine (impl_TallestOfShortest.calls k _ _ t431 t474 t475 _ ?side1 ?side2 A18.out).mono ?_); (case side1 => repeat (first | exact (Kd.N_reads' HO433.out).2.2 | (with_reducible refine Kd.C_alloc ?_ _) | (with_reducible refine Kd.C_drewN ?_ _) | (with_reducible refine Kd.C_drew ?_))); (case side2 => exact (Kd.N_reads' HO433.out).2.1); rintro e w38 ⟨rfl, hb⟩; have n0_ := Aside0.mk (Kd.N_below (by (with_reducible repeat (first | apply Kd.N_alloc | apply Kd.N_drewN | apply Kd.N_drew)); exact HO433.out) hb); have n1_ := Aside0.mk (Kd.N_below (by (with_reducible repeat (first | apply Kd.N_alloc | apply Kd.N_drewN | apply Kd.N_drew)); exact HO437.out) hb); have n2_ := Aside0.mk (Kd.N_below (by (with_reducible repeat (first | apply Kd.N_alloc | apply Kd.N_drewN | apply Kd.N_drew)); exact HO441.out) hb); have n3_ := Aside0.mk (Kd.N_below (by (with_reducible repeat (first | apply Kd.N_alloc | apply Kd.N_drewN | apply Kd.N_drew)); exact HO445.out) hb); have n4_ := Aside0.mk (Kd.N_below (by (with_reducible repeat (first | apply Kd.N_alloc | apply Kd.N_drewN | apply Kd.N_drew)); exact HO449.out) hb); have n5_ := Aside0.mk (Kd.N_below (by (with_reducible repeat (first | apply Kd.N_alloc | apply Kd.N_drewN | apply Kd.N_drew)); exact HO453.out) hb); have n6_ := Aside0.mk (Kd.N_below (by (with_reducible repeat (first | apply Kd.N_alloc | apply Kd.N_drewN | apply Kd.N_drew)); exact HO457.out) hb); have n7_ := Aside0.mk (Kd.N_below (by (with_reducible repeat (first | apply Kd.N_alloc | apply Kd.N_drewN | apply Kd.N_drew)); exact HO469.out) hb); have n8_ := Aside0.mk (Kd.N_below (by (with_reducible repeat (first | apply Kd.N_alloc | apply Kd.N_drewN | apply Kd.N_drew)); exact HO473.out) hb); have n9_ := Aside0.mk (below_step (by repeat (first | (with_reducible first | exact HB.out | apply below_alloc | apply pw_below_drewN | apply below_drew1) | exact HB.out)) hb); clear HO433; clear HO437; clear HO441; clear HO445; clear HO449; clear HO453; clear HO457; clear HO469; clear HO473; clear HB; have HO433 := n0_; have HO437 := n1_; have HO441 := n2_; have HO445 := n3_; have HO449 := n4_; have HO453 := n5_; have HO457 := n6_; have HO469 := n7_; have HO473 := n8_; have HB := n9_; clear n0_ n1_ n2_ n3_ n4_ n5_ n6_ n7_ n8_ n9_; (try clear hb); (try clear hb2); (try clear hk); (try clear hi)) | (go_at_call 19; (with_reducible refine (spec_TallestOfShortest.calls k _ _ t431 t476 t477 _ ?side1 ?side2 A19.out).mono ?_); (case side1 => repeat (first | exact (Kd.N_reads' HO433.out).2.2 | (with_reducible refine Kd.C_alloc ?_ _) | (with_reducible refine Kd.C_drewN ?_ _) | (with_reducible refine Kd.C_drew ?_))); (case side2 => exact (Kd.N_reads' HO433.out).2.1); rintro e w' ⟨rfl, ⟨nd, rfl⟩⟩; (try first | exact ⟨rfl, _, World.drewN_drewN _ _ _⟩ | exact ⟨rfl, _, Eq.trans (World.drewN_drewN _ _ _) (congrArg (World.drewN _) (Nat.add_assoc _ _ _))⟩)) | (go_at_call 20; (with_reducible refine (impl_ShortestOfTallest.calls k _ _ t431 t478 t479 _ ?side1 ?side2 A20.out).mono ?_); (case side1 => repeat (first | exact (Kd.N_reads' HO433.out).2.2 | (with_reducible refine Kd.C_alloc ?_ _) | (with_reducible refine Kd.C_drewN ?_ _) | (with_reducible refine Kd.C_drew ?_))); (case side2 => exact (Kd.N_reads' HO433.out).2.1); rintro e w39 ⟨rfl, hb⟩; have n0_ := Aside0.mk (Kd.N_below (by (with_reducible repeat (first | apply Kd.N_alloc | apply Kd.N_drewN | apply Kd.N_drew)); exact HO433.out) hb); have n1_ := Aside0.mk (Kd.N_below (by (with_reducible repeat (first | apply Kd.N_alloc | apply Kd.N_drewN | apply Kd.N_drew)); exact HO437.out) hb); have n2_ := Aside0.mk (Kd.N_below (by (with_reducible repeat (first | apply Kd.N_alloc | apply Kd.N_drewN | apply Kd.N_drew)); exact HO441.out) hb); have n3_ := Aside0.mk (Kd.N_below (by (with_reducible repeat (first | apply Kd.N_alloc | apply Kd.N_drewN | apply Kd.N_drew)); exact HO445.out) hb); have n4_ := Aside0.mk (Kd.N_below (by (with_reducible repeat (first | apply Kd.N_alloc | apply Kd.N_drewN | apply Kd.N_drew)); exact HO449.out) hb); have n5_ := Aside0.mk (Kd.N_below (by (with_reducible repeat (first | apply Kd.N_alloc | apply Kd.N_drewN | apply Kd.N_drew)); exact HO453.out) hb); have n6_ := Aside0.mk (Kd.N_below (by (with_reducible repeat (first | apply Kd.N_alloc | apply Kd.N_drewN | apply Kd.N_drew)); exact HO457.out) hb); have n7_ := Aside0.mk (Kd.N_below (by (with_reducible repeat (first | apply Kd.N_alloc | apply Kd.N_drewN | apply Kd.N_drew)); exact HO469.out) hb); have n8_ := Aside0.mk (Kd.N_below (by (with_reducible repeat (first | apply Kd.N_alloc | apply Kd.N_drewN | apply Kd.N_drew)); exact HO473.out) hb); have n9_ := Aside0.mk (below_step (by repeat (first | (with_reducible first | exact HB.out | apply below_alloc | apply pw_below_drewN | apply below_drew1) | exact HB.out)) hb); clear HO433; clear HO437; clear HO441; clear HO445; clear HO449; clear HO453; clear HO457; clear HO469; clear HO473; clear HB; have HO433 := n0_; have HO437 := n1_; have HO441 := n2_; have HO445 := n3_; have HO449 := n4_; have HO453 := n5_; have HO457 := n6_; have HO469 := n7_; have HO473 := n8_; have HB := n9_; clear n0_ n1_ n2_ n3_ n4_ n5_ n6_ n7_ n8_ n9_; (try clear hb); (try clear hb2); (try clear hk); (try clear hi)) | (go_at_call 21; (with_reducible refine (spec_ShortestOfTallest.calls k _ _ t431 t480 t481 _ ?side1 ?side2 A21.out).mono ?_); (case side1 => repeat (first | exact (Kd.N_reads' HO433.out).2.2 | (with_reducible refine Kd.C_alloc ?_ _) | (with_reducible refine Kd.C_drewN ?_ _) | (with_reducible refine Kd.C_drew ?_))); (case side2 => exact (Kd.N_reads' HO433.out).2.1); rintro e w40 ⟨rfl, hb⟩; have n0_ := Aside0.mk (Kd.N_below (by (with_reducible repeat (first | apply Kd.N_alloc | apply Kd.N_drewN | apply Kd.N_drew)); exact HO433.out) hb); have n1_ := Aside0.mk (Kd.N_below (by (with_reducible repeat (first | apply Kd.N_alloc | apply Kd.N_drewN | apply Kd.N_drew)); exact HO437.out) hb); have n2_ := Aside0.mk (Kd.N_below (by (with_reducible repeat (first | apply Kd.N_alloc | apply Kd.N_drewN | apply Kd.N_drew)); exact HO441.out) hb); have n3_ := Aside0.mk (Kd.N_below (by (with_reducible repeat (first | apply Kd.N_alloc | apply Kd.N_drewN | apply Kd.N_drew)); exact HO445.out) hb); have n4_ := Aside0.mk (Kd.N_below (by (with_reducible repeat (first | apply Kd.N_alloc | apply Kd.N_drewN | apply Kd.N_drew)); exact HO449.out) hb); have n5_ := Aside0.mk (Kd.N_below (by (with_reducible repeat (first | apply Kd.N_alloc | apply Kd.N_drewN | apply Kd.N_drew)); exact HO453.out) hb); have n6_ := Aside0.mk (Kd.N_below (by (with_reducible repeat (first | apply Kd.N_alloc | apply Kd.N_drewN | apply Kd.N_drew)); exact HO457.out) hb); have n7_ := Aside0.mk (Kd.N_below (by (with_reducible repeat (first | apply Kd.N_alloc | apply Kd.N_drewN | apply Kd.N_drew)); exact HO469.out) hb); have n8_ := Aside0.mk (Kd.N_below (by (with_reducible repeat (first | apply Kd.N_alloc | apply Kd.N_drewN | apply Kd.N_drew)); exact HO473.out) hb); have n9_ := Aside0.mk (below_step (by repeat (first | (with_reducible first | exact HB.out | apply below_alloc | apply pw_below_drewN | apply below_drew1) | exact HB.out)) hb); clear HO433; clear HO437; clear HO441; clear HO445; clear HO449; clear HO453; clear HO457; clear HO469; clear HO473; clear HB; have HO433 := n0_; have HO437 := n1_; have HO441 := n2_; have HO445 := n3_; have HO449 := n4_; have HO453 := n5_; have HO457 := n6_; have HO469 := n7_; have HO473 := n8_; have HB := n9_; clear n0_ n1_ n2_ n3_ n4_ n5_ n6_ n7_ n8_ n9_; (try clear hb); (try clear hb2); (try clear hk); (try clear hi)) | (go_at_call 22; (with_reducible refine (impl_SaddlePlaces.calls k _ _ t431 t482 t483 _ ?side1 ?side2 A22.out).mono ?_); (case side1 => repeat (first | exact (Kd.N_reads' HO433.out).2.2 | (with_reducible refine Kd.C_alloc ?_ _) | (with_reducible refine Kd.C_drewN ?_ _) | (with_reducible refine Kd.C_drew ?_))); (case side2 => exact (Kd.N_reads' HO433.out).2.1); rintro e w41 ⟨v484, rfl, ho0, hb⟩; have n0_ := Aside0.mk (Kd.N_elder' (by (with_reducible repeat (first | apply Kd.N_alloc | apply Kd.N_drewN | apply Kd.N_drew)); exact HO433.out) (Kd.S_base ho0) hb); have n1_ := Aside0.mk (Kd.N_elder' (by (with_reducible repeat (first | apply Kd.N_alloc | apply Kd.N_drewN | apply Kd.N_drew)); exact HO437.out) (Kd.S_base ho0) hb); have n2_ := Aside0.mk (Kd.N_elder' (by (with_reducible repeat (first | apply Kd.N_alloc | apply Kd.N_drewN | apply Kd.N_drew)); exact HO441.out) (Kd.S_base ho0) hb); have n3_ := Aside0.mk (Kd.N_elder' (by (with_reducible repeat (first | apply Kd.N_alloc | apply Kd.N_drewN | apply Kd.N_drew)); exact HO445.out) (Kd.S_base ho0) hb); have n4_ := Aside0.mk (Kd.N_elder' (by (with_reducible repeat (first | apply Kd.N_alloc | apply Kd.N_drewN | apply Kd.N_drew)); exact HO449.out) (Kd.S_base ho0) hb); have n5_ := Aside0.mk (Kd.N_elder' (by (with_reducible repeat (first | apply Kd.N_alloc | apply Kd.N_drewN | apply Kd.N_drew)); exact HO453.out) (Kd.S_base ho0) hb); have n6_ := Aside0.mk (Kd.N_elder' (by (with_reducible repeat (first | apply Kd.N_alloc | apply Kd.N_drewN | apply Kd.N_drew)); exact HO457.out) (Kd.S_base ho0) hb); have n7_ := Aside0.mk (Kd.N_elder' (by (with_reducible repeat (first | apply Kd.N_alloc | apply Kd.N_drewN | apply Kd.N_drew)); exact HO469.out) (Kd.S_base ho0) hb); have n8_ := Aside0.mk (Kd.N_elder' (by (with_reducible repeat (first | apply Kd.N_alloc | apply Kd.N_drewN | apply Kd.N_drew)); exact HO473.out) (Kd.S_base ho0) hb); have n9_ := Aside0.mk (Kd.N_lower (Kd.N_mono (ok' := fun k_ => some k_ ≠ (.slice Ao26 t431.length co26 : Value).ownBlock ∧ some k_ ≠ (v436 : Value).ownBlock ∧ some k_ ≠ (v440 : Value).ownBlock ∧ some k_ ≠ (v444 : Value).ownBlock ∧ some k_ ≠ (v448 : Value).ownBlock ∧ some k_ ≠ (v452 : Value).ownBlock ∧ some k_ ≠ (v456 : Value).ownBlock ∧ some k_ ≠ (v468 : Value).ownBlock ∧ some k_ ≠ (v472 : Value).ownBlock) (Kd.S_N (Kd.S_bound ho0)) (fun k_ hk_ => ⟨(Kd.fresh' (Kd.N_lt (by (with_reducible repeat (first | apply Kd.N_alloc | apply Kd.N_drewN | apply Kd.N_drew)); exact HO433.out)) k_ hk_.2.1), (Kd.fresh' (Kd.N_lt (by (with_reducible repeat (first | apply Kd.N_alloc | apply Kd.N_drewN | apply Kd.N_drew)); exact HO437.out)) k_ hk_.2.1), (Kd.fresh' (Kd.N_lt (by (with_reducible repeat (first | apply Kd.N_alloc | apply Kd.N_drewN | apply Kd.N_drew)); exact HO441.out)) k_ hk_.2.1), (Kd.fresh' (Kd.N_lt (by (with_reducible repeat (first | apply Kd.N_alloc | apply Kd.N_drewN | apply Kd.N_drew)); exact HO445.out)) k_ hk_.2.1), (Kd.fresh' (Kd.N_lt (by (with_reducible repeat (first | apply Kd.N_alloc | apply Kd.N_drewN | apply Kd.N_drew)); exact HO449.out)) k_ hk_.2.1), (Kd.fresh' (Kd.N_lt (by (with_reducible repeat (first | apply Kd.N_alloc | apply Kd.N_drewN | apply Kd.N_drew)); exact HO453.out)) k_ hk_.2.1), (Kd.fresh' (Kd.N_lt (by (with_reducible repeat (first | apply Kd.N_alloc | apply Kd.N_drewN | apply Kd.N_drew)); exact HO457.out)) k_ hk_.2.1), (Kd.fresh' (Kd.N_lt (by (with_reducible repeat (first | apply Kd.N_alloc | apply Kd.N_drewN | apply Kd.N_drew)); exact HO469.out)) k_ hk_.2.1), (Kd.fresh' (Kd.N_lt (by (with_reducible repeat (first | apply Kd.N_alloc | apply Kd.N_drewN | apply Kd.N_drew)); exact HO473.out)) k_ hk_.2.1)⟩)) (below_size (by repeat (first | (with_reducible first | exact HB.out | apply below_alloc | apply pw_below_drewN | apply below_drew1) | exact HB.out)))); have n10_ := Aside0.mk (below_step (by repeat (first | (with_reducible first | exact HB.out | apply below_alloc | apply pw_below_drewN | apply below_drew1) | exact HB.out)) hb); clear HO433; clear HO437; clear HO441; clear HO445; clear HO449; clear HO453; clear HO457; clear HO469; clear HO473; clear HB; have HO433 := n0_; have HO437 := n1_; have HO441 := n2_; have HO445 := n3_; have HO449 := n4_; have HO453 := n5_; have HO457 := n6_; have HO469 := n7_; have HO473 := n8_; have HO485 := n9_; have HB := n10_; clear n0_ n1_ n2_ n3_ n4_ n5_ n6_ n7_ n8_ n9_ n10_; (try clear hb); (try clear hb2); (try clear hk); (try clear hi); (try clear ho0)) | (go_at_call 23; (with_reducible refine (spec_SaddlePlaces.calls k _ _ t431 t486 t487 _ ?side1 ?side2 A23.out).mono ?_); (case side1 => repeat (first | exact (Kd.N_reads' HO433.out).2.2 | (with_reducible refine Kd.C_alloc ?_ _) | (with_reducible refine Kd.C_drewN ?_ _) | (with_reducible refine Kd.C_drew ?_))); (case side2 => exact (Kd.N_reads' HO433.out).2.1); rintro e w42 ⟨v488, rfl, ho0, hb⟩; have n0_ := Aside0.mk (Kd.N_elder' (by (with_reducible repeat (first | apply Kd.N_alloc | apply Kd.N_drewN | apply Kd.N_drew)); exact HO433.out) (Kd.S_base ho0) hb); have n1_ := Aside0.mk (Kd.N_elder' (by (with_reducible repeat (first | apply Kd.N_alloc | apply Kd.N_drewN | apply Kd.N_drew)); exact HO437.out) (Kd.S_base ho0) hb); have n2_ := Aside0.mk (Kd.N_elder' (by (with_reducible repeat (first | apply Kd.N_alloc | apply Kd.N_drewN | apply Kd.N_drew)); exact HO441.out) (Kd.S_base ho0) hb); have n3_ := Aside0.mk (Kd.N_elder' (by (with_reducible repeat (first | apply Kd.N_alloc | apply Kd.N_drewN | apply Kd.N_drew)); exact HO445.out) (Kd.S_base ho0) hb); have n4_ := Aside0.mk (Kd.N_elder' (by (with_reducible repeat (first | apply Kd.N_alloc | apply Kd.N_drewN | apply Kd.N_drew)); exact HO449.out) (Kd.S_base ho0) hb); have n5_ := Aside0.mk (Kd.N_elder' (by (with_reducible repeat (first | apply Kd.N_alloc | apply Kd.N_drewN | apply Kd.N_drew)); exact HO453.out) (Kd.S_base ho0) hb); have n6_ := Aside0.mk (Kd.N_elder' (by (with_reducible repeat (first | apply Kd.N_alloc | apply Kd.N_drewN | apply Kd.N_drew)); exact HO457.out) (Kd.S_base ho0) hb); have n7_ := Aside0.mk (Kd.N_elder' (by (with_reducible repeat (first | apply Kd.N_alloc | apply Kd.N_drewN | apply Kd.N_drew)); exact HO469.out) (Kd.S_base ho0) hb); have n8_ := Aside0.mk (Kd.N_elder' (by (with_reducible repeat (first | apply Kd.N_alloc | apply Kd.N_drewN | apply Kd.N_drew)); exact HO473.out) (Kd.S_base ho0) hb); have n9_ := Aside0.mk (Kd.N_elder' (by (with_reducible repeat (first | apply Kd.N_alloc | apply Kd.N_drewN | apply Kd.N_drew)); exact HO485.out) (Kd.S_base ho0) hb); have n10_ := Aside0.mk (Kd.N_lower (Kd.N_mono (ok' := fun k_ => some k_ ≠ (.slice Ao26 t431.length co26 : Value).ownBlock ∧ some k_ ≠ (v436 : Value).ownBlock ∧ some k_ ≠ (v440 : Value).ownBlock ∧ some k_ ≠ (v444 : Value).ownBlock ∧ some k_ ≠ (v448 : Value).ownBlock ∧ some k_ ≠ (v452 : Value).ownBlock ∧ some k_ ≠ (v456 : Value).ownBlock ∧ some k_ ≠ (v468 : Value).ownBlock ∧ some k_ ≠ (v472 : Value).ownBlock ∧ some k_ ≠ (v484 : Value).ownBlock) (Kd.S_N (Kd.S_bound ho0)) (fun k_ hk_ => ⟨(Kd.fresh' (Kd.N_lt (by (with_reducible repeat (first | apply Kd.N_alloc | apply Kd.N_drewN | apply Kd.N_drew)); exact HO433.out)) k_ hk_.2.1), (Kd.fresh' (Kd.N_lt (by (with_reducible repeat (first | apply Kd.N_alloc | apply Kd.N_drewN | apply Kd.N_drew)); exact HO437.out)) k_ hk_.2.1), (Kd.fresh' (Kd.N_lt (by (with_reducible repeat (first | apply Kd.N_alloc | apply Kd.N_drewN | apply Kd.N_drew)); exact HO441.out)) k_ hk_.2.1), (Kd.fresh' (Kd.N_lt (by (with_reducible repeat (first | apply Kd.N_alloc | apply Kd.N_drewN | apply Kd.N_drew)); exact HO445.out)) k_ hk_.2.1), (Kd.fresh' (Kd.N_lt (by (with_reducible repeat (first | apply Kd.N_alloc | apply Kd.N_drewN | apply Kd.N_drew)); exact HO449.out)) k_ hk_.2.1), (Kd.fresh' (Kd.N_lt (by (with_reducible repeat (first | apply Kd.N_alloc | apply Kd.N_drewN | apply Kd.N_drew)); exact HO453.out)) k_ hk_.2.1), (Kd.fresh' (Kd.N_lt (by (with_reducible repeat (first | apply Kd.N_alloc | apply Kd.N_drewN | apply Kd.N_drew)); exact HO457.out)) k_ hk_.2.1), (Kd.fresh' (Kd.N_lt (by (with_reducible repeat (first | apply Kd.N_alloc | apply Kd.N_drewN | apply Kd.N_drew)); exact HO469.out)) k_ hk_.2.1), (Kd.fresh' (Kd.N_lt (by (with_reducible repeat (first | apply Kd.N_alloc | apply Kd.N_drewN | apply Kd.N_drew)); exact HO473.out)) k_ hk_.2.1), (Kd.fresh' (Kd.N_lt (by (with_reducible repeat (first | apply Kd.N_alloc | apply Kd.N_drewN | apply Kd.N_drew)); exact HO485.out)) k_ hk_.2.1)⟩)) (below_size (by repeat (first | (with_reducible first | exact HB.out | apply below_alloc | apply pw_below_drewN | apply below_drew1) | exact HB.out)))); have n11_ := Aside0.mk (below_step (by repeat (first | (with_reducible first | exact HB.out | apply below_alloc | apply pw_below_drewN | apply below_drew1) | exact HB.out)) hb); clear HO433; clear HO437; clear HO441; clear HO445; clear HO449; clear HO453; clear HO457; clear HO469; clear HO473; clear HO485; clear HB; have HO433 := n0_; have HO437 := n1_; have HO441 := n2_; have HO445 := n3_; have HO449 := n4_; have HO453 := n5_; have HO457 := n6_; have HO469 := n7_; have HO473 := n8_; have HO485 := n9_; have HO489 := n10_; have HB := n11_; clear n0_ n1_ n2_ n3_ n4_ n5_ n6_ n7_ n8_ n9_ n10_ n11_; (try clear hb); (try clear hb2); (try clear hk); (try clear hi); (try clear ho0)))
    (try simp only [Act.put, List.setIfInBounds_toArray, List.set_cons_zero, List.set_cons_succ])
    go_cut [297] (fun v297 wc => ∃ (kq : Nat) (x297_23 : Bool), v297 = .bool x297_23 ∧ Aside0 (laws_FnFilesSorted.j0 kq t431 t434 t435 t442 t450 t458 t462 t466 t474 t478 t482 x297_23 = some r) ∧ Aside0 (kq ≤ k) ∧ Aside0 (Kd.N (Kd.slice 3 (Kd.int .i64)) 34 wc w.heap.size (fun k_ => some k_ ≠ (v436 : Value).ownBlock ∧ some k_ ≠ (v444 : Value).ownBlock ∧ some k_ ≠ (v452 : Value).ownBlock ∧ some k_ ≠ (v468 : Value).ownBlock ∧ some k_ ≠ (v484 : Value).ownBlock) (.slice Ao26 t431.length co26) t431) ∧ Aside0 (Kd.N (Kd.slice 3 (Kd.int .i64)) 34 wc w.heap.size (fun k_ => some k_ ≠ ((.slice Ao26 t431.length co26) : Value).ownBlock ∧ some k_ ≠ (v444 : Value).ownBlock ∧ some k_ ≠ (v452 : Value).ownBlock ∧ some k_ ≠ (v468 : Value).ownBlock ∧ some k_ ≠ (v484 : Value).ownBlock) v436 t434) ∧ Aside0 (Kd.N (Kd.slice 3 (Kd.int .i64)) 34 wc w.heap.size (fun k_ => some k_ ≠ ((.slice Ao26 t431.length co26) : Value).ownBlock ∧ some k_ ≠ (v436 : Value).ownBlock ∧ some k_ ≠ (v452 : Value).ownBlock ∧ some k_ ≠ (v468 : Value).ownBlock ∧ some k_ ≠ (v484 : Value).ownBlock) v444 t442) ∧ Aside0 (Kd.N (Kd.slice 3 (Kd.int .i64)) 34 wc w.heap.size (fun k_ => some k_ ≠ ((.slice Ao26 t431.length co26) : Value).ownBlock ∧ some k_ ≠ (v436 : Value).ownBlock ∧ some k_ ≠ (v444 : Value).ownBlock ∧ some k_ ≠ (v468 : Value).ownBlock ∧ some k_ ≠ (v484 : Value).ownBlock) v452 t450) ∧ Aside0 (Kd.N (Kd.slice 3 (Kd.int .i64)) 34 wc w.heap.size (fun k_ => some k_ ≠ ((.slice Ao26 t431.length co26) : Value).ownBlock ∧ some k_ ≠ (v436 : Value).ownBlock ∧ some k_ ≠ (v444 : Value).ownBlock ∧ some k_ ≠ (v452 : Value).ownBlock ∧ some k_ ≠ (v484 : Value).ownBlock) v468 t466) ∧ Aside0 (Kd.N (Kd.slice 3 (Kd.int .i64)) 34 wc w.heap.size (fun k_ => some k_ ≠ ((.slice Ao26 t431.length co26) : Value).ownBlock ∧ some k_ ≠ (v436 : Value).ownBlock ∧ some k_ ≠ (v444 : Value).ownBlock ∧ some k_ ≠ (v452 : Value).ownBlock ∧ some k_ ≠ (v468 : Value).ownBlock) v484 t482) ∧ Aside0 (Below w.heap.size w wc))
    case first => as_aux_lemma =>
      have H := HC24.out
      clear HC24
      by_cases c43 : (t435 != t439) = true
      · rw [if_pos c43] at H
        have c43b0 : (t435 != t439) = true := c43
        (try (have c43b1 : decide (t435 = t439) = false := by simpa using c43))
        (try (have c43b2 : (t435 == t439) = false := by simpa using c43))
        (try (have c43b3 : ¬ (t435 = t439) := by simpa using c43))
        clear c43
        (first | rw [c43b0] | (simp only [i64_w, i32_w]; rw [c43b0]) | skip)
        exact absurd (hrt.symm.trans (laws_FnFilesSorted.j0_false H)) (by decide)
      · rw [if_neg c43] at H
        have c43b0 : (t435 != t439) = false := by simpa using c43
        (try (have c43b1 : decide (t435 = t439) = true := by simpa using c43))
        (try (have c43b2 : (t435 == t439) = true := by simpa using c43))
        clear c43
        (first | rw [c43b0] | (simp only [i64_w, i32_w]; rw [c43b0]) | skip)
        replace H := Option.bind_eq_some_iff.mp H
        obtain ⟨t490, A440, H⟩ := H
        (try dsimp only at H)
        have A44 := Aside0.mk A440
        clear A440
        by_cases c45 : t490 = true
        · subst c45
          rw [if_pos rfl] at H
          by_cases c46 : (t443 != t447) = true
          · rw [if_pos c46] at H
            have c46b0 : (t443 != t447) = true := c46
            (try (have c46b1 : decide (t443 = t447) = false := by simpa using c46))
            (try (have c46b2 : (t443 == t447) = false := by simpa using c46))
            (try (have c46b3 : ¬ (t443 = t447) := by simpa using c46))
            clear c46
            exact absurd (hrt.symm.trans (laws_FnFilesSorted.j0_false H)) (by decide)
          · rw [if_neg c46] at H
            have c46b0 : (t443 != t447) = false := by simpa using c46
            (try (have c46b1 : decide (t443 = t447) = true := by simpa using c46))
            (try (have c46b2 : (t443 == t447) = true := by simpa using c46))
            clear c46
            replace H := Option.bind_eq_some_iff.mp H
            obtain ⟨t491, A490, H⟩ := H
            (try dsimp only at H)
            have A49 := Aside0.mk A490
            clear A490
            by_cases c50 : t491 = true
            · subst c50
              rw [if_pos rfl] at H
              by_cases c51 : (t451 != t455) = true
              · rw [if_pos c51] at H
                have c51b0 : (t451 != t455) = true := c51
                (try (have c51b1 : decide (t451 = t455) = false := by simpa using c51))
                (try (have c51b2 : (t451 == t455) = false := by simpa using c51))
                (try (have c51b3 : ¬ (t451 = t455) := by simpa using c51))
                clear c51
                exact absurd (hrt.symm.trans (laws_FnFilesSorted.j0_false H)) (by decide)
              · rw [if_neg c51] at H
                have c51b0 : (t451 != t455) = false := by simpa using c51
                (try (have c51b1 : decide (t451 = t455) = true := by simpa using c51))
                (try (have c51b2 : (t451 == t455) = true := by simpa using c51))
                clear c51
                replace H := Option.bind_eq_some_iff.mp H
                obtain ⟨t492, A560, H⟩ := H
                (try dsimp only at H)
                have A56 := Aside0.mk A560
                clear A560
                by_cases c57 : t492 = true
                · subst c57
                  rw [if_pos rfl] at H
                  by_cases c58 : (t459 != t461) = true
                  · rw [if_pos c58] at H
                    have c58b0 : (t459 != t461) = true := c58
                    (try (have c58b1 : decide (t459 = t461) = false := by simpa using c58))
                    (try (have c58b2 : (t459 == t461) = false := by simpa using c58))
                    (try (have c58b3 : ¬ (t459 = t461) := by simpa using c58))
                    clear c58
                    exact absurd (hrt.symm.trans (laws_FnFilesSorted.j0_false H)) (by decide)
                  · rw [if_neg c58] at H
                    have c58b0 : (t459 != t461) = false := by simpa using c58
                    (try (have c58b1 : decide (t459 = t461) = true := by simpa using c58))
                    (try (have c58b2 : (t459 == t461) = true := by simpa using c58))
                    clear c58
                    by_cases c65 : (t458 != t460) = true
                    · rw [if_pos c65] at H
                      have c65b0 : (t458 != t460) = true := c65
                      (try (have c65b1 : decide (t458 = t460) = false := by simpa using c65))
                      (try (have c65b2 : (t458 == t460) = false := by simpa using c65))
                      (try (have c65b3 : ¬ (t458 = t460) := by simpa using c65))
                      clear c65
                      exact absurd (hrt.symm.trans (laws_FnFilesSorted.j0_false H)) (by decide)
                    · rw [if_neg c65] at H
                      have c65b0 : (t458 != t460) = false := by simpa using c65
                      (try (have c65b1 : decide (t458 = t460) = true := by simpa using c65))
                      (try (have c65b2 : (t458 == t460) = true := by simpa using c65))
                      clear c65
                      by_cases c72 : (t463 != t465) = true
                      · rw [if_pos c72] at H
                        have c72b0 : (t463 != t465) = true := c72
                        (try (have c72b1 : decide (t463 = t465) = false := by simpa using c72))
                        (try (have c72b2 : (t463 == t465) = false := by simpa using c72))
                        (try (have c72b3 : ¬ (t463 = t465) := by simpa using c72))
                        clear c72
                        exact absurd (hrt.symm.trans (laws_FnFilesSorted.j0_false H)) (by decide)
                      · rw [if_neg c72] at H
                        have c72b0 : (t463 != t465) = false := by simpa using c72
                        (try (have c72b1 : decide (t463 = t465) = true := by simpa using c72))
                        (try (have c72b2 : (t463 == t465) = true := by simpa using c72))
                        clear c72
                        by_cases c79 : (t462 != t464) = true
                        · rw [if_pos c79] at H
                          have c79b0 : (t462 != t464) = true := c79
                          (try (have c79b1 : decide (t462 = t464) = false := by simpa using c79))
                          (try (have c79b2 : (t462 == t464) = false := by simpa using c79))
                          (try (have c79b3 : ¬ (t462 = t464) := by simpa using c79))
                          clear c79
                          exact absurd (hrt.symm.trans (laws_FnFilesSorted.j0_false H)) (by decide)
                        · rw [if_neg c79] at H
                          have c79b0 : (t462 != t464) = false := by simpa using c79
                          (try (have c79b1 : decide (t462 = t464) = true := by simpa using c79))
                          (try (have c79b2 : (t462 == t464) = true := by simpa using c79))
                          clear c79
                          by_cases c86 : (t467 != t471) = true
                          · rw [if_pos c86] at H
                            have c86b0 : (t467 != t471) = true := c86
                            (try (have c86b1 : decide (t467 = t471) = false := by simpa using c86))
                            (try (have c86b2 : (t467 == t471) = false := by simpa using c86))
                            (try (have c86b3 : ¬ (t467 = t471) := by simpa using c86))
                            clear c86
                            exact absurd (hrt.symm.trans (laws_FnFilesSorted.j0_false H)) (by decide)
                          · rw [if_neg c86] at H
                            have c86b0 : (t467 != t471) = false := by simpa using c86
                            (try (have c86b1 : decide (t467 = t471) = true := by simpa using c86))
                            (try (have c86b2 : (t467 == t471) = true := by simpa using c86))
                            clear c86
                            replace H := Option.bind_eq_some_iff.mp H
                            obtain ⟨t493, A930, H⟩ := H
                            (try dsimp only at H)
                            have A93 := Aside0.mk A930
                            clear A930
                            by_cases c94 : t493 = true
                            · subst c94
                              rw [if_pos rfl] at H
                              by_cases c95 : (t475 != t477) = true
                              · rw [if_pos c95] at H
                                have c95b0 : (t475 != t477) = true := c95
                                (try (have c95b1 : decide (t475 = t477) = false := by simpa using c95))
                                (try (have c95b2 : (t475 == t477) = false := by simpa using c95))
                                (try (have c95b3 : ¬ (t475 = t477) := by simpa using c95))
                                clear c95
                                exact absurd (hrt.symm.trans (laws_FnFilesSorted.j0_false H)) (by decide)
                              · rw [if_neg c95] at H
                                have c95b0 : (t475 != t477) = false := by simpa using c95
                                (try (have c95b1 : decide (t475 = t477) = true := by simpa using c95))
                                (try (have c95b2 : (t475 == t477) = true := by simpa using c95))
                                clear c95
                                by_cases c104 : t474 = t476
                                · rw [if_pos c104] at H
                                  have c104b0 : (t474 == t476) = true := beq_iff_eq.mpr c104
                                  have c104b1 : (t474 != t476) = false := bne_eq_false_iff_eq.mpr c104
                                  clear c104
                                  by_cases c105 : (t479 != t481) = true
                                  · rw [if_pos c105] at H
                                    have c105b0 : (t479 != t481) = true := c105
                                    (try (have c105b1 : decide (t479 = t481) = false := by simpa using c105))
                                    (try (have c105b2 : (t479 == t481) = false := by simpa using c105))
                                    (try (have c105b3 : ¬ (t479 = t481) := by simpa using c105))
                                    clear c105
                                    exact absurd (hrt.symm.trans (laws_FnFilesSorted.j0_false H)) (by decide)
                                  · rw [if_neg c105] at H
                                    have c105b0 : (t479 != t481) = false := by simpa using c105
                                    (try (have c105b1 : decide (t479 = t481) = true := by simpa using c105))
                                    (try (have c105b2 : (t479 == t481) = true := by simpa using c105))
                                    clear c105
                                    by_cases c114 : t478 = t480
                                    · rw [if_pos c114] at H
                                      have c114b0 : (t478 == t480) = true := beq_iff_eq.mpr c114
                                      have c114b1 : (t478 != t480) = false := bne_eq_false_iff_eq.mpr c114
                                      clear c114
                                      by_cases c115 : (t483 != t487) = true
                                      · rw [if_pos c115] at H
                                        have c115b0 : (t483 != t487) = true := c115
                                        (try (have c115b1 : decide (t483 = t487) = false := by simpa using c115))
                                        (try (have c115b2 : (t483 == t487) = false := by simpa using c115))
                                        (try (have c115b3 : ¬ (t483 = t487) := by simpa using c115))
                                        clear c115
                                        exact absurd (hrt.symm.trans (laws_FnFilesSorted.j0_false H)) (by decide)
                                      · rw [if_neg c115] at H
                                        have c115b0 : (t483 != t487) = false := by simpa using c115
                                        (try (have c115b1 : decide (t483 = t487) = true := by simpa using c115))
                                        (try (have c115b2 : (t483 == t487) = true := by simpa using c115))
                                        clear c115
                                        replace H := Option.bind_eq_some_iff.mp H
                                        obtain ⟨t494, A1240, H⟩ := H
                                        (try dsimp only at H)
                                        have A124 := Aside0.mk A1240
                                        clear A1240
                                        by_cases c125 : t494 = true
                                        · subst c125
                                          rw [if_pos rfl] at H
                                          replace H := Option.bind_eq_some_iff.mp H
                                          obtain ⟨t495, A1260, H⟩ := H
                                          (try dsimp only at H)
                                          have A126 := Aside0.mk A1260
                                          clear A1260
                                          by_cases c127 : (t435 != t495) = true
                                          · rw [if_pos c127] at H
                                            have c127b0 : (t435 != t495) = true := c127
                                            (try (have c127b1 : decide (t435 = t495) = false := by simpa using c127))
                                            (try (have c127b2 : (t435 == t495) = false := by simpa using c127))
                                            (try (have c127b3 : ¬ (t435 = t495) := by simpa using c127))
                                            clear c127
                                            exact absurd (hrt.symm.trans (laws_FnFilesSorted.j0_false H)) (by decide)
                                          · rw [if_neg c127] at H
                                            have c127b0 : (t435 != t495) = false := by simpa using c127
                                            (try (have c127b1 : decide (t435 = t495) = true := by simpa using c127))
                                            (try (have c127b2 : (t435 == t495) = true := by simpa using c127))
                                            clear c127
                                            replace H := Option.bind_eq_some_iff.mp H
                                            obtain ⟨t496, A1390, H⟩ := H
                                            (try dsimp only at H)
                                            have A139 := Aside0.mk A1390
                                            clear A1390
                                            replace H := Option.bind_eq_some_iff.mp H
                                            obtain ⟨t497, A1400, H⟩ := H
                                            (try dsimp only at H)
                                            have A140 := Aside0.mk A1400
                                            clear A1400
                                            by_cases c141 : (t496 != t497) = true
                                            · rw [if_pos c141] at H
                                              have c141b0 : (t496 != t497) = true := c141
                                              (try (have c141b1 : decide (t496 = t497) = false := by simpa using c141))
                                              (try (have c141b2 : (t496 == t497) = false := by simpa using c141))
                                              (try (have c141b3 : ¬ (t496 = t497) := by simpa using c141))
                                              clear c141
                                              exact absurd (hrt.symm.trans (laws_FnFilesSorted.j0_false H)) (by decide)
                                            · rw [if_neg c141] at H
                                              have c141b0 : (t496 != t497) = false := by simpa using c141
                                              (try (have c141b1 : decide (t496 = t497) = true := by simpa using c141))
                                              (try (have c141b2 : (t496 == t497) = true := by simpa using c141))
                                              clear c141
                                              by_cases c154 : (t443 != t435) = true
                                              · rw [if_pos c154] at H
                                                have c154b0 : (t443 != t435) = true := c154
                                                (try (have c154b1 : decide (t443 = t435) = false := by simpa using c154))
                                                (try (have c154b2 : (t443 == t435) = false := by simpa using c154))
                                                (try (have c154b3 : ¬ (t443 = t435) := by simpa using c154))
                                                clear c154
                                                exact absurd (hrt.symm.trans (laws_FnFilesSorted.j0_false H)) (by decide)
                                              · rw [if_neg c154] at H
                                                have c154b0 : (t443 != t435) = false := by simpa using c154
                                                (try (have c154b1 : decide (t443 = t435) = true := by simpa using c154))
                                                (try (have c154b2 : (t443 == t435) = true := by simpa using c154))
                                                clear c154
                                                by_cases c167 : (t451 != t435) = true
                                                · rw [if_pos c167] at H
                                                  have c167b0 : (t451 != t435) = true := c167
                                                  (try (have c167b1 : decide (t451 = t435) = false := by simpa using c167))
                                                  (try (have c167b2 : (t451 == t435) = false := by simpa using c167))
                                                  (try (have c167b3 : ¬ (t451 = t435) := by simpa using c167))
                                                  clear c167
                                                  exact absurd (hrt.symm.trans (laws_FnFilesSorted.j0_false H)) (by decide)
                                                · rw [if_neg c167] at H
                                                  have c167b0 : (t451 != t435) = false := by simpa using c167
                                                  (try (have c167b1 : decide (t451 = t435) = true := by simpa using c167))
                                                  (try (have c167b2 : (t451 == t435) = true := by simpa using c167))
                                                  clear c167
                                                  by_cases c180 : (t459 != t435) = true
                                                  · rw [if_pos c180] at H
                                                    have c180b0 : (t459 != t435) = true := c180
                                                    (try (have c180b1 : decide (t459 = t435) = false := by simpa using c180))
                                                    (try (have c180b2 : (t459 == t435) = false := by simpa using c180))
                                                    (try (have c180b3 : ¬ (t459 = t435) := by simpa using c180))
                                                    clear c180
                                                    exact absurd (hrt.symm.trans (laws_FnFilesSorted.j0_false H)) (by decide)
                                                  · rw [if_neg c180] at H
                                                    have c180b0 : (t459 != t435) = false := by simpa using c180
                                                    (try (have c180b1 : decide (t459 = t435) = true := by simpa using c180))
                                                    (try (have c180b2 : (t459 == t435) = true := by simpa using c180))
                                                    clear c180
                                                    by_cases c193 : (t463 != t435) = true
                                                    · rw [if_pos c193] at H
                                                      have c193b0 : (t463 != t435) = true := c193
                                                      (try (have c193b1 : decide (t463 = t435) = false := by simpa using c193))
                                                      (try (have c193b2 : (t463 == t435) = false := by simpa using c193))
                                                      (try (have c193b3 : ¬ (t463 = t435) := by simpa using c193))
                                                      clear c193
                                                      exact absurd (hrt.symm.trans (laws_FnFilesSorted.j0_false H)) (by decide)
                                                    · rw [if_neg c193] at H
                                                      have c193b0 : (t463 != t435) = false := by simpa using c193
                                                      (try (have c193b1 : decide (t463 = t435) = true := by simpa using c193))
                                                      (try (have c193b2 : (t463 == t435) = true := by simpa using c193))
                                                      clear c193
                                                      by_cases c206 : (t467 != t435) = true
                                                      · rw [if_pos c206] at H
                                                        have c206b0 : (t467 != t435) = true := c206
                                                        (try (have c206b1 : decide (t467 = t435) = false := by simpa using c206))
                                                        (try (have c206b2 : (t467 == t435) = false := by simpa using c206))
                                                        (try (have c206b3 : ¬ (t467 = t435) := by simpa using c206))
                                                        clear c206
                                                        exact absurd (hrt.symm.trans (laws_FnFilesSorted.j0_false H)) (by decide)
                                                      · rw [if_neg c206] at H
                                                        have c206b0 : (t467 != t435) = false := by simpa using c206
                                                        (try (have c206b1 : decide (t467 = t435) = true := by simpa using c206))
                                                        (try (have c206b2 : (t467 == t435) = true := by simpa using c206))
                                                        clear c206
                                                        by_cases c219 : (t475 != t435) = true
                                                        · rw [if_pos c219] at H
                                                          have c219b0 : (t475 != t435) = true := c219
                                                          (try (have c219b1 : decide (t475 = t435) = false := by simpa using c219))
                                                          (try (have c219b2 : (t475 == t435) = false := by simpa using c219))
                                                          (try (have c219b3 : ¬ (t475 = t435) := by simpa using c219))
                                                          clear c219
                                                          exact absurd (hrt.symm.trans (laws_FnFilesSorted.j0_false H)) (by decide)
                                                        · rw [if_neg c219] at H
                                                          have c219b0 : (t475 != t435) = false := by simpa using c219
                                                          (try (have c219b1 : decide (t475 = t435) = true := by simpa using c219))
                                                          (try (have c219b2 : (t475 == t435) = true := by simpa using c219))
                                                          clear c219
                                                          by_cases c232 : (t479 != t435) = true
                                                          · rw [if_pos c232] at H
                                                            have c232b0 : (t479 != t435) = true := c232
                                                            (try (have c232b1 : decide (t479 = t435) = false := by simpa using c232))
                                                            (try (have c232b2 : (t479 == t435) = false := by simpa using c232))
                                                            (try (have c232b3 : ¬ (t479 = t435) := by simpa using c232))
                                                            clear c232
                                                            exact absurd (hrt.symm.trans (laws_FnFilesSorted.j0_false H)) (by decide)
                                                          · rw [if_neg c232] at H
                                                            have c232b0 : (t479 != t435) = false := by simpa using c232
                                                            (try (have c232b1 : decide (t479 = t435) = true := by simpa using c232))
                                                            (try (have c232b2 : (t479 == t435) = true := by simpa using c232))
                                                            clear c232
                                                            cases cq_ : (t483 != t435) with
                                                            | true =>
                                                              rw [cq_] at H
                                                              exact absurd (hrt.symm.trans (laws_FnFilesSorted.j0_false H)) (by decide)
                                                            | false =>
                                                              rw [cq_] at H
                                                              (try (have cq1_ : decide (t483 = t435) = true := by simpa using cq_))
                                                              (try (have cq2_ : (t483 == t435) = true := by simpa using cq_))
                                                              obtain rfl : t495 = t496 := Option.some.inj (A126.out.symm.trans A139.out)
                                                              have H' := Aside0.mk H
                                                              clear H
                                                              obtain ⟨Ao245, co245, eo245⟩ := Kd.N_slice HO437.out
                                                              subst eo245
                                                              obtain ⟨Ao246, co246, eo246⟩ := Kd.N_slice HO441.out
                                                              subst eo246
                                                              go_wp2_with (first | (go_at_call 24; (with_reducible refine (laws_vRows.calls k _ _ t434 _ _ t438 true _ ?side1 ?side2 ?side3 ?side4 A44.out).mono ?_); (case side1 => repeat (first | exact (Kd.N_reads' HO437.out).2.2 | (with_reducible refine Kd.C_alloc ?_ _) | (with_reducible refine Kd.C_drewN ?_ _) | (with_reducible refine Kd.C_drew ?_))); (case side2 => exact (Kd.N_reads' HO437.out).2.1); (case side3 => repeat (first | exact (Kd.N_reads' HO441.out).2.2 | (with_reducible refine Kd.C_alloc ?_ _) | (with_reducible refine Kd.C_drewN ?_ _) | (with_reducible refine Kd.C_drew ?_))); (case side4 => exact (Kd.N_reads' HO441.out).2.1); rintro e w' ⟨rfl, ⟨nd, rfl⟩⟩; (try first | exact ⟨rfl, _, World.drewN_drewN _ _ _⟩ | exact ⟨rfl, _, Eq.trans (World.drewN_drewN _ _ _) (congrArg (World.drewN _) (Nat.add_assoc _ _ _))⟩); obtain ⟨Ao247, co247, eo247⟩ := Kd.N_slice HO445.out; subst eo247; obtain ⟨Ao248, co248, eo248⟩ := Kd.N_slice HO449.out; subst eo248) | (go_at_call 24; (with_reducible refine (laws_vRows.calls k _ _ t442 _ _ t446 true _ ?side1 ?side2 ?side3 ?side4 A49.out).mono ?_); (case side1 => repeat (first | exact (Kd.N_reads' HO445.out).2.2 | (with_reducible refine Kd.C_alloc ?_ _) | (with_reducible refine Kd.C_drewN ?_ _) | (with_reducible refine Kd.C_drew ?_))); (case side2 => exact (Kd.N_reads' HO445.out).2.1); (case side3 => repeat (first | exact (Kd.N_reads' HO449.out).2.2 | (with_reducible refine Kd.C_alloc ?_ _) | (with_reducible refine Kd.C_drewN ?_ _) | (with_reducible refine Kd.C_drew ?_))); (case side4 => exact (Kd.N_reads' HO449.out).2.1); rintro e w' ⟨rfl, ⟨nd, rfl⟩⟩; (try first | exact ⟨rfl, _, World.drewN_drewN _ _ _⟩ | exact ⟨rfl, _, Eq.trans (World.drewN_drewN _ _ _) (congrArg (World.drewN _) (Nat.add_assoc _ _ _))⟩); obtain ⟨Ao249, co249, eo249⟩ := Kd.N_slice HO453.out; subst eo249; obtain ⟨Ao250, co250, eo250⟩ := Kd.N_slice HO457.out; subst eo250) | (go_at_call 24; (with_reducible refine (laws_vRows.calls k _ _ t450 _ _ t454 true _ ?side1 ?side2 ?side3 ?side4 A56.out).mono ?_); (case side1 => repeat (first | exact (Kd.N_reads' HO453.out).2.2 | (with_reducible refine Kd.C_alloc ?_ _) | (with_reducible refine Kd.C_drewN ?_ _) | (with_reducible refine Kd.C_drew ?_))); (case side2 => exact (Kd.N_reads' HO453.out).2.1); (case side3 => repeat (first | exact (Kd.N_reads' HO457.out).2.2 | (with_reducible refine Kd.C_alloc ?_ _) | (with_reducible refine Kd.C_drewN ?_ _) | (with_reducible refine Kd.C_drew ?_))); (case side4 => exact (Kd.N_reads' HO457.out).2.1); rintro e w' ⟨rfl, ⟨nd, rfl⟩⟩; (try first | exact ⟨rfl, _, World.drewN_drewN _ _ _⟩ | exact ⟨rfl, _, Eq.trans (World.drewN_drewN _ _ _) (congrArg (World.drewN _) (Nat.add_assoc _ _ _))⟩); obtain ⟨Ao251, co251, eo251⟩ := Kd.N_slice HO469.out; subst eo251; obtain ⟨Ao252, co252, eo252⟩ := Kd.N_slice HO473.out; subst eo252) | (go_at_call 24; (with_reducible refine (laws_vRows.calls k _ _ t466 _ _ t470 true _ ?side1 ?side2 ?side3 ?side4 A93.out).mono ?_); (case side1 => repeat (first | exact (Kd.N_reads' HO469.out).2.2 | (with_reducible refine Kd.C_alloc ?_ _) | (with_reducible refine Kd.C_drewN ?_ _) | (with_reducible refine Kd.C_drew ?_))); (case side2 => exact (Kd.N_reads' HO469.out).2.1); (case side3 => repeat (first | exact (Kd.N_reads' HO473.out).2.2 | (with_reducible refine Kd.C_alloc ?_ _) | (with_reducible refine Kd.C_drewN ?_ _) | (with_reducible refine Kd.C_drew ?_))); (case side4 => exact (Kd.N_reads' HO473.out).2.1); rintro e w' ⟨rfl, ⟨nd, rfl⟩⟩; (try first | exact ⟨rfl, _, World.drewN_drewN _ _ _⟩ | exact ⟨rfl, _, Eq.trans (World.drewN_drewN _ _ _) (congrArg (World.drewN _) (Nat.add_assoc _ _ _))⟩); obtain ⟨Ao253, co253, eo253⟩ := Kd.N_slice HO485.out; subst eo253; obtain ⟨Ao254, co254, eo254⟩ := Kd.N_slice HO489.out; subst eo254) | (go_at_call 24; (with_reducible refine (laws_vRows.calls k _ _ t482 _ _ t486 true _ ?side1 ?side2 ?side3 ?side4 A124.out).mono ?_); (case side1 => repeat (first | exact (Kd.N_reads' HO485.out).2.2 | (with_reducible refine Kd.C_alloc ?_ _) | (with_reducible refine Kd.C_drewN ?_ _) | (with_reducible refine Kd.C_drew ?_))); (case side2 => exact (Kd.N_reads' HO485.out).2.1); (case side3 => repeat (first | exact (Kd.N_reads' HO489.out).2.2 | (with_reducible refine Kd.C_alloc ?_ _) | (with_reducible refine Kd.C_drewN ?_ _) | (with_reducible refine Kd.C_drew ?_))); (case side4 => exact (Kd.N_reads' HO489.out).2.1); rintro e w' ⟨rfl, ⟨nd, rfl⟩⟩; (try first | exact ⟨rfl, _, World.drewN_drewN _ _ _⟩ | exact ⟨rfl, _, Eq.trans (World.drewN_drewN _ _ _) (congrArg (World.drewN _) (Nat.add_assoc _ _ _))⟩)) | (go_at_call 25; (with_reducible refine (impl_AreFiles.calls _ _ t431 t495 _ ?side1 ?side2 A126.out).mono ?_); (case side1 => repeat (first | exact (Kd.N_reads' HO433.out).2.2 | (with_reducible refine Kd.C_alloc ?_ _) | (with_reducible refine Kd.C_drewN ?_ _) | (with_reducible refine Kd.C_drew ?_))); (case side2 => exact (Kd.N_reads' HO433.out).2.1); rintro e w255 ⟨rfl, hb⟩; have n0_ := Aside0.mk (Kd.N_below (by (with_reducible repeat (first | apply Kd.N_alloc | apply Kd.N_drewN | apply Kd.N_drew)); exact HO433.out) hb); have n1_ := Aside0.mk (Kd.N_below (by (with_reducible repeat (first | apply Kd.N_alloc | apply Kd.N_drewN | apply Kd.N_drew)); exact HO437.out) hb); have n2_ := Aside0.mk (Kd.N_below (by (with_reducible repeat (first | apply Kd.N_alloc | apply Kd.N_drewN | apply Kd.N_drew)); exact HO441.out) hb); have n3_ := Aside0.mk (Kd.N_below (by (with_reducible repeat (first | apply Kd.N_alloc | apply Kd.N_drewN | apply Kd.N_drew)); exact HO445.out) hb); have n4_ := Aside0.mk (Kd.N_below (by (with_reducible repeat (first | apply Kd.N_alloc | apply Kd.N_drewN | apply Kd.N_drew)); exact HO449.out) hb); have n5_ := Aside0.mk (Kd.N_below (by (with_reducible repeat (first | apply Kd.N_alloc | apply Kd.N_drewN | apply Kd.N_drew)); exact HO453.out) hb); have n6_ := Aside0.mk (Kd.N_below (by (with_reducible repeat (first | apply Kd.N_alloc | apply Kd.N_drewN | apply Kd.N_drew)); exact HO457.out) hb); have n7_ := Aside0.mk (Kd.N_below (by (with_reducible repeat (first | apply Kd.N_alloc | apply Kd.N_drewN | apply Kd.N_drew)); exact HO469.out) hb); have n8_ := Aside0.mk (Kd.N_below (by (with_reducible repeat (first | apply Kd.N_alloc | apply Kd.N_drewN | apply Kd.N_drew)); exact HO473.out) hb); have n9_ := Aside0.mk (Kd.N_below (by (with_reducible repeat (first | apply Kd.N_alloc | apply Kd.N_drewN | apply Kd.N_drew)); exact HO485.out) hb); have n10_ := Aside0.mk (Kd.N_below (by (with_reducible repeat (first | apply Kd.N_alloc | apply Kd.N_drewN | apply Kd.N_drew)); exact HO489.out) hb); have n11_ := Aside0.mk (below_step (by repeat (first | (with_reducible first | exact HB.out | apply below_alloc | apply pw_below_drewN | apply below_drew1) | exact HB.out)) hb); clear HO433; clear HO437; clear HO441; clear HO445; clear HO449; clear HO453; clear HO457; clear HO469; clear HO473; clear HO485; clear HO489; clear HB; have HO433 := n0_; have HO437 := n1_; have HO441 := n2_; have HO445 := n3_; have HO449 := n4_; have HO453 := n5_; have HO457 := n6_; have HO469 := n7_; have HO473 := n8_; have HO485 := n9_; have HO489 := n10_; have HB := n11_; clear n0_ n1_ n2_ n3_ n4_ n5_ n6_ n7_ n8_ n9_ n10_ n11_; (try clear hb); (try clear hb2); (try clear hk); (try clear hi)) | (go_at_call 25; (with_reducible refine (impl_AreFiles.calls _ _ t431 t496 _ ?side1 ?side2 A139.out).mono ?_); (case side1 => repeat (first | exact (Kd.N_reads' HO433.out).2.2 | (with_reducible refine Kd.C_alloc ?_ _) | (with_reducible refine Kd.C_drewN ?_ _) | (with_reducible refine Kd.C_drew ?_))); (case side2 => exact (Kd.N_reads' HO433.out).2.1); rintro e w256 ⟨rfl, hb⟩; have n0_ := Aside0.mk (Kd.N_below (by (with_reducible repeat (first | apply Kd.N_alloc | apply Kd.N_drewN | apply Kd.N_drew)); exact HO433.out) hb); have n1_ := Aside0.mk (Kd.N_below (by (with_reducible repeat (first | apply Kd.N_alloc | apply Kd.N_drewN | apply Kd.N_drew)); exact HO437.out) hb); have n2_ := Aside0.mk (Kd.N_below (by (with_reducible repeat (first | apply Kd.N_alloc | apply Kd.N_drewN | apply Kd.N_drew)); exact HO441.out) hb); have n3_ := Aside0.mk (Kd.N_below (by (with_reducible repeat (first | apply Kd.N_alloc | apply Kd.N_drewN | apply Kd.N_drew)); exact HO445.out) hb); have n4_ := Aside0.mk (Kd.N_below (by (with_reducible repeat (first | apply Kd.N_alloc | apply Kd.N_drewN | apply Kd.N_drew)); exact HO449.out) hb); have n5_ := Aside0.mk (Kd.N_below (by (with_reducible repeat (first | apply Kd.N_alloc | apply Kd.N_drewN | apply Kd.N_drew)); exact HO453.out) hb); have n6_ := Aside0.mk (Kd.N_below (by (with_reducible repeat (first | apply Kd.N_alloc | apply Kd.N_drewN | apply Kd.N_drew)); exact HO457.out) hb); have n7_ := Aside0.mk (Kd.N_below (by (with_reducible repeat (first | apply Kd.N_alloc | apply Kd.N_drewN | apply Kd.N_drew)); exact HO469.out) hb); have n8_ := Aside0.mk (Kd.N_below (by (with_reducible repeat (first | apply Kd.N_alloc | apply Kd.N_drewN | apply Kd.N_drew)); exact HO473.out) hb); have n9_ := Aside0.mk (Kd.N_below (by (with_reducible repeat (first | apply Kd.N_alloc | apply Kd.N_drewN | apply Kd.N_drew)); exact HO485.out) hb); have n10_ := Aside0.mk (Kd.N_below (by (with_reducible repeat (first | apply Kd.N_alloc | apply Kd.N_drewN | apply Kd.N_drew)); exact HO489.out) hb); have n11_ := Aside0.mk (below_step (by repeat (first | (with_reducible first | exact HB.out | apply below_alloc | apply pw_below_drewN | apply below_drew1) | exact HB.out)) hb); clear HO433; clear HO437; clear HO441; clear HO445; clear HO449; clear HO453; clear HO457; clear HO469; clear HO473; clear HO485; clear HO489; clear HB; have HO433 := n0_; have HO437 := n1_; have HO441 := n2_; have HO445 := n3_; have HO449 := n4_; have HO453 := n5_; have HO457 := n6_; have HO469 := n7_; have HO473 := n8_; have HO485 := n9_; have HO489 := n10_; have HB := n11_; clear n0_ n1_ n2_ n3_ n4_ n5_ n6_ n7_ n8_ n9_ n10_ n11_; (try clear hb); (try clear hb2); (try clear hk); (try clear hi)) | (go_at_call 26; (with_reducible refine (spec_AreFiles.calls k _ _ t431 t497 _ ?side1 ?side2 A140.out).mono ?_); (case side1 => repeat (first | exact (Kd.N_reads' HO433.out).2.2 | (with_reducible refine Kd.C_alloc ?_ _) | (with_reducible refine Kd.C_drewN ?_ _) | (with_reducible refine Kd.C_drew ?_))); (case side2 => exact (Kd.N_reads' HO433.out).2.1); rintro e w' ⟨rfl, ⟨nd, rfl⟩⟩; (try first | exact ⟨rfl, _, World.drewN_drewN _ _ _⟩ | exact ⟨rfl, _, Eq.trans (World.drewN_drewN _ _ _) (congrArg (World.drewN _) (Nat.add_assoc _ _ _))⟩)))
                                                              repeat (go_quiet (first | (go_at_call 24; (with_reducible refine (laws_vRows.calls k _ _ t434 _ _ t438 true _ ?side1 ?side2 ?side3 ?side4 A44.out).mono ?_); (case side1 => repeat (first | exact (Kd.N_reads' HO437.out).2.2 | (with_reducible refine Kd.C_alloc ?_ _) | (with_reducible refine Kd.C_drewN ?_ _) | (with_reducible refine Kd.C_drew ?_))); (case side2 => exact (Kd.N_reads' HO437.out).2.1); (case side3 => repeat (first | exact (Kd.N_reads' HO441.out).2.2 | (with_reducible refine Kd.C_alloc ?_ _) | (with_reducible refine Kd.C_drewN ?_ _) | (with_reducible refine Kd.C_drew ?_))); (case side4 => exact (Kd.N_reads' HO441.out).2.1); rintro e w' ⟨rfl, ⟨nd, rfl⟩⟩; (try first | exact ⟨rfl, _, World.drewN_drewN _ _ _⟩ | exact ⟨rfl, _, Eq.trans (World.drewN_drewN _ _ _) (congrArg (World.drewN _) (Nat.add_assoc _ _ _))⟩); obtain ⟨Ao247, co247, eo247⟩ := Kd.N_slice HO445.out; subst eo247; obtain ⟨Ao248, co248, eo248⟩ := Kd.N_slice HO449.out; subst eo248) | (go_at_call 24; (with_reducible refine (laws_vRows.calls k _ _ t442 _ _ t446 true _ ?side1 ?side2 ?side3 ?side4 A49.out).mono ?_); (case side1 => repeat (first | exact (Kd.N_reads' HO445.out).2.2 | (with_reducible refine Kd.C_alloc ?_ _) | (with_reducible refine Kd.C_drewN ?_ _) | (with_reducible refine Kd.C_drew ?_))); (case side2 => exact (Kd.N_reads' HO445.out).2.1); (case side3 => repeat (first | exact (Kd.N_reads' HO449.out).2.2 | (with_reducible refine Kd.C_alloc ?_ _) | (with_reducible refine Kd.C_drewN ?_ _) | (with_reducible refine Kd.C_drew ?_))); (case side4 => exact (Kd.N_reads' HO449.out).2.1); rintro e w' ⟨rfl, ⟨nd, rfl⟩⟩; (try first | exact ⟨rfl, _, World.drewN_drewN _ _ _⟩ | exact ⟨rfl, _, Eq.trans (World.drewN_drewN _ _ _) (congrArg (World.drewN _) (Nat.add_assoc _ _ _))⟩); obtain ⟨Ao249, co249, eo249⟩ := Kd.N_slice HO453.out; subst eo249; obtain ⟨Ao250, co250, eo250⟩ := Kd.N_slice HO457.out; subst eo250) | (go_at_call 24; (with_reducible refine (laws_vRows.calls k _ _ t450 _ _ t454 true _ ?side1 ?side2 ?side3 ?side4 A56.out).mono ?_); (case side1 => repeat (first | exact (Kd.N_reads' HO453.out).2.2 | (with_reducible refine Kd.C_alloc ?_ _) | (with_reducible refine Kd.C_drewN ?_ _) | (with_reducible refine Kd.C_drew ?_))); (case side2 => exact (Kd.N_reads' HO453.out).2.1); (case side3 => repeat (first | exact (Kd.N_reads' HO457.out).2.2 | (with_reducible refine Kd.C_alloc ?_ _) | (with_reducible refine Kd.C_drewN ?_ _) | (with_reducible refine Kd.C_drew ?_))); (case side4 => exact (Kd.N_reads' HO457.out).2.1); rintro e w' ⟨rfl, ⟨nd, rfl⟩⟩; (try first | exact ⟨rfl, _, World.drewN_drewN _ _ _⟩ | exact ⟨rfl, _, Eq.trans (World.drewN_drewN _ _ _) (congrArg (World.drewN _) (Nat.add_assoc _ _ _))⟩); obtain ⟨Ao251, co251, eo251⟩ := Kd.N_slice HO469.out; subst eo251; obtain ⟨Ao252, co252, eo252⟩ := Kd.N_slice HO473.out; subst eo252) | (go_at_call 24; (with_reducible refine (laws_vRows.calls k _ _ t466 _ _ t470 true _ ?side1 ?side2 ?side3 ?side4 A93.out).mono ?_); (case side1 => repeat (first | exact (Kd.N_reads' HO469.out).2.2 | (with_reducible refine Kd.C_alloc ?_ _) | (with_reducible refine Kd.C_drewN ?_ _) | (with_reducible refine Kd.C_drew ?_))); (case side2 => exact (Kd.N_reads' HO469.out).2.1); (case side3 => repeat (first | exact (Kd.N_reads' HO473.out).2.2 | (with_reducible refine Kd.C_alloc ?_ _) | (with_reducible refine Kd.C_drewN ?_ _) | (with_reducible refine Kd.C_drew ?_))); (case side4 => exact (Kd.N_reads' HO473.out).2.1); rintro e w' ⟨rfl, ⟨nd, rfl⟩⟩; (try first | exact ⟨rfl, _, World.drewN_drewN _ _ _⟩ | exact ⟨rfl, _, Eq.trans (World.drewN_drewN _ _ _) (congrArg (World.drewN _) (Nat.add_assoc _ _ _))⟩); obtain ⟨Ao253, co253, eo253⟩ := Kd.N_slice HO485.out; subst eo253; obtain ⟨Ao254, co254, eo254⟩ := Kd.N_slice HO489.out; subst eo254) | (go_at_call 24; (with_reducible refine (laws_vRows.calls k _ _ t482 _ _ t486 true _ ?side1 ?side2 ?side3 ?side4 A124.out).mono ?_); (case side1 => repeat (first | exact (Kd.N_reads' HO485.out).2.2 | (with_reducible refine Kd.C_alloc ?_ _) | (with_reducible refine Kd.C_drewN ?_ _) | (with_reducible refine Kd.C_drew ?_))); (case side2 => exact (Kd.N_reads' HO485.out).2.1); (case side3 => repeat (first | exact (Kd.N_reads' HO489.out).2.2 | (with_reducible refine Kd.C_alloc ?_ _) | (with_reducible refine Kd.C_drewN ?_ _) | (with_reducible refine Kd.C_drew ?_))); (case side4 => exact (Kd.N_reads' HO489.out).2.1); rintro e w' ⟨rfl, ⟨nd, rfl⟩⟩; (try first | exact ⟨rfl, _, World.drewN_drewN _ _ _⟩ | exact ⟨rfl, _, Eq.trans (World.drewN_drewN _ _ _) (congrArg (World.drewN _) (Nat.add_assoc _ _ _))⟩)) | (go_at_call 25; (with_reducible refine (impl_AreFiles.calls _ _ t431 t495 _ ?side1 ?side2 A126.out).mono ?_); (case side1 => repeat (first | exact (Kd.N_reads' HO433.out).2.2 | (with_reducible refine Kd.C_alloc ?_ _) | (with_reducible refine Kd.C_drewN ?_ _) | (with_reducible refine Kd.C_drew ?_))); (case side2 => exact (Kd.N_reads' HO433.out).2.1); rintro e w255 ⟨rfl, hb⟩; have n0_ := Aside0.mk (Kd.N_below (by (with_reducible repeat (first | apply Kd.N_alloc | apply Kd.N_drewN | apply Kd.N_drew)); exact HO433.out) hb); have n1_ := Aside0.mk (Kd.N_below (by (with_reducible repeat (first | apply Kd.N_alloc | apply Kd.N_drewN | apply Kd.N_drew)); exact HO437.out) hb); have n2_ := Aside0.mk (Kd.N_below (by (with_reducible repeat (first | apply Kd.N_alloc | apply Kd.N_drewN | apply Kd.N_drew)); exact HO441.out) hb); have n3_ := Aside0.mk (Kd.N_below (by (with_reducible repeat (first | apply Kd.N_alloc | apply Kd.N_drewN | apply Kd.N_drew)); exact HO445.out) hb); have n4_ := Aside0.mk (Kd.N_below (by (with_reducible repeat (first | apply Kd.N_alloc | apply Kd.N_drewN | apply Kd.N_drew)); exact HO449.out) hb); have n5_ := Aside0.mk (Kd.N_below (by (with_reducible repeat (first | apply Kd.N_alloc | apply Kd.N_drewN | apply Kd.N_drew)); exact HO453.out) hb); have n6_ := Aside0.mk (Kd.N_below (by (with_reducible repeat (first | apply Kd.N_alloc | apply Kd.N_drewN | apply Kd.N_drew)); exact HO457.out) hb); have n7_ := Aside0.mk (Kd.N_below (by (with_reducible repeat (first | apply Kd.N_alloc | apply Kd.N_drewN | apply Kd.N_drew)); exact HO469.out) hb); have n8_ := Aside0.mk (Kd.N_below (by (with_reducible repeat (first | apply Kd.N_alloc | apply Kd.N_drewN | apply Kd.N_drew)); exact HO473.out) hb); have n9_ := Aside0.mk (Kd.N_below (by (with_reducible repeat (first | apply Kd.N_alloc | apply Kd.N_drewN | apply Kd.N_drew)); exact HO485.out) hb); have n10_ := Aside0.mk (Kd.N_below (by (with_reducible repeat (first | apply Kd.N_alloc | apply Kd.N_drewN | apply Kd.N_drew)); exact HO489.out) hb); have n11_ := Aside0.mk (below_step (by repeat (first | (with_reducible first | exact HB.out | apply below_alloc | apply pw_below_drewN | apply below_drew1) | exact HB.out)) hb); clear HO433; clear HO437; clear HO441; clear HO445; clear HO449; clear HO453; clear HO457; clear HO469; clear HO473; clear HO485; clear HO489; clear HB; have HO433 := n0_; have HO437 := n1_; have HO441 := n2_; have HO445 := n3_; have HO449 := n4_; have HO453 := n5_; have HO457 := n6_; have HO469 := n7_; have HO473 := n8_; have HO485 := n9_; have HO489 := n10_; have HB := n11_; clear n0_ n1_ n2_ n3_ n4_ n5_ n6_ n7_ n8_ n9_ n10_ n11_; (try clear hb); (try clear hb2); (try clear hk); (try clear hi)) | (go_at_call 25; (with_reducible refine (impl_AreFiles.calls _ _ t431 t496 _ ?side1 ?side2 A139.out).mono ?_); (case side1 => repeat (first | exact (Kd.N_reads' HO433.out).2.2 | (with_reducible refine Kd.C_alloc ?_ _) | (with_reducible refine Kd.C_drewN ?_ _) | (with_reducible refine Kd.C_drew ?_))); (case side2 => exact (Kd.N_reads' HO433.out).2.1); rintro e w256 ⟨rfl, hb⟩; have n0_ := Aside0.mk (Kd.N_below (by (with_reducible repeat (first | apply Kd.N_alloc | apply Kd.N_drewN | apply Kd.N_drew)); exact HO433.out) hb); have n1_ := Aside0.mk (Kd.N_below (by (with_reducible repeat (first | apply Kd.N_alloc | apply Kd.N_drewN | apply Kd.N_drew)); exact HO437.out) hb); have n2_ := Aside0.mk (Kd.N_below (by (with_reducible repeat (first | apply Kd.N_alloc | apply Kd.N_drewN | apply Kd.N_drew)); exact HO441.out) hb); have n3_ := Aside0.mk (Kd.N_below (by (with_reducible repeat (first | apply Kd.N_alloc | apply Kd.N_drewN | apply Kd.N_drew)); exact HO445.out) hb); have n4_ := Aside0.mk (Kd.N_below (by (with_reducible repeat (first | apply Kd.N_alloc | apply Kd.N_drewN | apply Kd.N_drew)); exact HO449.out) hb); have n5_ := Aside0.mk (Kd.N_below (by (with_reducible repeat (first | apply Kd.N_alloc | apply Kd.N_drewN | apply Kd.N_drew)); exact HO453.out) hb); have n6_ := Aside0.mk (Kd.N_below (by (with_reducible repeat (first | apply Kd.N_alloc | apply Kd.N_drewN | apply Kd.N_drew)); exact HO457.out) hb); have n7_ := Aside0.mk (Kd.N_below (by (with_reducible repeat (first | apply Kd.N_alloc | apply Kd.N_drewN | apply Kd.N_drew)); exact HO469.out) hb); have n8_ := Aside0.mk (Kd.N_below (by (with_reducible repeat (first | apply Kd.N_alloc | apply Kd.N_drewN | apply Kd.N_drew)); exact HO473.out) hb); have n9_ := Aside0.mk (Kd.N_below (by (with_reducible repeat (first | apply Kd.N_alloc | apply Kd.N_drewN | apply Kd.N_drew)); exact HO485.out) hb); have n10_ := Aside0.mk (Kd.N_below (by (with_reducible repeat (first | apply Kd.N_alloc | apply Kd.N_drewN | apply Kd.N_drew)); exact HO489.out) hb); have n11_ := Aside0.mk (below_step (by repeat (first | (with_reducible first | exact HB.out | apply below_alloc | apply pw_below_drewN | apply below_drew1) | exact HB.out)) hb); clear HO433; clear HO437; clear HO441; clear HO445; clear HO449; clear HO453; clear HO457; clear HO469; clear HO473; clear HO485; clear HO489; clear HB; have HO433 := n0_; have HO437 := n1_; have HO441 := n2_; have HO445 := n3_; have HO449 := n4_; have HO453 := n5_; have HO457 := n6_; have HO469 := n7_; have HO473 := n8_; have HO485 := n9_; have HO489 := n10_; have HB := n11_; clear n0_ n1_ n2_ n3_ n4_ n5_ n6_ n7_ n8_ n9_ n10_ n11_; (try clear hb); (try clear hb2); (try clear hk); (try clear hi)) | (go_at_call 26; (with_reducible refine (spec_AreFiles.calls k _ _ t431 t497 _ ?side1 ?side2 A140.out).mono ?_); (case side1 => repeat (first | exact (Kd.N_reads' HO433.out).2.2 | (with_reducible refine Kd.C_alloc ?_ _) | (with_reducible refine Kd.C_drewN ?_ _) | (with_reducible refine Kd.C_drew ?_))); (case side2 => exact (Kd.N_reads' HO433.out).2.1); rintro e w' ⟨rfl, ⟨nd, rfl⟩⟩; (try first | exact ⟨rfl, _, World.drewN_drewN _ _ _⟩ | exact ⟨rfl, _, Eq.trans (World.drewN_drewN _ _ _) (congrArg (World.drewN _) (Nat.add_assoc _ _ _))⟩))); try go_wp2_with (first | (go_at_call 24; (with_reducible refine (laws_vRows.calls k _ _ t434 _ _ t438 true _ ?side1 ?side2 ?side3 ?side4 A44.out).mono ?_); (case side1 => repeat (first | exact (Kd.N_reads' HO437.out).2.2 | (with_reducible refine Kd.C_alloc ?_ _) | (with_reducible refine Kd.C_drewN ?_ _) | (with_reducible refine Kd.C_drew ?_))); (case side2 => exact (Kd.N_reads' HO437.out).2.1); (case side3 => repeat (first | exact (Kd.N_reads' HO441.out).2.2 | (with_reducible refine Kd.C_alloc ?_ _) | (with_reducible refine Kd.C_drewN ?_ _) | (with_reducible refine Kd.C_drew ?_))); (case side4 => exact (Kd.N_reads' HO441.out).2.1); rintro e w' ⟨rfl, ⟨nd, rfl⟩⟩; (try first | exact ⟨rfl, _, World.drewN_drewN _ _ _⟩ | exact ⟨rfl, _, Eq.trans (World.drewN_drewN _ _ _) (congrArg (World.drewN _) (Nat.add_assoc _ _ _))⟩); obtain ⟨Ao247, co247, eo247⟩ := Kd.N_slice HO445.out; subst eo247; obtain ⟨Ao248, co248, eo248⟩ := Kd.N_slice HO449.out; subst eo248) | (go_at_call 24; (with_reducible refine (laws_vRows.calls k _ _ t442 _ _ t446 true _ ?side1 ?side2 ?side3 ?side4 A49.out).mono ?_); (case side1 => repeat (first | exact (Kd.N_reads' HO445.out).2.2 | (with_reducible refine Kd.C_alloc ?_ _) | (with_reducible refine Kd.C_drewN ?_ _) | (with_reducible refine Kd.C_drew ?_))); (case side2 => exact (Kd.N_reads' HO445.out).2.1); (case side3 => repeat (first | exact (Kd.N_reads' HO449.out).2.2 | (with_reducible refine Kd.C_alloc ?_ _) | (with_reducible refine Kd.C_drewN ?_ _) | (with_reducible refine Kd.C_drew ?_))); (case side4 => exact (Kd.N_reads' HO449.out).2.1); rintro e w' ⟨rfl, ⟨nd, rfl⟩⟩; (try first | exact ⟨rfl, _, World.drewN_drewN _ _ _⟩ | exact ⟨rfl, _, Eq.trans (World.drewN_drewN _ _ _) (congrArg (World.drewN _) (Nat.add_assoc _ _ _))⟩); obtain ⟨Ao249, co249, eo249⟩ := Kd.N_slice HO453.out; subst eo249; obtain ⟨Ao250, co250, eo250⟩ := Kd.N_slice HO457.out; subst eo250) | (go_at_call 24; (with_reducible refine (laws_vRows.calls k _ _ t450 _ _ t454 true _ ?side1 ?side2 ?side3 ?side4 A56.out).mono ?_); (case side1 => repeat (first | exact (Kd.N_reads' HO453.out).2.2 | (with_reducible refine Kd.C_alloc ?_ _) | (with_reducible refine Kd.C_drewN ?_ _) | (with_reducible refine Kd.C_drew ?_))); (case side2 => exact (Kd.N_reads' HO453.out).2.1); (case side3 => repeat (first | exact (Kd.N_reads' HO457.out).2.2 | (with_reducible refine Kd.C_alloc ?_ _) | (with_reducible refine Kd.C_drewN ?_ _) | (with_reducible refine Kd.C_drew ?_))); (case side4 => exact (Kd.N_reads' HO457.out).2.1); rintro e w' ⟨rfl, ⟨nd, rfl⟩⟩; (try first | exact ⟨rfl, _, World.drewN_drewN _ _ _⟩ | exact ⟨rfl, _, Eq.trans (World.drewN_drewN _ _ _) (congrArg (World.drewN _) (Nat.add_assoc _ _ _))⟩); obtain ⟨Ao251, co251, eo251⟩ := Kd.N_slice HO469.out; subst eo251; obtain ⟨Ao252, co252, eo252⟩ := Kd.N_slice HO473.out; subst eo252) | (go_at_call 24; (with_reducible refine (laws_vRows.calls k _ _ t466 _ _ t470 true _ ?side1 ?side2 ?side3 ?side4 A93.out).mono ?_); (case side1 => repeat (first | exact (Kd.N_reads' HO469.out).2.2 | (with_reducible refine Kd.C_alloc ?_ _) | (with_reducible refine Kd.C_drewN ?_ _) | (with_reducible refine Kd.C_drew ?_))); (case side2 => exact (Kd.N_reads' HO469.out).2.1); (case side3 => repeat (first | exact (Kd.N_reads' HO473.out).2.2 | (with_reducible refine Kd.C_alloc ?_ _) | (with_reducible refine Kd.C_drewN ?_ _) | (with_reducible refine Kd.C_drew ?_))); (case side4 => exact (Kd.N_reads' HO473.out).2.1); rintro e w' ⟨rfl, ⟨nd, rfl⟩⟩; (try first | exact ⟨rfl, _, World.drewN_drewN _ _ _⟩ | exact ⟨rfl, _, Eq.trans (World.drewN_drewN _ _ _) (congrArg (World.drewN _) (Nat.add_assoc _ _ _))⟩); obtain ⟨Ao253, co253, eo253⟩ := Kd.N_slice HO485.out; subst eo253; obtain ⟨Ao254, co254, eo254⟩ := Kd.N_slice HO489.out; subst eo254) | (go_at_call 24; (with_reducible refine (laws_vRows.calls k _ _ t482 _ _ t486 true _ ?side1 ?side2 ?side3 ?side4 A124.out).mono ?_); (case side1 => repeat (first | exact (Kd.N_reads' HO485.out).2.2 | (with_reducible refine Kd.C_alloc ?_ _) | (with_reducible refine Kd.C_drewN ?_ _) | (with_reducible refine Kd.C_drew ?_))); (case side2 => exact (Kd.N_reads' HO485.out).2.1); (case side3 => repeat (first | exact (Kd.N_reads' HO489.out).2.2 | (with_reducible refine Kd.C_alloc ?_ _) | (with_reducible refine Kd.C_drewN ?_ _) | (with_reducible refine Kd.C_drew ?_))); (case side4 => exact (Kd.N_reads' HO489.out).2.1); rintro e w' ⟨rfl, ⟨nd, rfl⟩⟩; (try first | exact ⟨rfl, _, World.drewN_drewN _ _ _⟩ | exact ⟨rfl, _, Eq.trans (World.drewN_drewN _ _ _) (congrArg (World.drewN _) (Nat.add_assoc _ _ _))⟩)) | (go_at_call 25; (with_reducible refine (impl_AreFiles.calls _ _ t431 t495 _ ?side1 ?side2 A126.out).mono ?_); (case side1 => repeat (first | exact (Kd.N_reads' HO433.out).2.2 | (with_reducible refine Kd.C_alloc ?_ _) | (with_reducible refine Kd.C_drewN ?_ _) | (with_reducible refine Kd.C_drew ?_))); (case side2 => exact (Kd.N_reads' HO433.out).2.1); rintro e w255 ⟨rfl, hb⟩; have n0_ := Aside0.mk (Kd.N_below (by (with_reducible repeat (first | apply Kd.N_alloc | apply Kd.N_drewN | apply Kd.N_drew)); exact HO433.out) hb); have n1_ := Aside0.mk (Kd.N_below (by (with_reducible repeat (first | apply Kd.N_alloc | apply Kd.N_drewN | apply Kd.N_drew)); exact HO437.out) hb); have n2_ := Aside0.mk (Kd.N_below (by (with_reducible repeat (first | apply Kd.N_alloc | apply Kd.N_drewN | apply Kd.N_drew)); exact HO441.out) hb); have n3_ := Aside0.mk (Kd.N_below (by (with_reducible repeat (first | apply Kd.N_alloc | apply Kd.N_drewN | apply Kd.N_drew)); exact HO445.out) hb); have n4_ := Aside0.mk (Kd.N_below (by (with_reducible repeat (first | apply Kd.N_alloc | apply Kd.N_drewN | apply Kd.N_drew)); exact HO449.out) hb); have n5_ := Aside0.mk (Kd.N_below (by (with_reducible repeat (first | apply Kd.N_alloc | apply Kd.N_drewN | apply Kd.N_drew)); exact HO453.out) hb); have n6_ := Aside0.mk (Kd.N_below (by (with_reducible repeat (first | apply Kd.N_alloc | apply Kd.N_drewN | apply Kd.N_drew)); exact HO457.out) hb); have n7_ := Aside0.mk (Kd.N_below (by (with_reducible repeat (first | apply Kd.N_alloc | apply Kd.N_drewN | apply Kd.N_drew)); exact HO469.out) hb); have n8_ := Aside0.mk (Kd.N_below (by (with_reducible repeat (first | apply Kd.N_alloc | apply Kd.N_drewN | apply Kd.N_drew)); exact HO473.out) hb); have n9_ := Aside0.mk (Kd.N_below (by (with_reducible repeat (first | apply Kd.N_alloc | apply Kd.N_drewN | apply Kd.N_drew)); exact HO485.out) hb); have n10_ := Aside0.mk (Kd.N_below (by (with_reducible repeat (first | apply Kd.N_alloc | apply Kd.N_drewN | apply Kd.N_drew)); exact HO489.out) hb); have n11_ := Aside0.mk (below_step (by repeat (first | (with_reducible first | exact HB.out | apply below_alloc | apply pw_below_drewN | apply below_drew1) | exact HB.out)) hb); clear HO433; clear HO437; clear HO441; clear HO445; clear HO449; clear HO453; clear HO457; clear HO469; clear HO473; clear HO485; clear HO489; clear HB; have HO433 := n0_; have HO437 := n1_; have HO441 := n2_; have HO445 := n3_; have HO449 := n4_; have HO453 := n5_; have HO457 := n6_; have HO469 := n7_; have HO473 := n8_; have HO485 := n9_; have HO489 := n10_; have HB := n11_; clear n0_ n1_ n2_ n3_ n4_ n5_ n6_ n7_ n8_ n9_ n10_ n11_; (try clear hb); (try clear hb2); (try clear hk); (try clear hi)) | (go_at_call 25; (with_reducible refine (impl_AreFiles.calls _ _ t431 t496 _ ?side1 ?side2 A139.out).mono ?_); (case side1 => repeat (first | exact (Kd.N_reads' HO433.out).2.2 | (with_reducible refine Kd.C_alloc ?_ _) | (with_reducible refine Kd.C_drewN ?_ _) | (with_reducible refine Kd.C_drew ?_))); (case side2 => exact (Kd.N_reads' HO433.out).2.1); rintro e w256 ⟨rfl, hb⟩; have n0_ := Aside0.mk (Kd.N_below (by (with_reducible repeat (first | apply Kd.N_alloc | apply Kd.N_drewN | apply Kd.N_drew)); exact HO433.out) hb); have n1_ := Aside0.mk (Kd.N_below (by (with_reducible repeat (first | apply Kd.N_alloc | apply Kd.N_drewN | apply Kd.N_drew)); exact HO437.out) hb); have n2_ := Aside0.mk (Kd.N_below (by (with_reducible repeat (first | apply Kd.N_alloc | apply Kd.N_drewN | apply Kd.N_drew)); exact HO441.out) hb); have n3_ := Aside0.mk (Kd.N_below (by (with_reducible repeat (first | apply Kd.N_alloc | apply Kd.N_drewN | apply Kd.N_drew)); exact HO445.out) hb); have n4_ := Aside0.mk (Kd.N_below (by (with_reducible repeat (first | apply Kd.N_alloc | apply Kd.N_drewN | apply Kd.N_drew)); exact HO449.out) hb); have n5_ := Aside0.mk (Kd.N_below (by (with_reducible repeat (first | apply Kd.N_alloc | apply Kd.N_drewN | apply Kd.N_drew)); exact HO453.out) hb); have n6_ := Aside0.mk (Kd.N_below (by (with_reducible repeat (first | apply Kd.N_alloc | apply Kd.N_drewN | apply Kd.N_drew)); exact HO457.out) hb); have n7_ := Aside0.mk (Kd.N_below (by (with_reducible repeat (first | apply Kd.N_alloc | apply Kd.N_drewN | apply Kd.N_drew)); exact HO469.out) hb); have n8_ := Aside0.mk (Kd.N_below (by (with_reducible repeat (first | apply Kd.N_alloc | apply Kd.N_drewN | apply Kd.N_drew)); exact HO473.out) hb); have n9_ := Aside0.mk (Kd.N_below (by (with_reducible repeat (first | apply Kd.N_alloc | apply Kd.N_drewN | apply Kd.N_drew)); exact HO485.out) hb); have n10_ := Aside0.mk (Kd.N_below (by (with_reducible repeat (first | apply Kd.N_alloc | apply Kd.N_drewN | apply Kd.N_drew)); exact HO489.out) hb); have n11_ := Aside0.mk (below_step (by repeat (first | (with_reducible first | exact HB.out | apply below_alloc | apply pw_below_drewN | apply below_drew1) | exact HB.out)) hb); clear HO433; clear HO437; clear HO441; clear HO445; clear HO449; clear HO453; clear HO457; clear HO469; clear HO473; clear HO485; clear HO489; clear HB; have HO433 := n0_; have HO437 := n1_; have HO441 := n2_; have HO445 := n3_; have HO449 := n4_; have HO453 := n5_; have HO457 := n6_; have HO469 := n7_; have HO473 := n8_; have HO485 := n9_; have HO489 := n10_; have HB := n11_; clear n0_ n1_ n2_ n3_ n4_ n5_ n6_ n7_ n8_ n9_ n10_ n11_; (try clear hb); (try clear hb2); (try clear hk); (try clear hi)) | (go_at_call 26; (with_reducible refine (spec_AreFiles.calls k _ _ t431 t497 _ ?side1 ?side2 A140.out).mono ?_); (case side1 => repeat (first | exact (Kd.N_reads' HO433.out).2.2 | (with_reducible refine Kd.C_alloc ?_ _) | (with_reducible refine Kd.C_drewN ?_ _) | (with_reducible refine Kd.C_drew ?_))); (case side2 => exact (Kd.N_reads' HO433.out).2.1); rintro e w' ⟨rfl, ⟨nd, rfl⟩⟩; (try first | exact ⟨rfl, _, World.drewN_drewN _ _ _⟩ | exact ⟨rfl, _, Eq.trans (World.drewN_drewN _ _ _) (congrArg (World.drewN _) (Nat.add_assoc _ _ _))⟩))))
                                                              go_meet
                                                              case rel => exact ⟨_, (false), (by first | rfl | (simp; done) | (simp [*]; done) | (simp [*]; first | exact bx1 _ _ | exact bx2 _ _ | exact (bx1 _ _).symm | exact (bx2 _ _).symm | exact bx3 _ _ | exact bx4 _ _)), H', ⟨by first | omega | exact Nat.le_refl _⟩, ⟨by (with_reducible repeat (first | apply Kd.N_alloc | apply Kd.N_drewN | apply Kd.N_drew)); exact Kd.N_mono HO433.out (fun _ hk => ⟨hk.1.1.1.1.1.1.1.1.1.2, ⟨hk.1.1.1.1.1.1.1.2, ⟨hk.1.1.1.1.1.2, ⟨hk.1.1.1.2, hk.1.2⟩⟩⟩⟩)⟩, ⟨by (with_reducible repeat (first | apply Kd.N_alloc | apply Kd.N_drewN | apply Kd.N_drew)); exact Kd.N_mono HO437.out (fun _ hk => ⟨hk.1.1.1.1.1.1.1.1.1, ⟨hk.1.1.1.1.1.1.1.2, ⟨hk.1.1.1.1.1.2, ⟨hk.1.1.1.2, hk.1.2⟩⟩⟩⟩)⟩, ⟨by (with_reducible repeat (first | apply Kd.N_alloc | apply Kd.N_drewN | apply Kd.N_drew)); exact Kd.N_mono HO445.out (fun _ hk => ⟨hk.1.1.1.1.1.1.1.1, ⟨hk.1.1.1.1.1.1.1.2.1, ⟨hk.1.1.1.1.1.2, ⟨hk.1.1.1.2, hk.1.2⟩⟩⟩⟩)⟩, ⟨by (with_reducible repeat (first | apply Kd.N_alloc | apply Kd.N_drewN | apply Kd.N_drew)); exact Kd.N_mono HO453.out (fun _ hk => ⟨hk.1.1.1.1.1.1, ⟨hk.1.1.1.1.1.2.1, ⟨hk.1.1.1.1.1.2.2.2.1, ⟨hk.1.1.1.2, hk.1.2⟩⟩⟩⟩)⟩, ⟨by (with_reducible repeat (first | apply Kd.N_alloc | apply Kd.N_drewN | apply Kd.N_drew)); exact Kd.N_mono HO469.out (fun _ hk => ⟨hk.1.1.1.1, ⟨hk.1.1.1.2.1, ⟨hk.1.1.1.2.2.2.1, ⟨hk.1.1.1.2.2.2.2.2.1, hk.1.2⟩⟩⟩⟩)⟩, ⟨by (with_reducible repeat (first | apply Kd.N_alloc | apply Kd.N_drewN | apply Kd.N_drew)); exact Kd.N_mono HO485.out (fun _ hk => ⟨hk.1.1, ⟨hk.1.2.1, ⟨hk.1.2.2.2.1, ⟨hk.1.2.2.2.2.2.1, hk.1.2.2.2.2.2.2.2.1⟩⟩⟩⟩)⟩, ⟨by repeat (first | (with_reducible first | exact HB.out | apply below_alloc | apply pw_below_drewN | apply below_drew1) | exact HB.out)⟩⟩
                                        · replace c125 := Bool.eq_false_iff.mpr c125
                                          subst c125
                                          rw [if_neg (show ¬ (false = true) by decide)] at H
                                          exact absurd (hrt.symm.trans (laws_FnFilesSorted.j0_false H)) (by decide)
                                    · rw [if_neg c114] at H
                                      have c114b0 : (t478 == t480) = false := beq_eq_false_iff_ne.mpr c114
                                      have c114b1 : (t478 != t480) = true := bne_iff_ne.mpr c114
                                      exact absurd (hrt.symm.trans (laws_FnFilesSorted.j0_false H)) (by decide)
                                · rw [if_neg c104] at H
                                  have c104b0 : (t474 == t476) = false := beq_eq_false_iff_ne.mpr c104
                                  have c104b1 : (t474 != t476) = true := bne_iff_ne.mpr c104
                                  exact absurd (hrt.symm.trans (laws_FnFilesSorted.j0_false H)) (by decide)
                            · replace c94 := Bool.eq_false_iff.mpr c94
                              subst c94
                              rw [if_neg (show ¬ (false = true) by decide)] at H
                              exact absurd (hrt.symm.trans (laws_FnFilesSorted.j0_false H)) (by decide)
                · replace c57 := Bool.eq_false_iff.mpr c57
                  subst c57
                  rw [if_neg (show ¬ (false = true) by decide)] at H
                  exact absurd (hrt.symm.trans (laws_FnFilesSorted.j0_false H)) (by decide)
            · replace c50 := Bool.eq_false_iff.mpr c50
              subst c50
              rw [if_neg (show ¬ (false = true) by decide)] at H
              exact absurd (hrt.symm.trans (laws_FnFilesSorted.j0_false H)) (by decide)
        · replace c45 := Bool.eq_false_iff.mpr c45
          subst c45
          rw [if_neg (show ¬ (false = true) by decide)] at H
          exact absurd (hrt.symm.trans (laws_FnFilesSorted.j0_false H)) (by decide)
    case rest => as_aux_lemma =>
      clear HC24
      try clear c1
      try clear c2
      try clear p2
      try clear c4
      try clear c5
      try clear c6
      try clear c7
      try clear c8
      try clear c9
      try clear c10
      try clear c11
      try clear c12
      try clear c14
      try clear c15
      try clear c16
      try clear c18
      try clear c19
      try clear c20
      try clear c21
      try clear c23
      try clear c45
      try clear c46
      try clear c46b0
      try clear c46b1
      try clear c46b2
      try clear c50
      try clear c51
      try clear c51b0
      try clear c51b1
      try clear c51b2
      try clear c57
      try clear c58
      try clear c58b0
      try clear c58b1
      try clear c58b2
      try clear c65
      try clear c65b0
      try clear c65b1
      try clear c65b2
      try clear c72
      try clear c72b0
      try clear c72b1
      try clear c72b2
      try clear c79
      try clear c79b0
      try clear c79b1
      try clear c79b2
      try clear c86
      try clear c86b0
      try clear c86b1
      try clear c86b2
      try clear c94
      try clear c95
      try clear c95b0
      try clear c95b1
      try clear c95b2
      try clear c104
      try clear c104b0
      try clear c104b1
      try clear c105
      try clear c105b0
      try clear c105b1
      try clear c105b2
      try clear c114
      try clear c114b0
      try clear c114b1
      try clear c115
      try clear c115b0
      try clear c115b1
      try clear c115b2
      try clear c125
      try clear c127
      try clear c127b0
      try clear c127b1
      try clear c127b2
      try clear c141
      try clear c141b0
      try clear c141b1
      try clear c141b2
      try clear c154
      try clear c154b0
      try clear c154b1
      try clear c154b2
      try clear c167
      try clear c167b0
      try clear c167b1
      try clear c167b2
      try clear c180
      try clear c180b0
      try clear c180b1
      try clear c180b2
      try clear c193
      try clear c193b0
      try clear c193b1
      try clear c193b2
      try clear c206
      try clear c206b0
      try clear c206b1
      try clear c206b2
      try clear c219
      try clear c219b0
      try clear c219b1
      try clear c219b2
      try clear c232
      try clear c232b0
      try clear c232b1
      try clear c232b2
      obtain ⟨kq, x297_23, rfl, HA, HJ23, HO_5, HO_6, HO_10, HO_14, HO_26, HO_38, HB⟩ := hcut
      cases kq with
      | zero => exact absurd HA.out (by simp [laws_FnFilesSorted.j0])
      | succ kj23 =>
        have H := HA.out
        clear HA
        simp only [laws_FnFilesSorted.j0] at H
        by_cases c303 : x297_23 = true
        · subst c303
          rw [if_pos rfl] at H
          exact absurd (hrt.symm.trans (Option.some.inj H).symm) (by decide)
        · replace c303 := Bool.eq_false_iff.mpr c303
          subst c303
          rw [if_neg (show ¬ (false = true) by decide)] at H
          by_cases c304 : t435 = true
          · subst c304
            rw [if_pos rfl] at H
            replace H := Option.bind_eq_some_iff.mp H
            obtain ⟨⟨t498, t499⟩, A3050, H⟩ := H
            (try dsimp only at H)
            have A305 := Aside0.mk A3050
            clear A3050
            replace H := Option.bind_eq_some_iff.mp H
            obtain ⟨⟨t500, t501⟩, A3060, H⟩ := H
            (try dsimp only at H)
            have A306 := Aside0.mk A3060
            clear A3060
            replace H := Option.bind_eq_some_iff.mp H
            obtain ⟨⟨t502, t503⟩, A3070, H⟩ := H
            (try dsimp only at H)
            have A307 := Aside0.mk A3070
            clear A3070
            replace H := Option.bind_eq_some_iff.mp H
            obtain ⟨⟨t506, t507⟩, A3080, H⟩ := H
            (try dsimp only at H)
            have A308 := Aside0.mk A3080
            clear A3080
            have HC309 := Aside0.mk H
            clear H
            obtain ⟨Ao310, co310, eo310⟩ := Kd.N_slice HO_6.out
            subst eo310
            go_upto_region 30 with (first | (go_at_call 12; (with_reducible refine (impl_AreRowsSorted.calls kj23 _ _ t434 t498 t499 _ ?side1 ?side2 A305.out).mono ?_); (case side1 => repeat (first | exact (Kd.N_reads' HO_6.out).2.2 | (with_reducible refine Kd.C_alloc ?_ _) | (with_reducible refine Kd.C_drewN ?_ _) | (with_reducible refine Kd.C_drew ?_))); (case side2 => exact (Kd.N_reads' HO_6.out).2.1); rintro e w311 ⟨rfl, hb⟩; have n0_ := Aside0.mk (Kd.N_below (by (with_reducible repeat (first | apply Kd.N_alloc | apply Kd.N_drewN | apply Kd.N_drew)); exact HO_5.out) hb); have n1_ := Aside0.mk (Kd.N_below (by (with_reducible repeat (first | apply Kd.N_alloc | apply Kd.N_drewN | apply Kd.N_drew)); exact HO_6.out) hb); have n2_ := Aside0.mk (Kd.N_below (by (with_reducible repeat (first | apply Kd.N_alloc | apply Kd.N_drewN | apply Kd.N_drew)); exact HO_10.out) hb); have n3_ := Aside0.mk (Kd.N_below (by (with_reducible repeat (first | apply Kd.N_alloc | apply Kd.N_drewN | apply Kd.N_drew)); exact HO_14.out) hb); have n4_ := Aside0.mk (Kd.N_below (by (with_reducible repeat (first | apply Kd.N_alloc | apply Kd.N_drewN | apply Kd.N_drew)); exact HO_26.out) hb); have n5_ := Aside0.mk (Kd.N_below (by (with_reducible repeat (first | apply Kd.N_alloc | apply Kd.N_drewN | apply Kd.N_drew)); exact HO_38.out) hb); have n6_ := Aside0.mk (below_step (by repeat (first | (with_reducible first | exact HB.out | apply below_alloc | apply pw_below_drewN | apply below_drew1) | exact HB.out)) hb); clear HO_5; clear HO_6; clear HO_10; clear HO_14; clear HO_26; clear HO_38; clear HB; have HO_5 := n0_; have HO_6 := n1_; have HO_10 := n2_; have HO_14 := n3_; have HO_26 := n4_; have HO_38 := n5_; have HB := n6_; clear n0_ n1_ n2_ n3_ n4_ n5_ n6_; (try clear hb); (try clear hb2); (try clear hk); (try clear hi)) | (go_at_call 14; (with_reducible refine (impl_AreColumnsSorted.calls kj23 _ _ t434 t500 t501 _ ?side1 ?side2 A306.out).mono ?_); (case side1 => repeat (first | exact (Kd.N_reads' HO_6.out).2.2 | (with_reducible refine Kd.C_alloc ?_ _) | (with_reducible refine Kd.C_drewN ?_ _) | (with_reducible refine Kd.C_drew ?_))); (case side2 => exact (Kd.N_reads' HO_6.out).2.1); rintro e w312 ⟨rfl, hb⟩; have n0_ := Aside0.mk (Kd.N_below (by (with_reducible repeat (first | apply Kd.N_alloc | apply Kd.N_drewN | apply Kd.N_drew)); exact HO_5.out) hb); have n1_ := Aside0.mk (Kd.N_below (by (with_reducible repeat (first | apply Kd.N_alloc | apply Kd.N_drewN | apply Kd.N_drew)); exact HO_6.out) hb); have n2_ := Aside0.mk (Kd.N_below (by (with_reducible repeat (first | apply Kd.N_alloc | apply Kd.N_drewN | apply Kd.N_drew)); exact HO_10.out) hb); have n3_ := Aside0.mk (Kd.N_below (by (with_reducible repeat (first | apply Kd.N_alloc | apply Kd.N_drewN | apply Kd.N_drew)); exact HO_14.out) hb); have n4_ := Aside0.mk (Kd.N_below (by (with_reducible repeat (first | apply Kd.N_alloc | apply Kd.N_drewN | apply Kd.N_drew)); exact HO_26.out) hb); have n5_ := Aside0.mk (Kd.N_below (by (with_reducible repeat (first | apply Kd.N_alloc | apply Kd.N_drewN | apply Kd.N_drew)); exact HO_38.out) hb); have n6_ := Aside0.mk (below_step (by repeat (first | (with_reducible first | exact HB.out | apply below_alloc | apply pw_below_drewN | apply below_drew1) | exact HB.out)) hb); clear HO_5; clear HO_6; clear HO_10; clear HO_14; clear HO_26; clear HO_38; clear HB; have HO_5 := n0_; have HO_6 := n1_; have HO_10 := n2_; have HO_14 := n3_; have HO_26 := n4_; have HO_38 := n5_; have HB := n6_; clear n0_ n1_ n2_ n3_ n4_ n5_ n6_; (try clear hb); (try clear hb2); (try clear hk); (try clear hi); obtain ⟨Ao313, co313, eo313⟩ := Kd.N_slice HO_10.out; subst eo313) | (go_at_call 10; (with_reducible refine (impl_SortFileColumns.calls kj23 _ _ t442 t502 t503 _ ?side1 ?side2 A307.out).mono ?_); (case side1 => repeat (first | exact (Kd.N_reads' HO_10.out).2.2 | (with_reducible refine Kd.C_alloc ?_ _) | (with_reducible refine Kd.C_drewN ?_ _) | (with_reducible refine Kd.C_drew ?_))); (case side2 => exact (Kd.N_reads' HO_10.out).2.1); rintro e w314 ⟨v504, rfl, ho0, hb⟩; have n0_ := Aside0.mk (Kd.N_elder' (by (with_reducible repeat (first | apply Kd.N_alloc | apply Kd.N_drewN | apply Kd.N_drew)); exact HO_5.out) (Kd.S_base ho0) hb); have n1_ := Aside0.mk (Kd.N_elder' (by (with_reducible repeat (first | apply Kd.N_alloc | apply Kd.N_drewN | apply Kd.N_drew)); exact HO_6.out) (Kd.S_base ho0) hb); have n2_ := Aside0.mk (Kd.N_elder' (by (with_reducible repeat (first | apply Kd.N_alloc | apply Kd.N_drewN | apply Kd.N_drew)); exact HO_10.out) (Kd.S_base ho0) hb); have n3_ := Aside0.mk (Kd.N_elder' (by (with_reducible repeat (first | apply Kd.N_alloc | apply Kd.N_drewN | apply Kd.N_drew)); exact HO_14.out) (Kd.S_base ho0) hb); have n4_ := Aside0.mk (Kd.N_elder' (by (with_reducible repeat (first | apply Kd.N_alloc | apply Kd.N_drewN | apply Kd.N_drew)); exact HO_26.out) (Kd.S_base ho0) hb); have n5_ := Aside0.mk (Kd.N_elder' (by (with_reducible repeat (first | apply Kd.N_alloc | apply Kd.N_drewN | apply Kd.N_drew)); exact HO_38.out) (Kd.S_base ho0) hb); have n6_ := Aside0.mk (Kd.N_lower (Kd.N_mono (ok' := fun k_ => some k_ ≠ (.slice Ao26 t431.length co26 : Value).ownBlock ∧ some k_ ≠ (.slice Ao310 t434.length co310 : Value).ownBlock ∧ some k_ ≠ (.slice Ao313 t442.length co313 : Value).ownBlock ∧ some k_ ≠ (v452 : Value).ownBlock ∧ some k_ ≠ (v468 : Value).ownBlock ∧ some k_ ≠ (v484 : Value).ownBlock) (Kd.S_N (Kd.S_bound ho0)) (fun k_ hk_ => ⟨(Kd.fresh' (Kd.N_lt (by (with_reducible repeat (first | apply Kd.N_alloc | apply Kd.N_drewN | apply Kd.N_drew)); exact HO_5.out)) k_ hk_.2.1), (Kd.fresh' (Kd.N_lt (by (with_reducible repeat (first | apply Kd.N_alloc | apply Kd.N_drewN | apply Kd.N_drew)); exact HO_6.out)) k_ hk_.2.1), (Kd.fresh' (Kd.N_lt (by (with_reducible repeat (first | apply Kd.N_alloc | apply Kd.N_drewN | apply Kd.N_drew)); exact HO_10.out)) k_ hk_.2.1), (Kd.fresh' (Kd.N_lt (by (with_reducible repeat (first | apply Kd.N_alloc | apply Kd.N_drewN | apply Kd.N_drew)); exact HO_14.out)) k_ hk_.2.1), (Kd.fresh' (Kd.N_lt (by (with_reducible repeat (first | apply Kd.N_alloc | apply Kd.N_drewN | apply Kd.N_drew)); exact HO_26.out)) k_ hk_.2.1), (Kd.fresh' (Kd.N_lt (by (with_reducible repeat (first | apply Kd.N_alloc | apply Kd.N_drewN | apply Kd.N_drew)); exact HO_38.out)) k_ hk_.2.1)⟩)) (below_size (by repeat (first | (with_reducible first | exact HB.out | apply below_alloc | apply pw_below_drewN | apply below_drew1) | exact HB.out)))); have n7_ := Aside0.mk (below_step (by repeat (first | (with_reducible first | exact HB.out | apply below_alloc | apply pw_below_drewN | apply below_drew1) | exact HB.out)) hb); clear HO_5; clear HO_6; clear HO_10; clear HO_14; clear HO_26; clear HO_38; clear HB; have HO_5 := n0_; have HO_6 := n1_; have HO_10 := n2_; have HO_14 := n3_; have HO_26 := n4_; have HO_38 := n5_; have HO505 := n6_; have HB := n7_; clear n0_ n1_ n2_ n3_ n4_ n5_ n6_ n7_; (try clear hb); (try clear hb2); (try clear hk); (try clear hi); (try clear ho0); obtain ⟨Ao315, co315, eo315⟩ := Kd.N_slice HO_26.out; subst eo315) | (go_at_call 16; (with_reducible refine (impl_TurnFiles.calls kj23 _ _ t466 t506 t507 _ ?side1 ?side2 A308.out).mono ?_); (case side1 => repeat (first | exact (Kd.N_reads' HO_26.out).2.2 | (with_reducible refine Kd.C_alloc ?_ _) | (with_reducible refine Kd.C_drewN ?_ _) | (with_reducible refine Kd.C_drew ?_))); (case side2 => exact (Kd.N_reads' HO_26.out).2.1); rintro e w316 ⟨v508, rfl, ho0, hb⟩; have n0_ := Aside0.mk (Kd.N_elder' (by (with_reducible repeat (first | apply Kd.N_alloc | apply Kd.N_drewN | apply Kd.N_drew)); exact HO_5.out) (Kd.S_base ho0) hb); have n1_ := Aside0.mk (Kd.N_elder' (by (with_reducible repeat (first | apply Kd.N_alloc | apply Kd.N_drewN | apply Kd.N_drew)); exact HO_6.out) (Kd.S_base ho0) hb); have n2_ := Aside0.mk (Kd.N_elder' (by (with_reducible repeat (first | apply Kd.N_alloc | apply Kd.N_drewN | apply Kd.N_drew)); exact HO_10.out) (Kd.S_base ho0) hb); have n3_ := Aside0.mk (Kd.N_elder' (by (with_reducible repeat (first | apply Kd.N_alloc | apply Kd.N_drewN | apply Kd.N_drew)); exact HO_14.out) (Kd.S_base ho0) hb); have n4_ := Aside0.mk (Kd.N_elder' (by (with_reducible repeat (first | apply Kd.N_alloc | apply Kd.N_drewN | apply Kd.N_drew)); exact HO_26.out) (Kd.S_base ho0) hb); have n5_ := Aside0.mk (Kd.N_elder' (by (with_reducible repeat (first | apply Kd.N_alloc | apply Kd.N_drewN | apply Kd.N_drew)); exact HO_38.out) (Kd.S_base ho0) hb); have n6_ := Aside0.mk (Kd.N_elder' (by (with_reducible repeat (first | apply Kd.N_alloc | apply Kd.N_drewN | apply Kd.N_drew)); exact HO505.out) (Kd.S_base ho0) hb); have n7_ := Aside0.mk (Kd.N_lower (Kd.N_mono (ok' := fun k_ => some k_ ≠ (.slice Ao26 t431.length co26 : Value).ownBlock ∧ some k_ ≠ (.slice Ao310 t434.length co310 : Value).ownBlock ∧ some k_ ≠ (.slice Ao313 t442.length co313 : Value).ownBlock ∧ some k_ ≠ (v452 : Value).ownBlock ∧ some k_ ≠ (.slice Ao315 t466.length co315 : Value).ownBlock ∧ some k_ ≠ (v484 : Value).ownBlock ∧ some k_ ≠ (v504 : Value).ownBlock) (Kd.S_N (Kd.S_bound ho0)) (fun k_ hk_ => ⟨(Kd.fresh' (Kd.N_lt (by (with_reducible repeat (first | apply Kd.N_alloc | apply Kd.N_drewN | apply Kd.N_drew)); exact HO_5.out)) k_ hk_.2.1), (Kd.fresh' (Kd.N_lt (by (with_reducible repeat (first | apply Kd.N_alloc | apply Kd.N_drewN | apply Kd.N_drew)); exact HO_6.out)) k_ hk_.2.1), (Kd.fresh' (Kd.N_lt (by (with_reducible repeat (first | apply Kd.N_alloc | apply Kd.N_drewN | apply Kd.N_drew)); exact HO_10.out)) k_ hk_.2.1), (Kd.fresh' (Kd.N_lt (by (with_reducible repeat (first | apply Kd.N_alloc | apply Kd.N_drewN | apply Kd.N_drew)); exact HO_14.out)) k_ hk_.2.1), (Kd.fresh' (Kd.N_lt (by (with_reducible repeat (first | apply Kd.N_alloc | apply Kd.N_drewN | apply Kd.N_drew)); exact HO_26.out)) k_ hk_.2.1), (Kd.fresh' (Kd.N_lt (by (with_reducible repeat (first | apply Kd.N_alloc | apply Kd.N_drewN | apply Kd.N_drew)); exact HO_38.out)) k_ hk_.2.1), (Kd.fresh' (Kd.N_lt (by (with_reducible repeat (first | apply Kd.N_alloc | apply Kd.N_drewN | apply Kd.N_drew)); exact HO505.out)) k_ hk_.2.1)⟩)) (below_size (by repeat (first | (with_reducible first | exact HB.out | apply below_alloc | apply pw_below_drewN | apply below_drew1) | exact HB.out)))); have n8_ := Aside0.mk (below_step (by repeat (first | (with_reducible first | exact HB.out | apply below_alloc | apply pw_below_drewN | apply below_drew1) | exact HB.out)) hb); clear HO_5; clear HO_6; clear HO_10; clear HO_14; clear HO_26; clear HO_38; clear HO505; clear HB; have HO_5 := n0_; have HO_6 := n1_; have HO_10 := n2_; have HO_14 := n3_; have HO_26 := n4_; have HO_38 := n5_; have HO505 := n6_; have HO509 := n7_; have HB := n8_; clear n0_ n1_ n2_ n3_ n4_ n5_ n6_ n7_ n8_; (try clear hb); (try clear hb2); (try clear hk); (try clear hi); (try clear ho0)))
            (try simp only [Act.put, List.setIfInBounds_toArray, List.set_cons_zero, List.set_cons_succ])
            go_cut [372] (fun v372 wc => ∃ (kq : Nat) (x372_308 : Bool), v372 = .bool x372_308 ∧ Aside0 (laws_FnFilesSorted.j1 kq t431 t434 t458 t462 t474 t478 t482 x372_308 = some r) ∧ Aside0 (kq ≤ kj23) ∧ Aside0 (Kd.N (Kd.slice 3 (Kd.int .i64)) 34 wc w.heap.size (fun k_ => some k_ ≠ ((.slice Ao310 t434.length co310) : Value).ownBlock ∧ some k_ ≠ (v484 : Value).ownBlock) (.slice Ao26 t431.length co26) t431) ∧ Aside0 (Kd.N (Kd.slice 3 (Kd.int .i64)) 34 wc w.heap.size (fun k_ => some k_ ≠ ((.slice Ao26 t431.length co26) : Value).ownBlock ∧ some k_ ≠ (v484 : Value).ownBlock) (.slice Ao310 t434.length co310) t434) ∧ Aside0 (Kd.N (Kd.slice 3 (Kd.int .i64)) 34 wc w.heap.size (fun k_ => some k_ ≠ ((.slice Ao26 t431.length co26) : Value).ownBlock ∧ some k_ ≠ ((.slice Ao310 t434.length co310) : Value).ownBlock) v484 t482) ∧ Aside0 (Below w.heap.size w wc))
            case first => as_aux_lemma =>
              have H := HC309.out
              clear HC309
              by_cases c317 : t499 = true
              · subst c317
                rw [if_pos rfl] at H
                by_cases c318 : t498 = true
                · subst c318
                  rw [if_pos rfl] at H
                  by_cases c319 : t501 = true
                  · subst c319
                    rw [if_pos rfl] at H
                    by_cases c320 : t500 = true
                    · subst c320
                      rw [if_pos rfl] at H
                      by_cases c321 : t503 = true
                      · subst c321
                        rw [if_pos rfl] at H
                        replace H := Option.bind_eq_some_iff.mp H
                        obtain ⟨t510, A3220, H⟩ := H
                        (try dsimp only at H)
                        have A322 := Aside0.mk A3220
                        clear A3220
                        by_cases c323 : t510 = true
                        · subst c323
                          rw [if_pos rfl] at H
                          by_cases c324 : t507 = true
                          · subst c324
                            rw [if_pos rfl] at H
                            replace H := Option.bind_eq_some_iff.mp H
                            obtain ⟨t511, A3250, H⟩ := H
                            (try dsimp only at H)
                            have A325 := Aside0.mk A3250
                            clear A3250
                            by_cases c326 : t511 = true
                            · subst c326
                              rw [if_pos rfl] at H
                              by_cases c327 : t474 > t478
                              · rw [if_pos c327] at H
                                have c327b0 : decide (t478 < t474) = true := decide_eq_true c327
                                clear c327
                                (first | rw [c327b0] | (simp only [i64_w, i32_w]; rw [c327b0]) | skip)
                                exact absurd (hrt.symm.trans (laws_FnFilesSorted.j1_false H)) (by decide)
                              · rw [if_neg c327] at H
                                have c327b0 : decide (t478 < t474) = false := decide_eq_false c327
                                clear c327
                                (first | rw [c327b0] | (simp only [i64_w, i32_w]; rw [c327b0]) | skip)
                                replace H := Option.bind_eq_some_iff.mp H
                                obtain ⟨t512, A3300, H⟩ := H
                                (try dsimp only at H)
                                have A330 := Aside0.mk A3300
                                clear A3300
                                by_cases c331 : (t458 != t512) = true
                                · rw [if_pos c331] at H
                                  have c331b0 : (t458 != t512) = true := c331
                                  (try (have c331b1 : decide (t458 = t512) = false := by simpa using c331))
                                  (try (have c331b2 : (t458 == t512) = false := by simpa using c331))
                                  (try (have c331b3 : ¬ (t458 = t512) := by simpa using c331))
                                  clear c331
                                  exact absurd (hrt.symm.trans (laws_FnFilesSorted.j1_false H)) (by decide)
                                · rw [if_neg c331] at H
                                  have c331b0 : (t458 != t512) = false := by simpa using c331
                                  (try (have c331b1 : decide (t458 = t512) = true := by simpa using c331))
                                  (try (have c331b2 : (t458 == t512) = true := by simpa using c331))
                                  clear c331
                                  replace H := Option.bind_eq_some_iff.mp H
                                  obtain ⟨t513, A3340, H⟩ := H
                                  (try dsimp only at H)
                                  have A334 := Aside0.mk A3340
                                  clear A3340
                                  cases cq_ : (t462 != t513) with
                                  | true =>
                                    rw [cq_] at H
                                    exact absurd (hrt.symm.trans (laws_FnFilesSorted.j1_false H)) (by decide)
                                  | false =>
                                    rw [cq_] at H
                                    (try (have cq1_ : decide (t462 = t513) = true := by simpa using cq_))
                                    (try (have cq2_ : (t462 == t513) = true := by simpa using cq_))
                                    have H' := Aside0.mk H
                                    clear H
                                    obtain ⟨Ao335, co335, eo335⟩ := Kd.N_slice HO505.out
                                    subst eo335
                                    go_wp2_with (first | (go_at_call 24; (with_reducible refine (laws_vRows.calls kj23 _ _ t502 _ _ t434 true _ ?side1 ?side2 ?side3 ?side4 A322.out).mono ?_); (case side1 => repeat (first | exact (Kd.N_reads' HO505.out).2.2 | (with_reducible refine Kd.C_alloc ?_ _) | (with_reducible refine Kd.C_drewN ?_ _) | (with_reducible refine Kd.C_drew ?_))); (case side2 => exact (Kd.N_reads' HO505.out).2.1); (case side3 => repeat (first | exact (Kd.N_reads' HO_6.out).2.2 | (with_reducible refine Kd.C_alloc ?_ _) | (with_reducible refine Kd.C_drewN ?_ _) | (with_reducible refine Kd.C_drew ?_))); (case side4 => exact (Kd.N_reads' HO_6.out).2.1); rintro e w' ⟨rfl, ⟨nd, rfl⟩⟩; (try first | exact ⟨rfl, _, World.drewN_drewN _ _ _⟩ | exact ⟨rfl, _, Eq.trans (World.drewN_drewN _ _ _) (congrArg (World.drewN _) (Nat.add_assoc _ _ _))⟩); obtain ⟨Ao336, co336, eo336⟩ := Kd.N_slice HO509.out; subst eo336) | (go_at_call 24; (with_reducible refine (laws_vRows.calls kj23 _ _ t506 _ _ t431 true _ ?side1 ?side2 ?side3 ?side4 A325.out).mono ?_); (case side1 => repeat (first | exact (Kd.N_reads' HO509.out).2.2 | (with_reducible refine Kd.C_alloc ?_ _) | (with_reducible refine Kd.C_drewN ?_ _) | (with_reducible refine Kd.C_drew ?_))); (case side2 => exact (Kd.N_reads' HO509.out).2.1); (case side3 => repeat (first | exact (Kd.N_reads' HO_5.out).2.2 | (with_reducible refine Kd.C_alloc ?_ _) | (with_reducible refine Kd.C_drewN ?_ _) | (with_reducible refine Kd.C_drew ?_))); (case side4 => exact (Kd.N_reads' HO_5.out).2.1); rintro e w' ⟨rfl, ⟨nd, rfl⟩⟩; (try first | exact ⟨rfl, _, World.drewN_drewN _ _ _⟩ | exact ⟨rfl, _, Eq.trans (World.drewN_drewN _ _ _) (congrArg (World.drewN _) (Nat.add_assoc _ _ _))⟩)) | (go_at_call 24; (with_reducible refine (laws_vRows.calls kj23 _ _ t442 _ _ t431 t512 _ ?side1 ?side2 ?side3 ?side4 A330.out).mono ?_); (case side1 => repeat (first | exact (Kd.N_reads' HO_10.out).2.2 | (with_reducible refine Kd.C_alloc ?_ _) | (with_reducible refine Kd.C_drewN ?_ _) | (with_reducible refine Kd.C_drew ?_))); (case side2 => exact (Kd.N_reads' HO_10.out).2.1); (case side3 => repeat (first | exact (Kd.N_reads' HO_5.out).2.2 | (with_reducible refine Kd.C_alloc ?_ _) | (with_reducible refine Kd.C_drewN ?_ _) | (with_reducible refine Kd.C_drew ?_))); (case side4 => exact (Kd.N_reads' HO_5.out).2.1); rintro e w' ⟨rfl, ⟨nd, rfl⟩⟩; (try first | exact ⟨rfl, _, World.drewN_drewN _ _ _⟩ | exact ⟨rfl, _, Eq.trans (World.drewN_drewN _ _ _) (congrArg (World.drewN _) (Nat.add_assoc _ _ _))⟩); obtain ⟨Ao337, co337, eo337⟩ := Kd.N_slice HO_14.out; subst eo337) | (go_at_call 24; (with_reducible refine (laws_vRows.calls kj23 _ _ t450 _ _ t431 t513 _ ?side1 ?side2 ?side3 ?side4 A334.out).mono ?_); (case side1 => repeat (first | exact (Kd.N_reads' HO_14.out).2.2 | (with_reducible refine Kd.C_alloc ?_ _) | (with_reducible refine Kd.C_drewN ?_ _) | (with_reducible refine Kd.C_drew ?_))); (case side2 => exact (Kd.N_reads' HO_14.out).2.1); (case side3 => repeat (first | exact (Kd.N_reads' HO_5.out).2.2 | (with_reducible refine Kd.C_alloc ?_ _) | (with_reducible refine Kd.C_drewN ?_ _) | (with_reducible refine Kd.C_drew ?_))); (case side4 => exact (Kd.N_reads' HO_5.out).2.1); rintro e w' ⟨rfl, ⟨nd, rfl⟩⟩; (try first | exact ⟨rfl, _, World.drewN_drewN _ _ _⟩ | exact ⟨rfl, _, Eq.trans (World.drewN_drewN _ _ _) (congrArg (World.drewN _) (Nat.add_assoc _ _ _))⟩)))
                                    repeat (go_quiet (first | (go_at_call 24; (with_reducible refine (laws_vRows.calls kj23 _ _ t502 _ _ t434 true _ ?side1 ?side2 ?side3 ?side4 A322.out).mono ?_); (case side1 => repeat (first | exact (Kd.N_reads' HO505.out).2.2 | (with_reducible refine Kd.C_alloc ?_ _) | (with_reducible refine Kd.C_drewN ?_ _) | (with_reducible refine Kd.C_drew ?_))); (case side2 => exact (Kd.N_reads' HO505.out).2.1); (case side3 => repeat (first | exact (Kd.N_reads' HO_6.out).2.2 | (with_reducible refine Kd.C_alloc ?_ _) | (with_reducible refine Kd.C_drewN ?_ _) | (with_reducible refine Kd.C_drew ?_))); (case side4 => exact (Kd.N_reads' HO_6.out).2.1); rintro e w' ⟨rfl, ⟨nd, rfl⟩⟩; (try first | exact ⟨rfl, _, World.drewN_drewN _ _ _⟩ | exact ⟨rfl, _, Eq.trans (World.drewN_drewN _ _ _) (congrArg (World.drewN _) (Nat.add_assoc _ _ _))⟩); obtain ⟨Ao336, co336, eo336⟩ := Kd.N_slice HO509.out; subst eo336) | (go_at_call 24; (with_reducible refine (laws_vRows.calls kj23 _ _ t506 _ _ t431 true _ ?side1 ?side2 ?side3 ?side4 A325.out).mono ?_); (case side1 => repeat (first | exact (Kd.N_reads' HO509.out).2.2 | (with_reducible refine Kd.C_alloc ?_ _) | (with_reducible refine Kd.C_drewN ?_ _) | (with_reducible refine Kd.C_drew ?_))); (case side2 => exact (Kd.N_reads' HO509.out).2.1); (case side3 => repeat (first | exact (Kd.N_reads' HO_5.out).2.2 | (with_reducible refine Kd.C_alloc ?_ _) | (with_reducible refine Kd.C_drewN ?_ _) | (with_reducible refine Kd.C_drew ?_))); (case side4 => exact (Kd.N_reads' HO_5.out).2.1); rintro e w' ⟨rfl, ⟨nd, rfl⟩⟩; (try first | exact ⟨rfl, _, World.drewN_drewN _ _ _⟩ | exact ⟨rfl, _, Eq.trans (World.drewN_drewN _ _ _) (congrArg (World.drewN _) (Nat.add_assoc _ _ _))⟩)) | (go_at_call 24; (with_reducible refine (laws_vRows.calls kj23 _ _ t442 _ _ t431 t512 _ ?side1 ?side2 ?side3 ?side4 A330.out).mono ?_); (case side1 => repeat (first | exact (Kd.N_reads' HO_10.out).2.2 | (with_reducible refine Kd.C_alloc ?_ _) | (with_reducible refine Kd.C_drewN ?_ _) | (with_reducible refine Kd.C_drew ?_))); (case side2 => exact (Kd.N_reads' HO_10.out).2.1); (case side3 => repeat (first | exact (Kd.N_reads' HO_5.out).2.2 | (with_reducible refine Kd.C_alloc ?_ _) | (with_reducible refine Kd.C_drewN ?_ _) | (with_reducible refine Kd.C_drew ?_))); (case side4 => exact (Kd.N_reads' HO_5.out).2.1); rintro e w' ⟨rfl, ⟨nd, rfl⟩⟩; (try first | exact ⟨rfl, _, World.drewN_drewN _ _ _⟩ | exact ⟨rfl, _, Eq.trans (World.drewN_drewN _ _ _) (congrArg (World.drewN _) (Nat.add_assoc _ _ _))⟩); obtain ⟨Ao337, co337, eo337⟩ := Kd.N_slice HO_14.out; subst eo337) | (go_at_call 24; (with_reducible refine (laws_vRows.calls kj23 _ _ t450 _ _ t431 t513 _ ?side1 ?side2 ?side3 ?side4 A334.out).mono ?_); (case side1 => repeat (first | exact (Kd.N_reads' HO_14.out).2.2 | (with_reducible refine Kd.C_alloc ?_ _) | (with_reducible refine Kd.C_drewN ?_ _) | (with_reducible refine Kd.C_drew ?_))); (case side2 => exact (Kd.N_reads' HO_14.out).2.1); (case side3 => repeat (first | exact (Kd.N_reads' HO_5.out).2.2 | (with_reducible refine Kd.C_alloc ?_ _) | (with_reducible refine Kd.C_drewN ?_ _) | (with_reducible refine Kd.C_drew ?_))); (case side4 => exact (Kd.N_reads' HO_5.out).2.1); rintro e w' ⟨rfl, ⟨nd, rfl⟩⟩; (try first | exact ⟨rfl, _, World.drewN_drewN _ _ _⟩ | exact ⟨rfl, _, Eq.trans (World.drewN_drewN _ _ _) (congrArg (World.drewN _) (Nat.add_assoc _ _ _))⟩))); try go_wp2_with (first | (go_at_call 24; (with_reducible refine (laws_vRows.calls kj23 _ _ t502 _ _ t434 true _ ?side1 ?side2 ?side3 ?side4 A322.out).mono ?_); (case side1 => repeat (first | exact (Kd.N_reads' HO505.out).2.2 | (with_reducible refine Kd.C_alloc ?_ _) | (with_reducible refine Kd.C_drewN ?_ _) | (with_reducible refine Kd.C_drew ?_))); (case side2 => exact (Kd.N_reads' HO505.out).2.1); (case side3 => repeat (first | exact (Kd.N_reads' HO_6.out).2.2 | (with_reducible refine Kd.C_alloc ?_ _) | (with_reducible refine Kd.C_drewN ?_ _) | (with_reducible refine Kd.C_drew ?_))); (case side4 => exact (Kd.N_reads' HO_6.out).2.1); rintro e w' ⟨rfl, ⟨nd, rfl⟩⟩; (try first | exact ⟨rfl, _, World.drewN_drewN _ _ _⟩ | exact ⟨rfl, _, Eq.trans (World.drewN_drewN _ _ _) (congrArg (World.drewN _) (Nat.add_assoc _ _ _))⟩); obtain ⟨Ao336, co336, eo336⟩ := Kd.N_slice HO509.out; subst eo336) | (go_at_call 24; (with_reducible refine (laws_vRows.calls kj23 _ _ t506 _ _ t431 true _ ?side1 ?side2 ?side3 ?side4 A325.out).mono ?_); (case side1 => repeat (first | exact (Kd.N_reads' HO509.out).2.2 | (with_reducible refine Kd.C_alloc ?_ _) | (with_reducible refine Kd.C_drewN ?_ _) | (with_reducible refine Kd.C_drew ?_))); (case side2 => exact (Kd.N_reads' HO509.out).2.1); (case side3 => repeat (first | exact (Kd.N_reads' HO_5.out).2.2 | (with_reducible refine Kd.C_alloc ?_ _) | (with_reducible refine Kd.C_drewN ?_ _) | (with_reducible refine Kd.C_drew ?_))); (case side4 => exact (Kd.N_reads' HO_5.out).2.1); rintro e w' ⟨rfl, ⟨nd, rfl⟩⟩; (try first | exact ⟨rfl, _, World.drewN_drewN _ _ _⟩ | exact ⟨rfl, _, Eq.trans (World.drewN_drewN _ _ _) (congrArg (World.drewN _) (Nat.add_assoc _ _ _))⟩)) | (go_at_call 24; (with_reducible refine (laws_vRows.calls kj23 _ _ t442 _ _ t431 t512 _ ?side1 ?side2 ?side3 ?side4 A330.out).mono ?_); (case side1 => repeat (first | exact (Kd.N_reads' HO_10.out).2.2 | (with_reducible refine Kd.C_alloc ?_ _) | (with_reducible refine Kd.C_drewN ?_ _) | (with_reducible refine Kd.C_drew ?_))); (case side2 => exact (Kd.N_reads' HO_10.out).2.1); (case side3 => repeat (first | exact (Kd.N_reads' HO_5.out).2.2 | (with_reducible refine Kd.C_alloc ?_ _) | (with_reducible refine Kd.C_drewN ?_ _) | (with_reducible refine Kd.C_drew ?_))); (case side4 => exact (Kd.N_reads' HO_5.out).2.1); rintro e w' ⟨rfl, ⟨nd, rfl⟩⟩; (try first | exact ⟨rfl, _, World.drewN_drewN _ _ _⟩ | exact ⟨rfl, _, Eq.trans (World.drewN_drewN _ _ _) (congrArg (World.drewN _) (Nat.add_assoc _ _ _))⟩); obtain ⟨Ao337, co337, eo337⟩ := Kd.N_slice HO_14.out; subst eo337) | (go_at_call 24; (with_reducible refine (laws_vRows.calls kj23 _ _ t450 _ _ t431 t513 _ ?side1 ?side2 ?side3 ?side4 A334.out).mono ?_); (case side1 => repeat (first | exact (Kd.N_reads' HO_14.out).2.2 | (with_reducible refine Kd.C_alloc ?_ _) | (with_reducible refine Kd.C_drewN ?_ _) | (with_reducible refine Kd.C_drew ?_))); (case side2 => exact (Kd.N_reads' HO_14.out).2.1); (case side3 => repeat (first | exact (Kd.N_reads' HO_5.out).2.2 | (with_reducible refine Kd.C_alloc ?_ _) | (with_reducible refine Kd.C_drewN ?_ _) | (with_reducible refine Kd.C_drew ?_))); (case side4 => exact (Kd.N_reads' HO_5.out).2.1); rintro e w' ⟨rfl, ⟨nd, rfl⟩⟩; (try first | exact ⟨rfl, _, World.drewN_drewN _ _ _⟩ | exact ⟨rfl, _, Eq.trans (World.drewN_drewN _ _ _) (congrArg (World.drewN _) (Nat.add_assoc _ _ _))⟩))))
                                    go_meet
                                    case rel => exact ⟨_, (false), (by first | rfl | (simp; done) | (simp [*]; done) | (simp [*]; first | exact bx1 _ _ | exact bx2 _ _ | exact (bx1 _ _).symm | exact (bx2 _ _).symm | exact bx3 _ _ | exact bx4 _ _)), H', ⟨by have := HJ23.out; first | omega | exact Nat.le_refl _⟩, ⟨by (with_reducible repeat (first | apply Kd.N_alloc | apply Kd.N_drewN | apply Kd.N_drew)); exact Kd.N_mono HO_5.out (fun _ hk => ⟨hk.1.1.1, hk.1.1.2.2.2.2⟩)⟩, ⟨by (with_reducible repeat (first | apply Kd.N_alloc | apply Kd.N_drewN | apply Kd.N_drew)); exact Kd.N_mono HO_6.out (fun _ hk => ⟨hk.1.1.1, hk.1.1.2.2.2.2⟩)⟩, ⟨by (with_reducible repeat (first | apply Kd.N_alloc | apply Kd.N_drewN | apply Kd.N_drew)); exact Kd.N_mono HO_38.out (fun _ hk => ⟨hk.1.1.1, hk.1.1.2.1⟩)⟩, ⟨by repeat (first | (with_reducible first | exact HB.out | apply below_alloc | apply pw_below_drewN | apply below_drew1) | exact HB.out)⟩⟩
                            · replace c326 := Bool.eq_false_iff.mpr c326
                              subst c326
                              rw [if_neg (show ¬ (false = true) by decide)] at H
                              exact absurd (hrt.symm.trans (laws_FnFilesSorted.j1_false H)) (by decide)
                          · replace c324 := Bool.eq_false_iff.mpr c324
                            subst c324
                            rw [if_neg (show ¬ (false = true) by decide)] at H
                            exact absurd (hrt.symm.trans (laws_FnFilesSorted.j1_false H)) (by decide)
                        · replace c323 := Bool.eq_false_iff.mpr c323
                          subst c323
                          rw [if_neg (show ¬ (false = true) by decide)] at H
                          exact absurd (hrt.symm.trans (laws_FnFilesSorted.j1_false H)) (by decide)
                      · replace c321 := Bool.eq_false_iff.mpr c321
                        subst c321
                        rw [if_neg (show ¬ (false = true) by decide)] at H
                        exact absurd (hrt.symm.trans (laws_FnFilesSorted.j1_false H)) (by decide)
                    · replace c320 := Bool.eq_false_iff.mpr c320
                      subst c320
                      rw [if_neg (show ¬ (false = true) by decide)] at H
                      exact absurd (hrt.symm.trans (laws_FnFilesSorted.j1_false H)) (by decide)
                  · replace c319 := Bool.eq_false_iff.mpr c319
                    subst c319
                    rw [if_neg (show ¬ (false = true) by decide)] at H
                    exact absurd (hrt.symm.trans (laws_FnFilesSorted.j1_false H)) (by decide)
                · replace c318 := Bool.eq_false_iff.mpr c318
                  subst c318
                  rw [if_neg (show ¬ (false = true) by decide)] at H
                  exact absurd (hrt.symm.trans (laws_FnFilesSorted.j1_false H)) (by decide)
              · replace c317 := Bool.eq_false_iff.mpr c317
                subst c317
                rw [if_neg (show ¬ (false = true) by decide)] at H
                exact absurd (hrt.symm.trans (laws_FnFilesSorted.j1_false H)) (by decide)
            case rest => as_aux_lemma =>
              clear HC309
              try clear c1
              try clear c2
              try clear p2
              try clear c3
              try clear c4
              try clear c5
              try clear c6
              try clear c7
              try clear c8
              try clear c9
              try clear c10
              try clear c11
              try clear c12
              try clear c14
              try clear c15
              try clear c16
              try clear c18
              try clear c19
              try clear c20
              try clear c21
              try clear c23
              try clear c30
              try clear c31
              try clear c32
              try clear c33
              try clear c45
              try clear c46
              try clear c46b0
              try clear c46b1
              try clear c46b2
              try clear c50
              try clear c51
              try clear c51b0
              try clear c51b1
              try clear c51b2
              try clear c57
              try clear c58
              try clear c58b0
              try clear c58b1
              try clear c58b2
              try clear c65
              try clear c65b0
              try clear c65b1
              try clear c65b2
              try clear c72
              try clear c72b0
              try clear c72b1
              try clear c72b2
              try clear c79
              try clear c79b0
              try clear c79b1
              try clear c79b2
              try clear c86
              try clear c86b0
              try clear c86b1
              try clear c86b2
              try clear c94
              try clear c95
              try clear c95b0
              try clear c95b1
              try clear c95b2
              try clear c104
              try clear c104b0
              try clear c104b1
              try clear c105
              try clear c105b0
              try clear c105b1
              try clear c105b2
              try clear c114
              try clear c114b0
              try clear c114b1
              try clear c115
              try clear c115b0
              try clear c115b1
              try clear c115b2
              try clear c125
              try clear c127
              try clear c127b0
              try clear c127b1
              try clear c127b2
              try clear c141
              try clear c141b0
              try clear c141b1
              try clear c141b2
              try clear c154
              try clear c154b0
              try clear c154b1
              try clear c154b2
              try clear c167
              try clear c167b0
              try clear c167b1
              try clear c167b2
              try clear c180
              try clear c180b0
              try clear c180b1
              try clear c180b2
              try clear c193
              try clear c193b0
              try clear c193b1
              try clear c193b2
              try clear c206
              try clear c206b0
              try clear c206b1
              try clear c206b2
              try clear c219
              try clear c219b0
              try clear c219b1
              try clear c219b2
              try clear c232
              try clear c232b0
              try clear c232b1
              try clear c232b2
              try clear c303
              try clear c304
              try clear c317
              try clear c318
              try clear c319
              try clear c320
              try clear c321
              try clear c323
              try clear c324
              try clear c326
              try clear c327
              try clear c327b0
              try clear c331
              try clear c331b0
              try clear c331b1
              try clear c331b2
              try clear p2
              obtain ⟨kq, x372_308, rfl, HA, HJ308, HO_5, HO_6, HO_38, HB⟩ := hcut
              cases kq with
              | zero => exact absurd HA.out (by simp [laws_FnFilesSorted.j1])
              | succ kj308 =>
                have H := HA.out
                clear HA
                simp only [laws_FnFilesSorted.j1] at H
                by_cases c342 : x372_308 = true
                · subst c342
                  rw [if_pos rfl] at H
                  exact absurd (hrt.symm.trans (Option.some.inj H).symm) (by decide)
                · replace c342 := Bool.eq_false_iff.mpr c342
                  subst c342
                  rw [if_neg (show ¬ (false = true) by decide)] at H
                  have H' := Aside0.mk H
                  clear H
                  obtain ⟨Ao343, co343, eo343⟩ := Kd.N_slice HO_38.out
                  subst eo343
                  go_wp2
                  repeat (go_quiet (fail); try go_wp2)
                  go_loopg [375] kj308 (fun kq v375 w' => ∃ (x375_3 : Int), v375 = .int .i64 x375_3 ∧ Aside0 (laws_FnFilesSorted.l0 kq t431 t434 t458 t462 t474 t478 t482 t482 (t482.length : Int) x375_3 = some r) ∧ Aside0 (kq ≤ kj308) ∧ Aside0 (Kd.N (Kd.slice 3 (Kd.int .i64)) 34 w' w.heap.size (fun k_ => some k_ ≠ ((.slice Ao310 t434.length co310) : Value).ownBlock ∧ some k_ ≠ ((.slice Ao343 t482.length co343) : Value).ownBlock ∧ some k_ ≠ ((.slice Ao343 t482.length co343) : Value).ownBlock) (.slice Ao26 t431.length co26) t431) ∧ Aside0 (Kd.N (Kd.slice 3 (Kd.int .i64)) 34 w' w.heap.size (fun k_ => some k_ ≠ ((.slice Ao26 t431.length co26) : Value).ownBlock ∧ some k_ ≠ ((.slice Ao343 t482.length co343) : Value).ownBlock ∧ some k_ ≠ ((.slice Ao343 t482.length co343) : Value).ownBlock) (.slice Ao310 t434.length co310) t434) ∧ Aside0 (Kd.N (Kd.slice 3 (Kd.int .i64)) 34 w' w.heap.size (fun k_ => some k_ ≠ ((.slice Ao26 t431.length co26) : Value).ownBlock ∧ some k_ ≠ ((.slice Ao310 t434.length co310) : Value).ownBlock) (.slice Ao343 t482.length co343) t482) ∧ Aside0 (Kd.N (Kd.slice 3 (Kd.int .i64)) 34 w' w.heap.size (fun k_ => some k_ ≠ ((.slice Ao26 t431.length co26) : Value).ownBlock ∧ some k_ ≠ ((.slice Ao310 t434.length co310) : Value).ownBlock) (.slice Ao343 t482.length co343) t482) ∧ Aside0 (Below w.heap.size w w'))
                  case atStart => exact ⟨(0), (by first | rfl | (simp; done) | (simp [*]; done) | (simp [*]; first | exact bx1 _ _ | exact bx2 _ _ | exact (bx1 _ _).symm | exact (bx2 _ _).symm | exact bx3 _ _ | exact bx4 _ _)), H', ⟨Nat.le_refl _⟩, ⟨by (with_reducible repeat (first | apply Kd.N_alloc | apply Kd.N_drewN | apply Kd.N_drew)); exact Kd.N_mono HO_5.out (fun _ hk => ⟨hk.1, ⟨hk.2, hk.2⟩⟩)⟩, ⟨by (with_reducible repeat (first | apply Kd.N_alloc | apply Kd.N_drewN | apply Kd.N_drew)); exact Kd.N_mono HO_6.out (fun _ hk => ⟨hk.1, ⟨hk.2, hk.2⟩⟩)⟩, ⟨by (with_reducible repeat (first | apply Kd.N_alloc | apply Kd.N_drewN | apply Kd.N_drew)); exact HO_38.out⟩, ⟨by (with_reducible repeat (first | apply Kd.N_alloc | apply Kd.N_drewN | apply Kd.N_drew)); exact HO_38.out⟩, ⟨by repeat (first | (with_reducible first | exact HB.out | apply below_alloc | apply pw_below_drewN | apply below_drew1) | exact HB.out)⟩⟩
                  case round =>
                    clear H'
                    try clear c1
                    try clear c2
                    try clear p2
                    try clear c3
                    try clear c4
                    try clear c5
                    try clear c6
                    try clear c7
                    try clear c8
                    try clear c9
                    try clear c10
                    try clear c11
                    try clear c12
                    try clear c14
                    try clear c15
                    try clear c16
                    try clear c18
                    try clear c19
                    try clear c20
                    try clear c21
                    try clear c23
                    try clear c30
                    try clear c31
                    try clear c32
                    try clear c33
                    try clear c34
                    try clear c45
                    try clear c46
                    try clear c46b0
                    try clear c46b1
                    try clear c46b2
                    try clear c50
                    try clear c51
                    try clear c51b0
                    try clear c51b1
                    try clear c51b2
                    try clear c57
                    try clear c58
                    try clear c58b0
                    try clear c58b1
                    try clear c58b2
                    try clear c65
                    try clear c65b0
                    try clear c65b1
                    try clear c65b2
                    try clear c72
                    try clear c72b0
                    try clear c72b1
                    try clear c72b2
                    try clear c79
                    try clear c79b0
                    try clear c79b1
                    try clear c79b2
                    try clear c86
                    try clear c86b0
                    try clear c86b1
                    try clear c86b2
                    try clear c94
                    try clear c95
                    try clear c95b0
                    try clear c95b1
                    try clear c95b2
                    try clear c104
                    try clear c104b0
                    try clear c104b1
                    try clear c105
                    try clear c105b0
                    try clear c105b1
                    try clear c105b2
                    try clear c114
                    try clear c114b0
                    try clear c114b1
                    try clear c115
                    try clear c115b0
                    try clear c115b1
                    try clear c115b2
                    try clear c125
                    try clear c127
                    try clear c127b0
                    try clear c127b1
                    try clear c127b2
                    try clear c141
                    try clear c141b0
                    try clear c141b1
                    try clear c141b2
                    try clear c154
                    try clear c154b0
                    try clear c154b1
                    try clear c154b2
                    try clear c167
                    try clear c167b0
                    try clear c167b1
                    try clear c167b2
                    try clear c180
                    try clear c180b0
                    try clear c180b1
                    try clear c180b2
                    try clear c193
                    try clear c193b0
                    try clear c193b1
                    try clear c193b2
                    try clear c206
                    try clear c206b0
                    try clear c206b1
                    try clear c206b2
                    try clear c219
                    try clear c219b0
                    try clear c219b1
                    try clear c219b2
                    try clear c232
                    try clear c232b0
                    try clear c232b1
                    try clear c232b2
                    try clear c303
                    try clear c304
                    try clear c317
                    try clear c318
                    try clear c319
                    try clear c320
                    try clear c321
                    try clear c323
                    try clear c324
                    try clear c326
                    try clear c327
                    try clear c327b0
                    try clear c331
                    try clear c331b0
                    try clear c331b1
                    try clear c331b2
                    try clear c342
                    try clear p2
                    obtain ⟨x375_3, rfl, HA, HK3, HO_5, HO_6, HO_38, HO_373, HB⟩ := hrel
                    cases gk with
                    | zero => exact absurd HA.out (by simp [laws_FnFilesSorted.l0])
                    | succ k3 =>
                      have H := HA.out
                      clear HA
                      simp only [laws_FnFilesSorted.l0] at H
                      by_cases c344 : x375_3 < (t482.length : Int)
                      · rw [if_pos c344] at H
                        have c344b0 : decide (x375_3 < (t482.length : Int)) = true := decide_eq_true c344
                        clear c344
                        by_cases c345 : 0 ≤ x375_3
                        · rw [if_pos c345] at H
                          have c345b0 : decide (0 ≤ x375_3) = true := decide_eq_true c345
                          clear c345
                          by_cases c346 : x375_3 < (t482.length : Int)
                          · rw [if_pos c346] at H
                            have c346b0 : decide (x375_3 < (t482.length : Int)) = true := decide_eq_true c346
                            clear c346
                            by_cases c347 : ((rd_L2 t482 x375_3).length : Int) = 2
                            · rw [if_pos c347] at H
                              have c347b0 : (((rd_L2 t482 x375_3).length : Int) == 2) = true := beq_iff_eq.mpr c347
                              have c347b1 : (((rd_L2 t482 x375_3).length : Int) != 2) = false := bne_eq_false_iff_eq.mpr c347
                              clear c347
                              by_cases c348 : 0 < ((rd_L2 t482 x375_3).length : Int)
                              · rw [if_pos c348] at H
                                have c348b0 : decide (0 < ((rd_L2 t482 x375_3).length : Int)) = true := decide_eq_true c348
                                have c348b1 : decide (0 < (rd_L2 t482 x375_3).length) = true := decide_eq_true (by omega)
                                clear c348
                                by_cases c349 : 0 ≤ (rd (rd_L2 t482 x375_3) 0)
                                · rw [if_pos c349] at H
                                  have c349b0 : decide (0 ≤ (rd (rd_L2 t482 x375_3) 0)) = true := decide_eq_true c349
                                  clear c349
                                  by_cases c350 : (rd (rd_L2 t482 x375_3) 0) < (t431.length : Int)
                                  · rw [if_pos c350] at H
                                    have c350b0 : decide ((rd (rd_L2 t482 x375_3) 0) < (t431.length : Int)) = true := decide_eq_true c350
                                    clear c350
                                    by_cases c351 : 1 < ((rd_L2 t482 x375_3).length : Int)
                                    · rw [if_pos c351] at H
                                      have c351b0 : decide (1 < ((rd_L2 t482 x375_3).length : Int)) = true := decide_eq_true c351
                                      have c351b1 : decide (1 < (rd_L2 t482 x375_3).length) = true := decide_eq_true (by omega)
                                      clear c351
                                      by_cases c352 : 0 ≤ (rd (rd_L2 t482 x375_3) 1)
                                      · rw [if_pos c352] at H
                                        have c352b0 : decide (0 ≤ (rd (rd_L2 t482 x375_3) 1)) = true := decide_eq_true c352
                                        clear c352
                                        by_cases c353 : (rd (rd_L2 t482 x375_3) 1) < ((rd_L2 t431 (rd (rd_L2 t482 x375_3) 0)).length : Int)
                                        · rw [if_pos c353] at H
                                          have c353b0 : decide ((rd (rd_L2 t482 x375_3) 1) < ((rd_L2 t431 (rd (rd_L2 t482 x375_3) 0)).length : Int)) = true := decide_eq_true c353
                                          clear c353
                                          by_cases c354 : (rd (rd_L2 t431 (rd (rd_L2 t482 x375_3) 0)) (rd (rd_L2 t482 x375_3) 1)) = t474
                                          · rw [if_pos c354] at H
                                            have c354b0 : ((rd (rd_L2 t431 (rd (rd_L2 t482 x375_3) 0)) (rd (rd_L2 t482 x375_3) 1)) == t474) = true := beq_iff_eq.mpr c354
                                            have c354b1 : ((rd (rd_L2 t431 (rd (rd_L2 t482 x375_3) 0)) (rd (rd_L2 t482 x375_3) 1)) != t474) = false := bne_eq_false_iff_eq.mpr c354
                                            clear c354
                                            by_cases c355 : (rd (rd_L2 t431 (rd (rd_L2 t482 x375_3) 0)) (rd (rd_L2 t482 x375_3) 1)) = t478
                                            · rw [if_pos c355] at H
                                              have c355b0 : ((rd (rd_L2 t431 (rd (rd_L2 t482 x375_3) 0)) (rd (rd_L2 t482 x375_3) 1)) == t478) = true := beq_iff_eq.mpr c355
                                              have c355b1 : ((rd (rd_L2 t431 (rd (rd_L2 t482 x375_3) 0)) (rd (rd_L2 t482 x375_3) 1)) != t478) = false := bne_eq_false_iff_eq.mpr c355
                                              clear c355
                                              have H' := Aside0.mk H
                                              clear H
                                              have p514 : 0 ≤ (x375_3 : Int) := of_decide_eq_true (by first | (with_reducible assumption) | assumption)
                                              have q514 : x375_3 < (t482.length : Int) := of_decide_eq_true (by first | (with_reducible assumption) | assumption)
                                              obtain ⟨ad514, A514_0, c514_0, e514, hx514_0, hl514_0, hi514_0⟩ := at_L2 (Kd.N_reads' HO_373.out).2.2 x375_3 p514 q514
                                              cases e514
                                              obtain ⟨ce514, hce514, hMe514, hcc514⟩ := Kd.N_get HO_373.out [] x375_3 p514 (by first | exact q514 | exact of_decide_eq_true (by first | (with_reducible assumption) | assumption) | (have e_ := (Kd.N_reads' HO_373.out).1; omega))
                                              obtain ⟨ua514_0, uc514_0, rfl, ul514_0, ge514_0⟩ := Kd.FK_slice_open hMe514
                                              have hv514_0 := hcc514 0 _ rfl
                                              rw [Nat.add_zero, show ((Kd.slice 3 (Kd.int .i64))).sz = 1 from rfl, Nat.mul_one] at hv514_0
                                              replace hv514_0 := Option.some.inj (hv514_0.symm.trans hx514_0)
                                              injection hv514_0 with hva_ hvn_ hvc_
                                              rw [hva_] at ge514_0
                                              rw [hvc_] at ul514_0
                                              have HL514_0 := Aside0.mk (show Kd.V (Kd.int .i64) 3 _ w.heap.size _ _ (rd_L2 t482 x375_3) from Kd.V_mk ul514_0 ge514_0)
                                              clear hva_ hvn_ hvc_ ge514_0 ul514_0
                                              clear hcc514 hce514
                                              have HR514_0 := Aside0.mk hi514_0
                                              have HC514_0 := Aside0.mk hl514_0
                                              clear hi514_0 hl514_0
                                              replace p514 := eq_true p514
                                              replace q514 := eq_true q514
                                              have p515 : 0 ≤ (0 : Int) := (by omega)
                                              have q515 : 0 < ((rd_L2 t482 x375_3).length : Int) := of_decide_eq_true (by first | (with_reducible assumption) | assumption)
                                              obtain ⟨ad515, e515, hx515_0⟩ := Kd.at_int (by repeat (first | (with_reducible exact HR514_0.out) | (with_reducible refine Kd.C_alloc ?_ _) | (with_reducible refine Kd.C_drewN ?_ _) | (with_reducible refine Kd.C_drew ?_) | exact HR514_0.out)) 0 p515 q515
                                              cases e515
                                              have qi515 : (0 < (rd_L2 t482 x375_3).length) = True := eq_true (by omega)
                                              (try rw [show ((0 : Int)).toNat = 0 from rfl] at hx515_0)
                                              (try rw [Addr.add_zero'] at hx515_0)
                                              replace p515 := eq_true p515
                                              replace q515 := eq_true q515
                                              have p516 : 0 ≤ ((rd (rd_L2 t482 x375_3) 0) : Int) := of_decide_eq_true (by first | (with_reducible assumption) | assumption)
                                              have q516 : (rd (rd_L2 t482 x375_3) 0) < (t431.length : Int) := of_decide_eq_true (by first | (with_reducible assumption) | assumption)
                                              obtain ⟨ad516, A516_0, c516_0, e516, hx516_0, hl516_0, hi516_0⟩ := at_L2 (Kd.N_reads' HO_5.out).2.2 (rd (rd_L2 t482 x375_3) 0) p516 q516
                                              cases e516
                                              obtain ⟨ce516, hce516, hMe516, hcc516⟩ := Kd.N_get HO_5.out [] (rd (rd_L2 t482 x375_3) 0) p516 (by first | exact q516 | exact of_decide_eq_true (by first | (with_reducible assumption) | assumption) | (have e_ := (Kd.N_reads' HO_5.out).1; omega))
                                              obtain ⟨ua516_0, uc516_0, rfl, ul516_0, ge516_0⟩ := Kd.FK_slice_open hMe516
                                              have hv516_0 := hcc516 0 _ rfl
                                              rw [Nat.add_zero, show ((Kd.slice 3 (Kd.int .i64))).sz = 1 from rfl, Nat.mul_one] at hv516_0
                                              replace hv516_0 := Option.some.inj (hv516_0.symm.trans hx516_0)
                                              injection hv516_0 with hva_ hvn_ hvc_
                                              rw [hva_] at ge516_0
                                              rw [hvc_] at ul516_0
                                              have HL516_0 := Aside0.mk (show Kd.V (Kd.int .i64) 3 _ w.heap.size _ _ (rd_L2 t431 (rd (rd_L2 t482 x375_3) 0)) from Kd.V_mk ul516_0 ge516_0)
                                              clear hva_ hvn_ hvc_ ge516_0 ul516_0
                                              clear hcc516 hce516
                                              have HR516_0 := Aside0.mk hi516_0
                                              have HC516_0 := Aside0.mk hl516_0
                                              clear hi516_0 hl516_0
                                              replace p516 := eq_true p516
                                              replace q516 := eq_true q516
                                              have p517 : 0 ≤ (1 : Int) := (by omega)
                                              have q517 : 1 < ((rd_L2 t482 x375_3).length : Int) := of_decide_eq_true (by first | (with_reducible assumption) | assumption)
                                              obtain ⟨ad517, e517, hx517_0⟩ := Kd.at_int (by repeat (first | (with_reducible exact HR514_0.out) | (with_reducible refine Kd.C_alloc ?_ _) | (with_reducible refine Kd.C_drewN ?_ _) | (with_reducible refine Kd.C_drew ?_) | exact HR514_0.out)) 1 p517 q517
                                              obtain rfl : ad515 = ad517 := (by injection e517)
                                              (try simp only [show (1 : Int).toNat = 1 from rfl, Nat.reduceMul, Nat.reduceEqDiff, Go.Addr.add, ↓reduceIte] at hx517_0)
                                              have qi517 : (1 < (rd_L2 t482 x375_3).length) = True := eq_true (by omega)
                                              (try rw [show ((1 : Int)).toNat = 1 from rfl] at hx517_0)
                                              replace p517 := eq_true p517
                                              replace q517 := eq_true q517
                                              have p518 : 0 ≤ ((rd (rd_L2 t482 x375_3) 1) : Int) := of_decide_eq_true (by first | (with_reducible assumption) | assumption)
                                              have q518 : (rd (rd_L2 t482 x375_3) 1) < ((rd_L2 t431 (rd (rd_L2 t482 x375_3) 0)).length : Int) := of_decide_eq_true (by first | (with_reducible assumption) | assumption)
                                              obtain ⟨ad518, e518, hx518_0⟩ := Kd.at_int (by repeat (first | (with_reducible exact HR516_0.out) | (with_reducible refine Kd.C_alloc ?_ _) | (with_reducible refine Kd.C_drewN ?_ _) | (with_reducible refine Kd.C_drew ?_) | exact HR516_0.out)) (rd (rd_L2 t482 x375_3) 1) p518 q518
                                              cases e518
                                              replace p518 := eq_true p518
                                              replace q518 := eq_true q518
                                              go_wp2
                                              repeat (go_quiet (fail); try go_wp2)
                                              go_roundg k3
                                              case measure => have := HJ23.out; have := HJ308.out; have := HK3.out; omega
                                              case rel => exact ⟨(wrap64 (x375_3 + 1)), (by first | rfl | (simp; done) | (simp [*]; done) | (simp [*]; first | exact bx1 _ _ | exact bx2 _ _ | exact (bx1 _ _).symm | exact (bx2 _ _).symm | exact bx3 _ _ | exact bx4 _ _)), H', ⟨by have := HJ23.out; have := HJ308.out; have := HK3.out; omega⟩, ⟨by (with_reducible repeat (first | apply Kd.N_alloc | apply Kd.N_drewN | apply Kd.N_drew)); exact HO_5.out⟩, ⟨by (with_reducible repeat (first | apply Kd.N_alloc | apply Kd.N_drewN | apply Kd.N_drew)); exact HO_6.out⟩, ⟨by (with_reducible repeat (first | apply Kd.N_alloc | apply Kd.N_drewN | apply Kd.N_drew)); exact HO_38.out⟩, ⟨by (with_reducible repeat (first | apply Kd.N_alloc | apply Kd.N_drewN | apply Kd.N_drew)); exact HO_373.out⟩, ⟨by repeat (first | (with_reducible first | exact HB.out | apply below_alloc | apply pw_below_drewN | apply below_drew1) | exact HB.out)⟩⟩
                                            · rw [if_neg c355] at H
                                              have c355b0 : ((rd (rd_L2 t431 (rd (rd_L2 t482 x375_3) 0)) (rd (rd_L2 t482 x375_3) 1)) == t478) = false := beq_eq_false_iff_ne.mpr c355
                                              have c355b1 : ((rd (rd_L2 t431 (rd (rd_L2 t482 x375_3) 0)) (rd (rd_L2 t482 x375_3) 1)) != t478) = true := bne_iff_ne.mpr c355
                                              exact absurd (hrt.symm.trans (Option.some.inj H).symm) (by decide)
                                          · rw [if_neg c354] at H
                                            have c354b0 : ((rd (rd_L2 t431 (rd (rd_L2 t482 x375_3) 0)) (rd (rd_L2 t482 x375_3) 1)) == t474) = false := beq_eq_false_iff_ne.mpr c354
                                            have c354b1 : ((rd (rd_L2 t431 (rd (rd_L2 t482 x375_3) 0)) (rd (rd_L2 t482 x375_3) 1)) != t474) = true := bne_iff_ne.mpr c354
                                            exact absurd (hrt.symm.trans (Option.some.inj H).symm) (by decide)
                                        · rw [if_neg c353] at H
                                          exact absurd H (by simp)
                                      · rw [if_neg c352] at H
                                        exact absurd H (by simp)
                                    · rw [if_neg c351] at H
                                      exact absurd H (by simp)
                                  · rw [if_neg c350] at H
                                    exact absurd H (by simp)
                                · rw [if_neg c349] at H
                                  exact absurd H (by simp)
                              · rw [if_neg c348] at H
                                exact absurd H (by simp)
                            · rw [if_neg c347] at H
                              have c347b0 : (((rd_L2 t482 x375_3).length : Int) == 2) = false := beq_eq_false_iff_ne.mpr c347
                              have c347b1 : (((rd_L2 t482 x375_3).length : Int) != 2) = true := bne_iff_ne.mpr c347
                              exact absurd (hrt.symm.trans (Option.some.inj H).symm) (by decide)
                          · rw [if_neg c346] at H
                            exact absurd H (by simp)
                        · rw [if_neg c345] at H
                          exact absurd H (by simp)
                      · rw [if_neg c344] at H
                        have c344b0 : decide (x375_3 < (t482.length : Int)) = false := decide_eq_false c344
                        clear c344
                        by_cases c356 : ((decide ((t482.length : Int) > 0)) != (t474 == t478)) = true
                        · rw [if_pos c356] at H
                          have c356b0 : ((decide ((t482.length : Int) > 0)) != (t474 == t478)) = true := c356
                          (try (have c356b1 : decide ((decide ((t482.length : Int) > 0)) = (t474 == t478)) = false := by simpa using c356))
                          (try (have c356b2 : ((decide ((t482.length : Int) > 0)) == (t474 == t478)) = false := by simpa using c356))
                          (try (have c356b3 : ¬ ((decide ((t482.length : Int) > 0)) = (t474 == t478)) := by simpa using c356))
                          clear c356
                          exact absurd (hrt.symm.trans (Option.some.inj H).symm) (by decide)
                        · rw [if_neg c356] at H
                          have c356b0 : ((decide ((t482.length : Int) > 0)) != (t474 == t478)) = false := by simpa using c356
                          have c356b9 : (!decide (0 < t482.length) == (t474 == t478)) = false := by rw [show decide (0 < t482.length) = decide ((t482.length : Int) > 0) from decide_eq_decide.2 (by omega)]; revert c356b0; cases decide ((t482.length : Int) > 0) <;> cases (t474 == t478) <;> decide
                          (try (have c356b1 : decide ((decide ((t482.length : Int) > 0)) = (t474 == t478)) = true := by simpa using c356))
                          (try (have c356b2 : ((decide ((t482.length : Int) > 0)) == (t474 == t478)) = true := by simpa using c356))
                          clear c356
                          replace H := Option.bind_eq_some_iff.mp H
                          obtain ⟨⟨t519, t520⟩, A3570, H⟩ := H
                          (try dsimp only at H)
                          have A357 := Aside0.mk A3570
                          clear A3570
                          replace H := Option.bind_eq_some_iff.mp H
                          obtain ⟨⟨t521, t522⟩, A3580, H⟩ := H
                          (try dsimp only at H)
                          have A358 := Aside0.mk A3580
                          clear A3580
                          by_cases c359 : t520 = true
                          · subst c359
                            rw [if_pos rfl] at H
                            by_cases c360 : t519 ≥ 0
                            · rw [if_pos c360] at H
                              have c360b0 : decide (0 ≤ t519) = true := decide_eq_true c360
                              clear c360
                              by_cases c361 : t458 = true
                              · subst c361
                                rw [if_pos rfl] at H
                                by_cases c362 : ((t519 == 0) == t462) = true
                                · rw [if_pos c362] at H
                                  have c362b0 : ((t519 == 0) == t462) = true := c362
                                  (try (have c362b1 : decide ((t519 == 0) = t462) = true := by simpa using c362))
                                  (try (have c362b2 : ((t519 == 0) == t462) = true := by simpa using c362))
                                  clear c362
                                  by_cases c363 : t522 = true
                                  · subst c363
                                    rw [if_pos rfl] at H
                                    have hz := (Option.some.inj H).trans hrt
                                    subst hrt
                                    clear H
                                    go_wp2_with (first | (go_at_call 27; (with_reducible refine (impl_FileDisorder.calls k3 _ _ t431 t519 true _ ?side1 ?side2 A357.out).mono ?_); (case side1 => repeat (first | exact (Kd.N_reads' HO_5.out).2.2 | (with_reducible refine Kd.C_alloc ?_ _) | (with_reducible refine Kd.C_drewN ?_ _) | (with_reducible refine Kd.C_drew ?_))); (case side2 => exact (Kd.N_reads' HO_5.out).2.1); rintro e w364 ⟨rfl, hb⟩; have n0_ := Aside0.mk (Kd.N_below (by (with_reducible repeat (first | apply Kd.N_alloc | apply Kd.N_drewN | apply Kd.N_drew)); exact HO_5.out) hb); have n1_ := Aside0.mk (Kd.N_below (by (with_reducible repeat (first | apply Kd.N_alloc | apply Kd.N_drewN | apply Kd.N_drew)); exact HO_6.out) hb); have n2_ := Aside0.mk (Kd.N_below (by (with_reducible repeat (first | apply Kd.N_alloc | apply Kd.N_drewN | apply Kd.N_drew)); exact HO_38.out) hb); have n3_ := Aside0.mk (Kd.N_below (by (with_reducible repeat (first | apply Kd.N_alloc | apply Kd.N_drewN | apply Kd.N_drew)); exact HO_373.out) hb); have n4_ := Aside0.mk (below_step (by repeat (first | (with_reducible first | exact HB.out | apply below_alloc | apply pw_below_drewN | apply below_drew1) | exact HB.out)) hb); clear HO_5; clear HO_6; clear HO_38; clear HO_373; clear HB; have HO_5 := n0_; have HO_6 := n1_; have HO_38 := n2_; have HO_373 := n3_; have HB := n4_; clear n0_ n1_ n2_ n3_ n4_; (try clear hb); (try clear hb2); (try clear hk); (try clear hi)) | (go_at_call 27; (with_reducible refine (impl_FileDisorder.calls k3 _ _ t434 t521 true _ ?side1 ?side2 A358.out).mono ?_); (case side1 => repeat (first | exact (Kd.N_reads' HO_6.out).2.2 | (with_reducible refine Kd.C_alloc ?_ _) | (with_reducible refine Kd.C_drewN ?_ _) | (with_reducible refine Kd.C_drew ?_))); (case side2 => exact (Kd.N_reads' HO_6.out).2.1); rintro e w365 ⟨rfl, hb⟩; have n0_ := Aside0.mk (Kd.N_below (by (with_reducible repeat (first | apply Kd.N_alloc | apply Kd.N_drewN | apply Kd.N_drew)); exact HO_5.out) hb); have n1_ := Aside0.mk (Kd.N_below (by (with_reducible repeat (first | apply Kd.N_alloc | apply Kd.N_drewN | apply Kd.N_drew)); exact HO_6.out) hb); have n2_ := Aside0.mk (Kd.N_below (by (with_reducible repeat (first | apply Kd.N_alloc | apply Kd.N_drewN | apply Kd.N_drew)); exact HO_38.out) hb); have n3_ := Aside0.mk (Kd.N_below (by (with_reducible repeat (first | apply Kd.N_alloc | apply Kd.N_drewN | apply Kd.N_drew)); exact HO_373.out) hb); have n4_ := Aside0.mk (below_step (by repeat (first | (with_reducible first | exact HB.out | apply below_alloc | apply pw_below_drewN | apply below_drew1) | exact HB.out)) hb); clear HO_5; clear HO_6; clear HO_38; clear HO_373; clear HB; have HO_5 := n0_; have HO_6 := n1_; have HO_38 := n2_; have HO_373 := n3_; have HB := n4_; clear n0_ n1_ n2_ n3_ n4_; (try clear hb); (try clear hb2); (try clear hk); (try clear hi)))
                                    repeat (go_quiet (first | (go_at_call 27; (with_reducible refine (impl_FileDisorder.calls k3 _ _ t431 t519 true _ ?side1 ?side2 A357.out).mono ?_); (case side1 => repeat (first | exact (Kd.N_reads' HO_5.out).2.2 | (with_reducible refine Kd.C_alloc ?_ _) | (with_reducible refine Kd.C_drewN ?_ _) | (with_reducible refine Kd.C_drew ?_))); (case side2 => exact (Kd.N_reads' HO_5.out).2.1); rintro e w364 ⟨rfl, hb⟩; have n0_ := Aside0.mk (Kd.N_below (by (with_reducible repeat (first | apply Kd.N_alloc | apply Kd.N_drewN | apply Kd.N_drew)); exact HO_5.out) hb); have n1_ := Aside0.mk (Kd.N_below (by (with_reducible repeat (first | apply Kd.N_alloc | apply Kd.N_drewN | apply Kd.N_drew)); exact HO_6.out) hb); have n2_ := Aside0.mk (Kd.N_below (by (with_reducible repeat (first | apply Kd.N_alloc | apply Kd.N_drewN | apply Kd.N_drew)); exact HO_38.out) hb); have n3_ := Aside0.mk (Kd.N_below (by (with_reducible repeat (first | apply Kd.N_alloc | apply Kd.N_drewN | apply Kd.N_drew)); exact HO_373.out) hb); have n4_ := Aside0.mk (below_step (by repeat (first | (with_reducible first | exact HB.out | apply below_alloc | apply pw_below_drewN | apply below_drew1) | exact HB.out)) hb); clear HO_5; clear HO_6; clear HO_38; clear HO_373; clear HB; have HO_5 := n0_; have HO_6 := n1_; have HO_38 := n2_; have HO_373 := n3_; have HB := n4_; clear n0_ n1_ n2_ n3_ n4_; (try clear hb); (try clear hb2); (try clear hk); (try clear hi)) | (go_at_call 27; (with_reducible refine (impl_FileDisorder.calls k3 _ _ t434 t521 true _ ?side1 ?side2 A358.out).mono ?_); (case side1 => repeat (first | exact (Kd.N_reads' HO_6.out).2.2 | (with_reducible refine Kd.C_alloc ?_ _) | (with_reducible refine Kd.C_drewN ?_ _) | (with_reducible refine Kd.C_drew ?_))); (case side2 => exact (Kd.N_reads' HO_6.out).2.1); rintro e w365 ⟨rfl, hb⟩; have n0_ := Aside0.mk (Kd.N_below (by (with_reducible repeat (first | apply Kd.N_alloc | apply Kd.N_drewN | apply Kd.N_drew)); exact HO_5.out) hb); have n1_ := Aside0.mk (Kd.N_below (by (with_reducible repeat (first | apply Kd.N_alloc | apply Kd.N_drewN | apply Kd.N_drew)); exact HO_6.out) hb); have n2_ := Aside0.mk (Kd.N_below (by (with_reducible repeat (first | apply Kd.N_alloc | apply Kd.N_drewN | apply Kd.N_drew)); exact HO_38.out) hb); have n3_ := Aside0.mk (Kd.N_below (by (with_reducible repeat (first | apply Kd.N_alloc | apply Kd.N_drewN | apply Kd.N_drew)); exact HO_373.out) hb); have n4_ := Aside0.mk (below_step (by repeat (first | (with_reducible first | exact HB.out | apply below_alloc | apply pw_below_drewN | apply below_drew1) | exact HB.out)) hb); clear HO_5; clear HO_6; clear HO_38; clear HO_373; clear HB; have HO_5 := n0_; have HO_6 := n1_; have HO_38 := n2_; have HO_373 := n3_; have HB := n4_; clear n0_ n1_ n2_ n3_ n4_; (try clear hb); (try clear hb2); (try clear hk); (try clear hi))); try go_wp2_with (first | (go_at_call 27; (with_reducible refine (impl_FileDisorder.calls k3 _ _ t431 t519 true _ ?side1 ?side2 A357.out).mono ?_); (case side1 => repeat (first | exact (Kd.N_reads' HO_5.out).2.2 | (with_reducible refine Kd.C_alloc ?_ _) | (with_reducible refine Kd.C_drewN ?_ _) | (with_reducible refine Kd.C_drew ?_))); (case side2 => exact (Kd.N_reads' HO_5.out).2.1); rintro e w364 ⟨rfl, hb⟩; have n0_ := Aside0.mk (Kd.N_below (by (with_reducible repeat (first | apply Kd.N_alloc | apply Kd.N_drewN | apply Kd.N_drew)); exact HO_5.out) hb); have n1_ := Aside0.mk (Kd.N_below (by (with_reducible repeat (first | apply Kd.N_alloc | apply Kd.N_drewN | apply Kd.N_drew)); exact HO_6.out) hb); have n2_ := Aside0.mk (Kd.N_below (by (with_reducible repeat (first | apply Kd.N_alloc | apply Kd.N_drewN | apply Kd.N_drew)); exact HO_38.out) hb); have n3_ := Aside0.mk (Kd.N_below (by (with_reducible repeat (first | apply Kd.N_alloc | apply Kd.N_drewN | apply Kd.N_drew)); exact HO_373.out) hb); have n4_ := Aside0.mk (below_step (by repeat (first | (with_reducible first | exact HB.out | apply below_alloc | apply pw_below_drewN | apply below_drew1) | exact HB.out)) hb); clear HO_5; clear HO_6; clear HO_38; clear HO_373; clear HB; have HO_5 := n0_; have HO_6 := n1_; have HO_38 := n2_; have HO_373 := n3_; have HB := n4_; clear n0_ n1_ n2_ n3_ n4_; (try clear hb); (try clear hb2); (try clear hk); (try clear hi)) | (go_at_call 27; (with_reducible refine (impl_FileDisorder.calls k3 _ _ t434 t521 true _ ?side1 ?side2 A358.out).mono ?_); (case side1 => repeat (first | exact (Kd.N_reads' HO_6.out).2.2 | (with_reducible refine Kd.C_alloc ?_ _) | (with_reducible refine Kd.C_drewN ?_ _) | (with_reducible refine Kd.C_drew ?_))); (case side2 => exact (Kd.N_reads' HO_6.out).2.1); rintro e w365 ⟨rfl, hb⟩; have n0_ := Aside0.mk (Kd.N_below (by (with_reducible repeat (first | apply Kd.N_alloc | apply Kd.N_drewN | apply Kd.N_drew)); exact HO_5.out) hb); have n1_ := Aside0.mk (Kd.N_below (by (with_reducible repeat (first | apply Kd.N_alloc | apply Kd.N_drewN | apply Kd.N_drew)); exact HO_6.out) hb); have n2_ := Aside0.mk (Kd.N_below (by (with_reducible repeat (first | apply Kd.N_alloc | apply Kd.N_drewN | apply Kd.N_drew)); exact HO_38.out) hb); have n3_ := Aside0.mk (Kd.N_below (by (with_reducible repeat (first | apply Kd.N_alloc | apply Kd.N_drewN | apply Kd.N_drew)); exact HO_373.out) hb); have n4_ := Aside0.mk (below_step (by repeat (first | (with_reducible first | exact HB.out | apply below_alloc | apply pw_below_drewN | apply below_drew1) | exact HB.out)) hb); clear HO_5; clear HO_6; clear HO_38; clear HO_373; clear HB; have HO_5 := n0_; have HO_6 := n1_; have HO_38 := n2_; have HO_373 := n3_; have HB := n4_; clear n0_ n1_ n2_ n3_ n4_; (try clear hb); (try clear hb2); (try clear hk); (try clear hi))))
                                    go_ret
                                    exact ⟨by first | rfl | (simp [errW_none, errW_some] <;> rfl) | (simp [*, errW_none, errW_some] <;> rfl), by repeat (first | (with_reducible first | exact HB.out | apply below_alloc | apply pw_below_drewN | apply below_drew1) | exact HB.out)⟩
                                  · replace c363 := Bool.eq_false_iff.mpr c363
                                    subst c363
                                    rw [if_neg (show ¬ (false = true) by decide)] at H
                                    exact absurd (hrt.symm.trans (Option.some.inj H).symm) (by decide)
                                · rw [if_neg c362] at H
                                  have c362b0 : ((t519 == 0) == t462) = false := by simpa using c362
                                  (try (have c362b1 : decide ((t519 == 0) = t462) = false := by simpa using c362))
                                  (try (have c362b2 : ((t519 == 0) == t462) = false := by simpa using c362))
                                  (try (have c362b3 : ¬ ((t519 == 0) = t462) := by simpa using c362))
                                  clear c362
                                  exact absurd (hrt.symm.trans (Option.some.inj H).symm) (by decide)
                              · replace c361 := Bool.eq_false_iff.mpr c361
                                subst c361
                                rw [if_neg (show ¬ (false = true) by decide)] at H
                                by_cases c370 : ((t519 == 0) == false) = true
                                · rw [if_pos c370] at H
                                  have c370b0 : ((t519 == 0) == false) = true := c370
                                  (try (have c370b1 : decide ((t519 == 0) = false) = true := by simpa using c370))
                                  (try (have c370b2 : ((t519 == 0) == false) = true := by simpa using c370))
                                  clear c370
                                  by_cases c371 : t522 = true
                                  · subst c371
                                    rw [if_pos rfl] at H
                                    have hz := (Option.some.inj H).trans hrt
                                    subst hrt
                                    clear H
                                    go_wp2_with (first | (go_at_call 27; (with_reducible refine (impl_FileDisorder.calls k3 _ _ t431 t519 true _ ?side1 ?side2 A357.out).mono ?_); (case side1 => repeat (first | exact (Kd.N_reads' HO_5.out).2.2 | (with_reducible refine Kd.C_alloc ?_ _) | (with_reducible refine Kd.C_drewN ?_ _) | (with_reducible refine Kd.C_drew ?_))); (case side2 => exact (Kd.N_reads' HO_5.out).2.1); rintro e w372 ⟨rfl, hb⟩; have n0_ := Aside0.mk (Kd.N_below (by (with_reducible repeat (first | apply Kd.N_alloc | apply Kd.N_drewN | apply Kd.N_drew)); exact HO_5.out) hb); have n1_ := Aside0.mk (Kd.N_below (by (with_reducible repeat (first | apply Kd.N_alloc | apply Kd.N_drewN | apply Kd.N_drew)); exact HO_6.out) hb); have n2_ := Aside0.mk (Kd.N_below (by (with_reducible repeat (first | apply Kd.N_alloc | apply Kd.N_drewN | apply Kd.N_drew)); exact HO_38.out) hb); have n3_ := Aside0.mk (Kd.N_below (by (with_reducible repeat (first | apply Kd.N_alloc | apply Kd.N_drewN | apply Kd.N_drew)); exact HO_373.out) hb); have n4_ := Aside0.mk (below_step (by repeat (first | (with_reducible first | exact HB.out | apply below_alloc | apply pw_below_drewN | apply below_drew1) | exact HB.out)) hb); clear HO_5; clear HO_6; clear HO_38; clear HO_373; clear HB; have HO_5 := n0_; have HO_6 := n1_; have HO_38 := n2_; have HO_373 := n3_; have HB := n4_; clear n0_ n1_ n2_ n3_ n4_; (try clear hb); (try clear hb2); (try clear hk); (try clear hi)) | (go_at_call 27; (with_reducible refine (impl_FileDisorder.calls k3 _ _ t434 t521 true _ ?side1 ?side2 A358.out).mono ?_); (case side1 => repeat (first | exact (Kd.N_reads' HO_6.out).2.2 | (with_reducible refine Kd.C_alloc ?_ _) | (with_reducible refine Kd.C_drewN ?_ _) | (with_reducible refine Kd.C_drew ?_))); (case side2 => exact (Kd.N_reads' HO_6.out).2.1); rintro e w373 ⟨rfl, hb⟩; have n0_ := Aside0.mk (Kd.N_below (by (with_reducible repeat (first | apply Kd.N_alloc | apply Kd.N_drewN | apply Kd.N_drew)); exact HO_5.out) hb); have n1_ := Aside0.mk (Kd.N_below (by (with_reducible repeat (first | apply Kd.N_alloc | apply Kd.N_drewN | apply Kd.N_drew)); exact HO_6.out) hb); have n2_ := Aside0.mk (Kd.N_below (by (with_reducible repeat (first | apply Kd.N_alloc | apply Kd.N_drewN | apply Kd.N_drew)); exact HO_38.out) hb); have n3_ := Aside0.mk (Kd.N_below (by (with_reducible repeat (first | apply Kd.N_alloc | apply Kd.N_drewN | apply Kd.N_drew)); exact HO_373.out) hb); have n4_ := Aside0.mk (below_step (by repeat (first | (with_reducible first | exact HB.out | apply below_alloc | apply pw_below_drewN | apply below_drew1) | exact HB.out)) hb); clear HO_5; clear HO_6; clear HO_38; clear HO_373; clear HB; have HO_5 := n0_; have HO_6 := n1_; have HO_38 := n2_; have HO_373 := n3_; have HB := n4_; clear n0_ n1_ n2_ n3_ n4_; (try clear hb); (try clear hb2); (try clear hk); (try clear hi)))
                                    repeat (go_quiet (first | (go_at_call 27; (with_reducible refine (impl_FileDisorder.calls k3 _ _ t431 t519 true _ ?side1 ?side2 A357.out).mono ?_); (case side1 => repeat (first | exact (Kd.N_reads' HO_5.out).2.2 | (with_reducible refine Kd.C_alloc ?_ _) | (with_reducible refine Kd.C_drewN ?_ _) | (with_reducible refine Kd.C_drew ?_))); (case side2 => exact (Kd.N_reads' HO_5.out).2.1); rintro e w372 ⟨rfl, hb⟩; have n0_ := Aside0.mk (Kd.N_below (by (with_reducible repeat (first | apply Kd.N_alloc | apply Kd.N_drewN | apply Kd.N_drew)); exact HO_5.out) hb); have n1_ := Aside0.mk (Kd.N_below (by (with_reducible repeat (first | apply Kd.N_alloc | apply Kd.N_drewN | apply Kd.N_drew)); exact HO_6.out) hb); have n2_ := Aside0.mk (Kd.N_below (by (with_reducible repeat (first | apply Kd.N_alloc | apply Kd.N_drewN | apply Kd.N_drew)); exact HO_38.out) hb); have n3_ := Aside0.mk (Kd.N_below (by (with_reducible repeat (first | apply Kd.N_alloc | apply Kd.N_drewN | apply Kd.N_drew)); exact HO_373.out) hb); have n4_ := Aside0.mk (below_step (by repeat (first | (with_reducible first | exact HB.out | apply below_alloc | apply pw_below_drewN | apply below_drew1) | exact HB.out)) hb); clear HO_5; clear HO_6; clear HO_38; clear HO_373; clear HB; have HO_5 := n0_; have HO_6 := n1_; have HO_38 := n2_; have HO_373 := n3_; have HB := n4_; clear n0_ n1_ n2_ n3_ n4_; (try clear hb); (try clear hb2); (try clear hk); (try clear hi)) | (go_at_call 27; (with_reducible refine (impl_FileDisorder.calls k3 _ _ t434 t521 true _ ?side1 ?side2 A358.out).mono ?_); (case side1 => repeat (first | exact (Kd.N_reads' HO_6.out).2.2 | (with_reducible refine Kd.C_alloc ?_ _) | (with_reducible refine Kd.C_drewN ?_ _) | (with_reducible refine Kd.C_drew ?_))); (case side2 => exact (Kd.N_reads' HO_6.out).2.1); rintro e w373 ⟨rfl, hb⟩; have n0_ := Aside0.mk (Kd.N_below (by (with_reducible repeat (first | apply Kd.N_alloc | apply Kd.N_drewN | apply Kd.N_drew)); exact HO_5.out) hb); have n1_ := Aside0.mk (Kd.N_below (by (with_reducible repeat (first | apply Kd.N_alloc | apply Kd.N_drewN | apply Kd.N_drew)); exact HO_6.out) hb); have n2_ := Aside0.mk (Kd.N_below (by (with_reducible repeat (first | apply Kd.N_alloc | apply Kd.N_drewN | apply Kd.N_drew)); exact HO_38.out) hb); have n3_ := Aside0.mk (Kd.N_below (by (with_reducible repeat (first | apply Kd.N_alloc | apply Kd.N_drewN | apply Kd.N_drew)); exact HO_373.out) hb); have n4_ := Aside0.mk (below_step (by repeat (first | (with_reducible first | exact HB.out | apply below_alloc | apply pw_below_drewN | apply below_drew1) | exact HB.out)) hb); clear HO_5; clear HO_6; clear HO_38; clear HO_373; clear HB; have HO_5 := n0_; have HO_6 := n1_; have HO_38 := n2_; have HO_373 := n3_; have HB := n4_; clear n0_ n1_ n2_ n3_ n4_; (try clear hb); (try clear hb2); (try clear hk); (try clear hi))); try go_wp2_with (first | (go_at_call 27; (with_reducible refine (impl_FileDisorder.calls k3 _ _ t431 t519 true _ ?side1 ?side2 A357.out).mono ?_); (case side1 => repeat (first | exact (Kd.N_reads' HO_5.out).2.2 | (with_reducible refine Kd.C_alloc ?_ _) | (with_reducible refine Kd.C_drewN ?_ _) | (with_reducible refine Kd.C_drew ?_))); (case side2 => exact (Kd.N_reads' HO_5.out).2.1); rintro e w372 ⟨rfl, hb⟩; have n0_ := Aside0.mk (Kd.N_below (by (with_reducible repeat (first | apply Kd.N_alloc | apply Kd.N_drewN | apply Kd.N_drew)); exact HO_5.out) hb); have n1_ := Aside0.mk (Kd.N_below (by (with_reducible repeat (first | apply Kd.N_alloc | apply Kd.N_drewN | apply Kd.N_drew)); exact HO_6.out) hb); have n2_ := Aside0.mk (Kd.N_below (by (with_reducible repeat (first | apply Kd.N_alloc | apply Kd.N_drewN | apply Kd.N_drew)); exact HO_38.out) hb); have n3_ := Aside0.mk (Kd.N_below (by (with_reducible repeat (first | apply Kd.N_alloc | apply Kd.N_drewN | apply Kd.N_drew)); exact HO_373.out) hb); have n4_ := Aside0.mk (below_step (by repeat (first | (with_reducible first | exact HB.out | apply below_alloc | apply pw_below_drewN | apply below_drew1) | exact HB.out)) hb); clear HO_5; clear HO_6; clear HO_38; clear HO_373; clear HB; have HO_5 := n0_; have HO_6 := n1_; have HO_38 := n2_; have HO_373 := n3_; have HB := n4_; clear n0_ n1_ n2_ n3_ n4_; (try clear hb); (try clear hb2); (try clear hk); (try clear hi)) | (go_at_call 27; (with_reducible refine (impl_FileDisorder.calls k3 _ _ t434 t521 true _ ?side1 ?side2 A358.out).mono ?_); (case side1 => repeat (first | exact (Kd.N_reads' HO_6.out).2.2 | (with_reducible refine Kd.C_alloc ?_ _) | (with_reducible refine Kd.C_drewN ?_ _) | (with_reducible refine Kd.C_drew ?_))); (case side2 => exact (Kd.N_reads' HO_6.out).2.1); rintro e w373 ⟨rfl, hb⟩; have n0_ := Aside0.mk (Kd.N_below (by (with_reducible repeat (first | apply Kd.N_alloc | apply Kd.N_drewN | apply Kd.N_drew)); exact HO_5.out) hb); have n1_ := Aside0.mk (Kd.N_below (by (with_reducible repeat (first | apply Kd.N_alloc | apply Kd.N_drewN | apply Kd.N_drew)); exact HO_6.out) hb); have n2_ := Aside0.mk (Kd.N_below (by (with_reducible repeat (first | apply Kd.N_alloc | apply Kd.N_drewN | apply Kd.N_drew)); exact HO_38.out) hb); have n3_ := Aside0.mk (Kd.N_below (by (with_reducible repeat (first | apply Kd.N_alloc | apply Kd.N_drewN | apply Kd.N_drew)); exact HO_373.out) hb); have n4_ := Aside0.mk (below_step (by repeat (first | (with_reducible first | exact HB.out | apply below_alloc | apply pw_below_drewN | apply below_drew1) | exact HB.out)) hb); clear HO_5; clear HO_6; clear HO_38; clear HO_373; clear HB; have HO_5 := n0_; have HO_6 := n1_; have HO_38 := n2_; have HO_373 := n3_; have HB := n4_; clear n0_ n1_ n2_ n3_ n4_; (try clear hb); (try clear hb2); (try clear hk); (try clear hi))))
                                    go_ret
                                    exact ⟨by first | rfl | (simp [errW_none, errW_some] <;> rfl) | (simp [*, errW_none, errW_some] <;> rfl), by repeat (first | (with_reducible first | exact HB.out | apply below_alloc | apply pw_below_drewN | apply below_drew1) | exact HB.out)⟩
                                  · replace c371 := Bool.eq_false_iff.mpr c371
                                    subst c371
                                    rw [if_neg (show ¬ (false = true) by decide)] at H
                                    exact absurd (hrt.symm.trans (Option.some.inj H).symm) (by decide)
                                · rw [if_neg c370] at H
                                  have c370b0 : ((t519 == 0) == false) = false := by simpa using c370
                                  (try (have c370b1 : decide ((t519 == 0) = false) = false := by simpa using c370))
                                  (try (have c370b2 : ((t519 == 0) == false) = false := by simpa using c370))
                                  (try (have c370b3 : ¬ ((t519 == 0) = false) := by simpa using c370))
                                  clear c370
                                  exact absurd (hrt.symm.trans (Option.some.inj H).symm) (by decide)
                            · rw [if_neg c360] at H
                              have c360b0 : decide (0 ≤ t519) = false := decide_eq_false c360
                              clear c360
                              exact absurd (hrt.symm.trans (Option.some.inj H).symm) (by decide)
                          · replace c359 := Bool.eq_false_iff.mpr c359
                            subst c359
                            rw [if_neg (show ¬ (false = true) by decide)] at H
                            exact absurd (hrt.symm.trans (Option.some.inj H).symm) (by decide)
          · replace c304 := Bool.eq_false_iff.mpr c304
            subst c304
            rw [if_neg (show ¬ (false = true) by decide)] at H
            obtain rfl := Option.some.inj H
            clear hrt
            go_wp2
            repeat (go_quiet (fail); try go_wp2)
            go_ret
            exact ⟨by first | rfl | (simp [errW_none, errW_some] <;> rfl) | (simp [*, errW_none, errW_some] <;> rfl), by repeat (first | (with_reducible first | exact HB.out | apply below_alloc | apply pw_below_drewN | apply below_drew1) | exact HB.out)⟩

end Go.Proofs.Ytieahbiaoceokaa.A
