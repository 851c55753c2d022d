-- WRITTEN BY printx.py, a program of this session over the kit's print: not typed by hand. Lean checks it.
import Derived.Test.YtbhfcabhkidfdaaAx0
import Derived.Test.YtbhfcabhkidfdaaAx5
import Derived.Test.YtbhfcabhkidfdaaAx6
import Derived.Test.YtbhfcabhkidfdaaAx7
import Derived.Test.YtbhfcabhkidfdaaAx8
import Derived.Test.YtbhfcabhkidfdaaAx9
import Derived.Test.YtbhfcabhkidfdaaAx10
import Derived.Test.YtbhfcabhkidfdaaAx11
namespace Go.Proofs.Ytbhfcabhkidfdaa.A
open Go.RowKit Go.Proofs.YtbhfcabhkidfdaaW.PrintWords Go.Proofs.YtbhfcabhkidfdaaW.PrintLast Go.Proofs.YtbhfcabhkidfdaaW.PrintMore Go.Proofs.Ytbhfcabhkidfdaa.X
attribute [local go_sem] max2_int min2_int max_two min_two max_three min_three max_four min_four   -- for this text's walks alone
set_option linter.unusedVariables false
set_option linter.unusedSimpArgs false

/-! ### laws_FnFilesSortedOfAll: function 3 -/
mutual
def laws_FnFilesSortedOfAll.j0 : Nat → List (List Int) → List (List Int) → Bool → List (List Int) → List (List Int) → Bool → Bool → List (List Int) → Int → Int → List (List Int) → Bool → Option (Bool)
  | 0, _, _, _, _, _, _, _, _, _, _, _, _ => none
  | k + 1, x0, x3, x4, x7, x11, x15, x19, x23, x27, x31, x35, x292 => if x292 = true then (some false) else (if x4 = true then ((impl_AreRowsSorted.f k x3).bind fun bt450 => ((impl_AreColumnsSorted.f k x3).bind fun bt452 => ((impl_SortFileColumns.f k x7).bind fun bt454 => ((impl_TurnFiles.f k x23).bind fun bt458 => (if bt450.2 = true then (if bt450.1 = true then (if bt452.2 = true then (if bt452.1 = true then (if bt454.2 = true then ((laws_vRows.f k bt454.1 x3).bind fun t462 => (if t462 = true then (if bt458.2 = true then ((laws_vRows.f k bt458.1 x0).bind fun t463 => (if t463 = true then (if x27 > x31 then (laws_FnFilesSortedOfAll.j1 k x0 x3 x15 x19 x27 x31 x35 true) else ((laws_vRows.f k x7 x0).bind fun t464 => (if (x15 != t464) = true then (laws_FnFilesSortedOfAll.j1 k x0 x3 x15 x19 x27 x31 x35 true) else ((laws_vRows.f k x11 x0).bind fun t465 => (laws_FnFilesSortedOfAll.j1 k x0 x3 x15 x19 x27 x31 x35 (x19 != t465)))))) else (laws_FnFilesSortedOfAll.j1 k x0 x3 x15 x19 x27 x31 x35 true))) else (laws_FnFilesSortedOfAll.j1 k x0 x3 x15 x19 x27 x31 x35 true)) else (laws_FnFilesSortedOfAll.j1 k x0 x3 x15 x19 x27 x31 x35 true))) else (laws_FnFilesSortedOfAll.j1 k x0 x3 x15 x19 x27 x31 x35 true)) else (laws_FnFilesSortedOfAll.j1 k x0 x3 x15 x19 x27 x31 x35 true)) else (laws_FnFilesSortedOfAll.j1 k x0 x3 x15 x19 x27 x31 x35 true)) else (laws_FnFilesSortedOfAll.j1 k x0 x3 x15 x19 x27 x31 x35 true)) else (laws_FnFilesSortedOfAll.j1 k x0 x3 x15 x19 x27 x31 x35 true)))))) else (some true))
def laws_FnFilesSortedOfAll.j1 : Nat → List (List Int) → List (List Int) → Bool → Bool → Int → Int → List (List Int) → Bool → Option (Bool)
  | 0, _, _, _, _, _, _, _, _ => none
  | k + 1, x0, x3, x15, x19, x27, x31, x35, x367 => if x367 = true then (some false) else (laws_FnFilesSortedOfAll.l0 k x0 x3 x15 x19 x27 x31 x35 x35 (x35.length : Int) 0)
def laws_FnFilesSortedOfAll.l0 : Nat → List (List Int) → List (List Int) → Bool → Bool → Int → Int → List (List Int) → List (List Int) → Int → Int → Option (Bool)
  | 0, _, _, _, _, _, _, _, _, _, _ => none
  | k + 1, x0, x3, x15, x19, x27, x31, x35, x368, x369, x370 => if x370 < x369 then (if 0 ≤ x370 then (if x370 < (x368.length : Int) then (if ((rd_L1 x368 x370).length : Int) = 2 then (if 0 < ((rd_L1 x368 x370).length : Int) then (if 0 ≤ (rd (rd_L1 x368 x370) 0) then (if (rd (rd_L1 x368 x370) 0) < (x0.length : Int) then (if 1 < ((rd_L1 x368 x370).length : Int) then (if 0 ≤ (rd (rd_L1 x368 x370) 1) then (if (rd (rd_L1 x368 x370) 1) < ((rd_L1 x0 (rd (rd_L1 x368 x370) 0)).length : Int) then (if (rd (rd_L1 x0 (rd (rd_L1 x368 x370) 0)) (rd (rd_L1 x368 x370) 1)) = x27 then (if (rd (rd_L1 x0 (rd (rd_L1 x368 x370) 0)) (rd (rd_L1 x368 x370) 1)) = x31 then (laws_FnFilesSortedOfAll.l0 k x0 x3 x15 x19 x27 x31 x35 x368 x369 (wrap64 (x370 + 1))) else (some false)) else (some false)) else (none)) else (none)) else (none)) else (none)) else (none)) else (none)) else (some false)) else (none)) else (none)) else (if ((decide ((x35.length : Int) > 0)) != (x27 == x31)) = true then (some false) else ((impl_FileDisorder.f k x0).bind fun bt471 => ((impl_FileDisorder.f k x3).bind fun bt473 => (if bt471.2 = true then (if bt471.1 ≥ 0 then (if x15 = true then (if ((bt471.1 == 0) == x19) = true then (if bt473.2 = true then (some (bt473.1 == 0)) else (some false)) else (some false)) else (if ((bt471.1 == 0) == false) = true then (if bt473.2 = true then (some (bt473.1 == 0)) else (some false)) else (some false))) else (some false)) else (some false)))))
end
def laws_FnFilesSortedOfAll.f (k : Nat) (l0 : List (List Int)) : Option (Bool) := if (l0.length : Int) > 10000 then (some true) else ((impl_SortBoth.f k l0).bind fun bt386 => ((spec_SortBoth.f k l0).bind fun bt390 => ((impl_SortFileRows.f k l0).bind fun bt394 => ((spec_SortFileRows.f k l0).bind fun bt398 => ((impl_SortFileColumns.f k l0).bind fun bt402 => ((spec_SortFileColumns.f k l0).bind fun bt406 => ((impl_AreRowsSorted.f k l0).bind fun bt410 => ((spec_AreRowsSorted.f k l0).bind fun bt412 => ((impl_AreColumnsSorted.f k l0).bind fun bt414 => ((spec_AreColumnsSorted.f k l0).bind fun bt416 => ((impl_TurnFiles.f k l0).bind fun bt418 => ((spec_TurnFiles.f k l0).bind fun bt422 => ((impl_TallestOfShortest.f k l0).bind fun bt426 => ((spec_TallestOfShortest.f k l0).bind fun bt428 => ((impl_ShortestOfTallest.f k l0).bind fun bt430 => ((spec_ShortestOfTallest.f k l0).bind fun bt432 => ((impl_SaddlePlaces.f k l0).bind fun bt434 => ((spec_SaddlePlaces.f k l0).bind fun bt438 => (if (bt386.2 != bt390.2) = true then (laws_FnFilesSortedOfAll.j0 k l0 bt386.1 bt386.2 bt394.1 bt402.1 bt410.1 bt414.1 bt418.1 bt426.1 bt430.1 bt434.1 true) else ((laws_vRows.f k bt386.1 bt390.1).bind fun t442 => (if t442 = true then (if (bt394.2 != bt398.2) = true then (laws_FnFilesSortedOfAll.j0 k l0 bt386.1 bt386.2 bt394.1 bt402.1 bt410.1 bt414.1 bt418.1 bt426.1 bt430.1 bt434.1 true) else ((laws_vRows.f k bt394.1 bt398.1).bind fun t443 => (if t443 = true then (if (bt402.2 != bt406.2) = true then (laws_FnFilesSortedOfAll.j0 k l0 bt386.1 bt386.2 bt394.1 bt402.1 bt410.1 bt414.1 bt418.1 bt426.1 bt430.1 bt434.1 true) else ((laws_vRows.f k bt402.1 bt406.1).bind fun t444 => (if t444 = true then (if (bt410.2 != bt412.2) = true then (laws_FnFilesSortedOfAll.j0 k l0 bt386.1 bt386.2 bt394.1 bt402.1 bt410.1 bt414.1 bt418.1 bt426.1 bt430.1 bt434.1 true) else (if (bt410.1 != bt412.1) = true then (laws_FnFilesSortedOfAll.j0 k l0 bt386.1 bt386.2 bt394.1 bt402.1 bt410.1 bt414.1 bt418.1 bt426.1 bt430.1 bt434.1 true) else (if (bt414.2 != bt416.2) = true then (laws_FnFilesSortedOfAll.j0 k l0 bt386.1 bt386.2 bt394.1 bt402.1 bt410.1 bt414.1 bt418.1 bt426.1 bt430.1 bt434.1 true) else (if (bt414.1 != bt416.1) = true then (laws_FnFilesSortedOfAll.j0 k l0 bt386.1 bt386.2 bt394.1 bt402.1 bt410.1 bt414.1 bt418.1 bt426.1 bt430.1 bt434.1 true) else (if (bt418.2 != bt422.2) = true then (laws_FnFilesSortedOfAll.j0 k l0 bt386.1 bt386.2 bt394.1 bt402.1 bt410.1 bt414.1 bt418.1 bt426.1 bt430.1 bt434.1 true) else ((laws_vRows.f k bt418.1 bt422.1).bind fun t445 => (if t445 = true then (if (bt426.2 != bt428.2) = true then (laws_FnFilesSortedOfAll.j0 k l0 bt386.1 bt386.2 bt394.1 bt402.1 bt410.1 bt414.1 bt418.1 bt426.1 bt430.1 bt434.1 true) else (if bt426.1 = bt428.1 then (if (bt430.2 != bt432.2) = true then (laws_FnFilesSortedOfAll.j0 k l0 bt386.1 bt386.2 bt394.1 bt402.1 bt410.1 bt414.1 bt418.1 bt426.1 bt430.1 bt434.1 true) else (if bt430.1 = bt432.1 then (if (bt434.2 != bt438.2) = true then (laws_FnFilesSortedOfAll.j0 k l0 bt386.1 bt386.2 bt394.1 bt402.1 bt410.1 bt414.1 bt418.1 bt426.1 bt430.1 bt434.1 true) else ((laws_vRows.f k bt434.1 bt438.1).bind fun t446 => (if t446 = true then ((impl_AreFiles.f l0).bind fun t447 => (if (bt386.2 != t447) = true then (laws_FnFilesSortedOfAll.j0 k l0 bt386.1 bt386.2 bt394.1 bt402.1 bt410.1 bt414.1 bt418.1 bt426.1 bt430.1 bt434.1 true) else ((impl_AreFiles.f l0).bind fun t448 => ((spec_AreFiles.f k l0).bind fun t449 => (if (t448 != t449) = true then (laws_FnFilesSortedOfAll.j0 k l0 bt386.1 bt386.2 bt394.1 bt402.1 bt410.1 bt414.1 bt418.1 bt426.1 bt430.1 bt434.1 true) else (if (bt394.2 != bt386.2) = true then (laws_FnFilesSortedOfAll.j0 k l0 bt386.1 bt386.2 bt394.1 bt402.1 bt410.1 bt414.1 bt418.1 bt426.1 bt430.1 bt434.1 true) else (if (bt402.2 != bt386.2) = true then (laws_FnFilesSortedOfAll.j0 k l0 bt386.1 bt386.2 bt394.1 bt402.1 bt410.1 bt414.1 bt418.1 bt426.1 bt430.1 bt434.1 true) else (if (bt410.2 != bt386.2) = true then (laws_FnFilesSortedOfAll.j0 k l0 bt386.1 bt386.2 bt394.1 bt402.1 bt410.1 bt414.1 bt418.1 bt426.1 bt430.1 bt434.1 true) else (if (bt414.2 != bt386.2) = true then (laws_FnFilesSortedOfAll.j0 k l0 bt386.1 bt386.2 bt394.1 bt402.1 bt410.1 bt414.1 bt418.1 bt426.1 bt430.1 bt434.1 true) else (if (bt418.2 != bt386.2) = true then (laws_FnFilesSortedOfAll.j0 k l0 bt386.1 bt386.2 bt394.1 bt402.1 bt410.1 bt414.1 bt418.1 bt426.1 bt430.1 bt434.1 true) else (if (bt426.2 != bt386.2) = true then (laws_FnFilesSortedOfAll.j0 k l0 bt386.1 bt386.2 bt394.1 bt402.1 bt410.1 bt414.1 bt418.1 bt426.1 bt430.1 bt434.1 true) else (if (bt430.2 != bt386.2) = true then (laws_FnFilesSortedOfAll.j0 k l0 bt386.1 bt386.2 bt394.1 bt402.1 bt410.1 bt414.1 bt418.1 bt426.1 bt430.1 bt434.1 true) else (laws_FnFilesSortedOfAll.j0 k l0 bt386.1 bt386.2 bt394.1 bt402.1 bt410.1 bt414.1 bt418.1 bt426.1 bt430.1 bt434.1 (bt434.2 != bt386.2)))))))))))))) else (laws_FnFilesSortedOfAll.j0 k l0 bt386.1 bt386.2 bt394.1 bt402.1 bt410.1 bt414.1 bt418.1 bt426.1 bt430.1 bt434.1 true)))) else (laws_FnFilesSortedOfAll.j0 k l0 bt386.1 bt386.2 bt394.1 bt402.1 bt410.1 bt414.1 bt418.1 bt426.1 bt430.1 bt434.1 true))) else (laws_FnFilesSortedOfAll.j0 k l0 bt386.1 bt386.2 bt394.1 bt402.1 bt410.1 bt414.1 bt418.1 bt426.1 bt430.1 bt434.1 true))) else (laws_FnFilesSortedOfAll.j0 k l0 bt386.1 bt386.2 bt394.1 bt402.1 bt410.1 bt414.1 bt418.1 bt426.1 bt430.1 bt434.1 true)))))))) else (laws_FnFilesSortedOfAll.j0 k l0 bt386.1 bt386.2 bt394.1 bt402.1 bt410.1 bt414.1 bt418.1 bt426.1 bt430.1 bt434.1 true)))) else (laws_FnFilesSortedOfAll.j0 k l0 bt386.1 bt386.2 bt394.1 bt402.1 bt410.1 bt414.1 bt418.1 bt426.1 bt430.1 bt434.1 true)))) else (laws_FnFilesSortedOfAll.j0 k l0 bt386.1 bt386.2 bt394.1 bt402.1 bt410.1 bt414.1 bt418.1 bt426.1 bt430.1 bt434.1 true))))))))))))))))))))))
theorem laws_FnFilesSortedOfAll.mono_l : ∀ k, (∀ y0 y1 y2 y3 y4 y5 y6 y7 y8 y9 y10 y11, LeO (laws_FnFilesSortedOfAll.j0 k y0 y1 y2 y3 y4 y5 y6 y7 y8 y9 y10 y11) (laws_FnFilesSortedOfAll.j0 (k + 1) y0 y1 y2 y3 y4 y5 y6 y7 y8 y9 y10 y11)) ∧ (∀ y0 y1 y2 y3 y4 y5 y6 y7, LeO (laws_FnFilesSortedOfAll.j1 k y0 y1 y2 y3 y4 y5 y6 y7) (laws_FnFilesSortedOfAll.j1 (k + 1) y0 y1 y2 y3 y4 y5 y6 y7)) ∧ (∀ y0 y1 y2 y3 y4 y5 y6 y7 y8 y9, LeO (laws_FnFilesSortedOfAll.l0 k y0 y1 y2 y3 y4 y5 y6 y7 y8 y9) (laws_FnFilesSortedOfAll.l0 (k + 1) y0 y1 y2 y3 y4 y5 y6 y7 y8 y9))
  | 0 => ⟨fun _ _ _ _ _ _ _ _ _ _ _ _ r h => by simp [laws_FnFilesSortedOfAll.j0] at h, fun _ _ _ _ _ _ _ _ r h => by simp [laws_FnFilesSortedOfAll.j1] at h, fun _ _ _ _ _ _ _ _ _ _ r h => by simp [laws_FnFilesSortedOfAll.l0] at h⟩
  | k + 1 => by
    obtain ⟨ih0, ih1, ih2⟩ := laws_FnFilesSortedOfAll.mono_l k
    refine ⟨?_, ?_, ?_⟩
    · intro y0 y1 y2 y3 y4 y5 y6 y7 y8 y9 y10 y11
      unfold laws_FnFilesSortedOfAll.j0
      repeat' first
      | (with_reducible exact ih0 _ _ _ _ _ _ _ _ _ _ _ _)
      | (with_reducible exact ih1 _ _ _ _ _ _ _ _)
      | (with_reducible exact ih2 _ _ _ _ _ _ _ _ _ _)
      | (with_reducible exact impl_AreColumnsSorted.mono _ _)
      | (with_reducible exact impl_AreRowsSorted.mono _ _)
      | (with_reducible exact impl_FileDisorder.mono _ _)
      | (with_reducible exact impl_SaddlePlaces.mono _ _)
      | (with_reducible exact impl_ShortestOfTallest.mono _ _)
      | (with_reducible exact impl_SortBoth.mono _ _)
      | (with_reducible exact impl_SortFileColumns.mono _ _)
      | (with_reducible exact impl_SortFileRows.mono _ _)
      | (with_reducible exact impl_TallestOfShortest.mono _ _)
      | (with_reducible exact impl_TurnFiles.mono _ _)
      | (with_reducible exact laws_vRows.mono _ _ _)
      | (with_reducible exact spec_AreColumnsSorted.mono _ _)
      | (with_reducible exact spec_AreFiles.mono _ _)
      | (with_reducible exact spec_AreRowsSorted.mono _ _)
      | (with_reducible exact spec_SaddlePlaces.mono _ _)
      | (with_reducible exact spec_ShortestOfTallest.mono _ _)
      | (with_reducible exact spec_SortBoth.mono _ _)
      | (with_reducible exact spec_SortFileColumns.mono _ _)
      | (with_reducible exact spec_SortFileRows.mono _ _)
      | (with_reducible exact spec_TallestOfShortest.mono _ _)
      | (with_reducible exact spec_TurnFiles.mono _ _)
      | (with_reducible exact LeO.refl _)
      | (with_reducible exact LeO.none _)
      | (with_reducible refine LeO.ite ?_ ?_)
      | (with_reducible refine LeO.bind ?_ (fun _ => ?_))
      | exact ih0 _ _ _ _ _ _ _ _ _ _ _ _
      | exact ih1 _ _ _ _ _ _ _ _
      | exact ih2 _ _ _ _ _ _ _ _ _ _
      | exact impl_AreColumnsSorted.mono _ _
      | exact impl_AreRowsSorted.mono _ _
      | exact impl_FileDisorder.mono _ _
      | exact impl_SaddlePlaces.mono _ _
      | exact impl_ShortestOfTallest.mono _ _
      | exact impl_SortBoth.mono _ _
      | exact impl_SortFileColumns.mono _ _
      | exact impl_SortFileRows.mono _ _
      | exact impl_TallestOfShortest.mono _ _
      | exact impl_TurnFiles.mono _ _
      | exact laws_vRows.mono _ _ _
      | exact spec_AreColumnsSorted.mono _ _
      | exact spec_AreFiles.mono _ _
      | exact spec_AreRowsSorted.mono _ _
      | exact spec_SaddlePlaces.mono _ _
      | exact spec_ShortestOfTallest.mono _ _
      | exact spec_SortBoth.mono _ _
      | exact spec_SortFileColumns.mono _ _
      | exact spec_SortFileRows.mono _ _
      | exact spec_TallestOfShortest.mono _ _
      | exact spec_TurnFiles.mono _ _
      | exact LeO.none _
      | refine LeO.ite ?_ ?_
      | refine LeO.bind ?_ (fun _ => ?_)
    · intro y0 y1 y2 y3 y4 y5 y6 y7
      unfold laws_FnFilesSortedOfAll.j1
      repeat' first
      | (with_reducible exact ih0 _ _ _ _ _ _ _ _ _ _ _ _)
      | (with_reducible exact ih1 _ _ _ _ _ _ _ _)
      | (with_reducible exact ih2 _ _ _ _ _ _ _ _ _ _)
      | (with_reducible exact impl_AreColumnsSorted.mono _ _)
      | (with_reducible exact impl_AreRowsSorted.mono _ _)
      | (with_reducible exact impl_FileDisorder.mono _ _)
      | (with_reducible exact impl_SaddlePlaces.mono _ _)
      | (with_reducible exact impl_ShortestOfTallest.mono _ _)
      | (with_reducible exact impl_SortBoth.mono _ _)
      | (with_reducible exact impl_SortFileColumns.mono _ _)
      | (with_reducible exact impl_SortFileRows.mono _ _)
      | (with_reducible exact impl_TallestOfShortest.mono _ _)
      | (with_reducible exact impl_TurnFiles.mono _ _)
      | (with_reducible exact laws_vRows.mono _ _ _)
      | (with_reducible exact spec_AreColumnsSorted.mono _ _)
      | (with_reducible exact spec_AreFiles.mono _ _)
      | (with_reducible exact spec_AreRowsSorted.mono _ _)
      | (with_reducible exact spec_SaddlePlaces.mono _ _)
      | (with_reducible exact spec_ShortestOfTallest.mono _ _)
      | (with_reducible exact spec_SortBoth.mono _ _)
      | (with_reducible exact spec_SortFileColumns.mono _ _)
      | (with_reducible exact spec_SortFileRows.mono _ _)
      | (with_reducible exact spec_TallestOfShortest.mono _ _)
      | (with_reducible exact spec_TurnFiles.mono _ _)
      | (with_reducible exact LeO.refl _)
      | (with_reducible exact LeO.none _)
      | (with_reducible refine LeO.ite ?_ ?_)
      | (with_reducible refine LeO.bind ?_ (fun _ => ?_))
      | exact ih0 _ _ _ _ _ _ _ _ _ _ _ _
      | exact ih1 _ _ _ _ _ _ _ _
      | exact ih2 _ _ _ _ _ _ _ _ _ _
      | exact impl_AreColumnsSorted.mono _ _
      | exact impl_AreRowsSorted.mono _ _
      | exact impl_FileDisorder.mono _ _
      | exact impl_SaddlePlaces.mono _ _
      | exact impl_ShortestOfTallest.mono _ _
      | exact impl_SortBoth.mono _ _
      | exact impl_SortFileColumns.mono _ _
      | exact impl_SortFileRows.mono _ _
      | exact impl_TallestOfShortest.mono _ _
      | exact impl_TurnFiles.mono _ _
      | exact laws_vRows.mono _ _ _
      | exact spec_AreColumnsSorted.mono _ _
      | exact spec_AreFiles.mono _ _
      | exact spec_AreRowsSorted.mono _ _
      | exact spec_SaddlePlaces.mono _ _
      | exact spec_ShortestOfTallest.mono _ _
      | exact spec_SortBoth.mono _ _
      | exact spec_SortFileColumns.mono _ _
      | exact spec_SortFileRows.mono _ _
      | exact spec_TallestOfShortest.mono _ _
      | exact spec_TurnFiles.mono _ _
      | exact LeO.none _
      | refine LeO.ite ?_ ?_
      | refine LeO.bind ?_ (fun _ => ?_)
    · intro y0 y1 y2 y3 y4 y5 y6 y7 y8 y9
      unfold laws_FnFilesSortedOfAll.l0
      repeat' first
      | (with_reducible exact ih0 _ _ _ _ _ _ _ _ _ _ _ _)
      | (with_reducible exact ih1 _ _ _ _ _ _ _ _)
      | (with_reducible exact ih2 _ _ _ _ _ _ _ _ _ _)
      | (with_reducible exact impl_AreColumnsSorted.mono _ _)
      | (with_reducible exact impl_AreRowsSorted.mono _ _)
      | (with_reducible exact impl_FileDisorder.mono _ _)
      | (with_reducible exact impl_SaddlePlaces.mono _ _)
      | (with_reducible exact impl_ShortestOfTallest.mono _ _)
      | (with_reducible exact impl_SortBoth.mono _ _)
      | (with_reducible exact impl_SortFileColumns.mono _ _)
      | (with_reducible exact impl_SortFileRows.mono _ _)
      | (with_reducible exact impl_TallestOfShortest.mono _ _)
      | (with_reducible exact impl_TurnFiles.mono _ _)
      | (with_reducible exact laws_vRows.mono _ _ _)
      | (with_reducible exact spec_AreColumnsSorted.mono _ _)
      | (with_reducible exact spec_AreFiles.mono _ _)
      | (with_reducible exact spec_AreRowsSorted.mono _ _)
      | (with_reducible exact spec_SaddlePlaces.mono _ _)
      | (with_reducible exact spec_ShortestOfTallest.mono _ _)
      | (with_reducible exact spec_SortBoth.mono _ _)
      | (with_reducible exact spec_SortFileColumns.mono _ _)
      | (with_reducible exact spec_SortFileRows.mono _ _)
      | (with_reducible exact spec_TallestOfShortest.mono _ _)
      | (with_reducible exact spec_TurnFiles.mono _ _)
      | (with_reducible exact LeO.refl _)
      | (with_reducible exact LeO.none _)
      | (with_reducible refine LeO.ite ?_ ?_)
      | (with_reducible refine LeO.bind ?_ (fun _ => ?_))
      | exact ih0 _ _ _ _ _ _ _ _ _ _ _ _
      | exact ih1 _ _ _ _ _ _ _ _
      | exact ih2 _ _ _ _ _ _ _ _ _ _
      | exact impl_AreColumnsSorted.mono _ _
      | exact impl_AreRowsSorted.mono _ _
      | exact impl_FileDisorder.mono _ _
      | exact impl_SaddlePlaces.mono _ _
      | exact impl_ShortestOfTallest.mono _ _
      | exact impl_SortBoth.mono _ _
      | exact impl_SortFileColumns.mono _ _
      | exact impl_SortFileRows.mono _ _
      | exact impl_TallestOfShortest.mono _ _
      | exact impl_TurnFiles.mono _ _
      | exact laws_vRows.mono _ _ _
      | exact spec_AreColumnsSorted.mono _ _
      | exact spec_AreFiles.mono _ _
      | exact spec_AreRowsSorted.mono _ _
      | exact spec_SaddlePlaces.mono _ _
      | exact spec_ShortestOfTallest.mono _ _
      | exact spec_SortBoth.mono _ _
      | exact spec_SortFileColumns.mono _ _
      | exact spec_SortFileRows.mono _ _
      | exact spec_TallestOfShortest.mono _ _
      | exact spec_TurnFiles.mono _ _
      | exact LeO.none _
      | refine LeO.ite ?_ ?_
      | refine LeO.bind ?_ (fun _ => ?_)
theorem laws_FnFilesSortedOfAll.mono : ∀ a0 k, LeO (laws_FnFilesSortedOfAll.f k a0) (laws_FnFilesSortedOfAll.f (k + 1) a0) := by
  intro a0 k
  obtain ⟨ih0, ih1, ih2⟩ := laws_FnFilesSortedOfAll.mono_l k
  unfold laws_FnFilesSortedOfAll.f
  repeat' first
      | (with_reducible exact ih0 _ _ _ _ _ _ _ _ _ _ _ _)
      | (with_reducible exact ih1 _ _ _ _ _ _ _ _)
      | (with_reducible exact ih2 _ _ _ _ _ _ _ _ _ _)
      | (with_reducible exact impl_AreColumnsSorted.mono _ _)
      | (with_reducible exact impl_AreRowsSorted.mono _ _)
      | (with_reducible exact impl_FileDisorder.mono _ _)
      | (with_reducible exact impl_SaddlePlaces.mono _ _)
      | (with_reducible exact impl_ShortestOfTallest.mono _ _)
      | (with_reducible exact impl_SortBoth.mono _ _)
      | (with_reducible exact impl_SortFileColumns.mono _ _)
      | (with_reducible exact impl_SortFileRows.mono _ _)
      | (with_reducible exact impl_TallestOfShortest.mono _ _)
      | (with_reducible exact impl_TurnFiles.mono _ _)
      | (with_reducible exact laws_vRows.mono _ _ _)
      | (with_reducible exact spec_AreColumnsSorted.mono _ _)
      | (with_reducible exact spec_AreFiles.mono _ _)
      | (with_reducible exact spec_AreRowsSorted.mono _ _)
      | (with_reducible exact spec_SaddlePlaces.mono _ _)
      | (with_reducible exact spec_ShortestOfTallest.mono _ _)
      | (with_reducible exact spec_SortBoth.mono _ _)
      | (with_reducible exact spec_SortFileColumns.mono _ _)
      | (with_reducible exact spec_SortFileRows.mono _ _)
      | (with_reducible exact spec_TallestOfShortest.mono _ _)
      | (with_reducible exact spec_TurnFiles.mono _ _)
      | (with_reducible exact LeO.refl _)
      | (with_reducible exact LeO.none _)
      | (with_reducible refine LeO.ite ?_ ?_)
      | (with_reducible refine LeO.bind ?_ (fun _ => ?_))
      | exact ih0 _ _ _ _ _ _ _ _ _ _ _ _
      | exact ih1 _ _ _ _ _ _ _ _
      | exact ih2 _ _ _ _ _ _ _ _ _ _
      | exact impl_AreColumnsSorted.mono _ _
      | exact impl_AreRowsSorted.mono _ _
      | exact impl_FileDisorder.mono _ _
      | exact impl_SaddlePlaces.mono _ _
      | exact impl_ShortestOfTallest.mono _ _
      | exact impl_SortBoth.mono _ _
      | exact impl_SortFileColumns.mono _ _
      | exact impl_SortFileRows.mono _ _
      | exact impl_TallestOfShortest.mono _ _
      | exact impl_TurnFiles.mono _ _
      | exact laws_vRows.mono _ _ _
      | exact spec_AreColumnsSorted.mono _ _
      | exact spec_AreFiles.mono _ _
      | exact spec_AreRowsSorted.mono _ _
      | exact spec_SaddlePlaces.mono _ _
      | exact spec_ShortestOfTallest.mono _ _
      | exact spec_SortBoth.mono _ _
      | exact spec_SortFileColumns.mono _ _
      | exact spec_SortFileRows.mono _ _
      | exact spec_TallestOfShortest.mono _ _
      | exact spec_TurnFiles.mono _ _
      | exact LeO.none _
      | refine LeO.ite ?_ ?_
      | refine LeO.bind ?_ (fun _ => ?_)
theorem laws_FnFilesSortedOfAll.j0_false {k : Nat} {x0 x1 x2 x3 x4 x5 x6 x7 x8 x9 x10} {r : Bool} (h : laws_FnFilesSortedOfAll.j0 k x0 x1 x2 x3 x4 x5 x6 x7 x8 x9 x10 true = some r) : r = false := by
  cases k with
  | zero => simp [laws_FnFilesSortedOfAll.j0] at h
  | succ k => simp only [laws_FnFilesSortedOfAll.j0, if_true, Option.some.injEq] at h; exact h.symm
theorem laws_FnFilesSortedOfAll.j1_false {k : Nat} {x0 x1 x2 x3 x4 x5 x6} {r : Bool} (h : laws_FnFilesSortedOfAll.j1 k x0 x1 x2 x3 x4 x5 x6 true = some r) : r = false := by
  cases k with
  | zero => simp [laws_FnFilesSortedOfAll.j1] at h
  | succ k => simp only [laws_FnFilesSortedOfAll.j1, if_true, Option.some.injEq] at h; exact h.symm
set_option maxHeartbeats 8000000 in
set_option maxRecDepth 100000 in
theorem laws_FnFilesSortedOfAll.calls (k : Nat) (A0 : Option Addr) (c0 : Nat) (l0 : List (List Int)) (r : Bool) (w : World) (hr0 : Kd.C (Kd.slice 3 (Kd.int .i64)) w A0 l0.length l0) (hc0 : l0.length ≤ c0) (h : r = true ∧ laws_FnFilesSortedOfAll.f k l0 = some r) :
    Calls Try.prog 3 #[.slice A0 l0.length c0] w fun e w' => e = .returned (.bool r) ∧ Below w.heap.size w w' := by
  obtain ⟨hrt, h⟩ := h
  have HR0 := Aside0.mk hr0
  have HC0 := Aside0.mk hc0
  clear hr0 hc0
  have HB := Aside0.mk (Below.refl w.heap.size w)
  have H : (if (l0.length : Int) > 10000 then (some true) else ((impl_SortBoth.f k l0).bind fun bt386 => ((spec_SortBoth.f k l0).bind fun bt390 => ((impl_SortFileRows.f k l0).bind fun bt394 => ((spec_SortFileRows.f k l0).bind fun bt398 => ((impl_SortFileColumns.f k l0).bind fun bt402 => ((spec_SortFileColumns.f k l0).bind fun bt406 => ((impl_AreRowsSorted.f k l0).bind fun bt410 => ((spec_AreRowsSorted.f k l0).bind fun bt412 => ((impl_AreColumnsSorted.f k l0).bind fun bt414 => ((spec_AreColumnsSorted.f k l0).bind fun bt416 => ((impl_TurnFiles.f k l0).bind fun bt418 => ((spec_TurnFiles.f k l0).bind fun bt422 => ((impl_TallestOfShortest.f k l0).bind fun bt426 => ((spec_TallestOfShortest.f k l0).bind fun bt428 => ((impl_ShortestOfTallest.f k l0).bind fun bt430 => ((spec_ShortestOfTallest.f k l0).bind fun bt432 => ((impl_SaddlePlaces.f k l0).bind fun bt434 => ((spec_SaddlePlaces.f k l0).bind fun bt438 => (if (bt386.2 != bt390.2) = true then (laws_FnFilesSortedOfAll.j0 k l0 bt386.1 bt386.2 bt394.1 bt402.1 bt410.1 bt414.1 bt418.1 bt426.1 bt430.1 bt434.1 true) else ((laws_vRows.f k bt386.1 bt390.1).bind fun t442 => (if t442 = true then (if (bt394.2 != bt398.2) = true then (laws_FnFilesSortedOfAll.j0 k l0 bt386.1 bt386.2 bt394.1 bt402.1 bt410.1 bt414.1 bt418.1 bt426.1 bt430.1 bt434.1 true) else ((laws_vRows.f k bt394.1 bt398.1).bind fun t443 => (if t443 = true then (if (bt402.2 != bt406.2) = true then (laws_FnFilesSortedOfAll.j0 k l0 bt386.1 bt386.2 bt394.1 bt402.1 bt410.1 bt414.1 bt418.1 bt426.1 bt430.1 bt434.1 true) else ((laws_vRows.f k bt402.1 bt406.1).bind fun t444 => (if t444 = true then (if (bt410.2 != bt412.2) = true then (laws_FnFilesSortedOfAll.j0 k l0 bt386.1 bt386.2 bt394.1 bt402.1 bt410.1 bt414.1 bt418.1 bt426.1 bt430.1 bt434.1 true) else (if (bt410.1 != bt412.1) = true then (laws_FnFilesSortedOfAll.j0 k l0 bt386.1 bt386.2 bt394.1 bt402.1 bt410.1 bt414.1 bt418.1 bt426.1 bt430.1 bt434.1 true) else (if (bt414.2 != bt416.2) = true then (laws_FnFilesSortedOfAll.j0 k l0 bt386.1 bt386.2 bt394.1 bt402.1 bt410.1 bt414.1 bt418.1 bt426.1 bt430.1 bt434.1 true) else (if (bt414.1 != bt416.1) = true then (laws_FnFilesSortedOfAll.j0 k l0 bt386.1 bt386.2 bt394.1 bt402.1 bt410.1 bt414.1 bt418.1 bt426.1 bt430.1 bt434.1 true) else (if (bt418.2 != bt422.2) = true then (laws_FnFilesSortedOfAll.j0 k l0 bt386.1 bt386.2 bt394.1 bt402.1 bt410.1 bt414.1 bt418.1 bt426.1 bt430.1 bt434.1 true) else ((laws_vRows.f k bt418.1 bt422.1).bind fun t445 => (if t445 = true then (if (bt426.2 != bt428.2) = true then (laws_FnFilesSortedOfAll.j0 k l0 bt386.1 bt386.2 bt394.1 bt402.1 bt410.1 bt414.1 bt418.1 bt426.1 bt430.1 bt434.1 true) else (if bt426.1 = bt428.1 then (if (bt430.2 != bt432.2) = true then (laws_FnFilesSortedOfAll.j0 k l0 bt386.1 bt386.2 bt394.1 bt402.1 bt410.1 bt414.1 bt418.1 bt426.1 bt430.1 bt434.1 true) else (if bt430.1 = bt432.1 then (if (bt434.2 != bt438.2) = true then (laws_FnFilesSortedOfAll.j0 k l0 bt386.1 bt386.2 bt394.1 bt402.1 bt410.1 bt414.1 bt418.1 bt426.1 bt430.1 bt434.1 true) else ((laws_vRows.f k bt434.1 bt438.1).bind fun t446 => (if t446 = true then ((impl_AreFiles.f l0).bind fun t447 => (if (bt386.2 != t447) = true then (laws_FnFilesSortedOfAll.j0 k l0 bt386.1 bt386.2 bt394.1 bt402.1 bt410.1 bt414.1 bt418.1 bt426.1 bt430.1 bt434.1 true) else ((impl_AreFiles.f l0).bind fun t448 => ((spec_AreFiles.f k l0).bind fun t449 => (if (t448 != t449) = true then (laws_FnFilesSortedOfAll.j0 k l0 bt386.1 bt386.2 bt394.1 bt402.1 bt410.1 bt414.1 bt418.1 bt426.1 bt430.1 bt434.1 true) else (if (bt394.2 != bt386.2) = true then (laws_FnFilesSortedOfAll.j0 k l0 bt386.1 bt386.2 bt394.1 bt402.1 bt410.1 bt414.1 bt418.1 bt426.1 bt430.1 bt434.1 true) else (if (bt402.2 != bt386.2) = true then (laws_FnFilesSortedOfAll.j0 k l0 bt386.1 bt386.2 bt394.1 bt402.1 bt410.1 bt414.1 bt418.1 bt426.1 bt430.1 bt434.1 true) else (if (bt410.2 != bt386.2) = true then (laws_FnFilesSortedOfAll.j0 k l0 bt386.1 bt386.2 bt394.1 bt402.1 bt410.1 bt414.1 bt418.1 bt426.1 bt430.1 bt434.1 true) else (if (bt414.2 != bt386.2) = true then (laws_FnFilesSortedOfAll.j0 k l0 bt386.1 bt386.2 bt394.1 bt402.1 bt410.1 bt414.1 bt418.1 bt426.1 bt430.1 bt434.1 true) else (if (bt418.2 != bt386.2) = true then (laws_FnFilesSortedOfAll.j0 k l0 bt386.1 bt386.2 bt394.1 bt402.1 bt410.1 bt414.1 bt418.1 bt426.1 bt430.1 bt434.1 true) else (if (bt426.2 != bt386.2) = true then (laws_FnFilesSortedOfAll.j0 k l0 bt386.1 bt386.2 bt394.1 bt402.1 bt410.1 bt414.1 bt418.1 bt426.1 bt430.1 bt434.1 true) else (if (bt430.2 != bt386.2) = true then (laws_FnFilesSortedOfAll.j0 k l0 bt386.1 bt386.2 bt394.1 bt402.1 bt410.1 bt414.1 bt418.1 bt426.1 bt430.1 bt434.1 true) else (laws_FnFilesSortedOfAll.j0 k l0 bt386.1 bt386.2 bt394.1 bt402.1 bt410.1 bt414.1 bt418.1 bt426.1 bt430.1 bt434.1 (bt434.2 != bt386.2)))))))))))))) else (laws_FnFilesSortedOfAll.j0 k l0 bt386.1 bt386.2 bt394.1 bt402.1 bt410.1 bt414.1 bt418.1 bt426.1 bt430.1 bt434.1 true)))) else (laws_FnFilesSortedOfAll.j0 k l0 bt386.1 bt386.2 bt394.1 bt402.1 bt410.1 bt414.1 bt418.1 bt426.1 bt430.1 bt434.1 true))) else (laws_FnFilesSortedOfAll.j0 k l0 bt386.1 bt386.2 bt394.1 bt402.1 bt410.1 bt414.1 bt418.1 bt426.1 bt430.1 bt434.1 true))) else (laws_FnFilesSortedOfAll.j0 k l0 bt386.1 bt386.2 bt394.1 bt402.1 bt410.1 bt414.1 bt418.1 bt426.1 bt430.1 bt434.1 true)))))))) else (laws_FnFilesSortedOfAll.j0 k l0 bt386.1 bt386.2 bt394.1 bt402.1 bt410.1 bt414.1 bt418.1 bt426.1 bt430.1 bt434.1 true)))) else (laws_FnFilesSortedOfAll.j0 k l0 bt386.1 bt386.2 bt394.1 bt402.1 bt410.1 bt414.1 bt418.1 bt426.1 bt430.1 bt434.1 true)))) else (laws_FnFilesSortedOfAll.j0 k l0 bt386.1 bt386.2 bt394.1 bt402.1 bt410.1 bt414.1 bt418.1 bt426.1 bt430.1 bt434.1 true))))))))))))))))))))))) = some r := h
  clear h
  by_cases c2 : (l0.length : Int) > 10000
  · rw [if_pos c2] at H
    have c2b0 : decide (10000 < (l0.length : Int)) = true := decide_eq_true c2
    have c2b1 : decide (10000 < l0.length) = true := decide_eq_true (by omega)
    clear c2
    obtain rfl := Option.some.inj H
    clear hrt
    go_enter Try.func3, Try.ntmps3
    go_wp2
    repeat (go_quiet (fail); try go_wp2)
    go_ret
    exact ⟨by first | rfl | (simp [errW_none, errW_some] <;> rfl) | (simp [*, errW_none, errW_some] <;> rfl), by repeat (first | (with_reducible first | exact HB.out | apply below_alloc | apply pw_below_drewN | apply below_drew1) | exact HB.out)⟩
  · rw [if_neg c2] at H
    have c2b0 : decide (10000 < (l0.length : Int)) = false := decide_eq_false c2
    have c2b1 : decide (10000 < l0.length) = false := decide_eq_false (by omega)
    clear c2
    replace H := Option.bind_eq_some_iff.mp H
    obtain ⟨⟨t386, t387⟩, A30, H⟩ := H
    (try dsimp only at H)
    have A3 := Aside0.mk A30
    clear A30
    replace H := Option.bind_eq_some_iff.mp H
    obtain ⟨⟨t390, t391⟩, A40, H⟩ := H
    (try dsimp only at H)
    have A4 := Aside0.mk A40
    clear A40
    replace H := Option.bind_eq_some_iff.mp H
    obtain ⟨⟨t394, t395⟩, A50, H⟩ := H
    (try dsimp only at H)
    have A5 := Aside0.mk A50
    clear A50
    replace H := Option.bind_eq_some_iff.mp H
    obtain ⟨⟨t398, t399⟩, A60, H⟩ := H
    (try dsimp only at H)
    have A6 := Aside0.mk A60
    clear A60
    replace H := Option.bind_eq_some_iff.mp H
    obtain ⟨⟨t402, t403⟩, A70, H⟩ := H
    (try dsimp only at H)
    have A7 := Aside0.mk A70
    clear A70
    replace H := Option.bind_eq_some_iff.mp H
    obtain ⟨⟨t406, t407⟩, A80, H⟩ := H
    (try dsimp only at H)
    have A8 := Aside0.mk A80
    clear A80
    replace H := Option.bind_eq_some_iff.mp H
    obtain ⟨⟨t410, t411⟩, A90, H⟩ := H
    (try dsimp only at H)
    have A9 := Aside0.mk A90
    clear A90
    replace H := Option.bind_eq_some_iff.mp H
    obtain ⟨⟨t412, t413⟩, A100, H⟩ := H
    (try dsimp only at H)
    have A10 := Aside0.mk A100
    clear A100
    replace H := Option.bind_eq_some_iff.mp H
    obtain ⟨⟨t414, t415⟩, A110, H⟩ := H
    (try dsimp only at H)
    have A11 := Aside0.mk A110
    clear A110
    replace H := Option.bind_eq_some_iff.mp H
    obtain ⟨⟨t416, t417⟩, A120, H⟩ := H
    (try dsimp only at H)
    have A12 := Aside0.mk A120
    clear A120
    replace H := Option.bind_eq_some_iff.mp H
    obtain ⟨⟨t418, t419⟩, A130, H⟩ := H
    (try dsimp only at H)
    have A13 := Aside0.mk A130
    clear A130
    replace H := Option.bind_eq_some_iff.mp H
    obtain ⟨⟨t422, t423⟩, A140, H⟩ := H
    (try dsimp only at H)
    have A14 := Aside0.mk A140
    clear A140
    replace H := Option.bind_eq_some_iff.mp H
    obtain ⟨⟨t426, t427⟩, A150, H⟩ := H
    (try dsimp only at H)
    have A15 := Aside0.mk A150
    clear A150
    replace H := Option.bind_eq_some_iff.mp H
    obtain ⟨⟨t428, t429⟩, A160, H⟩ := H
    (try dsimp only at H)
    have A16 := Aside0.mk A160
    clear A160
    replace H := Option.bind_eq_some_iff.mp H
    obtain ⟨⟨t430, t431⟩, A170, H⟩ := H
    (try dsimp only at H)
    have A17 := Aside0.mk A170
    clear A170
    replace H := Option.bind_eq_some_iff.mp H
    obtain ⟨⟨t432, t433⟩, A180, H⟩ := H
    (try dsimp only at H)
    have A18 := Aside0.mk A180
    clear A180
    replace H := Option.bind_eq_some_iff.mp H
    obtain ⟨⟨t434, t435⟩, A190, H⟩ := H
    (try dsimp only at H)
    have A19 := Aside0.mk A190
    clear A190
    replace H := Option.bind_eq_some_iff.mp H
    obtain ⟨⟨t438, t439⟩, A200, H⟩ := H
    (try dsimp only at H)
    have A20 := Aside0.mk A200
    clear A200
    have HC21 := Aside0.mk H
    clear H
    go_enter Try.func3, Try.ntmps3
    go_upto_region 21 with (first | (go_at_call 4; (with_reducible refine (impl_SortBoth.calls k _ _ l0 t386 t387 _ ?side1 ?side2 A3.out).mono ?_); (case side1 => repeat (first | exact HR0.out | (with_reducible refine Kd.C_alloc ?_ _) | (with_reducible refine Kd.C_drewN ?_ _) | (with_reducible refine Kd.C_drew ?_))); (case side2 => exact HC0.out); rintro e w22 ⟨v388, rfl, ho0, hb⟩; have n0_ := Aside0.mk (Kd.S_lower ho0 (below_size (by repeat (first | (with_reducible first | exact HB.out | apply below_alloc | apply pw_below_drewN | apply below_drew1) | exact HB.out)))); have n1_ := Aside0.mk (below_step (by repeat (first | (with_reducible first | exact HB.out | apply below_alloc | apply pw_below_drewN | apply below_drew1) | exact HB.out)) hb); clear HB; have HO389 := n0_; have HB := n1_; clear n0_ n1_; (try clear hb); (try clear hb2); (try clear hk); (try clear hi); (try clear ho0)) | (go_at_call 5; (with_reducible refine (spec_SortBoth.calls k _ _ l0 t390 t391 _ ?side1 ?side2 A4.out).mono ?_); (case side1 => repeat (first | exact (Kd.C_below HR0.out HB.out) | (with_reducible refine Kd.C_alloc ?_ _) | (with_reducible refine Kd.C_drewN ?_ _) | (with_reducible refine Kd.C_drew ?_))); (case side2 => exact HC0.out); rintro e w23 ⟨v392, rfl, ho0, hb⟩; have n0_ := Aside0.mk (Kd.S_elder' (by (with_reducible repeat (first | apply Kd.S_alloc | apply Kd.S_drewN | apply Kd.S_drew)); exact HO389.out) (Kd.S_base ho0) hb); have n1_ := Aside0.mk (Kd.S_lower (Kd.S_new' ho0 (Kd.S_lt (by (with_reducible repeat (first | apply Kd.S_alloc | apply Kd.S_drewN | apply Kd.S_drew)); exact HO389.out))) (below_size (by repeat (first | (with_reducible first | exact HB.out | apply below_alloc | apply pw_below_drewN | apply below_drew1) | exact HB.out)))); have n2_ := Aside0.mk (below_step (by repeat (first | (with_reducible first | exact HB.out | apply below_alloc | apply pw_below_drewN | apply below_drew1) | exact HB.out)) hb); clear HO389; clear HB; have HO389 := n0_; have HO393 := n1_; have HB := n2_; clear n0_ n1_ n2_; (try clear hb); (try clear hb2); (try clear hk); (try clear hi); (try clear ho0)) | (go_at_call 6; (with_reducible refine (impl_SortFileRows.calls k _ _ l0 t394 t395 _ ?side1 ?side2 A5.out).mono ?_); (case side1 => repeat (first | exact (Kd.C_below HR0.out HB.out) | (with_reducible refine Kd.C_alloc ?_ _) | (with_reducible refine Kd.C_drewN ?_ _) | (with_reducible refine Kd.C_drew ?_))); (case side2 => exact HC0.out); rintro e w24 ⟨v396, rfl, ho0, hb⟩; have n0_ := Aside0.mk (Kd.S_elder' (by (with_reducible repeat (first | apply Kd.S_alloc | apply Kd.S_drewN | apply Kd.S_drew)); exact HO389.out) (Kd.S_base ho0) hb); have n1_ := Aside0.mk (Kd.S_elder' (by (with_reducible repeat (first | apply Kd.S_alloc | apply Kd.S_drewN | apply Kd.S_drew)); exact HO393.out) (Kd.S_base ho0) hb); have n2_ := Aside0.mk (Kd.S_lower (Kd.S_new' (Kd.S_new' ho0 (Kd.S_lt (by (with_reducible repeat (first | apply Kd.S_alloc | apply Kd.S_drewN | apply Kd.S_drew)); exact HO389.out))) (Kd.S_lt (by (with_reducible repeat (first | apply Kd.S_alloc | apply Kd.S_drewN | apply Kd.S_drew)); exact HO393.out))) (below_size (by repeat (first | (with_reducible first | exact HB.out | apply below_alloc | apply pw_below_drewN | apply below_drew1) | exact HB.out)))); have n3_ := Aside0.mk (below_step (by repeat (first | (with_reducible first | exact HB.out | apply below_alloc | apply pw_below_drewN | apply below_drew1) | exact HB.out)) hb); clear HO389; clear HO393; clear HB; have HO389 := n0_; have HO393 := n1_; have HO397 := n2_; have HB := n3_; clear n0_ n1_ n2_ n3_; (try clear hb); (try clear hb2); (try clear hk); (try clear hi); (try clear ho0)) | (go_at_call 7; (with_reducible refine (spec_SortFileRows.calls k _ _ l0 t398 t399 _ ?side1 ?side2 A6.out).mono ?_); (case side1 => repeat (first | exact (Kd.C_below HR0.out HB.out) | (with_reducible refine Kd.C_alloc ?_ _) | (with_reducible refine Kd.C_drewN ?_ _) | (with_reducible refine Kd.C_drew ?_))); (case side2 => exact HC0.out); rintro e w25 ⟨v400, rfl, ho0, hb⟩; have n0_ := Aside0.mk (Kd.S_elder' (by (with_reducible repeat (first | apply Kd.S_alloc | apply Kd.S_drewN | apply Kd.S_drew)); exact HO389.out) (Kd.S_base ho0) hb); have n1_ := Aside0.mk (Kd.S_elder' (by (with_reducible repeat (first | apply Kd.S_alloc | apply Kd.S_drewN | apply Kd.S_drew)); exact HO393.out) (Kd.S_base ho0) hb); have n2_ := Aside0.mk (Kd.S_elder' (by (with_reducible repeat (first | apply Kd.S_alloc | apply Kd.S_drewN | apply Kd.S_drew)); exact HO397.out) (Kd.S_base ho0) hb); have n3_ := Aside0.mk (Kd.S_lower (Kd.S_new' (Kd.S_new' (Kd.S_new' ho0 (Kd.S_lt (by (with_reducible repeat (first | apply Kd.S_alloc | apply Kd.S_drewN | apply Kd.S_drew)); exact HO389.out))) (Kd.S_lt (by (with_reducible repeat (first | apply Kd.S_alloc | apply Kd.S_drewN | apply Kd.S_drew)); exact HO393.out))) (Kd.S_lt (by (with_reducible repeat (first | apply Kd.S_alloc | apply Kd.S_drewN | apply Kd.S_drew)); exact HO397.out))) (below_size (by repeat (first | (with_reducible first | exact HB.out | apply below_alloc | apply pw_below_drewN | apply below_drew1) | exact HB.out)))); have n4_ := Aside0.mk (below_step (by repeat (first | (with_reducible first | exact HB.out | apply below_alloc | apply pw_below_drewN | apply below_drew1) | exact HB.out)) hb); clear HO389; clear HO393; clear HO397; clear HB; have HO389 := n0_; have HO393 := n1_; have HO397 := n2_; have HO401 := n3_; have HB := n4_; clear n0_ n1_ n2_ n3_ n4_; (try clear hb); (try clear hb2); (try clear hk); (try clear hi); (try clear ho0)) | (go_at_call 8; (with_reducible refine (impl_SortFileColumns.calls k _ _ l0 t402 t403 _ ?side1 ?side2 A7.out).mono ?_); (case side1 => repeat (first | exact (Kd.C_below HR0.out HB.out) | (with_reducible refine Kd.C_alloc ?_ _) | (with_reducible refine Kd.C_drewN ?_ _) | (with_reducible refine Kd.C_drew ?_))); (case side2 => exact HC0.out); rintro e w26 ⟨v404, rfl, ho0, hb⟩; have n0_ := Aside0.mk (Kd.S_elder' (by (with_reducible repeat (first | apply Kd.S_alloc | apply Kd.S_drewN | apply Kd.S_drew)); exact HO389.out) (Kd.S_base ho0) hb); have n1_ := Aside0.mk (Kd.S_elder' (by (with_reducible repeat (first | apply Kd.S_alloc | apply Kd.S_drewN | apply Kd.S_drew)); exact HO393.out) (Kd.S_base ho0) hb); have n2_ := Aside0.mk (Kd.S_elder' (by (with_reducible repeat (first | apply Kd.S_alloc | apply Kd.S_drewN | apply Kd.S_drew)); exact HO397.out) (Kd.S_base ho0) hb); have n3_ := Aside0.mk (Kd.S_elder' (by (with_reducible repeat (first | apply Kd.S_alloc | apply Kd.S_drewN | apply Kd.S_drew)); exact HO401.out) (Kd.S_base ho0) hb); have n4_ := Aside0.mk (Kd.S_lower (Kd.S_new' (Kd.S_new' (Kd.S_new' (Kd.S_new' ho0 (Kd.S_lt (by (with_reducible repeat (first | apply Kd.S_alloc | apply Kd.S_drewN | apply Kd.S_drew)); exact HO389.out))) (Kd.S_lt (by (with_reducible repeat (first | apply Kd.S_alloc | apply Kd.S_drewN | apply Kd.S_drew)); exact HO393.out))) (Kd.S_lt (by (with_reducible repeat (first | apply Kd.S_alloc | apply Kd.S_drewN | apply Kd.S_drew)); exact HO397.out))) (Kd.S_lt (by (with_reducible repeat (first | apply Kd.S_alloc | apply Kd.S_drewN | apply Kd.S_drew)); exact HO401.out))) (below_size (by repeat (first | (with_reducible first | exact HB.out | apply below_alloc | apply pw_below_drewN | apply below_drew1) | exact HB.out)))); have n5_ := Aside0.mk (below_step (by repeat (first | (with_reducible first | exact HB.out | apply below_alloc | apply pw_below_drewN | apply below_drew1) | exact HB.out)) hb); clear HO389; clear HO393; clear HO397; clear HO401; clear HB; have HO389 := n0_; have HO393 := n1_; have HO397 := n2_; have HO401 := n3_; have HO405 := n4_; have HB := n5_; clear n0_ n1_ n2_ n3_ n4_ n5_; (try clear hb); (try clear hb2); (try clear hk); (try clear hi); (try clear ho0)) | (go_at_call 9; (with_reducible refine (spec_SortFileColumns.calls k _ _ l0 t406 t407 _ ?side1 ?side2 A8.out).mono ?_); (case side1 => repeat (first | exact (Kd.C_below HR0.out HB.out) | (with_reducible refine Kd.C_alloc ?_ _) | (with_reducible refine Kd.C_drewN ?_ _) | (with_reducible refine Kd.C_drew ?_))); (case side2 => exact HC0.out); rintro e w27 ⟨v408, rfl, ho0, hb⟩; have n0_ := Aside0.mk (Kd.S_elder' (by (with_reducible repeat (first | apply Kd.S_alloc | apply Kd.S_drewN | apply Kd.S_drew)); exact HO389.out) (Kd.S_base ho0) hb); have n1_ := Aside0.mk (Kd.S_elder' (by (with_reducible repeat (first | apply Kd.S_alloc | apply Kd.S_drewN | apply Kd.S_drew)); exact HO393.out) (Kd.S_base ho0) hb); have n2_ := Aside0.mk (Kd.S_elder' (by (with_reducible repeat (first | apply Kd.S_alloc | apply Kd.S_drewN | apply Kd.S_drew)); exact HO397.out) (Kd.S_base ho0) hb); have n3_ := Aside0.mk (Kd.S_elder' (by (with_reducible repeat (first | apply Kd.S_alloc | apply Kd.S_drewN | apply Kd.S_drew)); exact HO401.out) (Kd.S_base ho0) hb); have n4_ := Aside0.mk (Kd.S_elder' (by (with_reducible repeat (first | apply Kd.S_alloc | apply Kd.S_drewN | apply Kd.S_drew)); exact HO405.out) (Kd.S_base ho0) hb); have n5_ := Aside0.mk (Kd.S_lower (Kd.S_new' (Kd.S_new' (Kd.S_new' (Kd.S_new' (Kd.S_new' ho0 (Kd.S_lt (by (with_reducible repeat (first | apply Kd.S_alloc | apply Kd.S_drewN | apply Kd.S_drew)); exact HO389.out))) (Kd.S_lt (by (with_reducible repeat (first | apply Kd.S_alloc | apply Kd.S_drewN | apply Kd.S_drew)); exact HO393.out))) (Kd.S_lt (by (with_reducible repeat (first | apply Kd.S_alloc | apply Kd.S_drewN | apply Kd.S_drew)); exact HO397.out))) (Kd.S_lt (by (with_reducible repeat (first | apply Kd.S_alloc | apply Kd.S_drewN | apply Kd.S_drew)); exact HO401.out))) (Kd.S_lt (by (with_reducible repeat (first | apply Kd.S_alloc | apply Kd.S_drewN | apply Kd.S_drew)); exact HO405.out))) (below_size (by repeat (first | (with_reducible first | exact HB.out | apply below_alloc | apply pw_below_drewN | apply below_drew1) | exact HB.out)))); have n6_ := Aside0.mk (below_step (by repeat (first | (with_reducible first | exact HB.out | apply below_alloc | apply pw_below_drewN | apply below_drew1) | exact HB.out)) hb); clear HO389; clear HO393; clear HO397; clear HO401; clear HO405; clear HB; have HO389 := n0_; have HO393 := n1_; have HO397 := n2_; have HO401 := n3_; have HO405 := n4_; have HO409 := n5_; have HB := n6_; clear n0_ n1_ n2_ n3_ n4_ n5_ n6_; (try clear hb); (try clear hb2); (try clear hk); (try clear hi); (try clear ho0)) | (go_at_call 10; (with_reducible refine (impl_AreRowsSorted.calls k _ _ l0 t410 t411 _ ?side1 ?side2 A9.out).mono ?_); (case side1 => repeat (first | exact (Kd.C_below HR0.out HB.out) | (with_reducible refine Kd.C_alloc ?_ _) | (with_reducible refine Kd.C_drewN ?_ _) | (with_reducible refine Kd.C_drew ?_))); (case side2 => exact HC0.out); rintro e w28 ⟨rfl, hb⟩; have n0_ := Aside0.mk (Kd.S_below (by (with_reducible repeat (first | apply Kd.S_alloc | apply Kd.S_drewN | apply Kd.S_drew)); exact HO389.out) hb); have n1_ := Aside0.mk (Kd.S_below (by (with_reducible repeat (first | apply Kd.S_alloc | apply Kd.S_drewN | apply Kd.S_drew)); exact HO393.out) hb); have n2_ := Aside0.mk (Kd.S_below (by (with_reducible repeat (first | apply Kd.S_alloc | apply Kd.S_drewN | apply Kd.S_drew)); exact HO397.out) hb); have n3_ := Aside0.mk (Kd.S_below (by (with_reducible repeat (first | apply Kd.S_alloc | apply Kd.S_drewN | apply Kd.S_drew)); exact HO401.out) hb); have n4_ := Aside0.mk (Kd.S_below (by (with_reducible repeat (first | apply Kd.S_alloc | apply Kd.S_drewN | apply Kd.S_drew)); exact HO405.out) hb); have n5_ := Aside0.mk (Kd.S_below (by (with_reducible repeat (first | apply Kd.S_alloc | apply Kd.S_drewN | apply Kd.S_drew)); exact HO409.out) hb); have n6_ := Aside0.mk (below_step (by repeat (first | (with_reducible first | exact HB.out | apply below_alloc | apply pw_below_drewN | apply below_drew1) | exact HB.out)) hb); clear HO389; clear HO393; clear HO397; clear HO401; clear HO405; clear HO409; clear HB; have HO389 := n0_; have HO393 := n1_; have HO397 := n2_; have HO401 := n3_; have HO405 := n4_; have HO409 := n5_; have HB := n6_; clear n0_ n1_ n2_ n3_ n4_ n5_ n6_; (try clear hb); (try clear hb2); (try clear hk); (try clear hi)) | (go_at_call 11; (with_reducible refine (spec_AreRowsSorted.calls k _ _ l0 t412 t413 _ ?side1 ?side2 A10.out).mono ?_); (case side1 => repeat (first | exact (Kd.C_below HR0.out HB.out) | (with_reducible refine Kd.C_alloc ?_ _) | (with_reducible refine Kd.C_drewN ?_ _) | (with_reducible refine Kd.C_drew ?_))); (case side2 => exact HC0.out); rintro e w' ⟨rfl, ⟨nd, rfl⟩⟩; (try first | exact ⟨rfl, _, World.drewN_drewN _ _ _⟩ | exact ⟨rfl, _, Eq.trans (World.drewN_drewN _ _ _) (congrArg (World.drewN _) (Nat.add_assoc _ _ _))⟩)) | (go_at_call 12; (with_reducible refine (impl_AreColumnsSorted.calls k _ _ l0 t414 t415 _ ?side1 ?side2 A11.out).mono ?_); (case side1 => repeat (first | exact (Kd.C_below HR0.out (by repeat (first | (with_reducible first | exact HB.out | apply below_alloc | apply pw_below_drewN | apply below_drew1) | exact HB.out))) | (with_reducible refine Kd.C_alloc ?_ _) | (with_reducible refine Kd.C_drewN ?_ _) | (with_reducible refine Kd.C_drew ?_))); (case side2 => exact HC0.out); rintro e w29 ⟨rfl, hb⟩; have n0_ := Aside0.mk (Kd.S_below (by (with_reducible repeat (first | apply Kd.S_alloc | apply Kd.S_drewN | apply Kd.S_drew)); exact HO389.out) hb); have n1_ := Aside0.mk (Kd.S_below (by (with_reducible repeat (first | apply Kd.S_alloc | apply Kd.S_drewN | apply Kd.S_drew)); exact HO393.out) hb); have n2_ := Aside0.mk (Kd.S_below (by (with_reducible repeat (first | apply Kd.S_alloc | apply Kd.S_drewN | apply Kd.S_drew)); exact HO397.out) hb); have n3_ := Aside0.mk (Kd.S_below (by (with_reducible repeat (first | apply Kd.S_alloc | apply Kd.S_drewN | apply Kd.S_drew)); exact HO401.out) hb); have n4_ := Aside0.mk (Kd.S_below (by (with_reducible repeat (first | apply Kd.S_alloc | apply Kd.S_drewN | apply Kd.S_drew)); exact HO405.out) hb); have n5_ := Aside0.mk (Kd.S_below (by (with_reducible repeat (first | apply Kd.S_alloc | apply Kd.S_drewN | apply Kd.S_drew)); exact HO409.out) hb); have n6_ := Aside0.mk (below_step (by repeat (first | (with_reducible first | exact HB.out | apply below_alloc | apply pw_below_drewN | apply below_drew1) | exact HB.out)) hb); clear HO389; clear HO393; clear HO397; clear HO401; clear HO405; clear HO409; clear HB; have HO389 := n0_; have HO393 := n1_; have HO397 := n2_; have HO401 := n3_; have HO405 := n4_; have HO409 := n5_; have HB := n6_; clear n0_ n1_ n2_ n3_ n4_ n5_ n6_; (try clear hb); (try clear hb2); (try clear hk); (try clear hi)) | (go_at_call 13; (with_reducible refine (spec_AreColumnsSorted.calls k _ _ l0 t416 t417 _ ?side1 ?side2 A12.out).mono ?_); (case side1 => repeat (first | exact (Kd.C_below HR0.out HB.out) | (with_reducible refine Kd.C_alloc ?_ _) | (with_reducible refine Kd.C_drewN ?_ _) | (with_reducible refine Kd.C_drew ?_))); (case side2 => exact HC0.out); rintro e w30 ⟨rfl, hb⟩; have n0_ := Aside0.mk (Kd.S_below (by (with_reducible repeat (first | apply Kd.S_alloc | apply Kd.S_drewN | apply Kd.S_drew)); exact HO389.out) hb); have n1_ := Aside0.mk (Kd.S_below (by (with_reducible repeat (first | apply Kd.S_alloc | apply Kd.S_drewN | apply Kd.S_drew)); exact HO393.out) hb); have n2_ := Aside0.mk (Kd.S_below (by (with_reducible repeat (first | apply Kd.S_alloc | apply Kd.S_drewN | apply Kd.S_drew)); exact HO397.out) hb); have n3_ := Aside0.mk (Kd.S_below (by (with_reducible repeat (first | apply Kd.S_alloc | apply Kd.S_drewN | apply Kd.S_drew)); exact HO401.out) hb); have n4_ := Aside0.mk (Kd.S_below (by (with_reducible repeat (first | apply Kd.S_alloc | apply Kd.S_drewN | apply Kd.S_drew)); exact HO405.out) hb); have n5_ := Aside0.mk (Kd.S_below (by (with_reducible repeat (first | apply Kd.S_alloc | apply Kd.S_drewN | apply Kd.S_drew)); exact HO409.out) hb); have n6_ := Aside0.mk (below_step (by repeat (first | (with_reducible first | exact HB.out | apply below_alloc | apply pw_below_drewN | apply below_drew1) | exact HB.out)) hb); clear HO389; clear HO393; clear HO397; clear HO401; clear HO405; clear HO409; clear HB; have HO389 := n0_; have HO393 := n1_; have HO397 := n2_; have HO401 := n3_; have HO405 := n4_; have HO409 := n5_; have HB := n6_; clear n0_ n1_ n2_ n3_ n4_ n5_ n6_; (try clear hb); (try clear hb2); (try clear hk); (try clear hi)) | (go_at_call 14; (with_reducible refine (impl_TurnFiles.calls k _ _ l0 t418 t419 _ ?side1 ?side2 A13.out).mono ?_); (case side1 => repeat (first | exact (Kd.C_below HR0.out HB.out) | (with_reducible refine Kd.C_alloc ?_ _) | (with_reducible refine Kd.C_drewN ?_ _) | (with_reducible refine Kd.C_drew ?_))); (case side2 => exact HC0.out); rintro e w31 ⟨v420, rfl, ho0, hb⟩; have n0_ := Aside0.mk (Kd.S_elder' (by (with_reducible repeat (first | apply Kd.S_alloc | apply Kd.S_drewN | apply Kd.S_drew)); exact HO389.out) (Kd.S_base ho0) hb); have n1_ := Aside0.mk (Kd.S_elder' (by (with_reducible repeat (first | apply Kd.S_alloc | apply Kd.S_drewN | apply Kd.S_drew)); exact HO393.out) (Kd.S_base ho0) hb); have n2_ := Aside0.mk (Kd.S_elder' (by (with_reducible repeat (first | apply Kd.S_alloc | apply Kd.S_drewN | apply Kd.S_drew)); exact HO397.out) (Kd.S_base ho0) hb); have n3_ := Aside0.mk (Kd.S_elder' (by (with_reducible repeat (first | apply Kd.S_alloc | apply Kd.S_drewN | apply Kd.S_drew)); exact HO401.out) (Kd.S_base ho0) hb); have n4_ := Aside0.mk (Kd.S_elder' (by (with_reducible repeat (first | apply Kd.S_alloc | apply Kd.S_drewN | apply Kd.S_drew)); exact HO405.out) (Kd.S_base ho0) hb); have n5_ := Aside0.mk (Kd.S_elder' (by (with_reducible repeat (first | apply Kd.S_alloc | apply Kd.S_drewN | apply Kd.S_drew)); exact HO409.out) (Kd.S_base ho0) hb); have n6_ := Aside0.mk (Kd.S_lower (Kd.S_new' (Kd.S_new' (Kd.S_new' (Kd.S_new' (Kd.S_new' (Kd.S_new' ho0 (Kd.S_lt (by (with_reducible repeat (first | apply Kd.S_alloc | apply Kd.S_drewN | apply Kd.S_drew)); exact HO389.out))) (Kd.S_lt (by (with_reducible repeat (first | apply Kd.S_alloc | apply Kd.S_drewN | apply Kd.S_drew)); exact HO393.out))) (Kd.S_lt (by (with_reducible repeat (first | apply Kd.S_alloc | apply Kd.S_drewN | apply Kd.S_drew)); exact HO397.out))) (Kd.S_lt (by (with_reducible repeat (first | apply Kd.S_alloc | apply Kd.S_drewN | apply Kd.S_drew)); exact HO401.out))) (Kd.S_lt (by (with_reducible repeat (first | apply Kd.S_alloc | apply Kd.S_drewN | apply Kd.S_drew)); exact HO405.out))) (Kd.S_lt (by (with_reducible repeat (first | apply Kd.S_alloc | apply Kd.S_drewN | apply Kd.S_drew)); exact HO409.out))) (below_size (by repeat (first | (with_reducible first | exact HB.out | apply below_alloc | apply pw_below_drewN | apply below_drew1) | exact HB.out)))); have n7_ := Aside0.mk (below_step (by repeat (first | (with_reducible first | exact HB.out | apply below_alloc | apply pw_below_drewN | apply below_drew1) | exact HB.out)) hb); clear HO389; clear HO393; clear HO397; clear HO401; clear HO405; clear HO409; clear HB; have HO389 := n0_; have HO393 := n1_; have HO397 := n2_; have HO401 := n3_; have HO405 := n4_; have HO409 := n5_; have HO421 := n6_; have HB := n7_; clear n0_ n1_ n2_ n3_ n4_ n5_ n6_ n7_; (try clear hb); (try clear hb2); (try clear hk); (try clear hi); (try clear ho0)) | (go_at_call 15; (with_reducible refine (spec_TurnFiles.calls k _ _ l0 t422 t423 _ ?side1 ?side2 A14.out).mono ?_); (case side1 => repeat (first | exact (Kd.C_below HR0.out HB.out) | (with_reducible refine Kd.C_alloc ?_ _) | (with_reducible refine Kd.C_drewN ?_ _) | (with_reducible refine Kd.C_drew ?_))); (case side2 => exact HC0.out); rintro e w32 ⟨v424, rfl, ho0, hb⟩; have n0_ := Aside0.mk (Kd.S_elder' (by (with_reducible repeat (first | apply Kd.S_alloc | apply Kd.S_drewN | apply Kd.S_drew)); exact HO389.out) (Kd.S_base ho0) hb); have n1_ := Aside0.mk (Kd.S_elder' (by (with_reducible repeat (first | apply Kd.S_alloc | apply Kd.S_drewN | apply Kd.S_drew)); exact HO393.out) (Kd.S_base ho0) hb); have n2_ := Aside0.mk (Kd.S_elder' (by (with_reducible repeat (first | apply Kd.S_alloc | apply Kd.S_drewN | apply Kd.S_drew)); exact HO397.out) (Kd.S_base ho0) hb); have n3_ := Aside0.mk (Kd.S_elder' (by (with_reducible repeat (first | apply Kd.S_alloc | apply Kd.S_drewN | apply Kd.S_drew)); exact HO401.out) (Kd.S_base ho0) hb); have n4_ := Aside0.mk (Kd.S_elder' (by (with_reducible repeat (first | apply Kd.S_alloc | apply Kd.S_drewN | apply Kd.S_drew)); exact HO405.out) (Kd.S_base ho0) hb); have n5_ := Aside0.mk (Kd.S_elder' (by (with_reducible repeat (first | apply Kd.S_alloc | apply Kd.S_drewN | apply Kd.S_drew)); exact HO409.out) (Kd.S_base ho0) hb); have n6_ := Aside0.mk (Kd.S_elder' (by (with_reducible repeat (first | apply Kd.S_alloc | apply Kd.S_drewN | apply Kd.S_drew)); exact HO421.out) (Kd.S_base ho0) hb); have n7_ := Aside0.mk (Kd.S_lower (Kd.S_new' (Kd.S_new' (Kd.S_new' (Kd.S_new' (Kd.S_new' (Kd.S_new' (Kd.S_new' ho0 (Kd.S_lt (by (with_reducible repeat (first | apply Kd.S_alloc | apply Kd.S_drewN | apply Kd.S_drew)); exact HO389.out))) (Kd.S_lt (by (with_reducible repeat (first | apply Kd.S_alloc | apply Kd.S_drewN | apply Kd.S_drew)); exact HO393.out))) (Kd.S_lt (by (with_reducible repeat (first | apply Kd.S_alloc | apply Kd.S_drewN | apply Kd.S_drew)); exact HO397.out))) (Kd.S_lt (by (with_reducible repeat (first | apply Kd.S_alloc | apply Kd.S_drewN | apply Kd.S_drew)); exact HO401.out))) (Kd.S_lt (by (with_reducible repeat (first | apply Kd.S_alloc | apply Kd.S_drewN | apply Kd.S_drew)); exact HO405.out))) (Kd.S_lt (by (with_reducible repeat (first | apply Kd.S_alloc | apply Kd.S_drewN | apply Kd.S_drew)); exact HO409.out))) (Kd.S_lt (by (with_reducible repeat (first | apply Kd.S_alloc | apply Kd.S_drewN | apply Kd.S_drew)); exact HO421.out))) (below_size (by repeat (first | (with_reducible first | exact HB.out | apply below_alloc | apply pw_below_drewN | apply below_drew1) | exact HB.out)))); have n8_ := Aside0.mk (below_step (by repeat (first | (with_reducible first | exact HB.out | apply below_alloc | apply pw_below_drewN | apply below_drew1) | exact HB.out)) hb); clear HO389; clear HO393; clear HO397; clear HO401; clear HO405; clear HO409; clear HO421; clear HB; have HO389 := n0_; have HO393 := n1_; have HO397 := n2_; have HO401 := n3_; have HO405 := n4_; have HO409 := n5_; have HO421 := n6_; have HO425 := n7_; have HB := n8_; clear n0_ n1_ n2_ n3_ n4_ n5_ n6_ n7_ n8_; (try clear hb); (try clear hb2); (try clear hk); (try clear hi); (try clear ho0)) | (go_at_call 16; (with_reducible refine (impl_TallestOfShortest.calls k _ _ l0 t426 t427 _ ?side1 ?side2 A15.out).mono ?_); (case side1 => repeat (first | exact (Kd.C_below HR0.out HB.out) | (with_reducible refine Kd.C_alloc ?_ _) | (with_reducible refine Kd.C_drewN ?_ _) | (with_reducible refine Kd.C_drew ?_))); (case side2 => exact HC0.out); rintro e w33 ⟨rfl, hb⟩; have n0_ := Aside0.mk (Kd.S_below (by (with_reducible repeat (first | apply Kd.S_alloc | apply Kd.S_drewN | apply Kd.S_drew)); exact HO389.out) hb); have n1_ := Aside0.mk (Kd.S_below (by (with_reducible repeat (first | apply Kd.S_alloc | apply Kd.S_drewN | apply Kd.S_drew)); exact HO393.out) hb); have n2_ := Aside0.mk (Kd.S_below (by (with_reducible repeat (first | apply Kd.S_alloc | apply Kd.S_drewN | apply Kd.S_drew)); exact HO397.out) hb); have n3_ := Aside0.mk (Kd.S_below (by (with_reducible repeat (first | apply Kd.S_alloc | apply Kd.S_drewN | apply Kd.S_drew)); exact HO401.out) hb); have n4_ := Aside0.mk (Kd.S_below (by (with_reducible repeat (first | apply Kd.S_alloc | apply Kd.S_drewN | apply Kd.S_drew)); exact HO405.out) hb); have n5_ := Aside0.mk (Kd.S_below (by (with_reducible repeat (first | apply Kd.S_alloc | apply Kd.S_drewN | apply Kd.S_drew)); exact HO409.out) hb); have n6_ := Aside0.mk (Kd.S_below (by (with_reducible repeat (first | apply Kd.S_alloc | apply Kd.S_drewN | apply Kd.S_drew)); exact HO421.out) hb); have n7_ := Aside0.mk (Kd.S_below (by (with_reducible repeat (first | apply Kd.S_alloc | apply Kd.S_drewN | apply Kd.S_drew)); exact HO425.out) hb); have n8_ := Aside0.mk (below_step (by repeat (first | (with_reducible first | exact HB.out | apply below_alloc | apply pw_below_drewN | apply below_drew1) | exact HB.out)) hb); clear HO389; clear HO393; clear HO397; clear HO401; clear HO405; clear HO409; clear HO421; clear HO425; clear HB; have HO389 := n0_; have HO393 := n1_; have HO397 := n2_; have HO401 := n3_; have HO405 := n4_; have HO409 := n5_; have HO421 := n6_; have HO425 := n7_; have HB := n8_; clear n0_ n1_ n2_ n3_ n4_ n5_ n6_ n7_ n8_; (try clear hb); (try clear hb2); (try clear hk); (try clear hi)) | (go_at_call 17; (with_reducible refine (spec_TallestOfShortest.calls k _ _ l0 t428 t429 _ ?side1 ?side2 A16.out).mono ?_); (case side1 => repeat (first | exact (Kd.C_below HR0.out HB.out) | (with_reducible refine Kd.C_alloc ?_ _) | (with_reducible refine Kd.C_drewN ?_ _) | (with_reducible refine Kd.C_drew ?_))); (case side2 => exact HC0.out); rintro e w' ⟨rfl, ⟨nd, rfl⟩⟩; (try first | exact ⟨rfl, _, World.drewN_drewN _ _ _⟩ | exact ⟨rfl, _, Eq.trans (World.drewN_drewN _ _ _) (congrArg (World.drewN _) (Nat.add_assoc _ _ _))⟩)) | (go_at_call 18; (with_reducible refine (impl_ShortestOfTallest.calls k _ _ l0 t430 t431 _ ?side1 ?side2 A17.out).mono ?_); (case side1 => repeat (first | exact (Kd.C_below HR0.out (by repeat (first | (with_reducible first | exact HB.out | apply below_alloc | apply pw_below_drewN | apply below_drew1) | exact HB.out))) | (with_reducible refine Kd.C_alloc ?_ _) | (with_reducible refine Kd.C_drewN ?_ _) | (with_reducible refine Kd.C_drew ?_))); (case side2 => exact HC0.out); rintro e w34 ⟨rfl, hb⟩; have n0_ := Aside0.mk (Kd.S_below (by (with_reducible repeat (first | apply Kd.S_alloc | apply Kd.S_drewN | apply Kd.S_drew)); exact HO389.out) hb); have n1_ := Aside0.mk (Kd.S_below (by (with_reducible repeat (first | apply Kd.S_alloc | apply Kd.S_drewN | apply Kd.S_drew)); exact HO393.out) hb); have n2_ := Aside0.mk (Kd.S_below (by (with_reducible repeat (first | apply Kd.S_alloc | apply Kd.S_drewN | apply Kd.S_drew)); exact HO397.out) hb); have n3_ := Aside0.mk (Kd.S_below (by (with_reducible repeat (first | apply Kd.S_alloc | apply Kd.S_drewN | apply Kd.S_drew)); exact HO401.out) hb); have n4_ := Aside0.mk (Kd.S_below (by (with_reducible repeat (first | apply Kd.S_alloc | apply Kd.S_drewN | apply Kd.S_drew)); exact HO405.out) hb); have n5_ := Aside0.mk (Kd.S_below (by (with_reducible repeat (first | apply Kd.S_alloc | apply Kd.S_drewN | apply Kd.S_drew)); exact HO409.out) hb); have n6_ := Aside0.mk (Kd.S_below (by (with_reducible repeat (first | apply Kd.S_alloc | apply Kd.S_drewN | apply Kd.S_drew)); exact HO421.out) hb); have n7_ := Aside0.mk (Kd.S_below (by (with_reducible repeat (first | apply Kd.S_alloc | apply Kd.S_drewN | apply Kd.S_drew)); exact HO425.out) hb); have n8_ := Aside0.mk (below_step (by repeat (first | (with_reducible first | exact HB.out | apply below_alloc | apply pw_below_drewN | apply below_drew1) | exact HB.out)) hb); clear HO389; clear HO393; clear HO397; clear HO401; clear HO405; clear HO409; clear HO421; clear HO425; clear HB; have HO389 := n0_; have HO393 := n1_; have HO397 := n2_; have HO401 := n3_; have HO405 := n4_; have HO409 := n5_; have HO421 := n6_; have HO425 := n7_; have HB := n8_; clear n0_ n1_ n2_ n3_ n4_ n5_ n6_ n7_ n8_; (try clear hb); (try clear hb2); (try clear hk); (try clear hi)) | (go_at_call 19; (with_reducible refine (spec_ShortestOfTallest.calls k _ _ l0 t432 t433 _ ?side1 ?side2 A18.out).mono ?_); (case side1 => repeat (first | exact (Kd.C_below HR0.out HB.out) | (with_reducible refine Kd.C_alloc ?_ _) | (with_reducible refine Kd.C_drewN ?_ _) | (with_reducible refine Kd.C_drew ?_))); (case side2 => exact HC0.out); rintro e w35 ⟨rfl, hb⟩; have n0_ := Aside0.mk (Kd.S_below (by (with_reducible repeat (first | apply Kd.S_alloc | apply Kd.S_drewN | apply Kd.S_drew)); exact HO389.out) hb); have n1_ := Aside0.mk (Kd.S_below (by (with_reducible repeat (first | apply Kd.S_alloc | apply Kd.S_drewN | apply Kd.S_drew)); exact HO393.out) hb); have n2_ := Aside0.mk (Kd.S_below (by (with_reducible repeat (first | apply Kd.S_alloc | apply Kd.S_drewN | apply Kd.S_drew)); exact HO397.out) hb); have n3_ := Aside0.mk (Kd.S_below (by (with_reducible repeat (first | apply Kd.S_alloc | apply Kd.S_drewN | apply Kd.S_drew)); exact HO401.out) hb); have n4_ := Aside0.mk (Kd.S_below (by (with_reducible repeat (first | apply Kd.S_alloc | apply Kd.S_drewN | apply Kd.S_drew)); exact HO405.out) hb); have n5_ := Aside0.mk (Kd.S_below (by (with_reducible repeat (first | apply Kd.S_alloc | apply Kd.S_drewN | apply Kd.S_drew)); exact HO409.out) hb); have n6_ := Aside0.mk (Kd.S_below (by (with_reducible repeat (first | apply Kd.S_alloc | apply Kd.S_drewN | apply Kd.S_drew)); exact HO421.out) hb); have n7_ := Aside0.mk (Kd.S_below (by (with_reducible repeat (first | apply Kd.S_alloc | apply Kd.S_drewN | apply Kd.S_drew)); exact HO425.out) hb); have n8_ := Aside0.mk (below_step (by repeat (first | (with_reducible first | exact HB.out | apply below_alloc | apply pw_below_drewN | apply below_drew1) | exact HB.out)) hb); clear HO389; clear HO393; clear HO397; clear HO401; clear HO405; clear HO409; clear HO421; clear HO425; clear HB; have HO389 := n0_; have HO393 := n1_; have HO397 := n2_; have HO401 := n3_; have HO405 := n4_; have HO409 := n5_; have HO421 := n6_; have HO425 := n7_; have HB := n8_; clear n0_ n1_ n2_ n3_ n4_ n5_ n6_ n7_ n8_; (try clear hb); (try clear hb2); (try clear hk); (try clear hi)) | (go_at_call 20; (with_reducible refine (impl_SaddlePlaces.calls k _ _ l0 t434 t435 _ ?side1 ?side2 A19.out).mono ?_); (case side1 => repeat (first | exact (Kd.C_below HR0.out HB.out) | (with_reducible refine Kd.C_alloc ?_ _) | (with_reducible refine Kd.C_drewN ?_ _) | (with_reducible refine Kd.C_drew ?_))); (case side2 => exact HC0.out); rintro e w36 ⟨v436, rfl, ho0, hb⟩; have n0_ := Aside0.mk (Kd.S_elder' (by (with_reducible repeat (first | apply Kd.S_alloc | apply Kd.S_drewN | apply Kd.S_drew)); exact HO389.out) (Kd.S_base ho0) hb); have n1_ := Aside0.mk (Kd.S_elder' (by (with_reducible repeat (first | apply Kd.S_alloc | apply Kd.S_drewN | apply Kd.S_drew)); exact HO393.out) (Kd.S_base ho0) hb); have n2_ := Aside0.mk (Kd.S_elder' (by (with_reducible repeat (first | apply Kd.S_alloc | apply Kd.S_drewN | apply Kd.S_drew)); exact HO397.out) (Kd.S_base ho0) hb); have n3_ := Aside0.mk (Kd.S_elder' (by (with_reducible repeat (first | apply Kd.S_alloc | apply Kd.S_drewN | apply Kd.S_drew)); exact HO401.out) (Kd.S_base ho0) hb); have n4_ := Aside0.mk (Kd.S_elder' (by (with_reducible repeat (first | apply Kd.S_alloc | apply Kd.S_drewN | apply Kd.S_drew)); exact HO405.out) (Kd.S_base ho0) hb); have n5_ := Aside0.mk (Kd.S_elder' (by (with_reducible repeat (first | apply Kd.S_alloc | apply Kd.S_drewN | apply Kd.S_drew)); exact HO409.out) (Kd.S_base ho0) hb); have n6_ := Aside0.mk (Kd.S_elder' (by (with_reducible repeat (first | apply Kd.S_alloc | apply Kd.S_drewN | apply Kd.S_drew)); exact HO421.out) (Kd.S_base ho0) hb); have n7_ := Aside0.mk (Kd.S_elder' (by (with_reducible repeat (first | apply Kd.S_alloc | apply Kd.S_drewN | apply Kd.S_drew)); exact HO425.out) (Kd.S_base ho0) hb); have n8_ := Aside0.mk (Kd.S_lower (Kd.S_new' (Kd.S_new' (Kd.S_new' (Kd.S_new' (Kd.S_new' (Kd.S_new' (Kd.S_new' (Kd.S_new' ho0 (Kd.S_lt (by (with_reducible repeat (first | apply Kd.S_alloc | apply Kd.S_drewN | apply Kd.S_drew)); exact HO389.out))) (Kd.S_lt (by (with_reducible repeat (first | apply Kd.S_alloc | apply Kd.S_drewN | apply Kd.S_drew)); exact HO393.out))) (Kd.S_lt (by (with_reducible repeat (first | apply Kd.S_alloc | apply Kd.S_drewN | apply Kd.S_drew)); exact HO397.out))) (Kd.S_lt (by (with_reducible repeat (first | apply Kd.S_alloc | apply Kd.S_drewN | apply Kd.S_drew)); exact HO401.out))) (Kd.S_lt (by (with_reducible repeat (first | apply Kd.S_alloc | apply Kd.S_drewN | apply Kd.S_drew)); exact HO405.out))) (Kd.S_lt (by (with_reducible repeat (first | apply Kd.S_alloc | apply Kd.S_drewN | apply Kd.S_drew)); exact HO409.out))) (Kd.S_lt (by (with_reducible repeat (first | apply Kd.S_alloc | apply Kd.S_drewN | apply Kd.S_drew)); exact HO421.out))) (Kd.S_lt (by (with_reducible repeat (first | apply Kd.S_alloc | apply Kd.S_drewN | apply Kd.S_drew)); exact HO425.out))) (below_size (by repeat (first | (with_reducible first | exact HB.out | apply below_alloc | apply pw_below_drewN | apply below_drew1) | exact HB.out)))); have n9_ := Aside0.mk (below_step (by repeat (first | (with_reducible first | exact HB.out | apply below_alloc | apply pw_below_drewN | apply below_drew1) | exact HB.out)) hb); clear HO389; clear HO393; clear HO397; clear HO401; clear HO405; clear HO409; clear HO421; clear HO425; clear HB; have HO389 := n0_; have HO393 := n1_; have HO397 := n2_; have HO401 := n3_; have HO405 := n4_; have HO409 := n5_; have HO421 := n6_; have HO425 := n7_; have HO437 := n8_; have HB := n9_; clear n0_ n1_ n2_ n3_ n4_ n5_ n6_ n7_ n8_ n9_; (try clear hb); (try clear hb2); (try clear hk); (try clear hi); (try clear ho0)) | (go_at_call 21; (with_reducible refine (spec_SaddlePlaces.calls k _ _ l0 t438 t439 _ ?side1 ?side2 A20.out).mono ?_); (case side1 => repeat (first | exact (Kd.C_below HR0.out HB.out) | (with_reducible refine Kd.C_alloc ?_ _) | (with_reducible refine Kd.C_drewN ?_ _) | (with_reducible refine Kd.C_drew ?_))); (case side2 => exact HC0.out); rintro e w37 ⟨v440, rfl, ho0, hb⟩; have n0_ := Aside0.mk (Kd.S_elder' (by (with_reducible repeat (first | apply Kd.S_alloc | apply Kd.S_drewN | apply Kd.S_drew)); exact HO389.out) (Kd.S_base ho0) hb); have n1_ := Aside0.mk (Kd.S_elder' (by (with_reducible repeat (first | apply Kd.S_alloc | apply Kd.S_drewN | apply Kd.S_drew)); exact HO393.out) (Kd.S_base ho0) hb); have n2_ := Aside0.mk (Kd.S_elder' (by (with_reducible repeat (first | apply Kd.S_alloc | apply Kd.S_drewN | apply Kd.S_drew)); exact HO397.out) (Kd.S_base ho0) hb); have n3_ := Aside0.mk (Kd.S_elder' (by (with_reducible repeat (first | apply Kd.S_alloc | apply Kd.S_drewN | apply Kd.S_drew)); exact HO401.out) (Kd.S_base ho0) hb); have n4_ := Aside0.mk (Kd.S_elder' (by (with_reducible repeat (first | apply Kd.S_alloc | apply Kd.S_drewN | apply Kd.S_drew)); exact HO405.out) (Kd.S_base ho0) hb); have n5_ := Aside0.mk (Kd.S_elder' (by (with_reducible repeat (first | apply Kd.S_alloc | apply Kd.S_drewN | apply Kd.S_drew)); exact HO409.out) (Kd.S_base ho0) hb); have n6_ := Aside0.mk (Kd.S_elder' (by (with_reducible repeat (first | apply Kd.S_alloc | apply Kd.S_drewN | apply Kd.S_drew)); exact HO421.out) (Kd.S_base ho0) hb); have n7_ := Aside0.mk (Kd.S_elder' (by (with_reducible repeat (first | apply Kd.S_alloc | apply Kd.S_drewN | apply Kd.S_drew)); exact HO425.out) (Kd.S_base ho0) hb); have n8_ := Aside0.mk (Kd.S_elder' (by (with_reducible repeat (first | apply Kd.S_alloc | apply Kd.S_drewN | apply Kd.S_drew)); exact HO437.out) (Kd.S_base ho0) hb); have n9_ := Aside0.mk (Kd.S_lower (Kd.S_new' (Kd.S_new' (Kd.S_new' (Kd.S_new' (Kd.S_new' (Kd.S_new' (Kd.S_new' (Kd.S_new' (Kd.S_new' ho0 (Kd.S_lt (by (with_reducible repeat (first | apply Kd.S_alloc | apply Kd.S_drewN | apply Kd.S_drew)); exact HO389.out))) (Kd.S_lt (by (with_reducible repeat (first | apply Kd.S_alloc | apply Kd.S_drewN | apply Kd.S_drew)); exact HO393.out))) (Kd.S_lt (by (with_reducible repeat (first | apply Kd.S_alloc | apply Kd.S_drewN | apply Kd.S_drew)); exact HO397.out))) (Kd.S_lt (by (with_reducible repeat (first | apply Kd.S_alloc | apply Kd.S_drewN | apply Kd.S_drew)); exact HO401.out))) (Kd.S_lt (by (with_reducible repeat (first | apply Kd.S_alloc | apply Kd.S_drewN | apply Kd.S_drew)); exact HO405.out))) (Kd.S_lt (by (with_reducible repeat (first | apply Kd.S_alloc | apply Kd.S_drewN | apply Kd.S_drew)); exact HO409.out))) (Kd.S_lt (by (with_reducible repeat (first | apply Kd.S_alloc | apply Kd.S_drewN | apply Kd.S_drew)); exact HO421.out))) (Kd.S_lt (by (with_reducible repeat (first | apply Kd.S_alloc | apply Kd.S_drewN | apply Kd.S_drew)); exact HO425.out))) (Kd.S_lt (by (with_reducible repeat (first | apply Kd.S_alloc | apply Kd.S_drewN | apply Kd.S_drew)); exact HO437.out))) (below_size (by repeat (first | (with_reducible first | exact HB.out | apply below_alloc | apply pw_below_drewN | apply below_drew1) | exact HB.out)))); have n10_ := Aside0.mk (below_step (by repeat (first | (with_reducible first | exact HB.out | apply below_alloc | apply pw_below_drewN | apply below_drew1) | exact HB.out)) hb); clear HO389; clear HO393; clear HO397; clear HO401; clear HO405; clear HO409; clear HO421; clear HO425; clear HO437; clear HB; have HO389 := n0_; have HO393 := n1_; have HO397 := n2_; have HO401 := n3_; have HO405 := n4_; have HO409 := n5_; have HO421 := n6_; have HO425 := n7_; have HO437 := n8_; have HO441 := n9_; have HB := n10_; clear n0_ n1_ n2_ n3_ n4_ n5_ n6_ n7_ n8_ n9_ n10_; (try clear hb); (try clear hb2); (try clear hk); (try clear hi); (try clear ho0)))
    (try simp only [Act.put, List.setIfInBounds_toArray, List.set_cons_zero, List.set_cons_succ])
    go_cut [292] (fun v292 wc => ∃ (kq : Nat) (x292_20 : Bool), v292 = .bool x292_20 ∧ Aside0 (laws_FnFilesSortedOfAll.j0 kq l0 t386 t387 t394 t402 t410 t414 t418 t426 t430 t434 x292_20 = some r) ∧ Aside0 (kq ≤ k) ∧ Aside0 (Kd.S (Kd.slice 3 (Kd.int .i64)) 31 wc w.heap.size (fun k_ => some k_ ≠ (v396 : Value).ownBlock ∧ some k_ ≠ (v404 : Value).ownBlock ∧ some k_ ≠ (v420 : Value).ownBlock ∧ some k_ ≠ (v436 : Value).ownBlock) v388 t386) ∧ Aside0 (Kd.S (Kd.slice 3 (Kd.int .i64)) 31 wc w.heap.size (fun k_ => some k_ ≠ (v388 : Value).ownBlock ∧ some k_ ≠ (v404 : Value).ownBlock ∧ some k_ ≠ (v420 : Value).ownBlock ∧ some k_ ≠ (v436 : Value).ownBlock) v396 t394) ∧ Aside0 (Kd.S (Kd.slice 3 (Kd.int .i64)) 31 wc w.heap.size (fun k_ => some k_ ≠ (v388 : Value).ownBlock ∧ some k_ ≠ (v396 : Value).ownBlock ∧ some k_ ≠ (v420 : Value).ownBlock ∧ some k_ ≠ (v436 : Value).ownBlock) v404 t402) ∧ Aside0 (Kd.S (Kd.slice 3 (Kd.int .i64)) 31 wc w.heap.size (fun k_ => some k_ ≠ (v388 : Value).ownBlock ∧ some k_ ≠ (v396 : Value).ownBlock ∧ some k_ ≠ (v404 : Value).ownBlock ∧ some k_ ≠ (v436 : Value).ownBlock) v420 t418) ∧ Aside0 (Kd.S (Kd.slice 3 (Kd.int .i64)) 31 wc w.heap.size (fun k_ => some k_ ≠ (v388 : Value).ownBlock ∧ some k_ ≠ (v396 : Value).ownBlock ∧ some k_ ≠ (v404 : Value).ownBlock ∧ some k_ ≠ (v420 : Value).ownBlock) v436 t434) ∧ Aside0 (Below w.heap.size w wc))
    case first => as_aux_lemma =>
      have H := HC21.out
      clear HC21
      by_cases c38 : (t387 != t391) = true
      · rw [if_pos c38] at H
        have c38b0 : (t387 != t391) = true := c38
        (try (have c38b1 : decide (t387 = t391) = false := by simpa using c38))
        (try (have c38b2 : (t387 == t391) = false := by simpa using c38))
        (try (have c38b3 : ¬ (t387 = t391) := by simpa using c38))
        clear c38
        (first | rw [c38b0] | (simp only [i64_w, i32_w]; rw [c38b0]) | skip)
        exact absurd (hrt.symm.trans (laws_FnFilesSortedOfAll.j0_false H)) (by decide)
      · rw [if_neg c38] at H
        have c38b0 : (t387 != t391) = false := by simpa using c38
        (try (have c38b1 : decide (t387 = t391) = true := by simpa using c38))
        (try (have c38b2 : (t387 == t391) = true := by simpa using c38))
        clear c38
        (first | rw [c38b0] | (simp only [i64_w, i32_w]; rw [c38b0]) | skip)
        replace H := Option.bind_eq_some_iff.mp H
        obtain ⟨t442, A390, H⟩ := H
        (try dsimp only at H)
        have A39 := Aside0.mk A390
        clear A390
        by_cases c40 : t442 = true
        · subst c40
          rw [if_pos rfl] at H
          by_cases c41 : (t395 != t399) = true
          · rw [if_pos c41] at H
            have c41b0 : (t395 != t399) = true := c41
            (try (have c41b1 : decide (t395 = t399) = false := by simpa using c41))
            (try (have c41b2 : (t395 == t399) = false := by simpa using c41))
            (try (have c41b3 : ¬ (t395 = t399) := by simpa using c41))
            clear c41
            exact absurd (hrt.symm.trans (laws_FnFilesSortedOfAll.j0_false H)) (by decide)
          · rw [if_neg c41] at H
            have c41b0 : (t395 != t399) = false := by simpa using c41
            (try (have c41b1 : decide (t395 = t399) = true := by simpa using c41))
            (try (have c41b2 : (t395 == t399) = true := by simpa using c41))
            clear c41
            replace H := Option.bind_eq_some_iff.mp H
            obtain ⟨t443, A440, H⟩ := H
            (try dsimp only at H)
            have A44 := Aside0.mk A440
            clear A440
            by_cases c45 : t443 = true
            · subst c45
              rw [if_pos rfl] at H
              by_cases c46 : (t403 != t407) = true
              · rw [if_pos c46] at H
                have c46b0 : (t403 != t407) = true := c46
                (try (have c46b1 : decide (t403 = t407) = false := by simpa using c46))
                (try (have c46b2 : (t403 == t407) = false := by simpa using c46))
                (try (have c46b3 : ¬ (t403 = t407) := by simpa using c46))
                clear c46
                exact absurd (hrt.symm.trans (laws_FnFilesSortedOfAll.j0_false H)) (by decide)
              · rw [if_neg c46] at H
                have c46b0 : (t403 != t407) = false := by simpa using c46
                (try (have c46b1 : decide (t403 = t407) = true := by simpa using c46))
                (try (have c46b2 : (t403 == t407) = true := by simpa using c46))
                clear c46
                replace H := Option.bind_eq_some_iff.mp H
                obtain ⟨t444, A510, H⟩ := H
                (try dsimp only at H)
                have A51 := Aside0.mk A510
                clear A510
                by_cases c52 : t444 = true
                · subst c52
                  rw [if_pos rfl] at H
                  by_cases c53 : (t411 != t413) = true
                  · rw [if_pos c53] at H
                    have c53b0 : (t411 != t413) = true := c53
                    (try (have c53b1 : decide (t411 = t413) = false := by simpa using c53))
                    (try (have c53b2 : (t411 == t413) = false := by simpa using c53))
                    (try (have c53b3 : ¬ (t411 = t413) := by simpa using c53))
                    clear c53
                    exact absurd (hrt.symm.trans (laws_FnFilesSortedOfAll.j0_false H)) (by decide)
                  · rw [if_neg c53] at H
                    have c53b0 : (t411 != t413) = false := by simpa using c53
                    (try (have c53b1 : decide (t411 = t413) = true := by simpa using c53))
                    (try (have c53b2 : (t411 == t413) = true := by simpa using c53))
                    clear c53
                    by_cases c60 : (t410 != t412) = true
                    · rw [if_pos c60] at H
                      have c60b0 : (t410 != t412) = true := c60
                      (try (have c60b1 : decide (t410 = t412) = false := by simpa using c60))
                      (try (have c60b2 : (t410 == t412) = false := by simpa using c60))
                      (try (have c60b3 : ¬ (t410 = t412) := by simpa using c60))
                      clear c60
                      exact absurd (hrt.symm.trans (laws_FnFilesSortedOfAll.j0_false H)) (by decide)
                    · rw [if_neg c60] at H
                      have c60b0 : (t410 != t412) = false := by simpa using c60
                      (try (have c60b1 : decide (t410 = t412) = true := by simpa using c60))
                      (try (have c60b2 : (t410 == t412) = true := by simpa using c60))
                      clear c60
                      by_cases c67 : (t415 != t417) = true
                      · rw [if_pos c67] at H
                        have c67b0 : (t415 != t417) = true := c67
                        (try (have c67b1 : decide (t415 = t417) = false := by simpa using c67))
                        (try (have c67b2 : (t415 == t417) = false := by simpa using c67))
                        (try (have c67b3 : ¬ (t415 = t417) := by simpa using c67))
                        clear c67
                        exact absurd (hrt.symm.trans (laws_FnFilesSortedOfAll.j0_false H)) (by decide)
                      · rw [if_neg c67] at H
                        have c67b0 : (t415 != t417) = false := by simpa using c67
                        (try (have c67b1 : decide (t415 = t417) = true := by simpa using c67))
                        (try (have c67b2 : (t415 == t417) = true := by simpa using c67))
                        clear c67
                        by_cases c74 : (t414 != t416) = true
                        · rw [if_pos c74] at H
                          have c74b0 : (t414 != t416) = true := c74
                          (try (have c74b1 : decide (t414 = t416) = false := by simpa using c74))
                          (try (have c74b2 : (t414 == t416) = false := by simpa using c74))
                          (try (have c74b3 : ¬ (t414 = t416) := by simpa using c74))
                          clear c74
                          exact absurd (hrt.symm.trans (laws_FnFilesSortedOfAll.j0_false H)) (by decide)
                        · rw [if_neg c74] at H
                          have c74b0 : (t414 != t416) = false := by simpa using c74
                          (try (have c74b1 : decide (t414 = t416) = true := by simpa using c74))
                          (try (have c74b2 : (t414 == t416) = true := by simpa using c74))
                          clear c74
                          by_cases c81 : (t419 != t423) = true
                          · rw [if_pos c81] at H
                            have c81b0 : (t419 != t423) = true := c81
                            (try (have c81b1 : decide (t419 = t423) = false := by simpa using c81))
                            (try (have c81b2 : (t419 == t423) = false := by simpa using c81))
                            (try (have c81b3 : ¬ (t419 = t423) := by simpa using c81))
                            clear c81
                            exact absurd (hrt.symm.trans (laws_FnFilesSortedOfAll.j0_false H)) (by decide)
                          · rw [if_neg c81] at H
                            have c81b0 : (t419 != t423) = false := by simpa using c81
                            (try (have c81b1 : decide (t419 = t423) = true := by simpa using c81))
                            (try (have c81b2 : (t419 == t423) = true := by simpa using c81))
                            clear c81
                            replace H := Option.bind_eq_some_iff.mp H
                            obtain ⟨t445, A880, H⟩ := H
                            (try dsimp only at H)
                            have A88 := Aside0.mk A880
                            clear A880
                            by_cases c89 : t445 = true
                            · subst c89
                              rw [if_pos rfl] at H
                              by_cases c90 : (t427 != t429) = true
                              · rw [if_pos c90] at H
                                have c90b0 : (t427 != t429) = true := c90
                                (try (have c90b1 : decide (t427 = t429) = false := by simpa using c90))
                                (try (have c90b2 : (t427 == t429) = false := by simpa using c90))
                                (try (have c90b3 : ¬ (t427 = t429) := by simpa using c90))
                                clear c90
                                exact absurd (hrt.symm.trans (laws_FnFilesSortedOfAll.j0_false H)) (by decide)
                              · rw [if_neg c90] at H
                                have c90b0 : (t427 != t429) = false := by simpa using c90
                                (try (have c90b1 : decide (t427 = t429) = true := by simpa using c90))
                                (try (have c90b2 : (t427 == t429) = true := by simpa using c90))
                                clear c90
                                by_cases c99 : t426 = t428
                                · rw [if_pos c99] at H
                                  have c99b0 : (t426 == t428) = true := beq_iff_eq.mpr c99
                                  have c99b1 : (t426 != t428) = false := bne_eq_false_iff_eq.mpr c99
                                  clear c99
                                  by_cases c100 : (t431 != t433) = true
                                  · rw [if_pos c100] at H
                                    have c100b0 : (t431 != t433) = true := c100
                                    (try (have c100b1 : decide (t431 = t433) = false := by simpa using c100))
                                    (try (have c100b2 : (t431 == t433) = false := by simpa using c100))
                                    (try (have c100b3 : ¬ (t431 = t433) := by simpa using c100))
                                    clear c100
                                    exact absurd (hrt.symm.trans (laws_FnFilesSortedOfAll.j0_false H)) (by decide)
                                  · rw [if_neg c100] at H
                                    have c100b0 : (t431 != t433) = false := by simpa using c100
                                    (try (have c100b1 : decide (t431 = t433) = true := by simpa using c100))
                                    (try (have c100b2 : (t431 == t433) = true := by simpa using c100))
                                    clear c100
                                    by_cases c109 : t430 = t432
                                    · rw [if_pos c109] at H
                                      have c109b0 : (t430 == t432) = true := beq_iff_eq.mpr c109
                                      have c109b1 : (t430 != t432) = false := bne_eq_false_iff_eq.mpr c109
                                      clear c109
                                      by_cases c110 : (t435 != t439) = true
                                      · rw [if_pos c110] at H
                                        have c110b0 : (t435 != t439) = true := c110
                                        (try (have c110b1 : decide (t435 = t439) = false := by simpa using c110))
                                        (try (have c110b2 : (t435 == t439) = false := by simpa using c110))
                                        (try (have c110b3 : ¬ (t435 = t439) := by simpa using c110))
                                        clear c110
                                        exact absurd (hrt.symm.trans (laws_FnFilesSortedOfAll.j0_false H)) (by decide)
                                      · rw [if_neg c110] at H
                                        have c110b0 : (t435 != t439) = false := by simpa using c110
                                        (try (have c110b1 : decide (t435 = t439) = true := by simpa using c110))
                                        (try (have c110b2 : (t435 == t439) = true := by simpa using c110))
                                        clear c110
                                        replace H := Option.bind_eq_some_iff.mp H
                                        obtain ⟨t446, A1190, H⟩ := H
                                        (try dsimp only at H)
                                        have A119 := Aside0.mk A1190
                                        clear A1190
                                        by_cases c120 : t446 = true
                                        · subst c120
                                          rw [if_pos rfl] at H
                                          replace H := Option.bind_eq_some_iff.mp H
                                          obtain ⟨t447, A1210, H⟩ := H
                                          (try dsimp only at H)
                                          have A121 := Aside0.mk A1210
                                          clear A1210
                                          by_cases c122 : (t387 != t447) = true
                                          · rw [if_pos c122] at H
                                            have c122b0 : (t387 != t447) = true := c122
                                            (try (have c122b1 : decide (t387 = t447) = false := by simpa using c122))
                                            (try (have c122b2 : (t387 == t447) = false := by simpa using c122))
                                            (try (have c122b3 : ¬ (t387 = t447) := by simpa using c122))
                                            clear c122
                                            exact absurd (hrt.symm.trans (laws_FnFilesSortedOfAll.j0_false H)) (by decide)
                                          · rw [if_neg c122] at H
                                            have c122b0 : (t387 != t447) = false := by simpa using c122
                                            (try (have c122b1 : decide (t387 = t447) = true := by simpa using c122))
                                            (try (have c122b2 : (t387 == t447) = true := by simpa using c122))
                                            clear c122
                                            replace H := Option.bind_eq_some_iff.mp H
                                            obtain ⟨t448, A1340, H⟩ := H
                                            (try dsimp only at H)
                                            have A134 := Aside0.mk A1340
                                            clear A1340
                                            replace H := Option.bind_eq_some_iff.mp H
                                            obtain ⟨t449, A1350, H⟩ := H
                                            (try dsimp only at H)
                                            have A135 := Aside0.mk A1350
                                            clear A1350
                                            by_cases c136 : (t448 != t449) = true
                                            · rw [if_pos c136] at H
                                              have c136b0 : (t448 != t449) = true := c136
                                              (try (have c136b1 : decide (t448 = t449) = false := by simpa using c136))
                                              (try (have c136b2 : (t448 == t449) = false := by simpa using c136))
                                              (try (have c136b3 : ¬ (t448 = t449) := by simpa using c136))
                                              clear c136
                                              exact absurd (hrt.symm.trans (laws_FnFilesSortedOfAll.j0_false H)) (by decide)
                                            · rw [if_neg c136] at H
                                              have c136b0 : (t448 != t449) = false := by simpa using c136
                                              (try (have c136b1 : decide (t448 = t449) = true := by simpa using c136))
                                              (try (have c136b2 : (t448 == t449) = true := by simpa using c136))
                                              clear c136
                                              by_cases c149 : (t395 != t387) = true
                                              · rw [if_pos c149] at H
                                                have c149b0 : (t395 != t387) = true := c149
                                                (try (have c149b1 : decide (t395 = t387) = false := by simpa using c149))
                                                (try (have c149b2 : (t395 == t387) = false := by simpa using c149))
                                                (try (have c149b3 : ¬ (t395 = t387) := by simpa using c149))
                                                clear c149
                                                exact absurd (hrt.symm.trans (laws_FnFilesSortedOfAll.j0_false H)) (by decide)
                                              · rw [if_neg c149] at H
                                                have c149b0 : (t395 != t387) = false := by simpa using c149
                                                (try (have c149b1 : decide (t395 = t387) = true := by simpa using c149))
                                                (try (have c149b2 : (t395 == t387) = true := by simpa using c149))
                                                clear c149
                                                by_cases c162 : (t403 != t387) = true
                                                · rw [if_pos c162] at H
                                                  have c162b0 : (t403 != t387) = true := c162
                                                  (try (have c162b1 : decide (t403 = t387) = false := by simpa using c162))
                                                  (try (have c162b2 : (t403 == t387) = false := by simpa using c162))
                                                  (try (have c162b3 : ¬ (t403 = t387) := by simpa using c162))
                                                  clear c162
                                                  exact absurd (hrt.symm.trans (laws_FnFilesSortedOfAll.j0_false H)) (by decide)
                                                · rw [if_neg c162] at H
                                                  have c162b0 : (t403 != t387) = false := by simpa using c162
                                                  (try (have c162b1 : decide (t403 = t387) = true := by simpa using c162))
                                                  (try (have c162b2 : (t403 == t387) = true := by simpa using c162))
                                                  clear c162
                                                  by_cases c175 : (t411 != t387) = true
                                                  · rw [if_pos c175] at H
                                                    have c175b0 : (t411 != t387) = true := c175
                                                    (try (have c175b1 : decide (t411 = t387) = false := by simpa using c175))
                                                    (try (have c175b2 : (t411 == t387) = false := by simpa using c175))
                                                    (try (have c175b3 : ¬ (t411 = t387) := by simpa using c175))
                                                    clear c175
                                                    exact absurd (hrt.symm.trans (laws_FnFilesSortedOfAll.j0_false H)) (by decide)
                                                  · rw [if_neg c175] at H
                                                    have c175b0 : (t411 != t387) = false := by simpa using c175
                                                    (try (have c175b1 : decide (t411 = t387) = true := by simpa using c175))
                                                    (try (have c175b2 : (t411 == t387) = true := by simpa using c175))
                                                    clear c175
                                                    by_cases c188 : (t415 != t387) = true
                                                    · rw [if_pos c188] at H
                                                      have c188b0 : (t415 != t387) = true := c188
                                                      (try (have c188b1 : decide (t415 = t387) = false := by simpa using c188))
                                                      (try (have c188b2 : (t415 == t387) = false := by simpa using c188))
                                                      (try (have c188b3 : ¬ (t415 = t387) := by simpa using c188))
                                                      clear c188
                                                      exact absurd (hrt.symm.trans (laws_FnFilesSortedOfAll.j0_false H)) (by decide)
                                                    · rw [if_neg c188] at H
                                                      have c188b0 : (t415 != t387) = false := by simpa using c188
                                                      (try (have c188b1 : decide (t415 = t387) = true := by simpa using c188))
                                                      (try (have c188b2 : (t415 == t387) = true := by simpa using c188))
                                                      clear c188
                                                      by_cases c201 : (t419 != t387) = true
                                                      · rw [if_pos c201] at H
                                                        have c201b0 : (t419 != t387) = true := c201
                                                        (try (have c201b1 : decide (t419 = t387) = false := by simpa using c201))
                                                        (try (have c201b2 : (t419 == t387) = false := by simpa using c201))
                                                        (try (have c201b3 : ¬ (t419 = t387) := by simpa using c201))
                                                        clear c201
                                                        exact absurd (hrt.symm.trans (laws_FnFilesSortedOfAll.j0_false H)) (by decide)
                                                      · rw [if_neg c201] at H
                                                        have c201b0 : (t419 != t387) = false := by simpa using c201
                                                        (try (have c201b1 : decide (t419 = t387) = true := by simpa using c201))
                                                        (try (have c201b2 : (t419 == t387) = true := by simpa using c201))
                                                        clear c201
                                                        by_cases c214 : (t427 != t387) = true
                                                        · rw [if_pos c214] at H
                                                          have c214b0 : (t427 != t387) = true := c214
                                                          (try (have c214b1 : decide (t427 = t387) = false := by simpa using c214))
                                                          (try (have c214b2 : (t427 == t387) = false := by simpa using c214))
                                                          (try (have c214b3 : ¬ (t427 = t387) := by simpa using c214))
                                                          clear c214
                                                          exact absurd (hrt.symm.trans (laws_FnFilesSortedOfAll.j0_false H)) (by decide)
                                                        · rw [if_neg c214] at H
                                                          have c214b0 : (t427 != t387) = false := by simpa using c214
                                                          (try (have c214b1 : decide (t427 = t387) = true := by simpa using c214))
                                                          (try (have c214b2 : (t427 == t387) = true := by simpa using c214))
                                                          clear c214
                                                          by_cases c227 : (t431 != t387) = true
                                                          · rw [if_pos c227] at H
                                                            have c227b0 : (t431 != t387) = true := c227
                                                            (try (have c227b1 : decide (t431 = t387) = false := by simpa using c227))
                                                            (try (have c227b2 : (t431 == t387) = false := by simpa using c227))
                                                            (try (have c227b3 : ¬ (t431 = t387) := by simpa using c227))
                                                            clear c227
                                                            exact absurd (hrt.symm.trans (laws_FnFilesSortedOfAll.j0_false H)) (by decide)
                                                          · rw [if_neg c227] at H
                                                            have c227b0 : (t431 != t387) = false := by simpa using c227
                                                            (try (have c227b1 : decide (t431 = t387) = true := by simpa using c227))
                                                            (try (have c227b2 : (t431 == t387) = true := by simpa using c227))
                                                            clear c227
                                                            cases cq_ : (t435 != t387) with
                                                            | true =>
                                                              rw [cq_] at H
                                                              exact absurd (hrt.symm.trans (laws_FnFilesSortedOfAll.j0_false H)) (by decide)
                                                            | false =>
                                                              rw [cq_] at H
                                                              (try (have cq1_ : decide (t435 = t387) = true := by simpa using cq_))
                                                              (try (have cq2_ : (t435 == t387) = true := by simpa using cq_))
                                                              obtain rfl : t447 = t448 := Option.some.inj (A121.out.symm.trans A134.out)
                                                              have H' := Aside0.mk H
                                                              clear H
                                                              obtain ⟨Ao240, co240, eo240⟩ := Kd.S_slice HO389.out
                                                              subst eo240
                                                              obtain ⟨Ao241, co241, eo241⟩ := Kd.S_slice HO393.out
                                                              subst eo241
                                                              go_wp2_with (first | (go_at_call 22; (with_reducible refine (laws_vRows.calls k _ _ t386 _ _ t390 true _ ?side1 ?side2 ?side3 ?side4 A39.out).mono ?_); (case side1 => repeat (first | exact (Kd.S_reads' HO389.out).2.2 | (with_reducible refine Kd.C_alloc ?_ _) | (with_reducible refine Kd.C_drewN ?_ _) | (with_reducible refine Kd.C_drew ?_))); (case side2 => exact (Kd.S_reads' HO389.out).2.1); (case side3 => repeat (first | exact (Kd.S_reads' HO393.out).2.2 | (with_reducible refine Kd.C_alloc ?_ _) | (with_reducible refine Kd.C_drewN ?_ _) | (with_reducible refine Kd.C_drew ?_))); (case side4 => exact (Kd.S_reads' HO393.out).2.1); rintro e w' ⟨rfl, ⟨nd, rfl⟩⟩; (try first | exact ⟨rfl, _, World.drewN_drewN _ _ _⟩ | exact ⟨rfl, _, Eq.trans (World.drewN_drewN _ _ _) (congrArg (World.drewN _) (Nat.add_assoc _ _ _))⟩); obtain ⟨Ao242, co242, eo242⟩ := Kd.S_slice HO397.out; subst eo242; obtain ⟨Ao243, co243, eo243⟩ := Kd.S_slice HO401.out; subst eo243) | (go_at_call 22; (with_reducible refine (laws_vRows.calls k _ _ t394 _ _ t398 true _ ?side1 ?side2 ?side3 ?side4 A44.out).mono ?_); (case side1 => repeat (first | exact (Kd.S_reads' HO397.out).2.2 | (with_reducible refine Kd.C_alloc ?_ _) | (with_reducible refine Kd.C_drewN ?_ _) | (with_reducible refine Kd.C_drew ?_))); (case side2 => exact (Kd.S_reads' HO397.out).2.1); (case side3 => repeat (first | exact (Kd.S_reads' HO401.out).2.2 | (with_reducible refine Kd.C_alloc ?_ _) | (with_reducible refine Kd.C_drewN ?_ _) | (with_reducible refine Kd.C_drew ?_))); (case side4 => exact (Kd.S_reads' HO401.out).2.1); rintro e w' ⟨rfl, ⟨nd, rfl⟩⟩; (try first | exact ⟨rfl, _, World.drewN_drewN _ _ _⟩ | exact ⟨rfl, _, Eq.trans (World.drewN_drewN _ _ _) (congrArg (World.drewN _) (Nat.add_assoc _ _ _))⟩); obtain ⟨Ao244, co244, eo244⟩ := Kd.S_slice HO405.out; subst eo244; obtain ⟨Ao245, co245, eo245⟩ := Kd.S_slice HO409.out; subst eo245) | (go_at_call 22; (with_reducible refine (laws_vRows.calls k _ _ t402 _ _ t406 true _ ?side1 ?side2 ?side3 ?side4 A51.out).mono ?_); (case side1 => repeat (first | exact (Kd.S_reads' HO405.out).2.2 | (with_reducible refine Kd.C_alloc ?_ _) | (with_reducible refine Kd.C_drewN ?_ _) | (with_reducible refine Kd.C_drew ?_))); (case side2 => exact (Kd.S_reads' HO405.out).2.1); (case side3 => repeat (first | exact (Kd.S_reads' HO409.out).2.2 | (with_reducible refine Kd.C_alloc ?_ _) | (with_reducible refine Kd.C_drewN ?_ _) | (with_reducible refine Kd.C_drew ?_))); (case side4 => exact (Kd.S_reads' HO409.out).2.1); rintro e w' ⟨rfl, ⟨nd, rfl⟩⟩; (try first | exact ⟨rfl, _, World.drewN_drewN _ _ _⟩ | exact ⟨rfl, _, Eq.trans (World.drewN_drewN _ _ _) (congrArg (World.drewN _) (Nat.add_assoc _ _ _))⟩); obtain ⟨Ao246, co246, eo246⟩ := Kd.S_slice HO421.out; subst eo246; obtain ⟨Ao247, co247, eo247⟩ := Kd.S_slice HO425.out; subst eo247) | (go_at_call 22; (with_reducible refine (laws_vRows.calls k _ _ t418 _ _ t422 true _ ?side1 ?side2 ?side3 ?side4 A88.out).mono ?_); (case side1 => repeat (first | exact (Kd.S_reads' HO421.out).2.2 | (with_reducible refine Kd.C_alloc ?_ _) | (with_reducible refine Kd.C_drewN ?_ _) | (with_reducible refine Kd.C_drew ?_))); (case side2 => exact (Kd.S_reads' HO421.out).2.1); (case side3 => repeat (first | exact (Kd.S_reads' HO425.out).2.2 | (with_reducible refine Kd.C_alloc ?_ _) | (with_reducible refine Kd.C_drewN ?_ _) | (with_reducible refine Kd.C_drew ?_))); (case side4 => exact (Kd.S_reads' HO425.out).2.1); rintro e w' ⟨rfl, ⟨nd, rfl⟩⟩; (try first | exact ⟨rfl, _, World.drewN_drewN _ _ _⟩ | exact ⟨rfl, _, Eq.trans (World.drewN_drewN _ _ _) (congrArg (World.drewN _) (Nat.add_assoc _ _ _))⟩); obtain ⟨Ao248, co248, eo248⟩ := Kd.S_slice HO437.out; subst eo248; obtain ⟨Ao249, co249, eo249⟩ := Kd.S_slice HO441.out; subst eo249) | (go_at_call 22; (with_reducible refine (laws_vRows.calls k _ _ t434 _ _ t438 true _ ?side1 ?side2 ?side3 ?side4 A119.out).mono ?_); (case side1 => repeat (first | exact (Kd.S_reads' HO437.out).2.2 | (with_reducible refine Kd.C_alloc ?_ _) | (with_reducible refine Kd.C_drewN ?_ _) | (with_reducible refine Kd.C_drew ?_))); (case side2 => exact (Kd.S_reads' HO437.out).2.1); (case side3 => repeat (first | exact (Kd.S_reads' HO441.out).2.2 | (with_reducible refine Kd.C_alloc ?_ _) | (with_reducible refine Kd.C_drewN ?_ _) | (with_reducible refine Kd.C_drew ?_))); (case side4 => exact (Kd.S_reads' HO441.out).2.1); rintro e w' ⟨rfl, ⟨nd, rfl⟩⟩; (try first | exact ⟨rfl, _, World.drewN_drewN _ _ _⟩ | exact ⟨rfl, _, Eq.trans (World.drewN_drewN _ _ _) (congrArg (World.drewN _) (Nat.add_assoc _ _ _))⟩)) | (go_at_call 23; (with_reducible refine (impl_AreFiles.calls _ _ l0 t447 _ ?side1 ?side2 A121.out).mono ?_); (case side1 => repeat (first | exact (Kd.C_below HR0.out (by repeat (first | (with_reducible first | exact HB.out | apply below_alloc | apply pw_below_drewN | apply below_drew1) | exact HB.out))) | (with_reducible refine Kd.C_alloc ?_ _) | (with_reducible refine Kd.C_drewN ?_ _) | (with_reducible refine Kd.C_drew ?_))); (case side2 => exact HC0.out); rintro e w250 ⟨rfl, hb⟩; have n0_ := Aside0.mk (Kd.S_below (by (with_reducible repeat (first | apply Kd.S_alloc | apply Kd.S_drewN | apply Kd.S_drew)); exact HO389.out) hb); have n1_ := Aside0.mk (Kd.S_below (by (with_reducible repeat (first | apply Kd.S_alloc | apply Kd.S_drewN | apply Kd.S_drew)); exact HO393.out) hb); have n2_ := Aside0.mk (Kd.S_below (by (with_reducible repeat (first | apply Kd.S_alloc | apply Kd.S_drewN | apply Kd.S_drew)); exact HO397.out) hb); have n3_ := Aside0.mk (Kd.S_below (by (with_reducible repeat (first | apply Kd.S_alloc | apply Kd.S_drewN | apply Kd.S_drew)); exact HO401.out) hb); have n4_ := Aside0.mk (Kd.S_below (by (with_reducible repeat (first | apply Kd.S_alloc | apply Kd.S_drewN | apply Kd.S_drew)); exact HO405.out) hb); have n5_ := Aside0.mk (Kd.S_below (by (with_reducible repeat (first | apply Kd.S_alloc | apply Kd.S_drewN | apply Kd.S_drew)); exact HO409.out) hb); have n6_ := Aside0.mk (Kd.S_below (by (with_reducible repeat (first | apply Kd.S_alloc | apply Kd.S_drewN | apply Kd.S_drew)); exact HO421.out) hb); have n7_ := Aside0.mk (Kd.S_below (by (with_reducible repeat (first | apply Kd.S_alloc | apply Kd.S_drewN | apply Kd.S_drew)); exact HO425.out) hb); have n8_ := Aside0.mk (Kd.S_below (by (with_reducible repeat (first | apply Kd.S_alloc | apply Kd.S_drewN | apply Kd.S_drew)); exact HO437.out) hb); have n9_ := Aside0.mk (Kd.S_below (by (with_reducible repeat (first | apply Kd.S_alloc | apply Kd.S_drewN | apply Kd.S_drew)); exact HO441.out) hb); have n10_ := Aside0.mk (below_step (by repeat (first | (with_reducible first | exact HB.out | apply below_alloc | apply pw_below_drewN | apply below_drew1) | exact HB.out)) hb); clear HO389; clear HO393; clear HO397; clear HO401; clear HO405; clear HO409; clear HO421; clear HO425; clear HO437; clear HO441; clear HB; have HO389 := n0_; have HO393 := n1_; have HO397 := n2_; have HO401 := n3_; have HO405 := n4_; have HO409 := n5_; have HO421 := n6_; have HO425 := n7_; have HO437 := n8_; have HO441 := n9_; have HB := n10_; clear n0_ n1_ n2_ n3_ n4_ n5_ n6_ n7_ n8_ n9_ n10_; (try clear hb); (try clear hb2); (try clear hk); (try clear hi)) | (go_at_call 23; (with_reducible refine (impl_AreFiles.calls _ _ l0 t448 _ ?side1 ?side2 A134.out).mono ?_); (case side1 => repeat (first | exact (Kd.C_below HR0.out HB.out) | (with_reducible refine Kd.C_alloc ?_ _) | (with_reducible refine Kd.C_drewN ?_ _) | (with_reducible refine Kd.C_drew ?_))); (case side2 => exact HC0.out); rintro e w251 ⟨rfl, hb⟩; have n0_ := Aside0.mk (Kd.S_below (by (with_reducible repeat (first | apply Kd.S_alloc | apply Kd.S_drewN | apply Kd.S_drew)); exact HO389.out) hb); have n1_ := Aside0.mk (Kd.S_below (by (with_reducible repeat (first | apply Kd.S_alloc | apply Kd.S_drewN | apply Kd.S_drew)); exact HO393.out) hb); have n2_ := Aside0.mk (Kd.S_below (by (with_reducible repeat (first | apply Kd.S_alloc | apply Kd.S_drewN | apply Kd.S_drew)); exact HO397.out) hb); have n3_ := Aside0.mk (Kd.S_below (by (with_reducible repeat (first | apply Kd.S_alloc | apply Kd.S_drewN | apply Kd.S_drew)); exact HO401.out) hb); have n4_ := Aside0.mk (Kd.S_below (by (with_reducible repeat (first | apply Kd.S_alloc | apply Kd.S_drewN | apply Kd.S_drew)); exact HO405.out) hb); have n5_ := Aside0.mk (Kd.S_below (by (with_reducible repeat (first | apply Kd.S_alloc | apply Kd.S_drewN | apply Kd.S_drew)); exact HO409.out) hb); have n6_ := Aside0.mk (Kd.S_below (by (with_reducible repeat (first | apply Kd.S_alloc | apply Kd.S_drewN | apply Kd.S_drew)); exact HO421.out) hb); have n7_ := Aside0.mk (Kd.S_below (by (with_reducible repeat (first | apply Kd.S_alloc | apply Kd.S_drewN | apply Kd.S_drew)); exact HO425.out) hb); have n8_ := Aside0.mk (Kd.S_below (by (with_reducible repeat (first | apply Kd.S_alloc | apply Kd.S_drewN | apply Kd.S_drew)); exact HO437.out) hb); have n9_ := Aside0.mk (Kd.S_below (by (with_reducible repeat (first | apply Kd.S_alloc | apply Kd.S_drewN | apply Kd.S_drew)); exact HO441.out) hb); have n10_ := Aside0.mk (below_step (by repeat (first | (with_reducible first | exact HB.out | apply below_alloc | apply pw_below_drewN | apply below_drew1) | exact HB.out)) hb); clear HO389; clear HO393; clear HO397; clear HO401; clear HO405; clear HO409; clear HO421; clear HO425; clear HO437; clear HO441; clear HB; have HO389 := n0_; have HO393 := n1_; have HO397 := n2_; have HO401 := n3_; have HO405 := n4_; have HO409 := n5_; have HO421 := n6_; have HO425 := n7_; have HO437 := n8_; have HO441 := n9_; have HB := n10_; clear n0_ n1_ n2_ n3_ n4_ n5_ n6_ n7_ n8_ n9_ n10_; (try clear hb); (try clear hb2); (try clear hk); (try clear hi)) | (go_at_call 24; (with_reducible refine (spec_AreFiles.calls k _ _ l0 t449 _ ?side1 ?side2 A135.out).mono ?_); (case side1 => repeat (first | exact (Kd.C_below HR0.out HB.out) | (with_reducible refine Kd.C_alloc ?_ _) | (with_reducible refine Kd.C_drewN ?_ _) | (with_reducible refine Kd.C_drew ?_))); (case side2 => exact HC0.out); rintro e w' ⟨rfl, ⟨nd, rfl⟩⟩; (try first | exact ⟨rfl, _, World.drewN_drewN _ _ _⟩ | exact ⟨rfl, _, Eq.trans (World.drewN_drewN _ _ _) (congrArg (World.drewN _) (Nat.add_assoc _ _ _))⟩)))
                                                              repeat (go_quiet (first | (go_at_call 22; (with_reducible refine (laws_vRows.calls k _ _ t386 _ _ t390 true _ ?side1 ?side2 ?side3 ?side4 A39.out).mono ?_); (case side1 => repeat (first | exact (Kd.S_reads' HO389.out).2.2 | (with_reducible refine Kd.C_alloc ?_ _) | (with_reducible refine Kd.C_drewN ?_ _) | (with_reducible refine Kd.C_drew ?_))); (case side2 => exact (Kd.S_reads' HO389.out).2.1); (case side3 => repeat (first | exact (Kd.S_reads' HO393.out).2.2 | (with_reducible refine Kd.C_alloc ?_ _) | (with_reducible refine Kd.C_drewN ?_ _) | (with_reducible refine Kd.C_drew ?_))); (case side4 => exact (Kd.S_reads' HO393.out).2.1); rintro e w' ⟨rfl, ⟨nd, rfl⟩⟩; (try first | exact ⟨rfl, _, World.drewN_drewN _ _ _⟩ | exact ⟨rfl, _, Eq.trans (World.drewN_drewN _ _ _) (congrArg (World.drewN _) (Nat.add_assoc _ _ _))⟩); obtain ⟨Ao242, co242, eo242⟩ := Kd.S_slice HO397.out; subst eo242; obtain ⟨Ao243, co243, eo243⟩ := Kd.S_slice HO401.out; subst eo243) | (go_at_call 22; (with_reducible refine (laws_vRows.calls k _ _ t394 _ _ t398 true _ ?side1 ?side2 ?side3 ?side4 A44.out).mono ?_); (case side1 => repeat (first | exact (Kd.S_reads' HO397.out).2.2 | (with_reducible refine Kd.C_alloc ?_ _) | (with_reducible refine Kd.C_drewN ?_ _) | (with_reducible refine Kd.C_drew ?_))); (case side2 => exact (Kd.S_reads' HO397.out).2.1); (case side3 => repeat (first | exact (Kd.S_reads' HO401.out).2.2 | (with_reducible refine Kd.C_alloc ?_ _) | (with_reducible refine Kd.C_drewN ?_ _) | (with_reducible refine Kd.C_drew ?_))); (case side4 => exact (Kd.S_reads' HO401.out).2.1); rintro e w' ⟨rfl, ⟨nd, rfl⟩⟩; (try first | exact ⟨rfl, _, World.drewN_drewN _ _ _⟩ | exact ⟨rfl, _, Eq.trans (World.drewN_drewN _ _ _) (congrArg (World.drewN _) (Nat.add_assoc _ _ _))⟩); obtain ⟨Ao244, co244, eo244⟩ := Kd.S_slice HO405.out; subst eo244; obtain ⟨Ao245, co245, eo245⟩ := Kd.S_slice HO409.out; subst eo245) | (go_at_call 22; (with_reducible refine (laws_vRows.calls k _ _ t402 _ _ t406 true _ ?side1 ?side2 ?side3 ?side4 A51.out).mono ?_); (case side1 => repeat (first | exact (Kd.S_reads' HO405.out).2.2 | (with_reducible refine Kd.C_alloc ?_ _) | (with_reducible refine Kd.C_drewN ?_ _) | (with_reducible refine Kd.C_drew ?_))); (case side2 => exact (Kd.S_reads' HO405.out).2.1); (case side3 => repeat (first | exact (Kd.S_reads' HO409.out).2.2 | (with_reducible refine Kd.C_alloc ?_ _) | (with_reducible refine Kd.C_drewN ?_ _) | (with_reducible refine Kd.C_drew ?_))); (case side4 => exact (Kd.S_reads' HO409.out).2.1); rintro e w' ⟨rfl, ⟨nd, rfl⟩⟩; (try first | exact ⟨rfl, _, World.drewN_drewN _ _ _⟩ | exact ⟨rfl, _, Eq.trans (World.drewN_drewN _ _ _) (congrArg (World.drewN _) (Nat.add_assoc _ _ _))⟩); obtain ⟨Ao246, co246, eo246⟩ := Kd.S_slice HO421.out; subst eo246; obtain ⟨Ao247, co247, eo247⟩ := Kd.S_slice HO425.out; subst eo247) | (go_at_call 22; (with_reducible refine (laws_vRows.calls k _ _ t418 _ _ t422 true _ ?side1 ?side2 ?side3 ?side4 A88.out).mono ?_); (case side1 => repeat (first | exact (Kd.S_reads' HO421.out).2.2 | (with_reducible refine Kd.C_alloc ?_ _) | (with_reducible refine Kd.C_drewN ?_ _) | (with_reducible refine Kd.C_drew ?_))); (case side2 => exact (Kd.S_reads' HO421.out).2.1); (case side3 => repeat (first | exact (Kd.S_reads' HO425.out).2.2 | (with_reducible refine Kd.C_alloc ?_ _) | (with_reducible refine Kd.C_drewN ?_ _) | (with_reducible refine Kd.C_drew ?_))); (case side4 => exact (Kd.S_reads' HO425.out).2.1); rintro e w' ⟨rfl, ⟨nd, rfl⟩⟩; (try first | exact ⟨rfl, _, World.drewN_drewN _ _ _⟩ | exact ⟨rfl, _, Eq.trans (World.drewN_drewN _ _ _) (congrArg (World.drewN _) (Nat.add_assoc _ _ _))⟩); obtain ⟨Ao248, co248, eo248⟩ := Kd.S_slice HO437.out; subst eo248; obtain ⟨Ao249, co249, eo249⟩ := Kd.S_slice HO441.out; subst eo249) | (go_at_call 22; (with_reducible refine (laws_vRows.calls k _ _ t434 _ _ t438 true _ ?side1 ?side2 ?side3 ?side4 A119.out).mono ?_); (case side1 => repeat (first | exact (Kd.S_reads' HO437.out).2.2 | (with_reducible refine Kd.C_alloc ?_ _) | (with_reducible refine Kd.C_drewN ?_ _) | (with_reducible refine Kd.C_drew ?_))); (case side2 => exact (Kd.S_reads' HO437.out).2.1); (case side3 => repeat (first | exact (Kd.S_reads' HO441.out).2.2 | (with_reducible refine Kd.C_alloc ?_ _) | (with_reducible refine Kd.C_drewN ?_ _) | (with_reducible refine Kd.C_drew ?_))); (case side4 => exact (Kd.S_reads' HO441.out).2.1); rintro e w' ⟨rfl, ⟨nd, rfl⟩⟩; (try first | exact ⟨rfl, _, World.drewN_drewN _ _ _⟩ | exact ⟨rfl, _, Eq.trans (World.drewN_drewN _ _ _) (congrArg (World.drewN _) (Nat.add_assoc _ _ _))⟩)) | (go_at_call 23; (with_reducible refine (impl_AreFiles.calls _ _ l0 t447 _ ?side1 ?side2 A121.out).mono ?_); (case side1 => repeat (first | exact (Kd.C_below HR0.out (by repeat (first | (with_reducible first | exact HB.out | apply below_alloc | apply pw_below_drewN | apply below_drew1) | exact HB.out))) | (with_reducible refine Kd.C_alloc ?_ _) | (with_reducible refine Kd.C_drewN ?_ _) | (with_reducible refine Kd.C_drew ?_))); (case side2 => exact HC0.out); rintro e w250 ⟨rfl, hb⟩; have n0_ := Aside0.mk (Kd.S_below (by (with_reducible repeat (first | apply Kd.S_alloc | apply Kd.S_drewN | apply Kd.S_drew)); exact HO389.out) hb); have n1_ := Aside0.mk (Kd.S_below (by (with_reducible repeat (first | apply Kd.S_alloc | apply Kd.S_drewN | apply Kd.S_drew)); exact HO393.out) hb); have n2_ := Aside0.mk (Kd.S_below (by (with_reducible repeat (first | apply Kd.S_alloc | apply Kd.S_drewN | apply Kd.S_drew)); exact HO397.out) hb); have n3_ := Aside0.mk (Kd.S_below (by (with_reducible repeat (first | apply Kd.S_alloc | apply Kd.S_drewN | apply Kd.S_drew)); exact HO401.out) hb); have n4_ := Aside0.mk (Kd.S_below (by (with_reducible repeat (first | apply Kd.S_alloc | apply Kd.S_drewN | apply Kd.S_drew)); exact HO405.out) hb); have n5_ := Aside0.mk (Kd.S_below (by (with_reducible repeat (first | apply Kd.S_alloc | apply Kd.S_drewN | apply Kd.S_drew)); exact HO409.out) hb); have n6_ := Aside0.mk (Kd.S_below (by (with_reducible repeat (first | apply Kd.S_alloc | apply Kd.S_drewN | apply Kd.S_drew)); exact HO421.out) hb); have n7_ := Aside0.mk (Kd.S_below (by (with_reducible repeat (first | apply Kd.S_alloc | apply Kd.S_drewN | apply Kd.S_drew)); exact HO425.out) hb); have n8_ := Aside0.mk (Kd.S_below (by (with_reducible repeat (first | apply Kd.S_alloc | apply Kd.S_drewN | apply Kd.S_drew)); exact HO437.out) hb); have n9_ := Aside0.mk (Kd.S_below (by (with_reducible repeat (first | apply Kd.S_alloc | apply Kd.S_drewN | apply Kd.S_drew)); exact HO441.out) hb); have n10_ := Aside0.mk (below_step (by repeat (first | (with_reducible first | exact HB.out | apply below_alloc | apply pw_below_drewN | apply below_drew1) | exact HB.out)) hb); clear HO389; clear HO393; clear HO397; clear HO401; clear HO405; clear HO409; clear HO421; clear HO425; clear HO437; clear HO441; clear HB; have HO389 := n0_; have HO393 := n1_; have HO397 := n2_; have HO401 := n3_; have HO405 := n4_; have HO409 := n5_; have HO421 := n6_; have HO425 := n7_; have HO437 := n8_; have HO441 := n9_; have HB := n10_; clear n0_ n1_ n2_ n3_ n4_ n5_ n6_ n7_ n8_ n9_ n10_; (try clear hb); (try clear hb2); (try clear hk); (try clear hi)) | (go_at_call 23; (with_reducible refine (impl_AreFiles.calls _ _ l0 t448 _ ?side1 ?side2 A134.out).mono ?_); (case side1 => repeat (first | exact (Kd.C_below HR0.out HB.out) | (with_reducible refine Kd.C_alloc ?_ _) | (with_reducible refine Kd.C_drewN ?_ _) | (with_reducible refine Kd.C_drew ?_))); (case side2 => exact HC0.out); rintro e w251 ⟨rfl, hb⟩; have n0_ := Aside0.mk (Kd.S_below (by (with_reducible repeat (first | apply Kd.S_alloc | apply Kd.S_drewN | apply Kd.S_drew)); exact HO389.out) hb); have n1_ := Aside0.mk (Kd.S_below (by (with_reducible repeat (first | apply Kd.S_alloc | apply Kd.S_drewN | apply Kd.S_drew)); exact HO393.out) hb); have n2_ := Aside0.mk (Kd.S_below (by (with_reducible repeat (first | apply Kd.S_alloc | apply Kd.S_drewN | apply Kd.S_drew)); exact HO397.out) hb); have n3_ := Aside0.mk (Kd.S_below (by (with_reducible repeat (first | apply Kd.S_alloc | apply Kd.S_drewN | apply Kd.S_drew)); exact HO401.out) hb); have n4_ := Aside0.mk (Kd.S_below (by (with_reducible repeat (first | apply Kd.S_alloc | apply Kd.S_drewN | apply Kd.S_drew)); exact HO405.out) hb); have n5_ := Aside0.mk (Kd.S_below (by (with_reducible repeat (first | apply Kd.S_alloc | apply Kd.S_drewN | apply Kd.S_drew)); exact HO409.out) hb); have n6_ := Aside0.mk (Kd.S_below (by (with_reducible repeat (first | apply Kd.S_alloc | apply Kd.S_drewN | apply Kd.S_drew)); exact HO421.out) hb); have n7_ := Aside0.mk (Kd.S_below (by (with_reducible repeat (first | apply Kd.S_alloc | apply Kd.S_drewN | apply Kd.S_drew)); exact HO425.out) hb); have n8_ := Aside0.mk (Kd.S_below (by (with_reducible repeat (first | apply Kd.S_alloc | apply Kd.S_drewN | apply Kd.S_drew)); exact HO437.out) hb); have n9_ := Aside0.mk (Kd.S_below (by (with_reducible repeat (first | apply Kd.S_alloc | apply Kd.S_drewN | apply Kd.S_drew)); exact HO441.out) hb); have n10_ := Aside0.mk (below_step (by repeat (first | (with_reducible first | exact HB.out | apply below_alloc | apply pw_below_drewN | apply below_drew1) | exact HB.out)) hb); clear HO389; clear HO393; clear HO397; clear HO401; clear HO405; clear HO409; clear HO421; clear HO425; clear HO437; clear HO441; clear HB; have HO389 := n0_; have HO393 := n1_; have HO397 := n2_; have HO401 := n3_; have HO405 := n4_; have HO409 := n5_; have HO421 := n6_; have HO425 := n7_; have HO437 := n8_; have HO441 := n9_; have HB := n10_; clear n0_ n1_ n2_ n3_ n4_ n5_ n6_ n7_ n8_ n9_ n10_; (try clear hb); (try clear hb2); (try clear hk); (try clear hi)) | (go_at_call 24; (with_reducible refine (spec_AreFiles.calls k _ _ l0 t449 _ ?side1 ?side2 A135.out).mono ?_); (case side1 => repeat (first | exact (Kd.C_below HR0.out HB.out) | (with_reducible refine Kd.C_alloc ?_ _) | (with_reducible refine Kd.C_drewN ?_ _) | (with_reducible refine Kd.C_drew ?_))); (case side2 => exact HC0.out); rintro e w' ⟨rfl, ⟨nd, rfl⟩⟩; (try first | exact ⟨rfl, _, World.drewN_drewN _ _ _⟩ | exact ⟨rfl, _, Eq.trans (World.drewN_drewN _ _ _) (congrArg (World.drewN _) (Nat.add_assoc _ _ _))⟩))); try go_wp2_with (first | (go_at_call 22; (with_reducible refine (laws_vRows.calls k _ _ t386 _ _ t390 true _ ?side1 ?side2 ?side3 ?side4 A39.out).mono ?_); (case side1 => repeat (first | exact (Kd.S_reads' HO389.out).2.2 | (with_reducible refine Kd.C_alloc ?_ _) | (with_reducible refine Kd.C_drewN ?_ _) | (with_reducible refine Kd.C_drew ?_))); (case side2 => exact (Kd.S_reads' HO389.out).2.1); (case side3 => repeat (first | exact (Kd.S_reads' HO393.out).2.2 | (with_reducible refine Kd.C_alloc ?_ _) | (with_reducible refine Kd.C_drewN ?_ _) | (with_reducible refine Kd.C_drew ?_))); (case side4 => exact (Kd.S_reads' HO393.out).2.1); rintro e w' ⟨rfl, ⟨nd, rfl⟩⟩; (try first | exact ⟨rfl, _, World.drewN_drewN _ _ _⟩ | exact ⟨rfl, _, Eq.trans (World.drewN_drewN _ _ _) (congrArg (World.drewN _) (Nat.add_assoc _ _ _))⟩); obtain ⟨Ao242, co242, eo242⟩ := Kd.S_slice HO397.out; subst eo242; obtain ⟨Ao243, co243, eo243⟩ := Kd.S_slice HO401.out; subst eo243) | (go_at_call 22; (with_reducible refine (laws_vRows.calls k _ _ t394 _ _ t398 true _ ?side1 ?side2 ?side3 ?side4 A44.out).mono ?_); (case side1 => repeat (first | exact (Kd.S_reads' HO397.out).2.2 | (with_reducible refine Kd.C_alloc ?_ _) | (with_reducible refine Kd.C_drewN ?_ _) | (with_reducible refine Kd.C_drew ?_))); (case side2 => exact (Kd.S_reads' HO397.out).2.1); (case side3 => repeat (first | exact (Kd.S_reads' HO401.out).2.2 | (with_reducible refine Kd.C_alloc ?_ _) | (with_reducible refine Kd.C_drewN ?_ _) | (with_reducible refine Kd.C_drew ?_))); (case side4 => exact (Kd.S_reads' HO401.out).2.1); rintro e w' ⟨rfl, ⟨nd, rfl⟩⟩; (try first | exact ⟨rfl, _, World.drewN_drewN _ _ _⟩ | exact ⟨rfl, _, Eq.trans (World.drewN_drewN _ _ _) (congrArg (World.drewN _) (Nat.add_assoc _ _ _))⟩); obtain ⟨Ao244, co244, eo244⟩ := Kd.S_slice HO405.out; subst eo244; obtain ⟨Ao245, co245, eo245⟩ := Kd.S_slice HO409.out; subst eo245) | (go_at_call 22; (with_reducible refine (laws_vRows.calls k _ _ t402 _ _ t406 true _ ?side1 ?side2 ?side3 ?side4 A51.out).mono ?_); (case side1 => repeat (first | exact (Kd.S_reads' HO405.out).2.2 | (with_reducible refine Kd.C_alloc ?_ _) | (with_reducible refine Kd.C_drewN ?_ _) | (with_reducible refine Kd.C_drew ?_))); (case side2 => exact (Kd.S_reads' HO405.out).2.1); (case side3 => repeat (first | exact (Kd.S_reads' HO409.out).2.2 | (with_reducible refine Kd.C_alloc ?_ _) | (with_reducible refine Kd.C_drewN ?_ _) | (with_reducible refine Kd.C_drew ?_))); (case side4 => exact (Kd.S_reads' HO409.out).2.1); rintro e w' ⟨rfl, ⟨nd, rfl⟩⟩; (try first | exact ⟨rfl, _, World.drewN_drewN _ _ _⟩ | exact ⟨rfl, _, Eq.trans (World.drewN_drewN _ _ _) (congrArg (World.drewN _) (Nat.add_assoc _ _ _))⟩); obtain ⟨Ao246, co246, eo246⟩ := Kd.S_slice HO421.out; subst eo246; obtain ⟨Ao247, co247, eo247⟩ := Kd.S_slice HO425.out; subst eo247) | (go_at_call 22; (with_reducible refine (laws_vRows.calls k _ _ t418 _ _ t422 true _ ?side1 ?side2 ?side3 ?side4 A88.out).mono ?_); (case side1 => repeat (first | exact (Kd.S_reads' HO421.out).2.2 | (with_reducible refine Kd.C_alloc ?_ _) | (with_reducible refine Kd.C_drewN ?_ _) | (with_reducible refine Kd.C_drew ?_))); (case side2 => exact (Kd.S_reads' HO421.out).2.1); (case side3 => repeat (first | exact (Kd.S_reads' HO425.out).2.2 | (with_reducible refine Kd.C_alloc ?_ _) | (with_reducible refine Kd.C_drewN ?_ _) | (with_reducible refine Kd.C_drew ?_))); (case side4 => exact (Kd.S_reads' HO425.out).2.1); rintro e w' ⟨rfl, ⟨nd, rfl⟩⟩; (try first | exact ⟨rfl, _, World.drewN_drewN _ _ _⟩ | exact ⟨rfl, _, Eq.trans (World.drewN_drewN _ _ _) (congrArg (World.drewN _) (Nat.add_assoc _ _ _))⟩); obtain ⟨Ao248, co248, eo248⟩ := Kd.S_slice HO437.out; subst eo248; obtain ⟨Ao249, co249, eo249⟩ := Kd.S_slice HO441.out; subst eo249) | (go_at_call 22; (with_reducible refine (laws_vRows.calls k _ _ t434 _ _ t438 true _ ?side1 ?side2 ?side3 ?side4 A119.out).mono ?_); (case side1 => repeat (first | exact (Kd.S_reads' HO437.out).2.2 | (with_reducible refine Kd.C_alloc ?_ _) | (with_reducible refine Kd.C_drewN ?_ _) | (with_reducible refine Kd.C_drew ?_))); (case side2 => exact (Kd.S_reads' HO437.out).2.1); (case side3 => repeat (first | exact (Kd.S_reads' HO441.out).2.2 | (with_reducible refine Kd.C_alloc ?_ _) | (with_reducible refine Kd.C_drewN ?_ _) | (with_reducible refine Kd.C_drew ?_))); (case side4 => exact (Kd.S_reads' HO441.out).2.1); rintro e w' ⟨rfl, ⟨nd, rfl⟩⟩; (try first | exact ⟨rfl, _, World.drewN_drewN _ _ _⟩ | exact ⟨rfl, _, Eq.trans (World.drewN_drewN _ _ _) (congrArg (World.drewN _) (Nat.add_assoc _ _ _))⟩)) | (go_at_call 23; (with_reducible refine (impl_AreFiles.calls _ _ l0 t447 _ ?side1 ?side2 A121.out).mono ?_); (case side1 => repeat (first | exact (Kd.C_below HR0.out (by repeat (first | (with_reducible first | exact HB.out | apply below_alloc | apply pw_below_drewN | apply below_drew1) | exact HB.out))) | (with_reducible refine Kd.C_alloc ?_ _) | (with_reducible refine Kd.C_drewN ?_ _) | (with_reducible refine Kd.C_drew ?_))); (case side2 => exact HC0.out); rintro e w250 ⟨rfl, hb⟩; have n0_ := Aside0.mk (Kd.S_below (by (with_reducible repeat (first | apply Kd.S_alloc | apply Kd.S_drewN | apply Kd.S_drew)); exact HO389.out) hb); have n1_ := Aside0.mk (Kd.S_below (by (with_reducible repeat (first | apply Kd.S_alloc | apply Kd.S_drewN | apply Kd.S_drew)); exact HO393.out) hb); have n2_ := Aside0.mk (Kd.S_below (by (with_reducible repeat (first | apply Kd.S_alloc | apply Kd.S_drewN | apply Kd.S_drew)); exact HO397.out) hb); have n3_ := Aside0.mk (Kd.S_below (by (with_reducible repeat (first | apply Kd.S_alloc | apply Kd.S_drewN | apply Kd.S_drew)); exact HO401.out) hb); have n4_ := Aside0.mk (Kd.S_below (by (with_reducible repeat (first | apply Kd.S_alloc | apply Kd.S_drewN | apply Kd.S_drew)); exact HO405.out) hb); have n5_ := Aside0.mk (Kd.S_below (by (with_reducible repeat (first | apply Kd.S_alloc | apply Kd.S_drewN | apply Kd.S_drew)); exact HO409.out) hb); have n6_ := Aside0.mk (Kd.S_below (by (with_reducible repeat (first | apply Kd.S_alloc | apply Kd.S_drewN | apply Kd.S_drew)); exact HO421.out) hb); have n7_ := Aside0.mk (Kd.S_below (by (with_reducible repeat (first | apply Kd.S_alloc | apply Kd.S_drewN | apply Kd.S_drew)); exact HO425.out) hb); have n8_ := Aside0.mk (Kd.S_below (by (with_reducible repeat (first | apply Kd.S_alloc | apply Kd.S_drewN | apply Kd.S_drew)); exact HO437.out) hb); have n9_ := Aside0.mk (Kd.S_below (by (with_reducible repeat (first | apply Kd.S_alloc | apply Kd.S_drewN | apply Kd.S_drew)); exact HO441.out) hb); have n10_ := Aside0.mk (below_step (by repeat (first | (with_reducible first | exact HB.out | apply below_alloc | apply pw_below_drewN | apply below_drew1) | exact HB.out)) hb); clear HO389; clear HO393; clear HO397; clear HO401; clear HO405; clear HO409; clear HO421; clear HO425; clear HO437; clear HO441; clear HB; have HO389 := n0_; have HO393 := n1_; have HO397 := n2_; have HO401 := n3_; have HO405 := n4_; have HO409 := n5_; have HO421 := n6_; have HO425 := n7_; have HO437 := n8_; have HO441 := n9_; have HB := n10_; clear n0_ n1_ n2_ n3_ n4_ n5_ n6_ n7_ n8_ n9_ n10_; (try clear hb); (try clear hb2); (try clear hk); (try clear hi)) | (go_at_call 23; (with_reducible refine (impl_AreFiles.calls _ _ l0 t448 _ ?side1 ?side2 A134.out).mono ?_); (case side1 => repeat (first | exact (Kd.C_below HR0.out HB.out) | (with_reducible refine Kd.C_alloc ?_ _) | (with_reducible refine Kd.C_drewN ?_ _) | (with_reducible refine Kd.C_drew ?_))); (case side2 => exact HC0.out); rintro e w251 ⟨rfl, hb⟩; have n0_ := Aside0.mk (Kd.S_below (by (with_reducible repeat (first | apply Kd.S_alloc | apply Kd.S_drewN | apply Kd.S_drew)); exact HO389.out) hb); have n1_ := Aside0.mk (Kd.S_below (by (with_reducible repeat (first | apply Kd.S_alloc | apply Kd.S_drewN | apply Kd.S_drew)); exact HO393.out) hb); have n2_ := Aside0.mk (Kd.S_below (by (with_reducible repeat (first | apply Kd.S_alloc | apply Kd.S_drewN | apply Kd.S_drew)); exact HO397.out) hb); have n3_ := Aside0.mk (Kd.S_below (by (with_reducible repeat (first | apply Kd.S_alloc | apply Kd.S_drewN | apply Kd.S_drew)); exact HO401.out) hb); have n4_ := Aside0.mk (Kd.S_below (by (with_reducible repeat (first | apply Kd.S_alloc | apply Kd.S_drewN | apply Kd.S_drew)); exact HO405.out) hb); have n5_ := Aside0.mk (Kd.S_below (by (with_reducible repeat (first | apply Kd.S_alloc | apply Kd.S_drewN | apply Kd.S_drew)); exact HO409.out) hb); have n6_ := Aside0.mk (Kd.S_below (by (with_reducible repeat (first | apply Kd.S_alloc | apply Kd.S_drewN | apply Kd.S_drew)); exact HO421.out) hb); have n7_ := Aside0.mk (Kd.S_below (by (with_reducible repeat (first | apply Kd.S_alloc | apply Kd.S_drewN | apply Kd.S_drew)); exact HO425.out) hb); have n8_ := Aside0.mk (Kd.S_below (by (with_reducible repeat (first | apply Kd.S_alloc | apply Kd.S_drewN | apply Kd.S_drew)); exact HO437.out) hb); have n9_ := Aside0.mk (Kd.S_below (by (with_reducible repeat (first | apply Kd.S_alloc | apply Kd.S_drewN | apply Kd.S_drew)); exact HO441.out) hb); have n10_ := Aside0.mk (below_step (by repeat (first | (with_reducible first | exact HB.out | apply below_alloc | apply pw_below_drewN | apply below_drew1) | exact HB.out)) hb); clear HO389; clear HO393; clear HO397; clear HO401; clear HO405; clear HO409; clear HO421; clear HO425; clear HO437; clear HO441; clear HB; have HO389 := n0_; have HO393 := n1_; have HO397 := n2_; have HO401 := n3_; have HO405 := n4_; have HO409 := n5_; have HO421 := n6_; have HO425 := n7_; have HO437 := n8_; have HO441 := n9_; have HB := n10_; clear n0_ n1_ n2_ n3_ n4_ n5_ n6_ n7_ n8_ n9_ n10_; (try clear hb); (try clear hb2); (try clear hk); (try clear hi)) | (go_at_call 24; (with_reducible refine (spec_AreFiles.calls k _ _ l0 t449 _ ?side1 ?side2 A135.out).mono ?_); (case side1 => repeat (first | exact (Kd.C_below HR0.out HB.out) | (with_reducible refine Kd.C_alloc ?_ _) | (with_reducible refine Kd.C_drewN ?_ _) | (with_reducible refine Kd.C_drew ?_))); (case side2 => exact HC0.out); rintro e w' ⟨rfl, ⟨nd, rfl⟩⟩; (try first | exact ⟨rfl, _, World.drewN_drewN _ _ _⟩ | exact ⟨rfl, _, Eq.trans (World.drewN_drewN _ _ _) (congrArg (World.drewN _) (Nat.add_assoc _ _ _))⟩))))
                                                              go_meet
                                                              case rel => exact ⟨_, (false), (by first | rfl | (simp; done) | (simp [*]; done) | (simp [*]; first | exact bx1 _ _ | exact bx2 _ _ | exact (bx1 _ _).symm | exact (bx2 _ _).symm | exact bx3 _ _ | exact bx4 _ _)), H', ⟨by first | omega | exact Nat.le_refl _⟩, ⟨by (with_reducible repeat (first | apply Kd.S_alloc | apply Kd.S_drewN | apply Kd.S_drew)); exact Kd.S_mono HO389.out (fun _ hk => ⟨hk.1.1.1.1.1.1.1.2, ⟨hk.1.1.1.1.1.2, ⟨hk.1.1.1.2, hk.1.2⟩⟩⟩)⟩, ⟨by (with_reducible repeat (first | apply Kd.S_alloc | apply Kd.S_drewN | apply Kd.S_drew)); exact Kd.S_mono HO397.out (fun _ hk => ⟨hk.1.1.1.1.1.1.1.1.2, ⟨hk.1.1.1.1.1.2, ⟨hk.1.1.1.2, hk.1.2⟩⟩⟩)⟩, ⟨by (with_reducible repeat (first | apply Kd.S_alloc | apply Kd.S_drewN | apply Kd.S_drew)); exact Kd.S_mono HO405.out (fun _ hk => ⟨hk.1.1.1.1.1.1.1.1.2, ⟨hk.1.1.1.1.1.1.2, ⟨hk.1.1.1.2, hk.1.2⟩⟩⟩)⟩, ⟨by (with_reducible repeat (first | apply Kd.S_alloc | apply Kd.S_drewN | apply Kd.S_drew)); exact Kd.S_mono HO421.out (fun _ hk => ⟨hk.1.1.1.1.1.1.1.1.2, ⟨hk.1.1.1.1.1.1.2, ⟨hk.1.1.1.1.2, hk.1.2⟩⟩⟩)⟩, ⟨by (with_reducible repeat (first | apply Kd.S_alloc | apply Kd.S_drewN | apply Kd.S_drew)); exact Kd.S_mono HO437.out (fun _ hk => ⟨hk.1.1.1.1.1.1.1.1.2, ⟨hk.1.1.1.1.1.1.2, ⟨hk.1.1.1.1.2, hk.1.1.2⟩⟩⟩)⟩, ⟨by repeat (first | (with_reducible first | exact HB.out | apply below_alloc | apply pw_below_drewN | apply below_drew1) | exact HB.out)⟩⟩
                                        · replace c120 := Bool.eq_false_iff.mpr c120
                                          subst c120
                                          rw [if_neg (show ¬ (false = true) by decide)] at H
                                          exact absurd (hrt.symm.trans (laws_FnFilesSortedOfAll.j0_false H)) (by decide)
                                    · rw [if_neg c109] at H
                                      have c109b0 : (t430 == t432) = false := beq_eq_false_iff_ne.mpr c109
                                      have c109b1 : (t430 != t432) = true := bne_iff_ne.mpr c109
                                      exact absurd (hrt.symm.trans (laws_FnFilesSortedOfAll.j0_false H)) (by decide)
                                · rw [if_neg c99] at H
                                  have c99b0 : (t426 == t428) = false := beq_eq_false_iff_ne.mpr c99
                                  have c99b1 : (t426 != t428) = true := bne_iff_ne.mpr c99
                                  exact absurd (hrt.symm.trans (laws_FnFilesSortedOfAll.j0_false H)) (by decide)
                            · replace c89 := Bool.eq_false_iff.mpr c89
                              subst c89
                              rw [if_neg (show ¬ (false = true) by decide)] at H
                              exact absurd (hrt.symm.trans (laws_FnFilesSortedOfAll.j0_false H)) (by decide)
                · replace c52 := Bool.eq_false_iff.mpr c52
                  subst c52
                  rw [if_neg (show ¬ (false = true) by decide)] at H
                  exact absurd (hrt.symm.trans (laws_FnFilesSortedOfAll.j0_false H)) (by decide)
            · replace c45 := Bool.eq_false_iff.mpr c45
              subst c45
              rw [if_neg (show ¬ (false = true) by decide)] at H
              exact absurd (hrt.symm.trans (laws_FnFilesSortedOfAll.j0_false H)) (by decide)
        · replace c40 := Bool.eq_false_iff.mpr c40
          subst c40
          rw [if_neg (show ¬ (false = true) by decide)] at H
          exact absurd (hrt.symm.trans (laws_FnFilesSortedOfAll.j0_false H)) (by decide)
    case rest => as_aux_lemma =>
      clear HC21
      try clear c1
      try clear c2
      try clear p2
      try clear c4
      try clear c5
      try clear c6
      try clear c7
      try clear c8
      try clear c9
      try clear c10
      try clear c11
      try clear c12
      try clear c13
      try clear c14
      try clear c16
      try clear c17
      try clear c18
      try clear c20
      try clear c21
      try clear c22
      try clear c40
      try clear c41
      try clear c41b0
      try clear c41b1
      try clear c41b2
      try clear c45
      try clear c46
      try clear c46b0
      try clear c46b1
      try clear c46b2
      try clear c52
      try clear c53
      try clear c53b0
      try clear c53b1
      try clear c53b2
      try clear c60
      try clear c60b0
      try clear c60b1
      try clear c60b2
      try clear c67
      try clear c67b0
      try clear c67b1
      try clear c67b2
      try clear c74
      try clear c74b0
      try clear c74b1
      try clear c74b2
      try clear c81
      try clear c81b0
      try clear c81b1
      try clear c81b2
      try clear c89
      try clear c90
      try clear c90b0
      try clear c90b1
      try clear c90b2
      try clear c99
      try clear c99b0
      try clear c99b1
      try clear c100
      try clear c100b0
      try clear c100b1
      try clear c100b2
      try clear c109
      try clear c109b0
      try clear c109b1
      try clear c110
      try clear c110b0
      try clear c110b1
      try clear c110b2
      try clear c120
      try clear c122
      try clear c122b0
      try clear c122b1
      try clear c122b2
      try clear c136
      try clear c136b0
      try clear c136b1
      try clear c136b2
      try clear c149
      try clear c149b0
      try clear c149b1
      try clear c149b2
      try clear c162
      try clear c162b0
      try clear c162b1
      try clear c162b2
      try clear c175
      try clear c175b0
      try clear c175b1
      try clear c175b2
      try clear c188
      try clear c188b0
      try clear c188b1
      try clear c188b2
      try clear c201
      try clear c201b0
      try clear c201b1
      try clear c201b2
      try clear c214
      try clear c214b0
      try clear c214b1
      try clear c214b2
      try clear c227
      try clear c227b0
      try clear c227b1
      try clear c227b2
      obtain ⟨kq, x292_20, rfl, HA, HJ20, HO_3, HO_7, HO_11, HO_23, HO_35, HB⟩ := hcut
      cases kq with
      | zero => exact absurd HA.out (by simp [laws_FnFilesSortedOfAll.j0])
      | succ kj20 =>
        have H := HA.out
        clear HA
        simp only [laws_FnFilesSortedOfAll.j0] at H
        by_cases c298 : x292_20 = true
        · subst c298
          rw [if_pos rfl] at H
          exact absurd (hrt.symm.trans (Option.some.inj H).symm) (by decide)
        · replace c298 := Bool.eq_false_iff.mpr c298
          subst c298
          rw [if_neg (show ¬ (false = true) by decide)] at H
          by_cases c299 : t387 = true
          · subst c299
            rw [if_pos rfl] at H
            replace H := Option.bind_eq_some_iff.mp H
            obtain ⟨⟨t450, t451⟩, A3000, H⟩ := H
            (try dsimp only at H)
            have A300 := Aside0.mk A3000
            clear A3000
            replace H := Option.bind_eq_some_iff.mp H
            obtain ⟨⟨t452, t453⟩, A3010, H⟩ := H
            (try dsimp only at H)
            have A301 := Aside0.mk A3010
            clear A3010
            replace H := Option.bind_eq_some_iff.mp H
            obtain ⟨⟨t454, t455⟩, A3020, H⟩ := H
            (try dsimp only at H)
            have A302 := Aside0.mk A3020
            clear A3020
            replace H := Option.bind_eq_some_iff.mp H
            obtain ⟨⟨t458, t459⟩, A3030, H⟩ := H
            (try dsimp only at H)
            have A303 := Aside0.mk A3030
            clear A3030
            have HC304 := Aside0.mk H
            clear H
            obtain ⟨Ao305, co305, eo305⟩ := Kd.S_slice HO_3.out
            subst eo305
            go_upto_region 29 with (first | (go_at_call 10; (with_reducible refine (impl_AreRowsSorted.calls kj20 _ _ t386 t450 t451 _ ?side1 ?side2 A300.out).mono ?_); (case side1 => repeat (first | exact (Kd.S_reads' HO_3.out).2.2 | (with_reducible refine Kd.C_alloc ?_ _) | (with_reducible refine Kd.C_drewN ?_ _) | (with_reducible refine Kd.C_drew ?_))); (case side2 => exact (Kd.S_reads' HO_3.out).2.1); rintro e w306 ⟨rfl, hb⟩; have n0_ := Aside0.mk (Kd.S_below (by (with_reducible repeat (first | apply Kd.S_alloc | apply Kd.S_drewN | apply Kd.S_drew)); exact HO_3.out) hb); have n1_ := Aside0.mk (Kd.S_below (by (with_reducible repeat (first | apply Kd.S_alloc | apply Kd.S_drewN | apply Kd.S_drew)); exact HO_7.out) hb); have n2_ := Aside0.mk (Kd.S_below (by (with_reducible repeat (first | apply Kd.S_alloc | apply Kd.S_drewN | apply Kd.S_drew)); exact HO_11.out) hb); have n3_ := Aside0.mk (Kd.S_below (by (with_reducible repeat (first | apply Kd.S_alloc | apply Kd.S_drewN | apply Kd.S_drew)); exact HO_23.out) hb); have n4_ := Aside0.mk (Kd.S_below (by (with_reducible repeat (first | apply Kd.S_alloc | apply Kd.S_drewN | apply Kd.S_drew)); exact HO_35.out) hb); have n5_ := Aside0.mk (below_step (by repeat (first | (with_reducible first | exact HB.out | apply below_alloc | apply pw_below_drewN | apply below_drew1) | exact HB.out)) hb); clear HO_3; clear HO_7; clear HO_11; clear HO_23; clear HO_35; clear HB; have HO_3 := n0_; have HO_7 := n1_; have HO_11 := n2_; have HO_23 := n3_; have HO_35 := n4_; have HB := n5_; clear n0_ n1_ n2_ n3_ n4_ n5_; (try clear hb); (try clear hb2); (try clear hk); (try clear hi)) | (go_at_call 12; (with_reducible refine (impl_AreColumnsSorted.calls kj20 _ _ t386 t452 t453 _ ?side1 ?side2 A301.out).mono ?_); (case side1 => repeat (first | exact (Kd.S_reads' HO_3.out).2.2 | (with_reducible refine Kd.C_alloc ?_ _) | (with_reducible refine Kd.C_drewN ?_ _) | (with_reducible refine Kd.C_drew ?_))); (case side2 => exact (Kd.S_reads' HO_3.out).2.1); rintro e w307 ⟨rfl, hb⟩; have n0_ := Aside0.mk (Kd.S_below (by (with_reducible repeat (first | apply Kd.S_alloc | apply Kd.S_drewN | apply Kd.S_drew)); exact HO_3.out) hb); have n1_ := Aside0.mk (Kd.S_below (by (with_reducible repeat (first | apply Kd.S_alloc | apply Kd.S_drewN | apply Kd.S_drew)); exact HO_7.out) hb); have n2_ := Aside0.mk (Kd.S_below (by (with_reducible repeat (first | apply Kd.S_alloc | apply Kd.S_drewN | apply Kd.S_drew)); exact HO_11.out) hb); have n3_ := Aside0.mk (Kd.S_below (by (with_reducible repeat (first | apply Kd.S_alloc | apply Kd.S_drewN | apply Kd.S_drew)); exact HO_23.out) hb); have n4_ := Aside0.mk (Kd.S_below (by (with_reducible repeat (first | apply Kd.S_alloc | apply Kd.S_drewN | apply Kd.S_drew)); exact HO_35.out) hb); have n5_ := Aside0.mk (below_step (by repeat (first | (with_reducible first | exact HB.out | apply below_alloc | apply pw_below_drewN | apply below_drew1) | exact HB.out)) hb); clear HO_3; clear HO_7; clear HO_11; clear HO_23; clear HO_35; clear HB; have HO_3 := n0_; have HO_7 := n1_; have HO_11 := n2_; have HO_23 := n3_; have HO_35 := n4_; have HB := n5_; clear n0_ n1_ n2_ n3_ n4_ n5_; (try clear hb); (try clear hb2); (try clear hk); (try clear hi); obtain ⟨Ao308, co308, eo308⟩ := Kd.S_slice HO_7.out; subst eo308) | (go_at_call 8; (with_reducible refine (impl_SortFileColumns.calls kj20 _ _ t394 t454 t455 _ ?side1 ?side2 A302.out).mono ?_); (case side1 => repeat (first | exact (Kd.S_reads' HO_7.out).2.2 | (with_reducible refine Kd.C_alloc ?_ _) | (with_reducible refine Kd.C_drewN ?_ _) | (with_reducible refine Kd.C_drew ?_))); (case side2 => exact (Kd.S_reads' HO_7.out).2.1); rintro e w309 ⟨v456, rfl, ho0, hb⟩; have n0_ := Aside0.mk (Kd.S_elder' (by (with_reducible repeat (first | apply Kd.S_alloc | apply Kd.S_drewN | apply Kd.S_drew)); exact HO_3.out) (Kd.S_base ho0) hb); have n1_ := Aside0.mk (Kd.S_elder' (by (with_reducible repeat (first | apply Kd.S_alloc | apply Kd.S_drewN | apply Kd.S_drew)); exact HO_7.out) (Kd.S_base ho0) hb); have n2_ := Aside0.mk (Kd.S_elder' (by (with_reducible repeat (first | apply Kd.S_alloc | apply Kd.S_drewN | apply Kd.S_drew)); exact HO_11.out) (Kd.S_base ho0) hb); have n3_ := Aside0.mk (Kd.S_elder' (by (with_reducible repeat (first | apply Kd.S_alloc | apply Kd.S_drewN | apply Kd.S_drew)); exact HO_23.out) (Kd.S_base ho0) hb); have n4_ := Aside0.mk (Kd.S_elder' (by (with_reducible repeat (first | apply Kd.S_alloc | apply Kd.S_drewN | apply Kd.S_drew)); exact HO_35.out) (Kd.S_base ho0) hb); have n5_ := Aside0.mk (Kd.S_lower (Kd.S_new' (Kd.S_new' (Kd.S_new' (Kd.S_new' (Kd.S_new' ho0 (Kd.S_lt (by (with_reducible repeat (first | apply Kd.S_alloc | apply Kd.S_drewN | apply Kd.S_drew)); exact HO_3.out))) (Kd.S_lt (by (with_reducible repeat (first | apply Kd.S_alloc | apply Kd.S_drewN | apply Kd.S_drew)); exact HO_7.out))) (Kd.S_lt (by (with_reducible repeat (first | apply Kd.S_alloc | apply Kd.S_drewN | apply Kd.S_drew)); exact HO_11.out))) (Kd.S_lt (by (with_reducible repeat (first | apply Kd.S_alloc | apply Kd.S_drewN | apply Kd.S_drew)); exact HO_23.out))) (Kd.S_lt (by (with_reducible repeat (first | apply Kd.S_alloc | apply Kd.S_drewN | apply Kd.S_drew)); exact HO_35.out))) (below_size (by repeat (first | (with_reducible first | exact HB.out | apply below_alloc | apply pw_below_drewN | apply below_drew1) | exact HB.out)))); have n6_ := Aside0.mk (below_step (by repeat (first | (with_reducible first | exact HB.out | apply below_alloc | apply pw_below_drewN | apply below_drew1) | exact HB.out)) hb); clear HO_3; clear HO_7; clear HO_11; clear HO_23; clear HO_35; clear HB; have HO_3 := n0_; have HO_7 := n1_; have HO_11 := n2_; have HO_23 := n3_; have HO_35 := n4_; have HO457 := n5_; have HB := n6_; clear n0_ n1_ n2_ n3_ n4_ n5_ n6_; (try clear hb); (try clear hb2); (try clear hk); (try clear hi); (try clear ho0); obtain ⟨Ao310, co310, eo310⟩ := Kd.S_slice HO_23.out; subst eo310) | (go_at_call 14; (with_reducible refine (impl_TurnFiles.calls kj20 _ _ t418 t458 t459 _ ?side1 ?side2 A303.out).mono ?_); (case side1 => repeat (first | exact (Kd.S_reads' HO_23.out).2.2 | (with_reducible refine Kd.C_alloc ?_ _) | (with_reducible refine Kd.C_drewN ?_ _) | (with_reducible refine Kd.C_drew ?_))); (case side2 => exact (Kd.S_reads' HO_23.out).2.1); rintro e w311 ⟨v460, rfl, ho0, hb⟩; have n0_ := Aside0.mk (Kd.S_elder' (by (with_reducible repeat (first | apply Kd.S_alloc | apply Kd.S_drewN | apply Kd.S_drew)); exact HO_3.out) (Kd.S_base ho0) hb); have n1_ := Aside0.mk (Kd.S_elder' (by (with_reducible repeat (first | apply Kd.S_alloc | apply Kd.S_drewN | apply Kd.S_drew)); exact HO_7.out) (Kd.S_base ho0) hb); have n2_ := Aside0.mk (Kd.S_elder' (by (with_reducible repeat (first | apply Kd.S_alloc | apply Kd.S_drewN | apply Kd.S_drew)); exact HO_11.out) (Kd.S_base ho0) hb); have n3_ := Aside0.mk (Kd.S_elder' (by (with_reducible repeat (first | apply Kd.S_alloc | apply Kd.S_drewN | apply Kd.S_drew)); exact HO_23.out) (Kd.S_base ho0) hb); have n4_ := Aside0.mk (Kd.S_elder' (by (with_reducible repeat (first | apply Kd.S_alloc | apply Kd.S_drewN | apply Kd.S_drew)); exact HO_35.out) (Kd.S_base ho0) hb); have n5_ := Aside0.mk (Kd.S_elder' (by (with_reducible repeat (first | apply Kd.S_alloc | apply Kd.S_drewN | apply Kd.S_drew)); exact HO457.out) (Kd.S_base ho0) hb); have n6_ := Aside0.mk (Kd.S_lower (Kd.S_new' (Kd.S_new' (Kd.S_new' (Kd.S_new' (Kd.S_new' (Kd.S_new' ho0 (Kd.S_lt (by (with_reducible repeat (first | apply Kd.S_alloc | apply Kd.S_drewN | apply Kd.S_drew)); exact HO_3.out))) (Kd.S_lt (by (with_reducible repeat (first | apply Kd.S_alloc | apply Kd.S_drewN | apply Kd.S_drew)); exact HO_7.out))) (Kd.S_lt (by (with_reducible repeat (first | apply Kd.S_alloc | apply Kd.S_drewN | apply Kd.S_drew)); exact HO_11.out))) (Kd.S_lt (by (with_reducible repeat (first | apply Kd.S_alloc | apply Kd.S_drewN | apply Kd.S_drew)); exact HO_23.out))) (Kd.S_lt (by (with_reducible repeat (first | apply Kd.S_alloc | apply Kd.S_drewN | apply Kd.S_drew)); exact HO_35.out))) (Kd.S_lt (by (with_reducible repeat (first | apply Kd.S_alloc | apply Kd.S_drewN | apply Kd.S_drew)); exact HO457.out))) (below_size (by repeat (first | (with_reducible first | exact HB.out | apply below_alloc | apply pw_below_drewN | apply below_drew1) | exact HB.out)))); have n7_ := Aside0.mk (below_step (by repeat (first | (with_reducible first | exact HB.out | apply below_alloc | apply pw_below_drewN | apply below_drew1) | exact HB.out)) hb); clear HO_3; clear HO_7; clear HO_11; clear HO_23; clear HO_35; clear HO457; clear HB; have HO_3 := n0_; have HO_7 := n1_; have HO_11 := n2_; have HO_23 := n3_; have HO_35 := n4_; have HO457 := n5_; have HO461 := n6_; have HB := n7_; clear n0_ n1_ n2_ n3_ n4_ n5_ n6_ n7_; (try clear hb); (try clear hb2); (try clear hk); (try clear hi); (try clear ho0)))
            (try simp only [Act.put, List.setIfInBounds_toArray, List.set_cons_zero, List.set_cons_succ])
            go_cut [367] (fun v367 wc => ∃ (kq : Nat) (x367_303 : Bool), v367 = .bool x367_303 ∧ Aside0 (laws_FnFilesSortedOfAll.j1 kq l0 t386 t410 t414 t426 t430 t434 x367_303 = some r) ∧ Aside0 (kq ≤ kj20) ∧ Aside0 (Kd.S (Kd.slice 3 (Kd.int .i64)) 31 wc w.heap.size (fun k_ => some k_ ≠ (v436 : Value).ownBlock) (.slice Ao305 t386.length co305) t386) ∧ Aside0 (Kd.S (Kd.slice 3 (Kd.int .i64)) 31 wc w.heap.size (fun k_ => some k_ ≠ ((.slice Ao305 t386.length co305) : Value).ownBlock) v436 t434) ∧ Aside0 (Below w.heap.size w wc))
            case first => as_aux_lemma =>
              have H := HC304.out
              clear HC304
              by_cases c312 : t451 = true
              · subst c312
                rw [if_pos rfl] at H
                by_cases c313 : t450 = true
                · subst c313
                  rw [if_pos rfl] at H
                  by_cases c314 : t453 = true
                  · subst c314
                    rw [if_pos rfl] at H
                    by_cases c315 : t452 = true
                    · subst c315
                      rw [if_pos rfl] at H
                      by_cases c316 : t455 = true
                      · subst c316
                        rw [if_pos rfl] at H
                        replace H := Option.bind_eq_some_iff.mp H
                        obtain ⟨t462, A3170, H⟩ := H
                        (try dsimp only at H)
                        have A317 := Aside0.mk A3170
                        clear A3170
                        by_cases c318 : t462 = true
                        · subst c318
                          rw [if_pos rfl] at H
                          by_cases c319 : t459 = true
                          · subst c319
                            rw [if_pos rfl] at H
                            replace H := Option.bind_eq_some_iff.mp H
                            obtain ⟨t463, A3200, H⟩ := H
                            (try dsimp only at H)
                            have A320 := Aside0.mk A3200
                            clear A3200
                            by_cases c321 : t463 = true
                            · subst c321
                              rw [if_pos rfl] at H
                              by_cases c322 : t426 > t430
                              · rw [if_pos c322] at H
                                have c322b0 : decide (t430 < t426) = true := decide_eq_true c322
                                clear c322
                                (first | rw [c322b0] | (simp only [i64_w, i32_w]; rw [c322b0]) | skip)
                                exact absurd (hrt.symm.trans (laws_FnFilesSortedOfAll.j1_false H)) (by decide)
                              · rw [if_neg c322] at H
                                have c322b0 : decide (t430 < t426) = false := decide_eq_false c322
                                clear c322
                                (first | rw [c322b0] | (simp only [i64_w, i32_w]; rw [c322b0]) | skip)
                                replace H := Option.bind_eq_some_iff.mp H
                                obtain ⟨t464, A3250, H⟩ := H
                                (try dsimp only at H)
                                have A325 := Aside0.mk A3250
                                clear A3250
                                by_cases c326 : (t410 != t464) = true
                                · rw [if_pos c326] at H
                                  have c326b0 : (t410 != t464) = true := c326
                                  (try (have c326b1 : decide (t410 = t464) = false := by simpa using c326))
                                  (try (have c326b2 : (t410 == t464) = false := by simpa using c326))
                                  (try (have c326b3 : ¬ (t410 = t464) := by simpa using c326))
                                  clear c326
                                  exact absurd (hrt.symm.trans (laws_FnFilesSortedOfAll.j1_false H)) (by decide)
                                · rw [if_neg c326] at H
                                  have c326b0 : (t410 != t464) = false := by simpa using c326
                                  (try (have c326b1 : decide (t410 = t464) = true := by simpa using c326))
                                  (try (have c326b2 : (t410 == t464) = true := by simpa using c326))
                                  clear c326
                                  replace H := Option.bind_eq_some_iff.mp H
                                  obtain ⟨t465, A3290, H⟩ := H
                                  (try dsimp only at H)
                                  have A329 := Aside0.mk A3290
                                  clear A3290
                                  cases cq_ : (t414 != t465) with
                                  | true =>
                                    rw [cq_] at H
                                    exact absurd (hrt.symm.trans (laws_FnFilesSortedOfAll.j1_false H)) (by decide)
                                  | false =>
                                    rw [cq_] at H
                                    (try (have cq1_ : decide (t414 = t465) = true := by simpa using cq_))
                                    (try (have cq2_ : (t414 == t465) = true := by simpa using cq_))
                                    have H' := Aside0.mk H
                                    clear H
                                    obtain ⟨Ao330, co330, eo330⟩ := Kd.S_slice HO457.out
                                    subst eo330
                                    go_wp2_with (first | (go_at_call 22; (with_reducible refine (laws_vRows.calls kj20 _ _ t454 _ _ t386 true _ ?side1 ?side2 ?side3 ?side4 A317.out).mono ?_); (case side1 => repeat (first | exact (Kd.S_reads' HO457.out).2.2 | (with_reducible refine Kd.C_alloc ?_ _) | (with_reducible refine Kd.C_drewN ?_ _) | (with_reducible refine Kd.C_drew ?_))); (case side2 => exact (Kd.S_reads' HO457.out).2.1); (case side3 => repeat (first | exact (Kd.S_reads' HO_3.out).2.2 | (with_reducible refine Kd.C_alloc ?_ _) | (with_reducible refine Kd.C_drewN ?_ _) | (with_reducible refine Kd.C_drew ?_))); (case side4 => exact (Kd.S_reads' HO_3.out).2.1); rintro e w' ⟨rfl, ⟨nd, rfl⟩⟩; (try first | exact ⟨rfl, _, World.drewN_drewN _ _ _⟩ | exact ⟨rfl, _, Eq.trans (World.drewN_drewN _ _ _) (congrArg (World.drewN _) (Nat.add_assoc _ _ _))⟩); obtain ⟨Ao331, co331, eo331⟩ := Kd.S_slice HO461.out; subst eo331) | (go_at_call 22; (with_reducible refine (laws_vRows.calls kj20 _ _ t458 _ _ l0 true _ ?side1 ?side2 ?side3 ?side4 A320.out).mono ?_); (case side1 => repeat (first | exact (Kd.S_reads' HO461.out).2.2 | (with_reducible refine Kd.C_alloc ?_ _) | (with_reducible refine Kd.C_drewN ?_ _) | (with_reducible refine Kd.C_drew ?_))); (case side2 => exact (Kd.S_reads' HO461.out).2.1); (case side3 => repeat (first | exact (Kd.C_below HR0.out (by repeat (first | (with_reducible first | exact HB.out | apply below_alloc | apply pw_below_drewN | apply below_drew1) | exact HB.out))) | (with_reducible refine Kd.C_alloc ?_ _) | (with_reducible refine Kd.C_drewN ?_ _) | (with_reducible refine Kd.C_drew ?_))); (case side4 => exact HC0.out); rintro e w' ⟨rfl, ⟨nd, rfl⟩⟩; (try first | exact ⟨rfl, _, World.drewN_drewN _ _ _⟩ | exact ⟨rfl, _, Eq.trans (World.drewN_drewN _ _ _) (congrArg (World.drewN _) (Nat.add_assoc _ _ _))⟩)) | (go_at_call 22; (with_reducible refine (laws_vRows.calls kj20 _ _ t394 _ _ l0 t464 _ ?side1 ?side2 ?side3 ?side4 A325.out).mono ?_); (case side1 => repeat (first | exact (Kd.S_reads' HO_7.out).2.2 | (with_reducible refine Kd.C_alloc ?_ _) | (with_reducible refine Kd.C_drewN ?_ _) | (with_reducible refine Kd.C_drew ?_))); (case side2 => exact (Kd.S_reads' HO_7.out).2.1); (case side3 => repeat (first | exact (Kd.C_below HR0.out (by repeat (first | (with_reducible first | exact HB.out | apply below_alloc | apply pw_below_drewN | apply below_drew1) | exact HB.out))) | (with_reducible refine Kd.C_alloc ?_ _) | (with_reducible refine Kd.C_drewN ?_ _) | (with_reducible refine Kd.C_drew ?_))); (case side4 => exact HC0.out); rintro e w' ⟨rfl, ⟨nd, rfl⟩⟩; (try first | exact ⟨rfl, _, World.drewN_drewN _ _ _⟩ | exact ⟨rfl, _, Eq.trans (World.drewN_drewN _ _ _) (congrArg (World.drewN _) (Nat.add_assoc _ _ _))⟩); obtain ⟨Ao332, co332, eo332⟩ := Kd.S_slice HO_11.out; subst eo332) | (go_at_call 22; (with_reducible refine (laws_vRows.calls kj20 _ _ t402 _ _ l0 t465 _ ?side1 ?side2 ?side3 ?side4 A329.out).mono ?_); (case side1 => repeat (first | exact (Kd.S_reads' HO_11.out).2.2 | (with_reducible refine Kd.C_alloc ?_ _) | (with_reducible refine Kd.C_drewN ?_ _) | (with_reducible refine Kd.C_drew ?_))); (case side2 => exact (Kd.S_reads' HO_11.out).2.1); (case side3 => repeat (first | exact (Kd.C_below HR0.out (by repeat (first | (with_reducible first | exact HB.out | apply below_alloc | apply pw_below_drewN | apply below_drew1) | exact HB.out))) | (with_reducible refine Kd.C_alloc ?_ _) | (with_reducible refine Kd.C_drewN ?_ _) | (with_reducible refine Kd.C_drew ?_))); (case side4 => exact HC0.out); rintro e w' ⟨rfl, ⟨nd, rfl⟩⟩; (try first | exact ⟨rfl, _, World.drewN_drewN _ _ _⟩ | exact ⟨rfl, _, Eq.trans (World.drewN_drewN _ _ _) (congrArg (World.drewN _) (Nat.add_assoc _ _ _))⟩)))
                                    repeat (go_quiet (first | (go_at_call 22; (with_reducible refine (laws_vRows.calls kj20 _ _ t454 _ _ t386 true _ ?side1 ?side2 ?side3 ?side4 A317.out).mono ?_); (case side1 => repeat (first | exact (Kd.S_reads' HO457.out).2.2 | (with_reducible refine Kd.C_alloc ?_ _) | (with_reducible refine Kd.C_drewN ?_ _) | (with_reducible refine Kd.C_drew ?_))); (case side2 => exact (Kd.S_reads' HO457.out).2.1); (case side3 => repeat (first | exact (Kd.S_reads' HO_3.out).2.2 | (with_reducible refine Kd.C_alloc ?_ _) | (with_reducible refine Kd.C_drewN ?_ _) | (with_reducible refine Kd.C_drew ?_))); (case side4 => exact (Kd.S_reads' HO_3.out).2.1); rintro e w' ⟨rfl, ⟨nd, rfl⟩⟩; (try first | exact ⟨rfl, _, World.drewN_drewN _ _ _⟩ | exact ⟨rfl, _, Eq.trans (World.drewN_drewN _ _ _) (congrArg (World.drewN _) (Nat.add_assoc _ _ _))⟩); obtain ⟨Ao331, co331, eo331⟩ := Kd.S_slice HO461.out; subst eo331) | (go_at_call 22; (with_reducible refine (laws_vRows.calls kj20 _ _ t458 _ _ l0 true _ ?side1 ?side2 ?side3 ?side4 A320.out).mono ?_); (case side1 => repeat (first | exact (Kd.S_reads' HO461.out).2.2 | (with_reducible refine Kd.C_alloc ?_ _) | (with_reducible refine Kd.C_drewN ?_ _) | (with_reducible refine Kd.C_drew ?_))); (case side2 => exact (Kd.S_reads' HO461.out).2.1); (case side3 => repeat (first | exact (Kd.C_below HR0.out (by repeat (first | (with_reducible first | exact HB.out | apply below_alloc | apply pw_below_drewN | apply below_drew1) | exact HB.out))) | (with_reducible refine Kd.C_alloc ?_ _) | (with_reducible refine Kd.C_drewN ?_ _) | (with_reducible refine Kd.C_drew ?_))); (case side4 => exact HC0.out); rintro e w' ⟨rfl, ⟨nd, rfl⟩⟩; (try first | exact ⟨rfl, _, World.drewN_drewN _ _ _⟩ | exact ⟨rfl, _, Eq.trans (World.drewN_drewN _ _ _) (congrArg (World.drewN _) (Nat.add_assoc _ _ _))⟩)) | (go_at_call 22; (with_reducible refine (laws_vRows.calls kj20 _ _ t394 _ _ l0 t464 _ ?side1 ?side2 ?side3 ?side4 A325.out).mono ?_); (case side1 => repeat (first | exact (Kd.S_reads' HO_7.out).2.2 | (with_reducible refine Kd.C_alloc ?_ _) | (with_reducible refine Kd.C_drewN ?_ _) | (with_reducible refine Kd.C_drew ?_))); (case side2 => exact (Kd.S_reads' HO_7.out).2.1); (case side3 => repeat (first | exact (Kd.C_below HR0.out (by repeat (first | (with_reducible first | exact HB.out | apply below_alloc | apply pw_below_drewN | apply below_drew1) | exact HB.out))) | (with_reducible refine Kd.C_alloc ?_ _) | (with_reducible refine Kd.C_drewN ?_ _) | (with_reducible refine Kd.C_drew ?_))); (case side4 => exact HC0.out); rintro e w' ⟨rfl, ⟨nd, rfl⟩⟩; (try first | exact ⟨rfl, _, World.drewN_drewN _ _ _⟩ | exact ⟨rfl, _, Eq.trans (World.drewN_drewN _ _ _) (congrArg (World.drewN _) (Nat.add_assoc _ _ _))⟩); obtain ⟨Ao332, co332, eo332⟩ := Kd.S_slice HO_11.out; subst eo332) | (go_at_call 22; (with_reducible refine (laws_vRows.calls kj20 _ _ t402 _ _ l0 t465 _ ?side1 ?side2 ?side3 ?side4 A329.out).mono ?_); (case side1 => repeat (first | exact (Kd.S_reads' HO_11.out).2.2 | (with_reducible refine Kd.C_alloc ?_ _) | (with_reducible refine Kd.C_drewN ?_ _) | (with_reducible refine Kd.C_drew ?_))); (case side2 => exact (Kd.S_reads' HO_11.out).2.1); (case side3 => repeat (first | exact (Kd.C_below HR0.out (by repeat (first | (with_reducible first | exact HB.out | apply below_alloc | apply pw_below_drewN | apply below_drew1) | exact HB.out))) | (with_reducible refine Kd.C_alloc ?_ _) | (with_reducible refine Kd.C_drewN ?_ _) | (with_reducible refine Kd.C_drew ?_))); (case side4 => exact HC0.out); rintro e w' ⟨rfl, ⟨nd, rfl⟩⟩; (try first | exact ⟨rfl, _, World.drewN_drewN _ _ _⟩ | exact ⟨rfl, _, Eq.trans (World.drewN_drewN _ _ _) (congrArg (World.drewN _) (Nat.add_assoc _ _ _))⟩))); try go_wp2_with (first | (go_at_call 22; (with_reducible refine (laws_vRows.calls kj20 _ _ t454 _ _ t386 true _ ?side1 ?side2 ?side3 ?side4 A317.out).mono ?_); (case side1 => repeat (first | exact (Kd.S_reads' HO457.out).2.2 | (with_reducible refine Kd.C_alloc ?_ _) | (with_reducible refine Kd.C_drewN ?_ _) | (with_reducible refine Kd.C_drew ?_))); (case side2 => exact (Kd.S_reads' HO457.out).2.1); (case side3 => repeat (first | exact (Kd.S_reads' HO_3.out).2.2 | (with_reducible refine Kd.C_alloc ?_ _) | (with_reducible refine Kd.C_drewN ?_ _) | (with_reducible refine Kd.C_drew ?_))); (case side4 => exact (Kd.S_reads' HO_3.out).2.1); rintro e w' ⟨rfl, ⟨nd, rfl⟩⟩; (try first | exact ⟨rfl, _, World.drewN_drewN _ _ _⟩ | exact ⟨rfl, _, Eq.trans (World.drewN_drewN _ _ _) (congrArg (World.drewN _) (Nat.add_assoc _ _ _))⟩); obtain ⟨Ao331, co331, eo331⟩ := Kd.S_slice HO461.out; subst eo331) | (go_at_call 22; (with_reducible refine (laws_vRows.calls kj20 _ _ t458 _ _ l0 true _ ?side1 ?side2 ?side3 ?side4 A320.out).mono ?_); (case side1 => repeat (first | exact (Kd.S_reads' HO461.out).2.2 | (with_reducible refine Kd.C_alloc ?_ _) | (with_reducible refine Kd.C_drewN ?_ _) | (with_reducible refine Kd.C_drew ?_))); (case side2 => exact (Kd.S_reads' HO461.out).2.1); (case side3 => repeat (first | exact (Kd.C_below HR0.out (by repeat (first | (with_reducible first | exact HB.out | apply below_alloc | apply pw_below_drewN | apply below_drew1) | exact HB.out))) | (with_reducible refine Kd.C_alloc ?_ _) | (with_reducible refine Kd.C_drewN ?_ _) | (with_reducible refine Kd.C_drew ?_))); (case side4 => exact HC0.out); rintro e w' ⟨rfl, ⟨nd, rfl⟩⟩; (try first | exact ⟨rfl, _, World.drewN_drewN _ _ _⟩ | exact ⟨rfl, _, Eq.trans (World.drewN_drewN _ _ _) (congrArg (World.drewN _) (Nat.add_assoc _ _ _))⟩)) | (go_at_call 22; (with_reducible refine (laws_vRows.calls kj20 _ _ t394 _ _ l0 t464 _ ?side1 ?side2 ?side3 ?side4 A325.out).mono ?_); (case side1 => repeat (first | exact (Kd.S_reads' HO_7.out).2.2 | (with_reducible refine Kd.C_alloc ?_ _) | (with_reducible refine Kd.C_drewN ?_ _) | (with_reducible refine Kd.C_drew ?_))); (case side2 => exact (Kd.S_reads' HO_7.out).2.1); (case side3 => repeat (first | exact (Kd.C_below HR0.out (by repeat (first | (with_reducible first | exact HB.out | apply below_alloc | apply pw_below_drewN | apply below_drew1) | exact HB.out))) | (with_reducible refine Kd.C_alloc ?_ _) | (with_reducible refine Kd.C_drewN ?_ _) | (with_reducible refine Kd.C_drew ?_))); (case side4 => exact HC0.out); rintro e w' ⟨rfl, ⟨nd, rfl⟩⟩; (try first | exact ⟨rfl, _, World.drewN_drewN _ _ _⟩ | exact ⟨rfl, _, Eq.trans (World.drewN_drewN _ _ _) (congrArg (World.drewN _) (Nat.add_assoc _ _ _))⟩); obtain ⟨Ao332, co332, eo332⟩ := Kd.S_slice HO_11.out; subst eo332) | (go_at_call 22; (with_reducible refine (laws_vRows.calls kj20 _ _ t402 _ _ l0 t465 _ ?side1 ?side2 ?side3 ?side4 A329.out).mono ?_); (case side1 => repeat (first | exact (Kd.S_reads' HO_11.out).2.2 | (with_reducible refine Kd.C_alloc ?_ _) | (with_reducible refine Kd.C_drewN ?_ _) | (with_reducible refine Kd.C_drew ?_))); (case side2 => exact (Kd.S_reads' HO_11.out).2.1); (case side3 => repeat (first | exact (Kd.C_below HR0.out (by repeat (first | (with_reducible first | exact HB.out | apply below_alloc | apply pw_below_drewN | apply below_drew1) | exact HB.out))) | (with_reducible refine Kd.C_alloc ?_ _) | (with_reducible refine Kd.C_drewN ?_ _) | (with_reducible refine Kd.C_drew ?_))); (case side4 => exact HC0.out); rintro e w' ⟨rfl, ⟨nd, rfl⟩⟩; (try first | exact ⟨rfl, _, World.drewN_drewN _ _ _⟩ | exact ⟨rfl, _, Eq.trans (World.drewN_drewN _ _ _) (congrArg (World.drewN _) (Nat.add_assoc _ _ _))⟩))))
                                    go_meet
                                    case rel => exact ⟨_, (false), (by first | rfl | (simp; done) | (simp [*]; done) | (simp [*]; first | exact bx1 _ _ | exact bx2 _ _ | exact (bx1 _ _).symm | exact (bx2 _ _).symm | exact bx3 _ _ | exact bx4 _ _)), H', ⟨by have := HJ20.out; first | omega | exact Nat.le_refl _⟩, ⟨by (with_reducible repeat (first | apply Kd.S_alloc | apply Kd.S_drewN | apply Kd.S_drew)); exact Kd.S_mono HO_3.out (fun _ hk => hk.1.1.2.2.2)⟩, ⟨by (with_reducible repeat (first | apply Kd.S_alloc | apply Kd.S_drewN | apply Kd.S_drew)); exact Kd.S_mono HO_35.out (fun _ hk => hk.1.1.1)⟩, ⟨by repeat (first | (with_reducible first | exact HB.out | apply below_alloc | apply pw_below_drewN | apply below_drew1) | exact HB.out)⟩⟩
                            · replace c321 := Bool.eq_false_iff.mpr c321
                              subst c321
                              rw [if_neg (show ¬ (false = true) by decide)] at H
                              exact absurd (hrt.symm.trans (laws_FnFilesSortedOfAll.j1_false H)) (by decide)
                          · replace c319 := Bool.eq_false_iff.mpr c319
                            subst c319
                            rw [if_neg (show ¬ (false = true) by decide)] at H
                            exact absurd (hrt.symm.trans (laws_FnFilesSortedOfAll.j1_false H)) (by decide)
                        · replace c318 := Bool.eq_false_iff.mpr c318
                          subst c318
                          rw [if_neg (show ¬ (false = true) by decide)] at H
                          exact absurd (hrt.symm.trans (laws_FnFilesSortedOfAll.j1_false H)) (by decide)
                      · replace c316 := Bool.eq_false_iff.mpr c316
                        subst c316
                        rw [if_neg (show ¬ (false = true) by decide)] at H
                        exact absurd (hrt.symm.trans (laws_FnFilesSortedOfAll.j1_false H)) (by decide)
                    · replace c315 := Bool.eq_false_iff.mpr c315
                      subst c315
                      rw [if_neg (show ¬ (false = true) by decide)] at H
                      exact absurd (hrt.symm.trans (laws_FnFilesSortedOfAll.j1_false H)) (by decide)
                  · replace c314 := Bool.eq_false_iff.mpr c314
                    subst c314
                    rw [if_neg (show ¬ (false = true) by decide)] at H
                    exact absurd (hrt.symm.trans (laws_FnFilesSortedOfAll.j1_false H)) (by decide)
                · replace c313 := Bool.eq_false_iff.mpr c313
                  subst c313
                  rw [if_neg (show ¬ (false = true) by decide)] at H
                  exact absurd (hrt.symm.trans (laws_FnFilesSortedOfAll.j1_false H)) (by decide)
              · replace c312 := Bool.eq_false_iff.mpr c312
                subst c312
                rw [if_neg (show ¬ (false = true) by decide)] at H
                exact absurd (hrt.symm.trans (laws_FnFilesSortedOfAll.j1_false H)) (by decide)
            case rest => as_aux_lemma =>
              clear HC304
              try clear c1
              try clear c2
              try clear p2
              try clear c3
              try clear c4
              try clear c5
              try clear c6
              try clear c7
              try clear c8
              try clear c9
              try clear c10
              try clear c11
              try clear c12
              try clear c13
              try clear c14
              try clear c16
              try clear c17
              try clear c18
              try clear c20
              try clear c21
              try clear c22
              try clear c29
              try clear c31
              try clear c32
              try clear c40
              try clear c41
              try clear c41b0
              try clear c41b1
              try clear c41b2
              try clear c45
              try clear c46
              try clear c46b0
              try clear c46b1
              try clear c46b2
              try clear c52
              try clear c53
              try clear c53b0
              try clear c53b1
              try clear c53b2
              try clear c60
              try clear c60b0
              try clear c60b1
              try clear c60b2
              try clear c67
              try clear c67b0
              try clear c67b1
              try clear c67b2
              try clear c74
              try clear c74b0
              try clear c74b1
              try clear c74b2
              try clear c81
              try clear c81b0
              try clear c81b1
              try clear c81b2
              try clear c89
              try clear c90
              try clear c90b0
              try clear c90b1
              try clear c90b2
              try clear c99
              try clear c99b0
              try clear c99b1
              try clear c100
              try clear c100b0
              try clear c100b1
              try clear c100b2
              try clear c109
              try clear c109b0
              try clear c109b1
              try clear c110
              try clear c110b0
              try clear c110b1
              try clear c110b2
              try clear c120
              try clear c122
              try clear c122b0
              try clear c122b1
              try clear c122b2
              try clear c136
              try clear c136b0
              try clear c136b1
              try clear c136b2
              try clear c149
              try clear c149b0
              try clear c149b1
              try clear c149b2
              try clear c162
              try clear c162b0
              try clear c162b1
              try clear c162b2
              try clear c175
              try clear c175b0
              try clear c175b1
              try clear c175b2
              try clear c188
              try clear c188b0
              try clear c188b1
              try clear c188b2
              try clear c201
              try clear c201b0
              try clear c201b1
              try clear c201b2
              try clear c214
              try clear c214b0
              try clear c214b1
              try clear c214b2
              try clear c227
              try clear c227b0
              try clear c227b1
              try clear c227b2
              try clear c298
              try clear c299
              try clear c312
              try clear c313
              try clear c314
              try clear c315
              try clear c316
              try clear c318
              try clear c319
              try clear c321
              try clear c322
              try clear c322b0
              try clear c326
              try clear c326b0
              try clear c326b1
              try clear c326b2
              try clear p2
              obtain ⟨kq, x367_303, rfl, HA, HJ303, HO_3, HO_35, HB⟩ := hcut
              cases kq with
              | zero => exact absurd HA.out (by simp [laws_FnFilesSortedOfAll.j1])
              | succ kj303 =>
                have H := HA.out
                clear HA
                simp only [laws_FnFilesSortedOfAll.j1] at H
                by_cases c337 : x367_303 = true
                · subst c337
                  rw [if_pos rfl] at H
                  exact absurd (hrt.symm.trans (Option.some.inj H).symm) (by decide)
                · replace c337 := Bool.eq_false_iff.mpr c337
                  subst c337
                  rw [if_neg (show ¬ (false = true) by decide)] at H
                  have H' := Aside0.mk H
                  clear H
                  obtain ⟨Ao338, co338, eo338⟩ := Kd.S_slice HO_35.out
                  subst eo338
                  go_wp2
                  repeat (go_quiet (fail); try go_wp2)
                  go_loopg [370] kj303 (fun kq v370 w' => ∃ (x370_3 : Int), v370 = .int .i64 x370_3 ∧ Aside0 (laws_FnFilesSortedOfAll.l0 kq l0 t386 t410 t414 t426 t430 t434 t434 (t434.length : Int) x370_3 = some r) ∧ Aside0 (kq ≤ kj303) ∧ Aside0 (Kd.S (Kd.slice 3 (Kd.int .i64)) 31 w' w.heap.size (fun k_ => some k_ ≠ ((.slice Ao338 t434.length co338) : Value).ownBlock ∧ some k_ ≠ ((.slice Ao338 t434.length co338) : Value).ownBlock) (.slice Ao305 t386.length co305) t386) ∧ Aside0 (Kd.S (Kd.slice 3 (Kd.int .i64)) 31 w' w.heap.size (fun k_ => some k_ ≠ ((.slice Ao305 t386.length co305) : Value).ownBlock) (.slice Ao338 t434.length co338) t434) ∧ Aside0 (Kd.S (Kd.slice 3 (Kd.int .i64)) 31 w' w.heap.size (fun k_ => some k_ ≠ ((.slice Ao305 t386.length co305) : Value).ownBlock) (.slice Ao338 t434.length co338) t434) ∧ Aside0 (Below w.heap.size w w'))
                  case atStart => exact ⟨(0), (by first | rfl | (simp; done) | (simp [*]; done) | (simp [*]; first | exact bx1 _ _ | exact bx2 _ _ | exact (bx1 _ _).symm | exact (bx2 _ _).symm | exact bx3 _ _ | exact bx4 _ _)), H', ⟨Nat.le_refl _⟩, ⟨by (with_reducible repeat (first | apply Kd.S_alloc | apply Kd.S_drewN | apply Kd.S_drew)); exact Kd.S_mono HO_3.out (fun _ hk => ⟨hk, hk⟩)⟩, ⟨by (with_reducible repeat (first | apply Kd.S_alloc | apply Kd.S_drewN | apply Kd.S_drew)); exact HO_35.out⟩, ⟨by (with_reducible repeat (first | apply Kd.S_alloc | apply Kd.S_drewN | apply Kd.S_drew)); exact HO_35.out⟩, ⟨by repeat (first | (with_reducible first | exact HB.out | apply below_alloc | apply pw_below_drewN | apply below_drew1) | exact HB.out)⟩⟩
                  case round =>
                    clear H'
                    try clear c1
                    try clear c2
                    try clear p2
                    try clear c3
                    try clear c4
                    try clear c5
                    try clear c6
                    try clear c7
                    try clear c8
                    try clear c9
                    try clear c10
                    try clear c11
                    try clear c12
                    try clear c13
                    try clear c14
                    try clear c16
                    try clear c17
                    try clear c18
                    try clear c20
                    try clear c21
                    try clear c22
                    try clear c29
                    try clear c31
                    try clear c32
                    try clear c33
                    try clear c40
                    try clear c41
                    try clear c41b0
                    try clear c41b1
                    try clear c41b2
                    try clear c45
                    try clear c46
                    try clear c46b0
                    try clear c46b1
                    try clear c46b2
                    try clear c52
                    try clear c53
                    try clear c53b0
                    try clear c53b1
                    try clear c53b2
                    try clear c60
                    try clear c60b0
                    try clear c60b1
                    try clear c60b2
                    try clear c67
                    try clear c67b0
                    try clear c67b1
                    try clear c67b2
                    try clear c74
                    try clear c74b0
                    try clear c74b1
                    try clear c74b2
                    try clear c81
                    try clear c81b0
                    try clear c81b1
                    try clear c81b2
                    try clear c89
                    try clear c90
                    try clear c90b0
                    try clear c90b1
                    try clear c90b2
                    try clear c99
                    try clear c99b0
                    try clear c99b1
                    try clear c100
                    try clear c100b0
                    try clear c100b1
                    try clear c100b2
                    try clear c109
                    try clear c109b0
                    try clear c109b1
                    try clear c110
                    try clear c110b0
                    try clear c110b1
                    try clear c110b2
                    try clear c120
                    try clear c122
                    try clear c122b0
                    try clear c122b1
                    try clear c122b2
                    try clear c136
                    try clear c136b0
                    try clear c136b1
                    try clear c136b2
                    try clear c149
                    try clear c149b0
                    try clear c149b1
                    try clear c149b2
                    try clear c162
                    try clear c162b0
                    try clear c162b1
                    try clear c162b2
                    try clear c175
                    try clear c175b0
                    try clear c175b1
                    try clear c175b2
                    try clear c188
                    try clear c188b0
                    try clear c188b1
                    try clear c188b2
                    try clear c201
                    try clear c201b0
                    try clear c201b1
                    try clear c201b2
                    try clear c214
                    try clear c214b0
                    try clear c214b1
                    try clear c214b2
                    try clear c227
                    try clear c227b0
                    try clear c227b1
                    try clear c227b2
                    try clear c298
                    try clear c299
                    try clear c312
                    try clear c313
                    try clear c314
                    try clear c315
                    try clear c316
                    try clear c318
                    try clear c319
                    try clear c321
                    try clear c322
                    try clear c322b0
                    try clear c326
                    try clear c326b0
                    try clear c326b1
                    try clear c326b2
                    try clear c337
                    try clear p2
                    obtain ⟨x370_3, rfl, HA, HK3, HO_3, HO_35, HO_368, HB⟩ := hrel
                    cases gk with
                    | zero => exact absurd HA.out (by simp [laws_FnFilesSortedOfAll.l0])
                    | succ k3 =>
                      have H := HA.out
                      clear HA
                      simp only [laws_FnFilesSortedOfAll.l0] at H
                      by_cases c339 : x370_3 < (t434.length : Int)
                      · rw [if_pos c339] at H
                        have c339b0 : decide (x370_3 < (t434.length : Int)) = true := decide_eq_true c339
                        clear c339
                        by_cases c340 : 0 ≤ x370_3
                        · rw [if_pos c340] at H
                          have c340b0 : decide (0 ≤ x370_3) = true := decide_eq_true c340
                          clear c340
                          by_cases c341 : x370_3 < (t434.length : Int)
                          · rw [if_pos c341] at H
                            have c341b0 : decide (x370_3 < (t434.length : Int)) = true := decide_eq_true c341
                            clear c341
                            by_cases c342 : ((rd_L1 t434 x370_3).length : Int) = 2
                            · rw [if_pos c342] at H
                              have c342b0 : (((rd_L1 t434 x370_3).length : Int) == 2) = true := beq_iff_eq.mpr c342
                              have c342b1 : (((rd_L1 t434 x370_3).length : Int) != 2) = false := bne_eq_false_iff_eq.mpr c342
                              clear c342
                              by_cases c343 : 0 < ((rd_L1 t434 x370_3).length : Int)
                              · rw [if_pos c343] at H
                                have c343b0 : decide (0 < ((rd_L1 t434 x370_3).length : Int)) = true := decide_eq_true c343
                                have c343b1 : decide (0 < (rd_L1 t434 x370_3).length) = true := decide_eq_true (by omega)
                                clear c343
                                by_cases c344 : 0 ≤ (rd (rd_L1 t434 x370_3) 0)
                                · rw [if_pos c344] at H
                                  have c344b0 : decide (0 ≤ (rd (rd_L1 t434 x370_3) 0)) = true := decide_eq_true c344
                                  clear c344
                                  by_cases c345 : (rd (rd_L1 t434 x370_3) 0) < (l0.length : Int)
                                  · rw [if_pos c345] at H
                                    have c345b0 : decide ((rd (rd_L1 t434 x370_3) 0) < (l0.length : Int)) = true := decide_eq_true c345
                                    clear c345
                                    by_cases c346 : 1 < ((rd_L1 t434 x370_3).length : Int)
                                    · rw [if_pos c346] at H
                                      have c346b0 : decide (1 < ((rd_L1 t434 x370_3).length : Int)) = true := decide_eq_true c346
                                      have c346b1 : decide (1 < (rd_L1 t434 x370_3).length) = true := decide_eq_true (by omega)
                                      clear c346
                                      by_cases c347 : 0 ≤ (rd (rd_L1 t434 x370_3) 1)
                                      · rw [if_pos c347] at H
                                        have c347b0 : decide (0 ≤ (rd (rd_L1 t434 x370_3) 1)) = true := decide_eq_true c347
                                        clear c347
                                        by_cases c348 : (rd (rd_L1 t434 x370_3) 1) < ((rd_L1 l0 (rd (rd_L1 t434 x370_3) 0)).length : Int)
                                        · rw [if_pos c348] at H
                                          have c348b0 : decide ((rd (rd_L1 t434 x370_3) 1) < ((rd_L1 l0 (rd (rd_L1 t434 x370_3) 0)).length : Int)) = true := decide_eq_true c348
                                          clear c348
                                          by_cases c349 : (rd (rd_L1 l0 (rd (rd_L1 t434 x370_3) 0)) (rd (rd_L1 t434 x370_3) 1)) = t426
                                          · rw [if_pos c349] at H
                                            have c349b0 : ((rd (rd_L1 l0 (rd (rd_L1 t434 x370_3) 0)) (rd (rd_L1 t434 x370_3) 1)) == t426) = true := beq_iff_eq.mpr c349
                                            have c349b1 : ((rd (rd_L1 l0 (rd (rd_L1 t434 x370_3) 0)) (rd (rd_L1 t434 x370_3) 1)) != t426) = false := bne_eq_false_iff_eq.mpr c349
                                            clear c349
                                            by_cases c350 : (rd (rd_L1 l0 (rd (rd_L1 t434 x370_3) 0)) (rd (rd_L1 t434 x370_3) 1)) = t430
                                            · rw [if_pos c350] at H
                                              have c350b0 : ((rd (rd_L1 l0 (rd (rd_L1 t434 x370_3) 0)) (rd (rd_L1 t434 x370_3) 1)) == t430) = true := beq_iff_eq.mpr c350
                                              have c350b1 : ((rd (rd_L1 l0 (rd (rd_L1 t434 x370_3) 0)) (rd (rd_L1 t434 x370_3) 1)) != t430) = false := bne_eq_false_iff_eq.mpr c350
                                              clear c350
                                              have H' := Aside0.mk H
                                              clear H
                                              have p466 : 0 ≤ (x370_3 : Int) := of_decide_eq_true (by first | (with_reducible assumption) | assumption)
                                              have q466 : x370_3 < (t434.length : Int) := of_decide_eq_true (by first | (with_reducible assumption) | assumption)
                                              obtain ⟨ad466, A466_0, c466_0, e466, hx466_0, hl466_0, hi466_0⟩ := at_L1 (Kd.S_reads' HO_368.out).2.2 x370_3 p466 q466
                                              cases e466
                                              obtain ⟨ce466, hce466, hMe466, hcc466⟩ := Kd.S_get HO_368.out [] x370_3 p466 (by first | exact q466 | exact of_decide_eq_true (by first | (with_reducible assumption) | assumption) | (have e_ := (Kd.S_reads' HO_368.out).1; omega))
                                              obtain ⟨ve466_0, rfl, ge466_0⟩ := hMe466
                                              have hv466_0 := hcc466 0 _ rfl
                                              rw [Nat.add_zero, show ((Kd.slice 3 (Kd.int .i64))).sz = 1 from rfl, Nat.mul_one] at hv466_0
                                              replace hv466_0 := Option.some.inj (hv466_0.symm.trans hx466_0)
                                              rw [hv466_0] at ge466_0
                                              have HL466_0 := Aside0.mk (show Kd.R (Kd.int .i64) 3 _ _ _ _ (rd_L1 t434 x370_3) from ge466_0)
                                              clear hv466_0 ge466_0
                                              clear hcc466 hce466
                                              have HR466_0 := Aside0.mk hi466_0
                                              have HC466_0 := Aside0.mk hl466_0
                                              clear hi466_0 hl466_0
                                              replace p466 := eq_true p466
                                              replace q466 := eq_true q466
                                              have p467 : 0 ≤ (0 : Int) := (by omega)
                                              have q467 : 0 < ((rd_L1 t434 x370_3).length : Int) := of_decide_eq_true (by first | (with_reducible assumption) | assumption)
                                              obtain ⟨ad467, e467, hx467_0⟩ := Kd.at_int (by repeat (first | (with_reducible exact HR466_0.out) | (with_reducible refine Kd.C_alloc ?_ _) | (with_reducible refine Kd.C_drewN ?_ _) | (with_reducible refine Kd.C_drew ?_) | exact HR466_0.out)) 0 p467 q467
                                              cases e467
                                              have qi467 : (0 < (rd_L1 t434 x370_3).length) = True := eq_true (by omega)
                                              (try rw [show ((0 : Int)).toNat = 0 from rfl] at hx467_0)
                                              (try rw [Addr.add_zero'] at hx467_0)
                                              replace p467 := eq_true p467
                                              replace q467 := eq_true q467
                                              have p468 : 0 ≤ ((rd (rd_L1 t434 x370_3) 0) : Int) := of_decide_eq_true (by first | (with_reducible assumption) | assumption)
                                              have q468 : (rd (rd_L1 t434 x370_3) 0) < (l0.length : Int) := of_decide_eq_true (by first | (with_reducible assumption) | assumption)
                                              obtain ⟨ad468, A468_0, c468_0, e468, hx468_0, hl468_0, hi468_0⟩ := at_L1 HR0.out (rd (rd_L1 t434 x370_3) 0) p468 q468
                                              cases e468
                                              replace hx468_0 := (HB.out.cell (World.block_lt_of_cell? w _ hx468_0)).trans hx468_0
                                              have HR468_0 := Aside0.mk hi468_0
                                              have HC468_0 := Aside0.mk hl468_0
                                              clear hi468_0 hl468_0
                                              replace p468 := eq_true p468
                                              replace q468 := eq_true q468
                                              have p469 : 0 ≤ (1 : Int) := (by omega)
                                              have q469 : 1 < ((rd_L1 t434 x370_3).length : Int) := of_decide_eq_true (by first | (with_reducible assumption) | assumption)
                                              obtain ⟨ad469, e469, hx469_0⟩ := Kd.at_int (by repeat (first | (with_reducible exact HR466_0.out) | (with_reducible refine Kd.C_alloc ?_ _) | (with_reducible refine Kd.C_drewN ?_ _) | (with_reducible refine Kd.C_drew ?_) | exact HR466_0.out)) 1 p469 q469
                                              obtain rfl : ad467 = ad469 := (by injection e469)
                                              (try simp only [show (1 : Int).toNat = 1 from rfl, Nat.reduceMul, Nat.reduceEqDiff, Go.Addr.add, ↓reduceIte] at hx469_0)
                                              have qi469 : (1 < (rd_L1 t434 x370_3).length) = True := eq_true (by omega)
                                              (try rw [show ((1 : Int)).toNat = 1 from rfl] at hx469_0)
                                              replace p469 := eq_true p469
                                              replace q469 := eq_true q469
                                              have p470 : 0 ≤ ((rd (rd_L1 t434 x370_3) 1) : Int) := of_decide_eq_true (by first | (with_reducible assumption) | assumption)
                                              have q470 : (rd (rd_L1 t434 x370_3) 1) < ((rd_L1 l0 (rd (rd_L1 t434 x370_3) 0)).length : Int) := of_decide_eq_true (by first | (with_reducible assumption) | assumption)
                                              obtain ⟨ad470, e470, hx470_0⟩ := Kd.at_int HR468_0.out (rd (rd_L1 t434 x370_3) 1) p470 q470
                                              cases e470
                                              replace hx470_0 := (HB.out.cell (World.block_lt_of_cell? w _ hx470_0)).trans hx470_0
                                              replace p470 := eq_true p470
                                              replace q470 := eq_true q470
                                              go_wp2
                                              repeat (go_quiet (fail); try go_wp2)
                                              go_roundg k3
                                              case measure => have := HJ20.out; have := HJ303.out; have := HK3.out; omega
                                              case rel => exact ⟨(wrap64 (x370_3 + 1)), (by first | rfl | (simp; done) | (simp [*]; done) | (simp [*]; first | exact bx1 _ _ | exact bx2 _ _ | exact (bx1 _ _).symm | exact (bx2 _ _).symm | exact bx3 _ _ | exact bx4 _ _)), H', ⟨by have := HJ20.out; have := HJ303.out; have := HK3.out; omega⟩, ⟨by (with_reducible repeat (first | apply Kd.S_alloc | apply Kd.S_drewN | apply Kd.S_drew)); exact HO_3.out⟩, ⟨by (with_reducible repeat (first | apply Kd.S_alloc | apply Kd.S_drewN | apply Kd.S_drew)); exact HO_35.out⟩, ⟨by (with_reducible repeat (first | apply Kd.S_alloc | apply Kd.S_drewN | apply Kd.S_drew)); exact HO_368.out⟩, ⟨by repeat (first | (with_reducible first | exact HB.out | apply below_alloc | apply pw_below_drewN | apply below_drew1) | exact HB.out)⟩⟩
                                            · rw [if_neg c350] at H
                                              have c350b0 : ((rd (rd_L1 l0 (rd (rd_L1 t434 x370_3) 0)) (rd (rd_L1 t434 x370_3) 1)) == t430) = false := beq_eq_false_iff_ne.mpr c350
                                              have c350b1 : ((rd (rd_L1 l0 (rd (rd_L1 t434 x370_3) 0)) (rd (rd_L1 t434 x370_3) 1)) != t430) = true := bne_iff_ne.mpr c350
                                              exact absurd (hrt.symm.trans (Option.some.inj H).symm) (by decide)
                                          · rw [if_neg c349] at H
                                            have c349b0 : ((rd (rd_L1 l0 (rd (rd_L1 t434 x370_3) 0)) (rd (rd_L1 t434 x370_3) 1)) == t426) = false := beq_eq_false_iff_ne.mpr c349
                                            have c349b1 : ((rd (rd_L1 l0 (rd (rd_L1 t434 x370_3) 0)) (rd (rd_L1 t434 x370_3) 1)) != t426) = true := bne_iff_ne.mpr c349
                                            exact absurd (hrt.symm.trans (Option.some.inj H).symm) (by decide)
                                        · rw [if_neg c348] at H
                                          exact absurd H (by simp)
                                      · rw [if_neg c347] at H
                                        exact absurd H (by simp)
                                    · rw [if_neg c346] at H
                                      exact absurd H (by simp)
                                  · rw [if_neg c345] at H
                                    exact absurd H (by simp)
                                · rw [if_neg c344] at H
                                  exact absurd H (by simp)
                              · rw [if_neg c343] at H
                                exact absurd H (by simp)
                            · rw [if_neg c342] at H
                              have c342b0 : (((rd_L1 t434 x370_3).length : Int) == 2) = false := beq_eq_false_iff_ne.mpr c342
                              have c342b1 : (((rd_L1 t434 x370_3).length : Int) != 2) = true := bne_iff_ne.mpr c342
                              exact absurd (hrt.symm.trans (Option.some.inj H).symm) (by decide)
                          · rw [if_neg c341] at H
                            exact absurd H (by simp)
                        · rw [if_neg c340] at H
                          exact absurd H (by simp)
                      · rw [if_neg c339] at H
                        have c339b0 : decide (x370_3 < (t434.length : Int)) = false := decide_eq_false c339
                        clear c339
                        by_cases c351 : ((decide ((t434.length : Int) > 0)) != (t426 == t430)) = true
                        · rw [if_pos c351] at H
                          have c351b0 : ((decide ((t434.length : Int) > 0)) != (t426 == t430)) = true := c351
                          (try (have c351b1 : decide ((decide ((t434.length : Int) > 0)) = (t426 == t430)) = false := by simpa using c351))
                          (try (have c351b2 : ((decide ((t434.length : Int) > 0)) == (t426 == t430)) = false := by simpa using c351))
                          (try (have c351b3 : ¬ ((decide ((t434.length : Int) > 0)) = (t426 == t430)) := by simpa using c351))
                          clear c351
                          exact absurd (hrt.symm.trans (Option.some.inj H).symm) (by decide)
                        · rw [if_neg c351] at H
                          have c351b0 : ((decide ((t434.length : Int) > 0)) != (t426 == t430)) = false := by simpa using c351
                          have c351b9 : (!decide (0 < t434.length) == (t426 == t430)) = false := by rw [show decide (0 < t434.length) = decide ((t434.length : Int) > 0) from decide_eq_decide.2 (by omega)]; revert c351b0; cases decide ((t434.length : Int) > 0) <;> cases (t426 == t430) <;> decide
                          (try (have c351b1 : decide ((decide ((t434.length : Int) > 0)) = (t426 == t430)) = true := by simpa using c351))
                          (try (have c351b2 : ((decide ((t434.length : Int) > 0)) == (t426 == t430)) = true := by simpa using c351))
                          clear c351
                          replace H := Option.bind_eq_some_iff.mp H
                          obtain ⟨⟨t471, t472⟩, A3520, H⟩ := H
                          (try dsimp only at H)
                          have A352 := Aside0.mk A3520
                          clear A3520
                          replace H := Option.bind_eq_some_iff.mp H
                          obtain ⟨⟨t473, t474⟩, A3530, H⟩ := H
                          (try dsimp only at H)
                          have A353 := Aside0.mk A3530
                          clear A3530
                          by_cases c354 : t472 = true
                          · subst c354
                            rw [if_pos rfl] at H
                            by_cases c355 : t471 ≥ 0
                            · rw [if_pos c355] at H
                              have c355b0 : decide (0 ≤ t471) = true := decide_eq_true c355
                              clear c355
                              by_cases c356 : t410 = true
                              · subst c356
                                rw [if_pos rfl] at H
                                by_cases c357 : ((t471 == 0) == t414) = true
                                · rw [if_pos c357] at H
                                  have c357b0 : ((t471 == 0) == t414) = true := c357
                                  (try (have c357b1 : decide ((t471 == 0) = t414) = true := by simpa using c357))
                                  (try (have c357b2 : ((t471 == 0) == t414) = true := by simpa using c357))
                                  clear c357
                                  by_cases c358 : t474 = true
                                  · subst c358
                                    rw [if_pos rfl] at H
                                    have hz := (Option.some.inj H).trans hrt
                                    subst hrt
                                    clear H
                                    go_wp2_with (first | (go_at_call 25; (with_reducible refine (impl_FileDisorder.calls k3 _ _ l0 t471 true _ ?side1 ?side2 A352.out).mono ?_); (case side1 => repeat (first | exact (Kd.C_below HR0.out HB.out) | (with_reducible refine Kd.C_alloc ?_ _) | (with_reducible refine Kd.C_drewN ?_ _) | (with_reducible refine Kd.C_drew ?_))); (case side2 => exact HC0.out); rintro e w359 ⟨rfl, hb⟩; have n0_ := Aside0.mk (Kd.S_below (by (with_reducible repeat (first | apply Kd.S_alloc | apply Kd.S_drewN | apply Kd.S_drew)); exact HO_3.out) hb); have n1_ := Aside0.mk (Kd.S_below (by (with_reducible repeat (first | apply Kd.S_alloc | apply Kd.S_drewN | apply Kd.S_drew)); exact HO_35.out) hb); have n2_ := Aside0.mk (Kd.S_below (by (with_reducible repeat (first | apply Kd.S_alloc | apply Kd.S_drewN | apply Kd.S_drew)); exact HO_368.out) hb); have n3_ := Aside0.mk (below_step (by repeat (first | (with_reducible first | exact HB.out | apply below_alloc | apply pw_below_drewN | apply below_drew1) | exact HB.out)) hb); clear HO_3; clear HO_35; clear HO_368; clear HB; have HO_3 := n0_; have HO_35 := n1_; have HO_368 := n2_; have HB := n3_; clear n0_ n1_ n2_ n3_; (try clear hb); (try clear hb2); (try clear hk); (try clear hi)) | (go_at_call 25; (with_reducible refine (impl_FileDisorder.calls k3 _ _ t386 t473 true _ ?side1 ?side2 A353.out).mono ?_); (case side1 => repeat (first | exact (Kd.S_reads' HO_3.out).2.2 | (with_reducible refine Kd.C_alloc ?_ _) | (with_reducible refine Kd.C_drewN ?_ _) | (with_reducible refine Kd.C_drew ?_))); (case side2 => exact (Kd.S_reads' HO_3.out).2.1); rintro e w360 ⟨rfl, hb⟩; have n0_ := Aside0.mk (Kd.S_below (by (with_reducible repeat (first | apply Kd.S_alloc | apply Kd.S_drewN | apply Kd.S_drew)); exact HO_3.out) hb); have n1_ := Aside0.mk (Kd.S_below (by (with_reducible repeat (first | apply Kd.S_alloc | apply Kd.S_drewN | apply Kd.S_drew)); exact HO_35.out) hb); have n2_ := Aside0.mk (Kd.S_below (by (with_reducible repeat (first | apply Kd.S_alloc | apply Kd.S_drewN | apply Kd.S_drew)); exact HO_368.out) hb); have n3_ := Aside0.mk (below_step (by repeat (first | (with_reducible first | exact HB.out | apply below_alloc | apply pw_below_drewN | apply below_drew1) | exact HB.out)) hb); clear HO_3; clear HO_35; clear HO_368; clear HB; have HO_3 := n0_; have HO_35 := n1_; have HO_368 := n2_; have HB := n3_; clear n0_ n1_ n2_ n3_; (try clear hb); (try clear hb2); (try clear hk); (try clear hi)))
                                    repeat (go_quiet (first | (go_at_call 25; (with_reducible refine (impl_FileDisorder.calls k3 _ _ l0 t471 true _ ?side1 ?side2 A352.out).mono ?_); (case side1 => repeat (first | exact (Kd.C_below HR0.out HB.out) | (with_reducible refine Kd.C_alloc ?_ _) | (with_reducible refine Kd.C_drewN ?_ _) | (with_reducible refine Kd.C_drew ?_))); (case side2 => exact HC0.out); rintro e w359 ⟨rfl, hb⟩; have n0_ := Aside0.mk (Kd.S_below (by (with_reducible repeat (first | apply Kd.S_alloc | apply Kd.S_drewN | apply Kd.S_drew)); exact HO_3.out) hb); have n1_ := Aside0.mk (Kd.S_below (by (with_reducible repeat (first | apply Kd.S_alloc | apply Kd.S_drewN | apply Kd.S_drew)); exact HO_35.out) hb); have n2_ := Aside0.mk (Kd.S_below (by (with_reducible repeat (first | apply Kd.S_alloc | apply Kd.S_drewN | apply Kd.S_drew)); exact HO_368.out) hb); have n3_ := Aside0.mk (below_step (by repeat (first | (with_reducible first | exact HB.out | apply below_alloc | apply pw_below_drewN | apply below_drew1) | exact HB.out)) hb); clear HO_3; clear HO_35; clear HO_368; clear HB; have HO_3 := n0_; have HO_35 := n1_; have HO_368 := n2_; have HB := n3_; clear n0_ n1_ n2_ n3_; (try clear hb); (try clear hb2); (try clear hk); (try clear hi)) | (go_at_call 25; (with_reducible refine (impl_FileDisorder.calls k3 _ _ t386 t473 true _ ?side1 ?side2 A353.out).mono ?_); (case side1 => repeat (first | exact (Kd.S_reads' HO_3.out).2.2 | (with_reducible refine Kd.C_alloc ?_ _) | (with_reducible refine Kd.C_drewN ?_ _) | (with_reducible refine Kd.C_drew ?_))); (case side2 => exact (Kd.S_reads' HO_3.out).2.1); rintro e w360 ⟨rfl, hb⟩; have n0_ := Aside0.mk (Kd.S_below (by (with_reducible repeat (first | apply Kd.S_alloc | apply Kd.S_drewN | apply Kd.S_drew)); exact HO_3.out) hb); have n1_ := Aside0.mk (Kd.S_below (by (with_reducible repeat (first | apply Kd.S_alloc | apply Kd.S_drewN | apply Kd.S_drew)); exact HO_35.out) hb); have n2_ := Aside0.mk (Kd.S_below (by (with_reducible repeat (first | apply Kd.S_alloc | apply Kd.S_drewN | apply Kd.S_drew)); exact HO_368.out) hb); have n3_ := Aside0.mk (below_step (by repeat (first | (with_reducible first | exact HB.out | apply below_alloc | apply pw_below_drewN | apply below_drew1) | exact HB.out)) hb); clear HO_3; clear HO_35; clear HO_368; clear HB; have HO_3 := n0_; have HO_35 := n1_; have HO_368 := n2_; have HB := n3_; clear n0_ n1_ n2_ n3_; (try clear hb); (try clear hb2); (try clear hk); (try clear hi))); try go_wp2_with (first | (go_at_call 25; (with_reducible refine (impl_FileDisorder.calls k3 _ _ l0 t471 true _ ?side1 ?side2 A352.out).mono ?_); (case side1 => repeat (first | exact (Kd.C_below HR0.out HB.out) | (with_reducible refine Kd.C_alloc ?_ _) | (with_reducible refine Kd.C_drewN ?_ _) | (with_reducible refine Kd.C_drew ?_))); (case side2 => exact HC0.out); rintro e w359 ⟨rfl, hb⟩; have n0_ := Aside0.mk (Kd.S_below (by (with_reducible repeat (first | apply Kd.S_alloc | apply Kd.S_drewN | apply Kd.S_drew)); exact HO_3.out) hb); have n1_ := Aside0.mk (Kd.S_below (by (with_reducible repeat (first | apply Kd.S_alloc | apply Kd.S_drewN | apply Kd.S_drew)); exact HO_35.out) hb); have n2_ := Aside0.mk (Kd.S_below (by (with_reducible repeat (first | apply Kd.S_alloc | apply Kd.S_drewN | apply Kd.S_drew)); exact HO_368.out) hb); have n3_ := Aside0.mk (below_step (by repeat (first | (with_reducible first | exact HB.out | apply below_alloc | apply pw_below_drewN | apply below_drew1) | exact HB.out)) hb); clear HO_3; clear HO_35; clear HO_368; clear HB; have HO_3 := n0_; have HO_35 := n1_; have HO_368 := n2_; have HB := n3_; clear n0_ n1_ n2_ n3_; (try clear hb); (try clear hb2); (try clear hk); (try clear hi)) | (go_at_call 25; (with_reducible refine (impl_FileDisorder.calls k3 _ _ t386 t473 true _ ?side1 ?side2 A353.out).mono ?_); (case side1 => repeat (first | exact (Kd.S_reads' HO_3.out).2.2 | (with_reducible refine Kd.C_alloc ?_ _) | (with_reducible refine Kd.C_drewN ?_ _) | (with_reducible refine Kd.C_drew ?_))); (case side2 => exact (Kd.S_reads' HO_3.out).2.1); rintro e w360 ⟨rfl, hb⟩; have n0_ := Aside0.mk (Kd.S_below (by (with_reducible repeat (first | apply Kd.S_alloc | apply Kd.S_drewN | apply Kd.S_drew)); exact HO_3.out) hb); have n1_ := Aside0.mk (Kd.S_below (by (with_reducible repeat (first | apply Kd.S_alloc | apply Kd.S_drewN | apply Kd.S_drew)); exact HO_35.out) hb); have n2_ := Aside0.mk (Kd.S_below (by (with_reducible repeat (first | apply Kd.S_alloc | apply Kd.S_drewN | apply Kd.S_drew)); exact HO_368.out) hb); have n3_ := Aside0.mk (below_step (by repeat (first | (with_reducible first | exact HB.out | apply below_alloc | apply pw_below_drewN | apply below_drew1) | exact HB.out)) hb); clear HO_3; clear HO_35; clear HO_368; clear HB; have HO_3 := n0_; have HO_35 := n1_; have HO_368 := n2_; have HB := n3_; clear n0_ n1_ n2_ n3_; (try clear hb); (try clear hb2); (try clear hk); (try clear hi))))
                                    go_ret
                                    exact ⟨by first | rfl | (simp [errW_none, errW_some] <;> rfl) | (simp [*, errW_none, errW_some] <;> rfl), by repeat (first | (with_reducible first | exact HB.out | apply below_alloc | apply pw_below_drewN | apply below_drew1) | exact HB.out)⟩
                                  · replace c358 := Bool.eq_false_iff.mpr c358
                                    subst c358
                                    rw [if_neg (show ¬ (false = true) by decide)] at H
                                    exact absurd (hrt.symm.trans (Option.some.inj H).symm) (by decide)
                                · rw [if_neg c357] at H
                                  have c357b0 : ((t471 == 0) == t414) = false := by simpa using c357
                                  (try (have c357b1 : decide ((t471 == 0) = t414) = false := by simpa using c357))
                                  (try (have c357b2 : ((t471 == 0) == t414) = false := by simpa using c357))
                                  (try (have c357b3 : ¬ ((t471 == 0) = t414) := by simpa using c357))
                                  clear c357
                                  exact absurd (hrt.symm.trans (Option.some.inj H).symm) (by decide)
                              · replace c356 := Bool.eq_false_iff.mpr c356
                                subst c356
                                rw [if_neg (show ¬ (false = true) by decide)] at H
                                by_cases c365 : ((t471 == 0) == false) = true
                                · rw [if_pos c365] at H
                                  have c365b0 : ((t471 == 0) == false) = true := c365
                                  (try (have c365b1 : decide ((t471 == 0) = false) = true := by simpa using c365))
                                  (try (have c365b2 : ((t471 == 0) == false) = true := by simpa using c365))
                                  clear c365
                                  by_cases c366 : t474 = true
                                  · subst c366
                                    rw [if_pos rfl] at H
                                    have hz := (Option.some.inj H).trans hrt
                                    subst hrt
                                    clear H
                                    go_wp2_with (first | (go_at_call 25; (with_reducible refine (impl_FileDisorder.calls k3 _ _ l0 t471 true _ ?side1 ?side2 A352.out).mono ?_); (case side1 => repeat (first | exact (Kd.C_below HR0.out HB.out) | (with_reducible refine Kd.C_alloc ?_ _) | (with_reducible refine Kd.C_drewN ?_ _) | (with_reducible refine Kd.C_drew ?_))); (case side2 => exact HC0.out); rintro e w367 ⟨rfl, hb⟩; have n0_ := Aside0.mk (Kd.S_below (by (with_reducible repeat (first | apply Kd.S_alloc | apply Kd.S_drewN | apply Kd.S_drew)); exact HO_3.out) hb); have n1_ := Aside0.mk (Kd.S_below (by (with_reducible repeat (first | apply Kd.S_alloc | apply Kd.S_drewN | apply Kd.S_drew)); exact HO_35.out) hb); have n2_ := Aside0.mk (Kd.S_below (by (with_reducible repeat (first | apply Kd.S_alloc | apply Kd.S_drewN | apply Kd.S_drew)); exact HO_368.out) hb); have n3_ := Aside0.mk (below_step (by repeat (first | (with_reducible first | exact HB.out | apply below_alloc | apply pw_below_drewN | apply below_drew1) | exact HB.out)) hb); clear HO_3; clear HO_35; clear HO_368; clear HB; have HO_3 := n0_; have HO_35 := n1_; have HO_368 := n2_; have HB := n3_; clear n0_ n1_ n2_ n3_; (try clear hb); (try clear hb2); (try clear hk); (try clear hi)) | (go_at_call 25; (with_reducible refine (impl_FileDisorder.calls k3 _ _ t386 t473 true _ ?side1 ?side2 A353.out).mono ?_); (case side1 => repeat (first | exact (Kd.S_reads' HO_3.out).2.2 | (with_reducible refine Kd.C_alloc ?_ _) | (with_reducible refine Kd.C_drewN ?_ _) | (with_reducible refine Kd.C_drew ?_))); (case side2 => exact (Kd.S_reads' HO_3.out).2.1); rintro e w368 ⟨rfl, hb⟩; have n0_ := Aside0.mk (Kd.S_below (by (with_reducible repeat (first | apply Kd.S_alloc | apply Kd.S_drewN | apply Kd.S_drew)); exact HO_3.out) hb); have n1_ := Aside0.mk (Kd.S_below (by (with_reducible repeat (first | apply Kd.S_alloc | apply Kd.S_drewN | apply Kd.S_drew)); exact HO_35.out) hb); have n2_ := Aside0.mk (Kd.S_below (by (with_reducible repeat (first | apply Kd.S_alloc | apply Kd.S_drewN | apply Kd.S_drew)); exact HO_368.out) hb); have n3_ := Aside0.mk (below_step (by repeat (first | (with_reducible first | exact HB.out | apply below_alloc | apply pw_below_drewN | apply below_drew1) | exact HB.out)) hb); clear HO_3; clear HO_35; clear HO_368; clear HB; have HO_3 := n0_; have HO_35 := n1_; have HO_368 := n2_; have HB := n3_; clear n0_ n1_ n2_ n3_; (try clear hb); (try clear hb2); (try clear hk); (try clear hi)))
                                    repeat (go_quiet (first | (go_at_call 25; (with_reducible refine (impl_FileDisorder.calls k3 _ _ l0 t471 true _ ?side1 ?side2 A352.out).mono ?_); (case side1 => repeat (first | exact (Kd.C_below HR0.out HB.out) | (with_reducible refine Kd.C_alloc ?_ _) | (with_reducible refine Kd.C_drewN ?_ _) | (with_reducible refine Kd.C_drew ?_))); (case side2 => exact HC0.out); rintro e w367 ⟨rfl, hb⟩; have n0_ := Aside0.mk (Kd.S_below (by (with_reducible repeat (first | apply Kd.S_alloc | apply Kd.S_drewN | apply Kd.S_drew)); exact HO_3.out) hb); have n1_ := Aside0.mk (Kd.S_below (by (with_reducible repeat (first | apply Kd.S_alloc | apply Kd.S_drewN | apply Kd.S_drew)); exact HO_35.out) hb); have n2_ := Aside0.mk (Kd.S_below (by (with_reducible repeat (first | apply Kd.S_alloc | apply Kd.S_drewN | apply Kd.S_drew)); exact HO_368.out) hb); have n3_ := Aside0.mk (below_step (by repeat (first | (with_reducible first | exact HB.out | apply below_alloc | apply pw_below_drewN | apply below_drew1) | exact HB.out)) hb); clear HO_3; clear HO_35; clear HO_368; clear HB; have HO_3 := n0_; have HO_35 := n1_; have HO_368 := n2_; have HB := n3_; clear n0_ n1_ n2_ n3_; (try clear hb); (try clear hb2); (try clear hk); (try clear hi)) | (go_at_call 25; (with_reducible refine (impl_FileDisorder.calls k3 _ _ t386 t473 true _ ?side1 ?side2 A353.out).mono ?_); (case side1 => repeat (first | exact (Kd.S_reads' HO_3.out).2.2 | (with_reducible refine Kd.C_alloc ?_ _) | (with_reducible refine Kd.C_drewN ?_ _) | (with_reducible refine Kd.C_drew ?_))); (case side2 => exact (Kd.S_reads' HO_3.out).2.1); rintro e w368 ⟨rfl, hb⟩; have n0_ := Aside0.mk (Kd.S_below (by (with_reducible repeat (first | apply Kd.S_alloc | apply Kd.S_drewN | apply Kd.S_drew)); exact HO_3.out) hb); have n1_ := Aside0.mk (Kd.S_below (by (with_reducible repeat (first | apply Kd.S_alloc | apply Kd.S_drewN | apply Kd.S_drew)); exact HO_35.out) hb); have n2_ := Aside0.mk (Kd.S_below (by (with_reducible repeat (first | apply Kd.S_alloc | apply Kd.S_drewN | apply Kd.S_drew)); exact HO_368.out) hb); have n3_ := Aside0.mk (below_step (by repeat (first | (with_reducible first | exact HB.out | apply below_alloc | apply pw_below_drewN | apply below_drew1) | exact HB.out)) hb); clear HO_3; clear HO_35; clear HO_368; clear HB; have HO_3 := n0_; have HO_35 := n1_; have HO_368 := n2_; have HB := n3_; clear n0_ n1_ n2_ n3_; (try clear hb); (try clear hb2); (try clear hk); (try clear hi))); try go_wp2_with (first | (go_at_call 25; (with_reducible refine (impl_FileDisorder.calls k3 _ _ l0 t471 true _ ?side1 ?side2 A352.out).mono ?_); (case side1 => repeat (first | exact (Kd.C_below HR0.out HB.out) | (with_reducible refine Kd.C_alloc ?_ _) | (with_reducible refine Kd.C_drewN ?_ _) | (with_reducible refine Kd.C_drew ?_))); (case side2 => exact HC0.out); rintro e w367 ⟨rfl, hb⟩; have n0_ := Aside0.mk (Kd.S_below (by (with_reducible repeat (first | apply Kd.S_alloc | apply Kd.S_drewN | apply Kd.S_drew)); exact HO_3.out) hb); have n1_ := Aside0.mk (Kd.S_below (by (with_reducible repeat (first | apply Kd.S_alloc | apply Kd.S_drewN | apply Kd.S_drew)); exact HO_35.out) hb); have n2_ := Aside0.mk (Kd.S_below (by (with_reducible repeat (first | apply Kd.S_alloc | apply Kd.S_drewN | apply Kd.S_drew)); exact HO_368.out) hb); have n3_ := Aside0.mk (below_step (by repeat (first | (with_reducible first | exact HB.out | apply below_alloc | apply pw_below_drewN | apply below_drew1) | exact HB.out)) hb); clear HO_3; clear HO_35; clear HO_368; clear HB; have HO_3 := n0_; have HO_35 := n1_; have HO_368 := n2_; have HB := n3_; clear n0_ n1_ n2_ n3_; (try clear hb); (try clear hb2); (try clear hk); (try clear hi)) | (go_at_call 25; (with_reducible refine (impl_FileDisorder.calls k3 _ _ t386 t473 true _ ?side1 ?side2 A353.out).mono ?_); (case side1 => repeat (first | exact (Kd.S_reads' HO_3.out).2.2 | (with_reducible refine Kd.C_alloc ?_ _) | (with_reducible refine Kd.C_drewN ?_ _) | (with_reducible refine Kd.C_drew ?_))); (case side2 => exact (Kd.S_reads' HO_3.out).2.1); rintro e w368 ⟨rfl, hb⟩; have n0_ := Aside0.mk (Kd.S_below (by (with_reducible repeat (first | apply Kd.S_alloc | apply Kd.S_drewN | apply Kd.S_drew)); exact HO_3.out) hb); have n1_ := Aside0.mk (Kd.S_below (by (with_reducible repeat (first | apply Kd.S_alloc | apply Kd.S_drewN | apply Kd.S_drew)); exact HO_35.out) hb); have n2_ := Aside0.mk (Kd.S_below (by (with_reducible repeat (first | apply Kd.S_alloc | apply Kd.S_drewN | apply Kd.S_drew)); exact HO_368.out) hb); have n3_ := Aside0.mk (below_step (by repeat (first | (with_reducible first | exact HB.out | apply below_alloc | apply pw_below_drewN | apply below_drew1) | exact HB.out)) hb); clear HO_3; clear HO_35; clear HO_368; clear HB; have HO_3 := n0_; have HO_35 := n1_; have HO_368 := n2_; have HB := n3_; clear n0_ n1_ n2_ n3_; (try clear hb); (try clear hb2); (try clear hk); (try clear hi))))
                                    go_ret
                                    exact ⟨by first | rfl | (simp [errW_none, errW_some] <;> rfl) | (simp [*, errW_none, errW_some] <;> rfl), by repeat (first | (with_reducible first | exact HB.out | apply below_alloc | apply pw_below_drewN | apply below_drew1) | exact HB.out)⟩
                                  · replace c366 := Bool.eq_false_iff.mpr c366
                                    subst c366
                                    rw [if_neg (show ¬ (false = true) by decide)] at H
                                    exact absurd (hrt.symm.trans (Option.some.inj H).symm) (by decide)
                                · rw [if_neg c365] at H
                                  have c365b0 : ((t471 == 0) == false) = false := by simpa using c365
                                  (try (have c365b1 : decide ((t471 == 0) = false) = false := by simpa using c365))
                                  (try (have c365b2 : ((t471 == 0) == false) = false := by simpa using c365))
                                  (try (have c365b3 : ¬ ((t471 == 0) = false) := by simpa using c365))
                                  clear c365
                                  exact absurd (hrt.symm.trans (Option.some.inj H).symm) (by decide)
                            · rw [if_neg c355] at H
                              have c355b0 : decide (0 ≤ t471) = false := decide_eq_false c355
                              clear c355
                              exact absurd (hrt.symm.trans (Option.some.inj H).symm) (by decide)
                          · replace c354 := Bool.eq_false_iff.mpr c354
                            subst c354
                            rw [if_neg (show ¬ (false = true) by decide)] at H
                            exact absurd (hrt.symm.trans (Option.some.inj H).symm) (by decide)
          · replace c299 := Bool.eq_false_iff.mpr c299
            subst c299
            rw [if_neg (show ¬ (false = true) by decide)] at H
            obtain rfl := Option.some.inj H
            clear hrt
            go_wp2
            repeat (go_quiet (fail); try go_wp2)
            go_ret
            exact ⟨by first | rfl | (simp [errW_none, errW_some] <;> rfl) | (simp [*, errW_none, errW_some] <;> rfl), by repeat (first | (with_reducible first | exact HB.out | apply below_alloc | apply pw_below_drewN | apply below_drew1) | exact HB.out)⟩

end Go.Proofs.Ytbhfcabhkidfdaa.A
