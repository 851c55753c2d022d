-- WRITTEN BY printx.py, a program of this session over the kit's print: not typed by hand. Lean checks it.
import Derived.Test.YteohjnmiifmldaaGreatDoorAx0
import Derived.Test.YteohjnmiifmldaaGreatDoorAx3
import Derived.Test.YteohjnmiifmldaaGreatDoorAx4
import Derived.Test.YteohjnmiifmldaaGreatDoorAx5
import Derived.Test.YteohjnmiifmldaaGreatDoorAx6
import Derived.Test.YteohjnmiifmldaaGreatDoorAx7
import Derived.Test.YteohjnmiifmldaaGreatDoorAx8
import Derived.Test.YteohjnmiifmldaaGreatDoorAx10
import Derived.Test.YteohjnmiifmldaaGreatDoorAx11
import Derived.Test.YteohjnmiifmldaaGreatDoorAx12
import Derived.Test.YteohjnmiifmldaaGreatDoorAx15
import Derived.Test.YteohjnmiifmldaaGreatDoorAx16
import Derived.Test.YteohjnmiifmldaaGreatDoorAx17
namespace Go.Proofs.YteohjnmiifmldaaGreatDoor.A
open Go.RowKit Go.Proofs.YteohjnmiifmldaaGreatDoorW.PrintWords Go.Proofs.YteohjnmiifmldaaGreatDoorW.PrintLast Go.Proofs.YteohjnmiifmldaaGreatDoorW.PrintMore Go.Proofs.YteohjnmiifmldaaGreatDoor.X
attribute [local go_sem] max2_int min2_int max_two min_two max_three min_three max_four min_four   -- for this text's walks alone
set_option linter.unusedVariables false
set_option linter.unusedSimpArgs false

/-! ### laws_FnPacesMeetOfAll: function 3 -/
mutual
def laws_FnPacesMeetOfAll.j0 : Nat → List (S38) → List (S38) → Int → List (S38) → Int → Bool → Option (Bool)
  | 0, _, _, _, _, _, _ => none
  | k + 1, x0, x1, x2, x3, x4, x81 => if x81 = true then (some true) else ((impl_FirstTogether.f k x0).bind fun bt360 => ((spec_FirstTogether.f k x0).bind fun bt362 => ((impl_PeriodOf.f k x0).bind fun bt364 => ((spec_PeriodOf.f k x0).bind fun bt366 => ((impl_MostAtOnce.f k x0).bind fun bt368 => ((spec_MostAtOnce.f k x0).bind fun bt371 => ((impl_LongestSilence.f k x0).bind fun bt374 => ((spec_LongestSilence.f k x0).bind fun bt376 => ((impl_NeverTogether.f k x0).bind fun bt378 => ((spec_NeverTogether.f k x0).bind fun bt382 => ((impl_PacesText.f k x0).bind fun bt386 => ((spec_PacesText.f k x0).bind fun bt388 => (if (bt360.2 != bt362.2) = true then (laws_FnPacesMeetOfAll.j1 k x0 x1 x2 x3 x4 bt360.1 bt360.2 bt364.1 bt364.2 bt368.1 bt368.2.1 bt368.2.2 bt374.1 bt378.1 bt386.1 true) else (if bt360.1 = bt362.1 then (if (bt364.2 != bt366.2) = true then (laws_FnPacesMeetOfAll.j1 k x0 x1 x2 x3 x4 bt360.1 bt360.2 bt364.1 bt364.2 bt368.1 bt368.2.1 bt368.2.2 bt374.1 bt378.1 bt386.1 true) else (if bt364.1 = bt366.1 then (if (bt368.2.2 != bt371.2.2) = true then (laws_FnPacesMeetOfAll.j1 k x0 x1 x2 x3 x4 bt360.1 bt360.2 bt364.1 bt364.2 bt368.1 bt368.2.1 bt368.2.2 bt374.1 bt378.1 bt386.1 true) else (if bt368.1 = bt371.1 then (if bt368.2.1 = bt371.2.1 then (if (bt374.2 != bt376.2) = true then (laws_FnPacesMeetOfAll.j1 k x0 x1 x2 x3 x4 bt360.1 bt360.2 bt364.1 bt364.2 bt368.1 bt368.2.1 bt368.2.2 bt374.1 bt378.1 bt386.1 true) else (if bt374.1 = bt376.1 then (if (bt378.2 != bt382.2) = true then (laws_FnPacesMeetOfAll.j1 k x0 x1 x2 x3 x4 bt360.1 bt360.2 bt364.1 bt364.2 bt368.1 bt368.2.1 bt368.2.2 bt374.1 bt378.1 bt386.1 true) else ((laws_mRows.f k bt378.1 bt382.1).bind fun t390 => (if t390 = true then (if (bt386.2 != bt388.2) = true then (laws_FnPacesMeetOfAll.j1 k x0 x1 x2 x3 x4 bt360.1 bt360.2 bt364.1 bt364.2 bt368.1 bt368.2.1 bt368.2.2 bt374.1 bt378.1 bt386.1 true) else (if bt386.1.toList = bt388.1.toList then ((impl_ArePaces.f k x0).bind fun t391 => (if (bt364.2 != t391) = true then (laws_FnPacesMeetOfAll.j1 k x0 x1 x2 x3 x4 bt360.1 bt360.2 bt364.1 bt364.2 bt368.1 bt368.2.1 bt368.2.2 bt374.1 bt378.1 bt386.1 true) else ((impl_ArePaces.f k x0).bind fun t392 => ((spec_ArePaces.f k x0).bind fun t393 => (if (t392 != t393) = true then (laws_FnPacesMeetOfAll.j1 k x0 x1 x2 x3 x4 bt360.1 bt360.2 bt364.1 bt364.2 bt368.1 bt368.2.1 bt368.2.2 bt374.1 bt378.1 bt386.1 true) else (if bt364.2 = true then (if (bt368.2.2 != (decide (bt364.1 ≤ 100000))) = true then (laws_FnPacesMeetOfAll.j1 k x0 x1 x2 x3 x4 bt360.1 bt360.2 bt364.1 bt364.2 bt368.1 bt368.2.1 bt368.2.2 bt374.1 bt378.1 bt386.1 true) else (if (bt374.2 != bt368.2.2) = true then (laws_FnPacesMeetOfAll.j1 k x0 x1 x2 x3 x4 bt360.1 bt360.2 bt364.1 bt364.2 bt368.1 bt368.2.1 bt368.2.2 bt374.1 bt378.1 bt386.1 true) else (if (bt378.2 != bt364.2) = true then (laws_FnPacesMeetOfAll.j1 k x0 x1 x2 x3 x4 bt360.1 bt360.2 bt364.1 bt364.2 bt368.1 bt368.2.1 bt368.2.2 bt374.1 bt378.1 bt386.1 true) else (if (bt386.2 != bt364.2) = true then (laws_FnPacesMeetOfAll.j1 k x0 x1 x2 x3 x4 bt360.1 bt360.2 bt364.1 bt364.2 bt368.1 bt368.2.1 bt368.2.2 bt374.1 bt378.1 bt386.1 true) else (if bt360.2 = true then (laws_FnPacesMeetOfAll.j1 k x0 x1 x2 x3 x4 bt360.1 bt360.2 bt364.1 bt364.2 bt368.1 bt368.2.1 bt368.2.2 bt374.1 bt378.1 bt386.1 (!bt364.2)) else (laws_FnPacesMeetOfAll.j1 k x0 x1 x2 x3 x4 bt360.1 bt360.2 bt364.1 bt364.2 bt368.1 bt368.2.1 bt368.2.2 bt374.1 bt378.1 bt386.1 false)))))) else (if (bt368.2.2 != false) = true then (laws_FnPacesMeetOfAll.j1 k x0 x1 x2 x3 x4 bt360.1 bt360.2 bt364.1 bt364.2 bt368.1 bt368.2.1 bt368.2.2 bt374.1 bt378.1 bt386.1 true) else (if (bt374.2 != bt368.2.2) = true then (laws_FnPacesMeetOfAll.j1 k x0 x1 x2 x3 x4 bt360.1 bt360.2 bt364.1 bt364.2 bt368.1 bt368.2.1 bt368.2.2 bt374.1 bt378.1 bt386.1 true) else (if (bt378.2 != bt364.2) = true then (laws_FnPacesMeetOfAll.j1 k x0 x1 x2 x3 x4 bt360.1 bt360.2 bt364.1 bt364.2 bt368.1 bt368.2.1 bt368.2.2 bt374.1 bt378.1 bt386.1 true) else (if (bt386.2 != bt364.2) = true then (laws_FnPacesMeetOfAll.j1 k x0 x1 x2 x3 x4 bt360.1 bt360.2 bt364.1 bt364.2 bt368.1 bt368.2.1 bt368.2.2 bt374.1 bt378.1 bt386.1 true) else (if bt360.2 = true then (laws_FnPacesMeetOfAll.j1 k x0 x1 x2 x3 x4 bt360.1 bt360.2 bt364.1 bt364.2 bt368.1 bt368.2.1 bt368.2.2 bt374.1 bt378.1 bt386.1 (!bt364.2)) else (laws_FnPacesMeetOfAll.j1 k x0 x1 x2 x3 x4 bt360.1 bt360.2 bt364.1 bt364.2 bt368.1 bt368.2.1 bt368.2.2 bt374.1 bt378.1 bt386.1 false)))))))))))) else (laws_FnPacesMeetOfAll.j1 k x0 x1 x2 x3 x4 bt360.1 bt360.2 bt364.1 bt364.2 bt368.1 bt368.2.1 bt368.2.2 bt374.1 bt378.1 bt386.1 true))) else (laws_FnPacesMeetOfAll.j1 k x0 x1 x2 x3 x4 bt360.1 bt360.2 bt364.1 bt364.2 bt368.1 bt368.2.1 bt368.2.2 bt374.1 bt378.1 bt386.1 true)))) else (laws_FnPacesMeetOfAll.j1 k x0 x1 x2 x3 x4 bt360.1 bt360.2 bt364.1 bt364.2 bt368.1 bt368.2.1 bt368.2.2 bt374.1 bt378.1 bt386.1 true))) else (laws_FnPacesMeetOfAll.j1 k x0 x1 x2 x3 x4 bt360.1 bt360.2 bt364.1 bt364.2 bt368.1 bt368.2.1 bt368.2.2 bt374.1 bt378.1 bt386.1 true)) else (laws_FnPacesMeetOfAll.j1 k x0 x1 x2 x3 x4 bt360.1 bt360.2 bt364.1 bt364.2 bt368.1 bt368.2.1 bt368.2.2 bt374.1 bt378.1 bt386.1 true))) else (laws_FnPacesMeetOfAll.j1 k x0 x1 x2 x3 x4 bt360.1 bt360.2 bt364.1 bt364.2 bt368.1 bt368.2.1 bt368.2.2 bt374.1 bt378.1 bt386.1 true))) else (laws_FnPacesMeetOfAll.j1 k x0 x1 x2 x3 x4 bt360.1 bt360.2 bt364.1 bt364.2 bt368.1 bt368.2.1 bt368.2.2 bt374.1 bt378.1 bt386.1 true)))))))))))))))
def laws_FnPacesMeetOfAll.j1 : Nat → List (S38) → List (S38) → Int → List (S38) → Int → Int → Bool → Int → Bool → Int → Int → Bool → Int → List (List Int) → ByteArray → Bool → Option (Bool)
  | 0, _, _, _, _, _, _, _, _, _, _, _, _, _, _, _, _ => none
  | k + 1, x0, x1, x2, x3, x4, x11, x12, x15, x16, x19, x20, x21, x25, x29, x33, x251 => if x251 = true then (some false) else (if x16 = true then ((impl_ParsePaces.f k x33).bind fun bt394 => (if bt394.2 = true then ((laws_mPaces.f k bt394.1 x0).bind fun t398 => (if t398 = true then (if (x12 != ((x29.length : Int) == 0)) = true then (laws_FnPacesMeetOfAll.j2 k x0 x1 x2 x3 x4 x11 x12 x15 x19 x20 x21 x25 x29 true) else (if x12 = true then (laws_FnPacesMeetOfAll.j2 k x0 x1 x2 x3 x4 x11 x12 x15 x19 x20 x21 x25 x29 (decide (x11 ≥ x15))) else (laws_FnPacesMeetOfAll.j2 k x0 x1 x2 x3 x4 x11 x12 x15 x19 x20 x21 x25 x29 false))) else (laws_FnPacesMeetOfAll.j2 k x0 x1 x2 x3 x4 x11 x12 x15 x19 x20 x21 x25 x29 true))) else (laws_FnPacesMeetOfAll.j2 k x0 x1 x2 x3 x4 x11 x12 x15 x19 x20 x21 x25 x29 true))) else (laws_FnPacesMeetOfAll.j5 k x0 x1 x2 x3 x4 x11 x12 x15 x19 x20 x21 x25))
def laws_FnPacesMeetOfAll.j5 : Nat → List (S38) → List (S38) → Int → List (S38) → Int → Int → Bool → Int → Int → Int → Bool → Int → Option (Bool)
  | 0, _, _, _, _, _, _, _, _, _, _, _, _ => none
  | k + 1, x0, x1, x2, x3, x4, x11, x12, x15, x19, x20, x21, x25 => if x12 = true then (laws_FnPacesMeetOfAll.j6 k x0 x1 x2 x3 x4 x11 x12 x15 x19 x20 x21 x25 (decide (x11 ≤ 1000000000))) else (laws_FnPacesMeetOfAll.j6 k x0 x1 x2 x3 x4 x11 x12 x15 x19 x20 x21 x25 false)
def laws_FnPacesMeetOfAll.j6 : Nat → List (S38) → List (S38) → Int → List (S38) → Int → Int → Bool → Int → Int → Int → Bool → Int → Bool → Option (Bool)
  | 0, _, _, _, _, _, _, _, _, _, _, _, _, _ => none
  | k + 1, x0, x1, x2, x3, x4, x11, x12, x15, x19, x20, x21, x25, x350 => if x350 = true then ((impl_SteppingAt.f k x0 x11).bind fun bt424 => (if bt424.2 = true then (if (bt424.1.length : Int) = (x0.length : Int) then (laws_FnPacesMeetOfAll.j7 k x0 x1 x2 x3 x4 x12 x15 x19 x20 x21 x25) else (some false)) else (some false))) else (laws_FnPacesMeetOfAll.j7 k x0 x1 x2 x3 x4 x12 x15 x19 x20 x21 x25)
def laws_FnPacesMeetOfAll.j7 : Nat → List (S38) → List (S38) → Int → List (S38) → Int → Bool → Int → Int → Int → Bool → Int → Option (Bool)
  | 0, _, _, _, _, _, _, _, _, _, _, _ => none
  | k + 1, x0, x1, x2, x3, x4, x12, x15, x19, x20, x21, x25 => if x21 = true then (laws_FnPacesMeetOfAll.l2 k x0 x1 x2 x3 x4 x12 x15 x19 x20 x25 0 0 0) else (laws_FnPacesMeetOfAll.j10 k x1 x2 x3 x4)
def laws_FnPacesMeetOfAll.j10 : Nat → List (S38) → Int → List (S38) → Int → Option (Bool)
  | 0, _, _, _, _ => none
  | k + 1, x1, x2, x3, x4 => (impl_SteppingAt.f k x1 x2).bind fun bt440 => ((spec_SteppingAt.f k x1 x2).bind fun bt444 => ((impl_CountAtOnce.f k x3 x4).bind fun bt448 => ((spec_CountAtOnce.f k x3 x4).bind fun bt450 => (if (bt440.2 != bt444.2) = true then (laws_FnPacesMeetOfAll.j11 k x1 x2 bt440.1 bt440.2 true) else ((laws_mSame.f k bt440.1 bt444.1).bind fun t452 => (if t452 = true then (if (bt448.2 != bt450.2) = true then (laws_FnPacesMeetOfAll.j11 k x1 x2 bt440.1 bt440.2 true) else (laws_FnPacesMeetOfAll.j11 k x1 x2 bt440.1 bt440.2 (bt448.1 != bt450.1))) else (laws_FnPacesMeetOfAll.j11 k x1 x2 bt440.1 bt440.2 true)))))))
def laws_FnPacesMeetOfAll.j11 : Nat → List (S38) → Int → List Int → Bool → Bool → Option (Bool)
  | 0, _, _, _, _, _ => none
  | k + 1, x1, x2, x59, x60, x522 => if x522 = true then (some false) else (if x60 = true then (laws_FnPacesMeetOfAll.l3 k x2 x59 x1 (x1.length : Int) 0) else (some true))
def laws_FnPacesMeetOfAll.l3 : Nat → Int → List Int → List (S38) → Int → Int → Option (Bool)
  | 0, _, _, _, _, _ => none
  | k + 1, x2, x59, x524, x525, x526 => if x526 < x525 then (if 0 ≤ x526 then (if x526 < (x524.length : Int) then ((laws_mHas.f k x59 x526).bind fun t455 => (if ((rd_T38 x524 x526).f0) = 0 then (none) else (if (t455 != ((Int.tmod x2 ((rd_T38 x524 x526).f0)) == ((rd_T38 x524 x526).f1))) = true then (some false) else (laws_FnPacesMeetOfAll.l3 k x2 x59 x524 x525 (wrap64 (x526 + 1)))))) else (none)) else (none)) else (some true)
def laws_FnPacesMeetOfAll.l2 : Nat → List (S38) → List (S38) → Int → List (S38) → Int → Bool → Int → Int → Int → Int → Int → Int → Int → Option (Bool)
  | 0, _, _, _, _, _, _, _, _, _, _, _, _, _ => none
  | k + 1, x0, x1, x2, x3, x4, x12, x15, x19, x20, x25, x48, x49, x50 => if x50 ≤ (x0.length : Int) then ((impl_CountAtOnce.f k x0 x50).bind fun bt428 => (if bt428.2 = true then (if x50 > x19 then (if bt428.1 = 0 then (if x50 = x19 then (if bt428.1 < 1 then (some false) else (laws_FnPacesMeetOfAll.l2 k x0 x1 x2 x3 x4 x12 x15 x19 x20 x25 (wrap64 (x48 + bt428.1)) (wrap64 (x49 + (wrap64 (x50 * bt428.1)))) (wrap64 (x50 + 1)))) else (laws_FnPacesMeetOfAll.l2 k x0 x1 x2 x3 x4 x12 x15 x19 x20 x25 (wrap64 (x48 + bt428.1)) (wrap64 (x49 + (wrap64 (x50 * bt428.1)))) (wrap64 (x50 + 1)))) else (some false)) else (if x50 = x19 then (if bt428.1 < 1 then (some false) else (laws_FnPacesMeetOfAll.l2 k x0 x1 x2 x3 x4 x12 x15 x19 x20 x25 (wrap64 (x48 + bt428.1)) (wrap64 (x49 + (wrap64 (x50 * bt428.1)))) (wrap64 (x50 + 1)))) else (laws_FnPacesMeetOfAll.l2 k x0 x1 x2 x3 x4 x12 x15 x19 x20 x25 (wrap64 (x48 + bt428.1)) (wrap64 (x49 + (wrap64 (x50 * bt428.1)))) (wrap64 (x50 + 1))))) else (some false))) else ((impl_StepsIn.f k x0 0 x15).bind fun bt430 => ((impl_SteppingAt.f k x0 x20).bind fun bt432 => (if x48 = x15 then (if bt430.2 = true then (if bt430.1 = x49 then (if bt432.2 = true then (if (bt432.1.length : Int) = x19 then (if x19 < 1 then (laws_FnPacesMeetOfAll.j9 k x0 x1 x2 x3 x4 x19 x20 true) else (if x12 = true then (if x19 = (x0.length : Int) then (if x25 < 0 then (laws_FnPacesMeetOfAll.j9 k x0 x1 x2 x3 x4 x19 x20 true) else (laws_FnPacesMeetOfAll.j9 k x0 x1 x2 x3 x4 x19 x20 (decide (x25 ≥ x15)))) else (laws_FnPacesMeetOfAll.j9 k x0 x1 x2 x3 x4 x19 x20 true)) else (if x25 < 0 then (laws_FnPacesMeetOfAll.j9 k x0 x1 x2 x3 x4 x19 x20 true) else (laws_FnPacesMeetOfAll.j9 k x0 x1 x2 x3 x4 x19 x20 (decide (x25 ≥ x15)))))) else (laws_FnPacesMeetOfAll.j9 k x0 x1 x2 x3 x4 x19 x20 true)) else (laws_FnPacesMeetOfAll.j9 k x0 x1 x2 x3 x4 x19 x20 true)) else (laws_FnPacesMeetOfAll.j9 k x0 x1 x2 x3 x4 x19 x20 true)) else (laws_FnPacesMeetOfAll.j9 k x0 x1 x2 x3 x4 x19 x20 true)) else (laws_FnPacesMeetOfAll.j9 k x0 x1 x2 x3 x4 x19 x20 true))))
def laws_FnPacesMeetOfAll.j9 : Nat → List (S38) → List (S38) → Int → List (S38) → Int → Int → Int → Bool → Option (Bool)
  | 0, _, _, _, _, _, _, _, _ => none
  | k + 1, x0, x1, x2, x3, x4, x19, x20, x462 => if x462 = true then (some false) else (if x20 > 0 then ((impl_SteppingAt.f k x0 (wrap64 (x20 - 1))).bind fun bt436 => (if bt436.2 = true then (if (bt436.1.length : Int) ≥ x19 then (some false) else (laws_FnPacesMeetOfAll.j10 k x1 x2 x3 x4)) else (some false))) else (laws_FnPacesMeetOfAll.j10 k x1 x2 x3 x4))
def laws_FnPacesMeetOfAll.j2 : Nat → List (S38) → List (S38) → Int → List (S38) → Int → Int → Bool → Int → Int → Int → Bool → Int → List (List Int) → Bool → Option (Bool)
  | 0, _, _, _, _, _, _, _, _, _, _, _, _, _, _ => none
  | k + 1, x0, x1, x2, x3, x4, x11, x12, x15, x19, x20, x21, x25, x29, x280 => if x280 = true then (some false) else (laws_FnPacesMeetOfAll.l0 k x0 x1 x2 x3 x4 x11 x12 x15 x19 x20 x21 x25 x29 x0 (x0.length : Int) 0)
def laws_FnPacesMeetOfAll.l0 : Nat → List (S38) → List (S38) → Int → List (S38) → Int → Int → Bool → Int → Int → Int → Bool → Int → List (List Int) → List (S38) → Int → Int → Option (Bool)
  | 0, _, _, _, _, _, _, _, _, _, _, _, _, _, _, _, _ => none
  | k + 1, x0, x1, x2, x3, x4, x11, x12, x15, x19, x20, x21, x25, x29, x281, x282, x283 => if x283 < x282 then (if 0 ≤ x283 then (if x283 < (x281.length : Int) then (if ((rd_T38 x281 x283).f0) = 0 then (none) else (if (Int.tmod x15 ((rd_T38 x281 x283).f0)) = 0 then (laws_FnPacesMeetOfAll.l0 k x0 x1 x2 x3 x4 x11 x12 x15 x19 x20 x21 x25 x29 x281 x282 (wrap64 (x283 + 1))) else (some false))) else (none)) else (none)) else (laws_FnPacesMeetOfAll.l1 k x0 x1 x2 x3 x4 x11 x12 x15 x19 x20 x21 x25 x29 x29 (x29.length : Int) 0)
def laws_FnPacesMeetOfAll.l1 : Nat → List (S38) → List (S38) → Int → List (S38) → Int → Int → Bool → Int → Int → Int → Bool → Int → List (List Int) → List (List Int) → Int → Int → Option (Bool)
  | 0, _, _, _, _, _, _, _, _, _, _, _, _, _, _, _, _ => none
  | k + 1, x0, x1, x2, x3, x4, x11, x12, x15, x19, x20, x21, x25, x29, x293, x294, x295 => if x295 < x294 then (if 0 ≤ x295 then (if x295 < (x293.length : Int) then (if ((rd_L2 x293 x295).length : Int) = 2 then (if 0 < ((rd_L2 x293 x295).length : Int) then (if 1 < ((rd_L2 x293 x295).length : Int) then (if (rd (rd_L2 x293 x295) 0) ≥ (rd (rd_L2 x293 x295) 1) then (some false) else (if x295 > 0 then (if 0 ≤ (wrap64 (x295 - 1)) then (if (wrap64 (x295 - 1)) < (x29.length : Int) then ((laws_mBefore.f k (rd_L2 x29 (wrap64 (x295 - 1))) (rd_L2 x293 x295)).bind fun t405 => (if t405 = true then (if 0 ≤ (rd (rd_L2 x293 x295) 0) then (if (rd (rd_L2 x293 x295) 0) < (x0.length : Int) then (if 0 ≤ (rd (rd_L2 x293 x295) 1) then (if (rd (rd_L2 x293 x295) 1) < (x0.length : Int) then ((impl_FirstTogether.f k (([(⟨(rd_T38 x0 (rd (rd_L2 x293 x295) 0)).f0, (rd_T38 x0 (rd (rd_L2 x293 x295) 0)).f1⟩ : S38), (⟨(rd_T38 x0 (rd (rd_L2 x293 x295) 1)).f0, (rd_T38 x0 (rd (rd_L2 x293 x295) 1)).f1⟩ : S38)] : List (S38)))).bind fun bt413 => (if bt413.2 = true then (some false) else (laws_FnPacesMeetOfAll.l1 k x0 x1 x2 x3 x4 x11 x12 x15 x19 x20 x21 x25 x29 x293 x294 (wrap64 (x295 + 1))))) else (none)) else (none)) else (none)) else (none)) else (some false))) else (none)) else (none)) else (if 0 ≤ (rd (rd_L2 x293 x295) 0) then (if (rd (rd_L2 x293 x295) 0) < (x0.length : Int) then (if 0 ≤ (rd (rd_L2 x293 x295) 1) then (if (rd (rd_L2 x293 x295) 1) < (x0.length : Int) then ((impl_FirstTogether.f k (([(⟨(rd_T38 x0 (rd (rd_L2 x293 x295) 0)).f0, (rd_T38 x0 (rd (rd_L2 x293 x295) 0)).f1⟩ : S38), (⟨(rd_T38 x0 (rd (rd_L2 x293 x295) 1)).f0, (rd_T38 x0 (rd (rd_L2 x293 x295) 1)).f1⟩ : S38)] : List (S38)))).bind fun bt422 => (if bt422.2 = true then (some false) else (laws_FnPacesMeetOfAll.l1 k x0 x1 x2 x3 x4 x11 x12 x15 x19 x20 x21 x25 x29 x293 x294 (wrap64 (x295 + 1))))) else (none)) else (none)) else (none)) else (none)))) else (none)) else (none)) else (some false)) else (none)) else (none)) else (laws_FnPacesMeetOfAll.j5 k x0 x1 x2 x3 x4 x11 x12 x15 x19 x20 x21 x25)
end
def laws_FnPacesMeetOfAll.f (k : Nat) (l0 : List (S38)) (l1 : List (S38)) (a2 : Int) (l3 : List (S38)) (a4 : Int) : Option (Bool) := if (l0.length : Int) > 10000 then (laws_FnPacesMeetOfAll.j0 k l0 l1 a2 l3 a4 true) else (if (l1.length : Int) > 10000 then (laws_FnPacesMeetOfAll.j0 k l0 l1 a2 l3 a4 true) else (laws_FnPacesMeetOfAll.j0 k l0 l1 a2 l3 a4 (decide ((l3.length : Int) > 10000))))
def laws_FnPacesMeetOfAll.T30 : Bool × List (List Nat × List Nat) := (true, [([], []), ([0], [0]), ([1], [1]), ([2], [2]), ([3], [3]), ([4, 3], [3, 4]), ([5, 3], [3, 5]), ([3], [3]), ([7, 3], [3, 7]), ([8, 3], [3, 8]), ([6, 9, 3], [3, 6, 9]), ([3, 10], [3, 10]), ([11, 3], [11]), ([12], [12]), ([13, 12], [12, 13]), ([14, 12, 12], [12, 14]), ([15], [15]), ([15], [15]), ([17, 15], [15, 17]), ([16, 18, 15], [15, 16, 18]), ([19, 15], [15, 19]), ([15], [15]), ([20, 21, 15, 15], [15, 20, 21]), ([22, 15], [15, 22]), ([15, 23, 12], [12, 15, 23]), ([12, 24], [12, 24])])
def laws_FnPacesMeetOfAll.B30 : List Nat := [0, 1, 3, 7, 15, 31, 63, 15, 143, 399, 1023, 2047, 4095, 8191, 16383, 32767, 65535, 65535, 196607, 524287, 1048575, 65535, 4194303, 8388607, 16777215, 33554431]
theorem laws_FnPacesMeetOfAll.tab30 : rtab .any (opsOf Tryz.f3 30) = laws_FnPacesMeetOfAll.T30 := by kernel_rfl
theorem laws_FnPacesMeetOfAll.bits30 : waitsOk laws_FnPacesMeetOfAll.T30.2 laws_FnPacesMeetOfAll.B30 = true := by kernel_rfl
def laws_FnPacesMeetOfAll.T32 : Bool × List (List Nat × List Nat) := (true, [([], []), ([], []), ([1], [1]), ([2], [2]), ([0, 3], [0, 3]), ([4], [4]), ([], []), ([], []), ([7], [7]), ([8], [8]), ([6, 9], [6, 9]), ([10], [10]), ([5, 11], [5, 11]), ([12, 0, 1, 2, 3, 4, 5, 6, 7, 8, 9, 10, 11, 12], [12])])
def laws_FnPacesMeetOfAll.B32 : List Nat := [0, 0, 2, 6, 15, 31, 0, 0, 128, 384, 960, 1984, 4095, 8191]
theorem laws_FnPacesMeetOfAll.tab32 : rtab .any (opsOf Tryz.f3 32) = laws_FnPacesMeetOfAll.T32 := by kernel_rfl
theorem laws_FnPacesMeetOfAll.bits32 : waitsOk laws_FnPacesMeetOfAll.T32.2 laws_FnPacesMeetOfAll.B32 = true := by kernel_rfl
def laws_FnPacesMeetOfAll.T69 : Bool × List (List Nat × List Nat) := (true, [([], []), ([], []), ([0, 1], [0, 1]), ([], []), ([], []), ([4], [4]), ([3, 5], [3, 5]), ([], []), ([7], [7]), ([6, 8], [6, 8]), ([2, 9], [2, 9])])
def laws_FnPacesMeetOfAll.B69 : List Nat := [0, 0, 3, 0, 0, 16, 56, 0, 128, 504, 1023]
theorem laws_FnPacesMeetOfAll.tab69 : rtab .any (opsOf Tryz.f3 69) = laws_FnPacesMeetOfAll.T69 := by kernel_rfl
theorem laws_FnPacesMeetOfAll.bits69 : waitsOk laws_FnPacesMeetOfAll.T69.2 laws_FnPacesMeetOfAll.B69 = true := by kernel_rfl
theorem laws_FnPacesMeetOfAll.j1_false {k : Nat} {x0 x1 x2 x3 x4 x5 x6 x7 x8 x9 x10 x11 x12 x13 x14} {r : Bool} (h : laws_FnPacesMeetOfAll.j1 k x0 x1 x2 x3 x4 x5 x6 x7 x8 x9 x10 x11 x12 x13 x14 true = some r) : r = false := by
  cases k with
  | zero => simp [laws_FnPacesMeetOfAll.j1] at h
  | succ k => simp only [laws_FnPacesMeetOfAll.j1, if_true, Option.some.injEq] at h; exact h.symm
theorem laws_FnPacesMeetOfAll.j11_false {k : Nat} {x0 x1 x2 x3} {r : Bool} (h : laws_FnPacesMeetOfAll.j11 k x0 x1 x2 x3 true = some r) : r = false := by
  cases k with
  | zero => simp [laws_FnPacesMeetOfAll.j11] at h
  | succ k => simp only [laws_FnPacesMeetOfAll.j11, if_true, Option.some.injEq] at h; exact h.symm
theorem laws_FnPacesMeetOfAll.j9_false {k : Nat} {x0 x1 x2 x3 x4 x5 x6} {r : Bool} (h : laws_FnPacesMeetOfAll.j9 k x0 x1 x2 x3 x4 x5 x6 true = some r) : r = false := by
  cases k with
  | zero => simp [laws_FnPacesMeetOfAll.j9] at h
  | succ k => simp only [laws_FnPacesMeetOfAll.j9, if_true, Option.some.injEq] at h; exact h.symm
theorem laws_FnPacesMeetOfAll.j2_false {k : Nat} {x0 x1 x2 x3 x4 x5 x6 x7 x8 x9 x10 x11 x12} {r : Bool} (h : laws_FnPacesMeetOfAll.j2 k x0 x1 x2 x3 x4 x5 x6 x7 x8 x9 x10 x11 x12 true = some r) : r = false := by
  cases k with
  | zero => simp [laws_FnPacesMeetOfAll.j2] at h
  | succ k => simp only [laws_FnPacesMeetOfAll.j2, if_true, Option.some.injEq] at h; exact h.symm
set_option maxHeartbeats 80000000 in
set_option maxRecDepth 100000 in
theorem laws_FnPacesMeetOfAll.calls (k : Nat) (A0 : Option Addr) (c0 : Nat) (l0 : List (S38)) (A1 : Option Addr) (c1 : Nat) (l1 : List (S38)) (a2 : Int) (A3 : Option Addr) (c3 : Nat) (l3 : List (S38)) (a4 : Int) (r : Bool) (w : World) (hU : TabOK w) (hr0 : Kd.C k38 w A0 l0.length l0) (hc0 : l0.length ≤ c0) (hr1 : Kd.C k38 w A1 l1.length l1) (hc1 : l1.length ≤ c1) (hr3 : Kd.C k38 w A3 l3.length l3) (hc3 : l3.length ≤ c3) (h : r = true ∧ laws_FnPacesMeetOfAll.f k l0 l1 a2 l3 a4 = some r) :
    Calls Tryz.prog 3 #[.slice A0 l0.length c0, .slice A1 l1.length c1, .int .i64 a2, .slice A3 l3.length c3, .int .i64 a4] w fun e w' => e = .returned (.bool r) ∧ Below w.heap.size w w' := by
  have HU := Aside0.mk hU
  clear hU
  obtain ⟨hrt, h⟩ := h
  have hu38 := Tryz.underlying38
  have HR0 := Aside0.mk hr0
  have HC0 := Aside0.mk hc0
  clear hr0 hc0
  have HR1 := Aside0.mk hr1
  have HC1 := Aside0.mk hc1
  clear hr1 hc1
  have HR3 := Aside0.mk hr3
  have HC3 := Aside0.mk hc3
  clear hr3 hc3
  have HB := Aside0.mk (Below.refl w.heap.size w)
  have H : (if (l0.length : Int) > 10000 then (laws_FnPacesMeetOfAll.j0 k l0 l1 a2 l3 a4 true) else (if (l1.length : Int) > 10000 then (laws_FnPacesMeetOfAll.j0 k l0 l1 a2 l3 a4 true) else (laws_FnPacesMeetOfAll.j0 k l0 l1 a2 l3 a4 (decide ((l3.length : Int) > 10000))))) = some r := h
  clear h
  have HC6 := Aside0.mk H
  clear H
  go_enter Tryz.func3, Tryz.ntmps3
  go_upto_region 1 with (fail)
  go_cut [81] from 81 to 81 (fun v81 wc => ∃ (kq : Nat) (x81_5 : Bool), v81 = .bool x81_5 ∧ Aside0 (laws_FnPacesMeetOfAll.j0 kq l0 l1 a2 l3 a4 x81_5 = some r) ∧ Aside0 (kq ≤ k) ∧ Aside0 (Below w.heap.size w wc))
  case first => as_aux_lemma =>
    have H := HC6.out
    clear HC6
    by_cases c7 : (l0.length : Int) > 10000
    · rw [if_pos c7] at H
      have c7b0 : decide (10000 < (l0.length : Int)) = true := decide_eq_true c7
      have c7b1 : decide (10000 < l0.length) = true := decide_eq_true (by omega)
      clear c7
      (skip)
      have H' := Aside0.mk H
      clear H
      go_wp2
      go_meet
      case rel => exact ⟨_, (true), (by rfl), H', ⟨by (exact Nat.le_refl _)⟩, ⟨by repeat ((with_reducible (exact HB.out)))⟩⟩
    rw [if_neg c7] at H
    have c7b0 : decide (10000 < (l0.length : Int)) = false := decide_eq_false c7
    have c7b1 : decide (10000 < l0.length) = false := decide_eq_false (by omega)
    clear c7
    (skip)
    by_cases c8 : (l1.length : Int) > 10000
    · rw [if_pos c8] at H
      have c8b0 : decide (10000 < (l1.length : Int)) = true := decide_eq_true c8
      have c8b1 : decide (10000 < l1.length) = true := decide_eq_true (by omega)
      clear c8
      have H' := Aside0.mk H
      clear H
      go_wp2
      go_meet
      case rel => exact ⟨_, (true), (by rfl), H', ⟨by (exact Nat.le_refl _)⟩, ⟨by repeat ((with_reducible (exact HB.out)))⟩⟩
    rw [if_neg c8] at H
    have c8b0 : decide (10000 < (l1.length : Int)) = false := decide_eq_false c8
    have c8b1 : decide (10000 < l1.length) = false := decide_eq_false (by omega)
    clear c8
    have H' := Aside0.mk H
    clear H
    go_wp2
    go_meet
    case rel => exact ⟨_, (decide ((l3.length : Int) > 10000)), (by rfl), H', ⟨by (exact Nat.le_refl _)⟩, ⟨by repeat ((with_reducible (exact HB.out)))⟩⟩
  case rest => as_aux_lemma =>
    clear HC6
    obtain ⟨kq, x81_5, rfl, HA, HJ5, HB⟩ := hcut
    cases kq with
    | zero => exact absurd HA.out (by simp [laws_FnPacesMeetOfAll.j0])
    | succ kj5 =>
      have H := HA.out
      clear HA
      simp only [laws_FnPacesMeetOfAll.j0] at H
      by_cases c9 : x81_5 = true
      · subst c9
        rw [if_pos rfl] at H
        obtain rfl := Option.some.inj H
        clear hrt
        go_wp2
        go_ret
        exact ⟨by rfl, by repeat ((with_reducible (exact HB.out)))⟩
      replace c9 := Bool.eq_false_iff.mpr c9
      subst c9
      rw [if_neg (show ¬ (false = true) by decide)] at H
      replace H := Option.bind_eq_some_iff.mp H
      obtain ⟨⟨t360, t361⟩, A100, H⟩ := H
      (try dsimp only at H)
      have A10 := Aside0.mk A100
      clear A100
      replace H := Option.bind_eq_some_iff.mp H
      obtain ⟨⟨t362, t363⟩, A110, H⟩ := H
      (try dsimp only at H)
      have A11 := Aside0.mk A110
      clear A110
      replace H := Option.bind_eq_some_iff.mp H
      obtain ⟨⟨t364, t365⟩, A120, H⟩ := H
      (try dsimp only at H)
      have A12 := Aside0.mk A120
      clear A120
      replace H := Option.bind_eq_some_iff.mp H
      obtain ⟨⟨t366, t367⟩, A130, H⟩ := H
      (try dsimp only at H)
      have A13 := Aside0.mk A130
      clear A130
      replace H := Option.bind_eq_some_iff.mp H
      obtain ⟨⟨t368, t369, t370⟩, A140, H⟩ := H
      (try dsimp only at H)
      have A14 := Aside0.mk A140
      clear A140
      replace H := Option.bind_eq_some_iff.mp H
      obtain ⟨⟨t371, t372, t373⟩, A150, H⟩ := H
      (try dsimp only at H)
      have A15 := Aside0.mk A150
      clear A150
      replace H := Option.bind_eq_some_iff.mp H
      obtain ⟨⟨t374, t375⟩, A160, H⟩ := H
      (try dsimp only at H)
      have A16 := Aside0.mk A160
      clear A160
      replace H := Option.bind_eq_some_iff.mp H
      obtain ⟨⟨t376, t377⟩, A170, H⟩ := H
      (try dsimp only at H)
      have A17 := Aside0.mk A170
      clear A170
      replace H := Option.bind_eq_some_iff.mp H
      obtain ⟨⟨t378, t379⟩, A180, H⟩ := H
      (try dsimp only at H)
      have A18 := Aside0.mk A180
      clear A180
      replace H := Option.bind_eq_some_iff.mp H
      obtain ⟨⟨t382, t383⟩, A190, H⟩ := H
      (try dsimp only at H)
      have A19 := Aside0.mk A190
      clear A190
      replace H := Option.bind_eq_some_iff.mp H
      obtain ⟨⟨t386, t387⟩, A200, H⟩ := H
      (try dsimp only at H)
      have A20 := Aside0.mk A200
      clear A200
      replace H := Option.bind_eq_some_iff.mp H
      obtain ⟨⟨t388, t389⟩, A210, H⟩ := H
      (try dsimp only at H)
      have A21 := Aside0.mk A210
      clear A210
      have HC22 := Aside0.mk H
      clear H
      go_upto_region 15 with (first | ((with_reducible refine gate_callee (f := 4) rfl ?_); refine goesL_ (some 84) rfl rfl Tryz.func4 (by kernel_rfl) rfl #[.slice A0 l0.length c0] rfl (by (try simp only [List.map_toArray, List.map_cons, List.map_nil]); rfl) ?_; (with_reducible refine (impl_FirstTogether.calls kj5 _ _ l0 t360 t361 _ ?side1 ?side2 A10.out).mono ?_); (case side1 => repeat ((exact (Kd.C_below HR0.out HB.out)))); (case side2 => exact HC0.out); rintro e w23 ⟨rfl, hb⟩; refine ⟨_, rfl, ?_⟩; have n0_ := Aside0.mk (below_step (by repeat ((with_reducible (exact HB.out)))) hb); clear HB; have HB := n0_; clear n0_; (try clear hb); (try clear hb2); (try clear hk); (try clear hi)) | ((with_reducible refine gate_callee (f := 5) rfl ?_); refine goesL_ (some 89) rfl rfl Tryz.func5 (by kernel_rfl) rfl #[.slice A0 l0.length c0] rfl (by (try simp only [List.map_toArray, List.map_cons, List.map_nil]); rfl) ?_; (with_reducible refine (spec_FirstTogether.calls kj5 _ _ l0 t362 t363 _ ?side1 ?side2 A11.out).mono ?_); (case side1 => repeat ((exact (Kd.C_below HR0.out HB.out)))); (case side2 => exact HC0.out); rintro e w24 ⟨rfl, hb⟩; refine ⟨_, rfl, ?_⟩; have n0_ := Aside0.mk (below_step (by repeat ((with_reducible (exact HB.out)))) hb); clear HB; have HB := n0_; clear n0_; (try clear hb); (try clear hb2); (try clear hk); (try clear hi)) | ((with_reducible refine gate_callee (f := 6) rfl ?_); refine goesL_ (some 94) rfl rfl Tryz.func6 (by kernel_rfl) rfl #[.slice A0 l0.length c0] rfl (by (try simp only [List.map_toArray, List.map_cons, List.map_nil]); rfl) ?_; (with_reducible refine (impl_PeriodOf.calls kj5 _ _ l0 t364 t365 _ ?side1 ?side2 A12.out).mono ?_); (case side1 => repeat ((exact (Kd.C_below HR0.out HB.out)))); (case side2 => exact HC0.out); rintro e w25 ⟨rfl, hb⟩; refine ⟨_, rfl, ?_⟩; have n0_ := Aside0.mk (below_step (by repeat ((with_reducible (exact HB.out)))) hb); clear HB; have HB := n0_; clear n0_; (try clear hb); (try clear hb2); (try clear hk); (try clear hi)) | ((with_reducible refine gate_callee (f := 7) rfl ?_); refine goesL_ (some 99) rfl rfl Tryz.func7 (by kernel_rfl) rfl #[.slice A0 l0.length c0] rfl (by (try simp only [List.map_toArray, List.map_cons, List.map_nil]); rfl) ?_; (with_reducible refine (spec_PeriodOf.calls kj5 _ _ l0 t366 t367 _ ?side1 ?side2 A13.out).mono ?_); (case side1 => repeat ((exact (Kd.C_below HR0.out HB.out)))); (case side2 => exact HC0.out); rintro e w26 ⟨rfl, hb⟩; refine ⟨_, rfl, ?_⟩; have n0_ := Aside0.mk (below_step (by repeat ((with_reducible (exact HB.out)))) hb); clear HB; have HB := n0_; clear n0_; (try clear hb); (try clear hb2); (try clear hk); (try clear hi)) | ((with_reducible refine gate_callee (f := 8) rfl ?_); refine goesL_ (some 104) rfl rfl Tryz.func8 (by kernel_rfl) rfl #[.slice A0 l0.length c0] rfl (by (try simp only [List.map_toArray, List.map_cons, List.map_nil]); rfl) ?_; (with_reducible refine (impl_MostAtOnce.calls kj5 _ _ l0 t368 t369 t370 _ ?side1 ?side2 A14.out).mono ?_); (case side1 => repeat ((exact (Kd.C_below HR0.out HB.out)))); (case side2 => exact HC0.out); rintro e w27 ⟨rfl, hb⟩; refine ⟨_, rfl, ?_⟩; have n0_ := Aside0.mk (below_step (by repeat ((with_reducible (exact HB.out)))) hb); clear HB; have HB := n0_; clear n0_; (try clear hb); (try clear hb2); (try clear hk); (try clear hi)) | ((with_reducible refine gate_callee (f := 9) rfl ?_); refine goesL_ (some 110) rfl rfl Tryz.func9 (by kernel_rfl) rfl #[.slice A0 l0.length c0] rfl (by (try simp only [List.map_toArray, List.map_cons, List.map_nil]); rfl) ?_; (with_reducible refine (spec_MostAtOnce.calls kj5 _ _ l0 t371 t372 t373 _ ?side1 ?side2 A15.out).mono ?_); (case side1 => repeat ((exact (Kd.C_below HR0.out HB.out)))); (case side2 => exact HC0.out); rintro e w28 ⟨rfl, hb⟩; refine ⟨_, rfl, ?_⟩; have n0_ := Aside0.mk (below_step (by repeat ((with_reducible (exact HB.out)))) hb); clear HB; have HB := n0_; clear n0_; (try clear hb); (try clear hb2); (try clear hk); (try clear hi)) | ((with_reducible refine gate_callee (f := 10) rfl ?_); refine goesL_ (some 116) rfl rfl Tryz.func10 (by kernel_rfl) rfl #[.slice A0 l0.length c0] rfl (by (try simp only [List.map_toArray, List.map_cons, List.map_nil]); rfl) ?_; (with_reducible refine (impl_LongestSilence.calls kj5 _ _ l0 t374 t375 _ ?side1 ?side2 A16.out).mono ?_); (case side1 => repeat ((exact (Kd.C_below HR0.out HB.out)))); (case side2 => exact HC0.out); rintro e w29 ⟨rfl, hb⟩; refine ⟨_, rfl, ?_⟩; have n0_ := Aside0.mk (below_step (by repeat ((with_reducible (exact HB.out)))) hb); clear HB; have HB := n0_; clear n0_; (try clear hb); (try clear hb2); (try clear hk); (try clear hi)) | ((with_reducible refine gate_callee (f := 11) rfl ?_); refine goesL_ (some 121) rfl rfl Tryz.func11 (by kernel_rfl) rfl #[.slice A0 l0.length c0] rfl (by (try simp only [List.map_toArray, List.map_cons, List.map_nil]); rfl) ?_; (with_reducible refine (spec_LongestSilence.calls kj5 _ _ l0 t376 t377 _ ?side1 ?side2 A17.out).mono ?_); (case side1 => repeat ((exact (Kd.C_below HR0.out HB.out)))); (case side2 => exact HC0.out); rintro e w30 ⟨rfl, hb⟩; refine ⟨_, rfl, ?_⟩; have n0_ := Aside0.mk (below_step (by repeat ((with_reducible (exact HB.out)))) hb); clear HB; have HB := n0_; clear n0_; (try clear hb); (try clear hb2); (try clear hk); (try clear hi)) | ((with_reducible refine gate_callee (f := 12) rfl ?_); refine goesL_ (some 126) rfl rfl Tryz.func12 (by kernel_rfl) rfl #[.slice A0 l0.length c0] rfl (by (try simp only [List.map_toArray, List.map_cons, List.map_nil]); rfl) ?_; (with_reducible refine (impl_NeverTogether.calls kj5 _ _ l0 t378 t379 _ ?side1 ?side2 A18.out).mono ?_); (case side1 => repeat ((exact (Kd.C_below HR0.out HB.out)))); (case side2 => exact HC0.out); rintro e w31 ⟨v380, rfl, ho0, hb⟩; refine ⟨_, rfl, ?_⟩; have n0_ := Aside0.mk (Kd.S_lower ho0 (below_size (by repeat ((with_reducible (exact HB.out)))))); have n1_ := Aside0.mk (below_step (by repeat ((with_reducible (exact HB.out)))) hb); clear HB; have HO381 := n0_; have HB := n1_; clear n0_ n1_; (try clear hb); (try clear hb2); (try clear hk); (try clear hi); (try clear ho0)) | ((with_reducible refine gate_callee (f := 13) rfl ?_); refine goesL_ (some 131) rfl rfl Tryz.func13 (by kernel_rfl) rfl #[.slice A0 l0.length c0] rfl (by (try simp only [List.map_toArray, List.map_cons, List.map_nil]); rfl) ?_; (with_reducible refine (spec_NeverTogether.calls kj5 _ _ l0 t382 t383 _ ?side1 ?side2 A19.out).mono ?_); (case side1 => repeat ((exact (Kd.C_below HR0.out HB.out)))); (case side2 => exact HC0.out); rintro e w32 ⟨v384, rfl, ho0, hb⟩; refine ⟨_, rfl, ?_⟩; have n0_ := Aside0.mk (Kd.S_elder' (by (with_reducible repeat (fail)); exact HO381.out) (Kd.S_base ho0) hb); have n1_ := Aside0.mk (Kd.S_lower (Kd.S_new' ho0 (Kd.S_lt (by (with_reducible repeat (fail)); exact HO381.out))) (below_size (by repeat ((with_reducible (exact HB.out)))))); have n2_ := Aside0.mk (below_step (by repeat ((with_reducible (exact HB.out)))) hb); clear HO381; clear HB; have HO381 := n0_; have HO385 := n1_; have HB := n2_; clear n0_ n1_ n2_; (try clear hb); (try clear hb2); (try clear hk); (try clear hi); (try clear ho0)) | ((with_reducible refine gate_callee (f := 14) rfl ?_); refine goesL_ (some 136) rfl rfl Tryz.func14 (by kernel_rfl) rfl #[.slice A0 l0.length c0] rfl (by (try simp only [List.map_toArray, List.map_cons, List.map_nil]); rfl) ?_; (with_reducible refine (impl_PacesText.calls kj5 _ _ l0 t386 t387 _ ?side1 ?side2 A20.out).mono ?_); (case side1 => repeat ((exact (Kd.C_below HR0.out HB.out)))); (case side2 => exact HC0.out); rintro e w33 ⟨rfl, hb⟩; refine ⟨_, rfl, ?_⟩; have n0_ := Aside0.mk (Kd.S_below (by (with_reducible repeat (fail)); exact HO381.out) hb); have n1_ := Aside0.mk (Kd.S_below (by (with_reducible repeat (fail)); exact HO385.out) hb); have n2_ := Aside0.mk (below_step (by repeat ((with_reducible (exact HB.out)))) hb); clear HO381; clear HO385; clear HB; have HO381 := n0_; have HO385 := n1_; have HB := n2_; clear n0_ n1_ n2_; (try clear hb); (try clear hb2); (try clear hk); (try clear hi)) | ((with_reducible refine gate_callee (f := 15) rfl ?_); refine goesL_ (some 141) rfl rfl Tryz.func15 (by kernel_rfl) rfl #[.slice A0 l0.length c0] rfl (by (try simp only [List.map_toArray, List.map_cons, List.map_nil]); rfl) ?_; (with_reducible refine (spec_PacesText.calls kj5 _ _ l0 t388 t389 _ ?side1 ?side2 A21.out).mono ?_); (case side1 => repeat ((exact (Kd.C_below HR0.out HB.out)))); (case side2 => exact HC0.out); rintro e w34 ⟨rfl, hb⟩; refine ⟨_, rfl, ?_⟩; have n0_ := Aside0.mk (Kd.S_below (by (with_reducible repeat (fail)); exact HO381.out) hb); have n1_ := Aside0.mk (Kd.S_below (by (with_reducible repeat (fail)); exact HO385.out) hb); have n2_ := Aside0.mk (below_step (by repeat ((with_reducible (exact HB.out)))) hb); clear HO381; clear HO385; clear HB; have HO381 := n0_; have HO385 := n1_; have HB := n2_; clear n0_ n1_ n2_; (try clear hb); (try clear hb2); (try clear hk); (try clear hi)))
      (try simp only [Act.put, List.setIfInBounds_toArray, List.set_cons_zero, List.set_cons_succ])
      go_cut [251] from 251 to 251 (fun v251 wc => ∃ (kq : Nat) (x251_21 : Bool), v251 = .bool x251_21 ∧ Aside0 (laws_FnPacesMeetOfAll.j1 kq l0 l1 a2 l3 a4 t360 t361 t364 t365 t368 t369 t370 t374 t378 t386 x251_21 = some r) ∧ Aside0 (kq ≤ kj5) ∧ Aside0 (Kd.S (Kd.slice 3 (Kd.int .i64)) 39 wc w.heap.size (fun _ => True) v380 t378) ∧ Aside0 (Below w.heap.size w wc))
      case first => as_aux_lemma =>
        have H := HC22.out
        clear HC22
        by_cases c35 : (t361 != t363) = true
        · rw [if_pos c35] at H
          have c35b0 : (t361 != t363) = true := c35
          (try (have c35b1 : decide (t361 = t363) = false := by simpa using c35))
          (try (have c35b2 : (t361 == t363) = false := by simpa using c35))
          (try (have c35b3 : ¬ (t361 = t363) := by simpa using c35))
          clear c35
          (skip)
          exact absurd (hrt.symm.trans (laws_FnPacesMeetOfAll.j1_false H)) (by decide)
        rw [if_neg c35] at H
        have c35b0 : (t361 != t363) = false := by simpa using c35
        (try (have c35b1 : decide (t361 = t363) = true := by simpa using c35))
        (try (have c35b2 : (t361 == t363) = true := by simpa using c35))
        clear c35
        (skip)
        by_cases c36 : t360 = t362
        rotate_left
        · rw [if_neg c36] at H
          have c36b0 : (t360 == t362) = false := beq_eq_false_iff_ne.mpr c36
          have c36b1 : (t360 != t362) = true := bne_iff_ne.mpr c36
          exact absurd (hrt.symm.trans (laws_FnPacesMeetOfAll.j1_false H)) (by decide)
        rw [if_pos c36] at H
        have c36b0 : (t360 == t362) = true := beq_iff_eq.mpr c36
        have c36b1 : (t360 != t362) = false := bne_eq_false_iff_eq.mpr c36
        clear c36
        by_cases c37 : (t365 != t367) = true
        · rw [if_pos c37] at H
          have c37b0 : (t365 != t367) = true := c37
          (try (have c37b1 : decide (t365 = t367) = false := by simpa using c37))
          (try (have c37b2 : (t365 == t367) = false := by simpa using c37))
          (try (have c37b3 : ¬ (t365 = t367) := by simpa using c37))
          clear c37
          exact absurd (hrt.symm.trans (laws_FnPacesMeetOfAll.j1_false H)) (by decide)
        rw [if_neg c37] at H
        have c37b0 : (t365 != t367) = false := by simpa using c37
        (try (have c37b1 : decide (t365 = t367) = true := by simpa using c37))
        (try (have c37b2 : (t365 == t367) = true := by simpa using c37))
        clear c37
        by_cases c38 : t364 = t366
        rotate_left
        · rw [if_neg c38] at H
          have c38b0 : (t364 == t366) = false := beq_eq_false_iff_ne.mpr c38
          have c38b1 : (t364 != t366) = true := bne_iff_ne.mpr c38
          exact absurd (hrt.symm.trans (laws_FnPacesMeetOfAll.j1_false H)) (by decide)
        rw [if_pos c38] at H
        have c38b0 : (t364 == t366) = true := beq_iff_eq.mpr c38
        have c38b1 : (t364 != t366) = false := bne_eq_false_iff_eq.mpr c38
        clear c38
        by_cases c39 : (t370 != t373) = true
        · rw [if_pos c39] at H
          have c39b0 : (t370 != t373) = true := c39
          (try (have c39b1 : decide (t370 = t373) = false := by simpa using c39))
          (try (have c39b2 : (t370 == t373) = false := by simpa using c39))
          (try (have c39b3 : ¬ (t370 = t373) := by simpa using c39))
          clear c39
          exact absurd (hrt.symm.trans (laws_FnPacesMeetOfAll.j1_false H)) (by decide)
        rw [if_neg c39] at H
        have c39b0 : (t370 != t373) = false := by simpa using c39
        (try (have c39b1 : decide (t370 = t373) = true := by simpa using c39))
        (try (have c39b2 : (t370 == t373) = true := by simpa using c39))
        clear c39
        by_cases c40 : t368 = t371
        rotate_left
        · rw [if_neg c40] at H
          have c40b0 : (t368 == t371) = false := beq_eq_false_iff_ne.mpr c40
          have c40b1 : (t368 != t371) = true := bne_iff_ne.mpr c40
          exact absurd (hrt.symm.trans (laws_FnPacesMeetOfAll.j1_false H)) (by decide)
        rw [if_pos c40] at H
        have c40b0 : (t368 == t371) = true := beq_iff_eq.mpr c40
        have c40b1 : (t368 != t371) = false := bne_eq_false_iff_eq.mpr c40
        clear c40
        by_cases c41 : t369 = t372
        rotate_left
        · rw [if_neg c41] at H
          have c41b0 : (t369 == t372) = false := beq_eq_false_iff_ne.mpr c41
          have c41b1 : (t369 != t372) = true := bne_iff_ne.mpr c41
          exact absurd (hrt.symm.trans (laws_FnPacesMeetOfAll.j1_false H)) (by decide)
        rw [if_pos c41] at H
        have c41b0 : (t369 == t372) = true := beq_iff_eq.mpr c41
        have c41b1 : (t369 != t372) = false := bne_eq_false_iff_eq.mpr c41
        clear c41
        by_cases c42 : (t375 != t377) = true
        · rw [if_pos c42] at H
          have c42b0 : (t375 != t377) = true := c42
          (try (have c42b1 : decide (t375 = t377) = false := by simpa using c42))
          (try (have c42b2 : (t375 == t377) = false := by simpa using c42))
          (try (have c42b3 : ¬ (t375 = t377) := by simpa using c42))
          clear c42
          exact absurd (hrt.symm.trans (laws_FnPacesMeetOfAll.j1_false H)) (by decide)
        rw [if_neg c42] at H
        have c42b0 : (t375 != t377) = false := by simpa using c42
        (try (have c42b1 : decide (t375 = t377) = true := by simpa using c42))
        (try (have c42b2 : (t375 == t377) = true := by simpa using c42))
        clear c42
        by_cases c43 : t374 = t376
        rotate_left
        · rw [if_neg c43] at H
          have c43b0 : (t374 == t376) = false := beq_eq_false_iff_ne.mpr c43
          have c43b1 : (t374 != t376) = true := bne_iff_ne.mpr c43
          exact absurd (hrt.symm.trans (laws_FnPacesMeetOfAll.j1_false H)) (by decide)
        rw [if_pos c43] at H
        have c43b0 : (t374 == t376) = true := beq_iff_eq.mpr c43
        have c43b1 : (t374 != t376) = false := bne_eq_false_iff_eq.mpr c43
        clear c43
        by_cases c44 : (t379 != t383) = true
        · rw [if_pos c44] at H
          have c44b0 : (t379 != t383) = true := c44
          (try (have c44b1 : decide (t379 = t383) = false := by simpa using c44))
          (try (have c44b2 : (t379 == t383) = false := by simpa using c44))
          (try (have c44b3 : ¬ (t379 = t383) := by simpa using c44))
          clear c44
          exact absurd (hrt.symm.trans (laws_FnPacesMeetOfAll.j1_false H)) (by decide)
        rw [if_neg c44] at H
        have c44b0 : (t379 != t383) = false := by simpa using c44
        (try (have c44b1 : decide (t379 = t383) = true := by simpa using c44))
        (try (have c44b2 : (t379 == t383) = true := by simpa using c44))
        clear c44
        replace H := Option.bind_eq_some_iff.mp H
        obtain ⟨t390, A450, H⟩ := H
        (try dsimp only at H)
        have A45 := Aside0.mk A450
        clear A450
        by_cases c46 : t390 = true
        rotate_left
        · replace c46 := Bool.eq_false_iff.mpr c46
          subst c46
          rw [if_neg (show ¬ (false = true) by decide)] at H
          exact absurd (hrt.symm.trans (laws_FnPacesMeetOfAll.j1_false H)) (by decide)
        subst c46
        rw [if_pos rfl] at H
        by_cases c47 : (t387 != t389) = true
        · rw [if_pos c47] at H
          have c47b0 : (t387 != t389) = true := c47
          (try (have c47b1 : decide (t387 = t389) = false := by simpa using c47))
          (try (have c47b2 : (t387 == t389) = false := by simpa using c47))
          (try (have c47b3 : ¬ (t387 = t389) := by simpa using c47))
          clear c47
          exact absurd (hrt.symm.trans (laws_FnPacesMeetOfAll.j1_false H)) (by decide)
        rw [if_neg c47] at H
        have c47b0 : (t387 != t389) = false := by simpa using c47
        (try (have c47b1 : decide (t387 = t389) = true := by simpa using c47))
        (try (have c47b2 : (t387 == t389) = true := by simpa using c47))
        clear c47
        by_cases c50 : t386.toList = t388.toList
        rotate_left
        · rw [if_neg c50] at H
          have c50b0 : (t386.toList == t388.toList) = false := beq_eq_false_iff_ne.mpr c50
          have c50b1 : (t386.toList != t388.toList) = true := bne_iff_ne.mpr c50
          exact absurd (hrt.symm.trans (laws_FnPacesMeetOfAll.j1_false H)) (by decide)
        rw [if_pos c50] at H
        have c50b0 : (t386.toList == t388.toList) = true := beq_iff_eq.mpr c50
        have c50b1 : (t386.toList != t388.toList) = false := bne_eq_false_iff_eq.mpr c50
        clear c50
        replace H := Option.bind_eq_some_iff.mp H
        obtain ⟨t391, A510, H⟩ := H
        (try dsimp only at H)
        have A51 := Aside0.mk A510
        clear A510
        by_cases c52 : (t365 != t391) = true
        · rw [if_pos c52] at H
          have c52b0 : (t365 != t391) = true := c52
          (try (have c52b1 : decide (t365 = t391) = false := by simpa using c52))
          (try (have c52b2 : (t365 == t391) = false := by simpa using c52))
          (try (have c52b3 : ¬ (t365 = t391) := by simpa using c52))
          clear c52
          exact absurd (hrt.symm.trans (laws_FnPacesMeetOfAll.j1_false H)) (by decide)
        rw [if_neg c52] at H
        have c52b0 : (t365 != t391) = false := by simpa using c52
        (try (have c52b1 : decide (t365 = t391) = true := by simpa using c52))
        (try (have c52b2 : (t365 == t391) = true := by simpa using c52))
        clear c52
        replace H := Option.bind_eq_some_iff.mp H
        obtain ⟨t392, A560, H⟩ := H
        (try dsimp only at H)
        have A56 := Aside0.mk A560
        clear A560
        have ed_ : t391 = t392 := Option.some.inj (A51.out.symm.trans A56.out)
        subst ed_
        replace H := Option.bind_eq_some_iff.mp H
        obtain ⟨t393, A570, H⟩ := H
        (try dsimp only at H)
        have A57 := Aside0.mk A570
        clear A570
        by_cases c58 : (t391 != t393) = true
        · rw [if_pos c58] at H
          have c58b0 : (t391 != t393) = true := c58
          (try (have c58b1 : decide (t391 = t393) = false := by simpa using c58))
          (try (have c58b2 : (t391 == t393) = false := by simpa using c58))
          (try (have c58b3 : ¬ (t391 = t393) := by simpa using c58))
          clear c58
          exact absurd (hrt.symm.trans (laws_FnPacesMeetOfAll.j1_false H)) (by decide)
        rw [if_neg c58] at H
        have c58b0 : (t391 != t393) = false := by simpa using c58
        (try (have c58b1 : decide (t391 = t393) = true := by simpa using c58))
        (try (have c58b2 : (t391 == t393) = true := by simpa using c58))
        clear c58
        by_cases c64 : t365 = true
        rotate_left
        · replace c64 := Bool.eq_false_iff.mpr c64
          subst c64
          rw [if_neg (show ¬ (false = true) by decide)] at H
          by_cases c100 : (t370 != false) = true
          · rw [if_pos c100] at H
            have c100b0 : (t370 != false) = true := c100
            (try (have c100b1 : decide (t370 = false) = false := by simpa using c100))
            (try (have c100b2 : (t370 == false) = false := by simpa using c100))
            (try (have c100b3 : ¬ (t370 = false) := by simpa using c100))
            clear c100
            exact absurd (hrt.symm.trans (laws_FnPacesMeetOfAll.j1_false H)) (by decide)
          rw [if_neg c100] at H
          have ec100_ : t370 = false := by simpa using c100
          clear c100
          subst ec100_
          by_cases c106 : (t375 != false) = true
          · rw [if_pos c106] at H
            have c106b0 : (t375 != false) = true := c106
            (try (have c106b1 : decide (t375 = false) = false := by simpa using c106))
            (try (have c106b2 : (t375 == false) = false := by simpa using c106))
            (try (have c106b3 : ¬ (t375 = false) := by simpa using c106))
            clear c106
            exact absurd (hrt.symm.trans (laws_FnPacesMeetOfAll.j1_false H)) (by decide)
          rw [if_neg c106] at H
          have ec106_ : t375 = false := by simpa using c106
          clear c106
          subst ec106_
          by_cases c112 : (t379 != false) = true
          · rw [if_pos c112] at H
            have c112b0 : (t379 != false) = true := c112
            (try (have c112b1 : decide (t379 = false) = false := by simpa using c112))
            (try (have c112b2 : (t379 == false) = false := by simpa using c112))
            (try (have c112b3 : ¬ (t379 = false) := by simpa using c112))
            clear c112
            exact absurd (hrt.symm.trans (laws_FnPacesMeetOfAll.j1_false H)) (by decide)
          rw [if_neg c112] at H
          have ec112_ : t379 = false := by simpa using c112
          clear c112
          subst ec112_
          by_cases c118 : (t387 != false) = true
          · rw [if_pos c118] at H
            have c118b0 : (t387 != false) = true := c118
            (try (have c118b1 : decide (t387 = false) = false := by simpa using c118))
            (try (have c118b2 : (t387 == false) = false := by simpa using c118))
            (try (have c118b3 : ¬ (t387 = false) := by simpa using c118))
            clear c118
            exact absurd (hrt.symm.trans (laws_FnPacesMeetOfAll.j1_false H)) (by decide)
          rw [if_neg c118] at H
          have ec118_ : t387 = false := by simpa using c118
          clear c118
          subst ec118_
          by_cases c124 : t361 = true
          · subst c124
            rw [if_pos rfl] at H
            have H' := Aside0.mk H
            clear H
            obtain ⟨Ao125, co125, eo125⟩ := Kd.S_slice HO381.out
            subst eo125
            obtain ⟨Ao126, co126, eo126⟩ := Kd.S_slice HO385.out
            subst eo126
            go_wp2_with (first | (go_at_call 16; (with_reducible refine (laws_mRows.calls kj5 _ _ t378 _ _ t382 true _ ?side1 ?side2 ?side3 ?side4 A45.out).mono ?_); (case side1 => repeat ((exact (Kd.S_reads' HO381.out).2.2))); (case side2 => exact (Kd.S_reads' HO381.out).2.1); (case side3 => repeat ((exact (Kd.S_reads' HO385.out).2.2))); (case side4 => exact (Kd.S_reads' HO385.out).2.1); rintro e w' ⟨rfl, ⟨nd, rfl⟩⟩) | (go_at_call 17; (with_reducible refine (impl_ArePaces.calls kj5 _ _ l0 t391 _ ?side1 ?side2 A51.out).mono ?_); (case side1 => repeat ((exact (Kd.C_below HR0.out (by repeat ((with_reducible first | exact HB.out | apply pw_below_drewN))))))); (case side2 => exact HC0.out); rintro e w127 ⟨rfl, hb⟩; have n0_ := Aside0.mk (Kd.S_below (by (with_reducible repeat ((apply Kd.S_drewN))); exact HO381.out) hb); have n1_ := Aside0.mk (Kd.S_below (by (with_reducible repeat ((apply Kd.S_drewN))); exact HO385.out) hb); have n2_ := Aside0.mk (below_step (by repeat ((with_reducible first | exact HB.out | apply pw_below_drewN))) hb); clear HO381; clear HO385; clear HB; have HO381 := n0_; have HO385 := n1_; have HB := n2_; clear n0_ n1_ n2_; (try clear hb); (try clear hb2); (try clear hk); (try clear hi)) | (go_at_call 18; (with_reducible refine (spec_ArePaces.calls kj5 _ _ l0 t393 _ ?side1 ?side2 A57.out).mono ?_); (case side1 => repeat ((exact (Kd.C_below HR0.out HB.out)))); (case side2 => exact HC0.out); rintro e w129 ⟨rfl, hb⟩; have n0_ := Aside0.mk (Kd.S_below (by (with_reducible repeat (fail)); exact HO381.out) hb); have n1_ := Aside0.mk (Kd.S_below (by (with_reducible repeat (fail)); exact HO385.out) hb); have n2_ := Aside0.mk (below_step (by repeat ((with_reducible (exact HB.out)))) hb); clear HO381; clear HO385; clear HB; have HO381 := n0_; have HO385 := n1_; have HB := n2_; clear n0_ n1_ n2_; (try clear hb); (try clear hb2); (try clear hk); (try clear hi)))
            go_meet
            case rel => exact ⟨_, (!false), (by rfl), H', ⟨by (exact Nat.le_refl _)⟩, ⟨by (with_reducible repeat (fail)); exact Kd.S_mono HO381.out (fun _ hk => trivial)⟩, ⟨by repeat ((with_reducible (exact HB.out)))⟩⟩
          replace c124 := Bool.eq_false_iff.mpr c124
          subst c124
          rw [if_neg (show ¬ (false = true) by decide)] at H
          have H' := Aside0.mk H
          clear H
          obtain ⟨Ao130, co130, eo130⟩ := Kd.S_slice HO381.out
          subst eo130
          obtain ⟨Ao131, co131, eo131⟩ := Kd.S_slice HO385.out
          subst eo131
          go_wp2_with (first | (go_at_call 16; (with_reducible refine (laws_mRows.calls kj5 _ _ t378 _ _ t382 true _ ?side1 ?side2 ?side3 ?side4 A45.out).mono ?_); (case side1 => repeat ((exact (Kd.S_reads' HO381.out).2.2))); (case side2 => exact (Kd.S_reads' HO381.out).2.1); (case side3 => repeat ((exact (Kd.S_reads' HO385.out).2.2))); (case side4 => exact (Kd.S_reads' HO385.out).2.1); rintro e w' ⟨rfl, ⟨nd, rfl⟩⟩) | (go_at_call 17; (with_reducible refine (impl_ArePaces.calls kj5 _ _ l0 t391 _ ?side1 ?side2 A51.out).mono ?_); (case side1 => repeat ((exact (Kd.C_below HR0.out (by repeat ((with_reducible first | exact HB.out | apply pw_below_drewN))))))); (case side2 => exact HC0.out); rintro e w132 ⟨rfl, hb⟩; have n0_ := Aside0.mk (Kd.S_below (by (with_reducible repeat ((apply Kd.S_drewN))); exact HO381.out) hb); have n1_ := Aside0.mk (Kd.S_below (by (with_reducible repeat ((apply Kd.S_drewN))); exact HO385.out) hb); have n2_ := Aside0.mk (below_step (by repeat ((with_reducible first | exact HB.out | apply pw_below_drewN))) hb); clear HO381; clear HO385; clear HB; have HO381 := n0_; have HO385 := n1_; have HB := n2_; clear n0_ n1_ n2_; (try clear hb); (try clear hb2); (try clear hk); (try clear hi)) | (go_at_call 18; (with_reducible refine (spec_ArePaces.calls kj5 _ _ l0 t393 _ ?side1 ?side2 A57.out).mono ?_); (case side1 => repeat ((exact (Kd.C_below HR0.out HB.out)))); (case side2 => exact HC0.out); rintro e w134 ⟨rfl, hb⟩; have n0_ := Aside0.mk (Kd.S_below (by (with_reducible repeat (fail)); exact HO381.out) hb); have n1_ := Aside0.mk (Kd.S_below (by (with_reducible repeat (fail)); exact HO385.out) hb); have n2_ := Aside0.mk (below_step (by repeat ((with_reducible (exact HB.out)))) hb); clear HO381; clear HO385; clear HB; have HO381 := n0_; have HO385 := n1_; have HB := n2_; clear n0_ n1_ n2_; (try clear hb); (try clear hb2); (try clear hk); (try clear hi)))
          go_meet
          case rel => exact ⟨_, (false), (by rfl), H', ⟨by (exact Nat.le_refl _)⟩, ⟨by (with_reducible repeat (fail)); exact Kd.S_mono HO381.out (fun _ hk => trivial)⟩, ⟨by repeat ((with_reducible (exact HB.out)))⟩⟩
        subst c64
        rw [if_pos rfl] at H
        by_cases c65 : (t370 != (decide (t364 ≤ 100000))) = true
        · rw [if_pos c65] at H
          have c65b0 : (t370 != (decide (t364 ≤ 100000))) = true := c65
          (try (have c65b1 : decide (t370 = (decide (t364 ≤ 100000))) = false := by simpa using c65))
          (try (have c65b2 : (t370 == (decide (t364 ≤ 100000))) = false := by simpa using c65))
          (try (have c65b3 : ¬ (t370 = (decide (t364 ≤ 100000))) := by simpa using c65))
          clear c65
          exact absurd (hrt.symm.trans (laws_FnPacesMeetOfAll.j1_false H)) (by decide)
        rw [if_neg c65] at H
        have c65b0 : (t370 != (decide (t364 ≤ 100000))) = false := by simpa using c65
        (try (have c65b1 : decide (t370 = (decide (t364 ≤ 100000))) = true := by simpa using c65))
        (try (have c65b2 : (t370 == (decide (t364 ≤ 100000))) = true := by simpa using c65))
        clear c65
        by_cases c71 : (t375 != t370) = true
        · rw [if_pos c71] at H
          have c71b0 : (t375 != t370) = true := c71
          (try (have c71b1 : decide (t375 = t370) = false := by simpa using c71))
          (try (have c71b2 : (t375 == t370) = false := by simpa using c71))
          (try (have c71b3 : ¬ (t375 = t370) := by simpa using c71))
          clear c71
          exact absurd (hrt.symm.trans (laws_FnPacesMeetOfAll.j1_false H)) (by decide)
        rw [if_neg c71] at H
        have c71b0 : (t375 != t370) = false := by simpa using c71
        (try (have c71b1 : decide (t375 = t370) = true := by simpa using c71))
        (try (have c71b2 : (t375 == t370) = true := by simpa using c71))
        clear c71
        by_cases c77 : (t379 != true) = true
        · rw [if_pos c77] at H
          have c77b0 : (t379 != true) = true := c77
          (try (have c77b1 : decide (t379 = true) = false := by simpa using c77))
          (try (have c77b2 : (t379 == true) = false := by simpa using c77))
          (try (have c77b3 : ¬ (t379 = true) := by simpa using c77))
          clear c77
          exact absurd (hrt.symm.trans (laws_FnPacesMeetOfAll.j1_false H)) (by decide)
        rw [if_neg c77] at H
        have ec77_ : t379 = true := by simpa using c77
        clear c77
        subst ec77_
        by_cases c83 : (t387 != true) = true
        · rw [if_pos c83] at H
          have c83b0 : (t387 != true) = true := c83
          (try (have c83b1 : decide (t387 = true) = false := by simpa using c83))
          (try (have c83b2 : (t387 == true) = false := by simpa using c83))
          (try (have c83b3 : ¬ (t387 = true) := by simpa using c83))
          clear c83
          exact absurd (hrt.symm.trans (laws_FnPacesMeetOfAll.j1_false H)) (by decide)
        rw [if_neg c83] at H
        have ec83_ : t387 = true := by simpa using c83
        clear c83
        subst ec83_
        by_cases c89 : t361 = true
        · subst c89
          rw [if_pos rfl] at H
          have H' := Aside0.mk H
          clear H
          obtain ⟨Ao90, co90, eo90⟩ := Kd.S_slice HO381.out
          subst eo90
          obtain ⟨Ao91, co91, eo91⟩ := Kd.S_slice HO385.out
          subst eo91
          go_wp2_with (first | (go_at_call 16; (with_reducible refine (laws_mRows.calls kj5 _ _ t378 _ _ t382 true _ ?side1 ?side2 ?side3 ?side4 A45.out).mono ?_); (case side1 => repeat ((exact (Kd.S_reads' HO381.out).2.2))); (case side2 => exact (Kd.S_reads' HO381.out).2.1); (case side3 => repeat ((exact (Kd.S_reads' HO385.out).2.2))); (case side4 => exact (Kd.S_reads' HO385.out).2.1); rintro e w' ⟨rfl, ⟨nd, rfl⟩⟩) | (go_at_call 17; (with_reducible refine (impl_ArePaces.calls kj5 _ _ l0 t391 _ ?side1 ?side2 A51.out).mono ?_); (case side1 => repeat ((exact (Kd.C_below HR0.out (by repeat ((with_reducible first | exact HB.out | apply pw_below_drewN))))))); (case side2 => exact HC0.out); rintro e w92 ⟨rfl, hb⟩; have n0_ := Aside0.mk (Kd.S_below (by (with_reducible repeat ((apply Kd.S_drewN))); exact HO381.out) hb); have n1_ := Aside0.mk (Kd.S_below (by (with_reducible repeat ((apply Kd.S_drewN))); exact HO385.out) hb); have n2_ := Aside0.mk (below_step (by repeat ((with_reducible first | exact HB.out | apply pw_below_drewN))) hb); clear HO381; clear HO385; clear HB; have HO381 := n0_; have HO385 := n1_; have HB := n2_; clear n0_ n1_ n2_; (try clear hb); (try clear hb2); (try clear hk); (try clear hi)) | (go_at_call 18; (with_reducible refine (spec_ArePaces.calls kj5 _ _ l0 t393 _ ?side1 ?side2 A57.out).mono ?_); (case side1 => repeat ((exact (Kd.C_below HR0.out HB.out)))); (case side2 => exact HC0.out); rintro e w94 ⟨rfl, hb⟩; have n0_ := Aside0.mk (Kd.S_below (by (with_reducible repeat (fail)); exact HO381.out) hb); have n1_ := Aside0.mk (Kd.S_below (by (with_reducible repeat (fail)); exact HO385.out) hb); have n2_ := Aside0.mk (below_step (by repeat ((with_reducible (exact HB.out)))) hb); clear HO381; clear HO385; clear HB; have HO381 := n0_; have HO385 := n1_; have HB := n2_; clear n0_ n1_ n2_; (try clear hb); (try clear hb2); (try clear hk); (try clear hi)))
          go_meet
          case rel => exact ⟨_, (!true), (by rfl), H', ⟨by (exact Nat.le_refl _)⟩, ⟨by (with_reducible repeat (fail)); exact Kd.S_mono HO381.out (fun _ hk => trivial)⟩, ⟨by repeat ((with_reducible (exact HB.out)))⟩⟩
        replace c89 := Bool.eq_false_iff.mpr c89
        subst c89
        rw [if_neg (show ¬ (false = true) by decide)] at H
        have H' := Aside0.mk H
        clear H
        obtain ⟨Ao95, co95, eo95⟩ := Kd.S_slice HO381.out
        subst eo95
        obtain ⟨Ao96, co96, eo96⟩ := Kd.S_slice HO385.out
        subst eo96
        go_wp2_with (first | (go_at_call 16; (with_reducible refine (laws_mRows.calls kj5 _ _ t378 _ _ t382 true _ ?side1 ?side2 ?side3 ?side4 A45.out).mono ?_); (case side1 => repeat ((exact (Kd.S_reads' HO381.out).2.2))); (case side2 => exact (Kd.S_reads' HO381.out).2.1); (case side3 => repeat ((exact (Kd.S_reads' HO385.out).2.2))); (case side4 => exact (Kd.S_reads' HO385.out).2.1); rintro e w' ⟨rfl, ⟨nd, rfl⟩⟩) | (go_at_call 17; (with_reducible refine (impl_ArePaces.calls kj5 _ _ l0 t391 _ ?side1 ?side2 A51.out).mono ?_); (case side1 => repeat ((exact (Kd.C_below HR0.out (by repeat ((with_reducible first | exact HB.out | apply pw_below_drewN))))))); (case side2 => exact HC0.out); rintro e w97 ⟨rfl, hb⟩; have n0_ := Aside0.mk (Kd.S_below (by (with_reducible repeat ((apply Kd.S_drewN))); exact HO381.out) hb); have n1_ := Aside0.mk (Kd.S_below (by (with_reducible repeat ((apply Kd.S_drewN))); exact HO385.out) hb); have n2_ := Aside0.mk (below_step (by repeat ((with_reducible first | exact HB.out | apply pw_below_drewN))) hb); clear HO381; clear HO385; clear HB; have HO381 := n0_; have HO385 := n1_; have HB := n2_; clear n0_ n1_ n2_; (try clear hb); (try clear hb2); (try clear hk); (try clear hi)) | (go_at_call 18; (with_reducible refine (spec_ArePaces.calls kj5 _ _ l0 t393 _ ?side1 ?side2 A57.out).mono ?_); (case side1 => repeat ((exact (Kd.C_below HR0.out HB.out)))); (case side2 => exact HC0.out); rintro e w99 ⟨rfl, hb⟩; have n0_ := Aside0.mk (Kd.S_below (by (with_reducible repeat (fail)); exact HO381.out) hb); have n1_ := Aside0.mk (Kd.S_below (by (with_reducible repeat (fail)); exact HO385.out) hb); have n2_ := Aside0.mk (below_step (by repeat ((with_reducible (exact HB.out)))) hb); clear HO381; clear HO385; clear HB; have HO381 := n0_; have HO385 := n1_; have HB := n2_; clear n0_ n1_ n2_; (try clear hb); (try clear hb2); (try clear hk); (try clear hi)))
        go_meet
        case rel => exact ⟨_, (false), (by rfl), H', ⟨by (exact Nat.le_refl _)⟩, ⟨by (with_reducible repeat (fail)); exact Kd.S_mono HO381.out (fun _ hk => trivial)⟩, ⟨by repeat ((with_reducible (exact HB.out)))⟩⟩
      case rest => as_aux_lemma =>
        clear HC22
        obtain ⟨kq, x251_21, rfl, HA, HJ21, HO_29, HB⟩ := hcut
        cases kq with
        | zero => exact absurd HA.out (by simp [laws_FnPacesMeetOfAll.j1])
        | succ kj21 =>
          have H := HA.out
          clear HA
          simp only [laws_FnPacesMeetOfAll.j1] at H
          by_cases c139 : x251_21 = true
          · subst c139
            rw [if_pos rfl] at H
            exact absurd (hrt.symm.trans (Option.some.inj H).symm) (by decide)
          replace c139 := Bool.eq_false_iff.mpr c139
          subst c139
          rw [if_neg (show ¬ (false = true) by decide)] at H
          have HC140 := Aside0.mk H
          clear H
          go_upto_if 252 with (fail)
          go_cut [] from 252 to 252 (fun wc => ∃ (kq : Nat), Aside0 (laws_FnPacesMeetOfAll.j5 kq l0 l1 a2 l3 a4 t360 t361 t364 t368 t369 t370 t374 = some r) ∧ Aside0 (kq ≤ kj21) ∧ Aside0 (Below w.heap.size w wc))
          case first => as_aux_lemma =>
            have H := HC140.out
            clear HC140
            by_cases c141 : t365 = true
            rotate_left
            · replace c141 := Bool.eq_false_iff.mpr c141
              subst c141
              rw [if_neg (show ¬ (false = true) by decide)] at H
              have H' := Aside0.mk H
              clear H
              go_wp2
              go_meet
              case rel => exact ⟨_, H', ⟨by (exact Nat.le_refl _)⟩, ⟨by repeat ((with_reducible (exact HB.out)))⟩⟩
            subst c141
            rw [if_pos rfl] at H
            replace H := Option.bind_eq_some_iff.mp H
            obtain ⟨⟨t394, t395⟩, A1420, H⟩ := H
            (try dsimp only at H)
            have A142 := Aside0.mk A1420
            clear A1420
            have HC143 := Aside0.mk H
            clear H
            go_upto_region 19 with (((with_reducible refine gate_callee (f := 19) rfl ?_); refine goesL_ (some 255) rfl rfl Tryz.func19 (by kernel_rfl) rfl #[.string t386] rfl (by (try simp only [List.map_toArray, List.map_cons, List.map_nil]); rfl) ?_; (with_reducible refine (impl_ParsePaces.calls kj21 t386 t394 t395 _ (tab_below HU.out (by repeat ((with_reducible (exact HB.out))))) A142.out).mono ?_); rintro e w144 ⟨v396, rfl, ho0, hb⟩; refine ⟨_, rfl, ?_⟩; have n0_ := Aside0.mk (Kd.S_below (by (with_reducible repeat (fail)); exact HO_29.out) hb); have n1_ := Aside0.mk (Kd.R_lower ho0 (below_size (by repeat ((with_reducible (exact HB.out)))))); have n2_ := Aside0.mk (below_step (by repeat ((with_reducible (exact HB.out)))) hb); clear HO_29; clear HB; have HO_29 := n0_; have HO397 := n1_; have HB := n2_; clear n0_ n1_ n2_; (try clear hb); (try clear hb2); (try clear hk); (try clear hi); (try clear ho0)))
            (try simp only [Act.put, List.setIfInBounds_toArray, List.set_cons_zero, List.set_cons_succ])
            go_cut [280] from 280 to 280 (fun v280 wc => ∃ (kq : Nat) (x280_142 : Bool), v280 = .bool x280_142 ∧ Aside0 (laws_FnPacesMeetOfAll.j2 kq l0 l1 a2 l3 a4 t360 t361 t364 t368 t369 t370 t374 t378 x280_142 = some r) ∧ Aside0 (kq ≤ kj21) ∧ Aside0 (Kd.S (Kd.slice 3 (Kd.int .i64)) 39 wc w.heap.size (fun _ => True) v380 t378) ∧ Aside0 (Below w.heap.size w wc))
            case first => as_aux_lemma =>
              have H := HC143.out
              clear HC143
              by_cases c145 : t395 = true
              rotate_left
              · replace c145 := Bool.eq_false_iff.mpr c145
                subst c145
                rw [if_neg (show ¬ (false = true) by decide)] at H
                exact absurd (hrt.symm.trans (laws_FnPacesMeetOfAll.j2_false H)) (by decide)
              subst c145
              rw [if_pos rfl] at H
              replace H := Option.bind_eq_some_iff.mp H
              obtain ⟨t398, A1460, H⟩ := H
              (try dsimp only at H)
              have A146 := Aside0.mk A1460
              clear A1460
              by_cases c147 : t398 = true
              rotate_left
              · replace c147 := Bool.eq_false_iff.mpr c147
                subst c147
                rw [if_neg (show ¬ (false = true) by decide)] at H
                exact absurd (hrt.symm.trans (laws_FnPacesMeetOfAll.j2_false H)) (by decide)
              subst c147
              rw [if_pos rfl] at H
              by_cases c148 : (t361 != ((t378.length : Int) == 0)) = true
              · rw [if_pos c148] at H
                have c148b0 : (t361 != ((t378.length : Int) == 0)) = true := c148
                (try (have c148b1 : decide (t361 = ((t378.length : Int) == 0)) = false := by simpa using c148))
                (try (have c148b2 : (t361 == ((t378.length : Int) == 0)) = false := by simpa using c148))
                (try (have c148b3 : ¬ (t361 = ((t378.length : Int) == 0)) := by simpa using c148))
                clear c148
                (skip)
                exact absurd (hrt.symm.trans (laws_FnPacesMeetOfAll.j2_false H)) (by decide)
              rw [if_neg c148] at H
              have c148b0 : (t361 != ((t378.length : Int) == 0)) = false := by simpa using c148
              (try (have c148b1 : decide (t361 = ((t378.length : Int) == 0)) = true := by simpa using c148))
              (try (have c148b2 : (t361 == ((t378.length : Int) == 0)) = true := by simpa using c148))
              clear c148
              (skip)
              by_cases c151 : t361 = true
              · subst c151
                rw [if_pos rfl] at H
                have H' := Aside0.mk H
                clear H
                obtain ⟨Ao152, co152, eo152⟩ := Kd.R_slice HO397.out
                subst eo152
                go_wp2_with ((go_at_call 20; (with_reducible refine (laws_mPaces.calls kj21 _ _ t394 _ _ l0 true _ ?side1 ?side2 ?side3 ?side4 A146.out).mono ?_); (case side1 => repeat ((exact (Kd.R_reads' HO397.out).2.2))); (case side2 => exact (Kd.R_reads' HO397.out).2.1); (case side3 => repeat ((exact (Kd.C_below HR0.out HB.out)))); (case side4 => exact HC0.out); rintro e w' ⟨rfl, ⟨nd, rfl⟩⟩; obtain ⟨Ao153, co153, eo153⟩ := Kd.S_slice HO_29.out; subst eo153))
                go_meet
                case rel => exact ⟨_, (decide (t360 ≥ t364)), (by rfl), H', ⟨by (exact Nat.le_refl _)⟩, ⟨by (with_reducible repeat ((apply Kd.S_drewN))); exact HO_29.out⟩, ⟨by repeat ((with_reducible first | exact HB.out | apply pw_below_drewN))⟩⟩
              replace c151 := Bool.eq_false_iff.mpr c151
              subst c151
              rw [if_neg (show ¬ (false = true) by decide)] at H
              have H' := Aside0.mk H
              clear H
              obtain ⟨Ao154, co154, eo154⟩ := Kd.R_slice HO397.out
              subst eo154
              go_wp2_with ((go_at_call 20; (with_reducible refine (laws_mPaces.calls kj21 _ _ t394 _ _ l0 true _ ?side1 ?side2 ?side3 ?side4 A146.out).mono ?_); (case side1 => repeat ((exact (Kd.R_reads' HO397.out).2.2))); (case side2 => exact (Kd.R_reads' HO397.out).2.1); (case side3 => repeat ((exact (Kd.C_below HR0.out HB.out)))); (case side4 => exact HC0.out); rintro e w' ⟨rfl, ⟨nd, rfl⟩⟩; obtain ⟨Ao155, co155, eo155⟩ := Kd.S_slice HO_29.out; subst eo155))
              go_meet
              case rel => exact ⟨_, (false), (by rfl), H', ⟨by (exact Nat.le_refl _)⟩, ⟨by (with_reducible repeat ((apply Kd.S_drewN))); exact HO_29.out⟩, ⟨by repeat ((with_reducible first | exact HB.out | apply pw_below_drewN))⟩⟩
            case rest => as_aux_lemma =>
              clear HC143
              obtain ⟨kq, x280_142, rfl, HA, HJ142, HO_29, HB⟩ := hcut
              cases kq with
              | zero => exact absurd HA.out (by simp [laws_FnPacesMeetOfAll.j2])
              | succ kj142 =>
                have H := HA.out
                clear HA
                simp only [laws_FnPacesMeetOfAll.j2] at H
                by_cases c157 : x280_142 = true
                · subst c157
                  rw [if_pos rfl] at H
                  exact absurd (hrt.symm.trans (Option.some.inj H).symm) (by decide)
                replace c157 := Bool.eq_false_iff.mpr c157
                subst c157
                rw [if_neg (show ¬ (false = true) by decide)] at H
                have H' := Aside0.mk H
                clear H
                go_wp2
                go_loopg [283] kj142 (fun kq v283 w' => ∃ (x283_4 : Int), v283 = .int .i64 x283_4 ∧ Aside0 (laws_FnPacesMeetOfAll.l0 kq l0 l1 a2 l3 a4 t360 t361 t364 t368 t369 t370 t374 t378 l0 (l0.length : Int) x283_4 = some r) ∧ Aside0 (kq ≤ kj142) ∧ Aside0 (Kd.S (Kd.slice 3 (Kd.int .i64)) 39 w' w.heap.size (fun _ => True) v380 t378) ∧ Aside0 (Below w.heap.size w w'))
                case atStart => exact ⟨(0), (by rfl), H', ⟨Nat.le_refl _⟩, ⟨by (with_reducible repeat (fail)); exact HO_29.out⟩, ⟨by repeat ((with_reducible (exact HB.out)))⟩⟩
                case round =>
                  clear H'
                  obtain ⟨x283_4, rfl, HA, HK4, HO_29, HB⟩ := hrel
                  cases gk with
                  | zero => exact absurd HA.out (by simp [laws_FnPacesMeetOfAll.l0])
                  | succ k4 =>
                    have H := HA.out
                    clear HA
                    simp only [laws_FnPacesMeetOfAll.l0] at H
                    by_cases c158 : x283_4 < (l0.length : Int)
                    · rw [if_pos c158] at H
                      have c158b0 : decide (x283_4 < (l0.length : Int)) = true := decide_eq_true c158
                      clear c158
                      by_cases c159 : 0 ≤ x283_4
                      rotate_left
                      · rw [if_neg c159] at H
                        exact absurd H (by simp)
                      rw [if_pos c159] at H
                      have c159b0 : decide (0 ≤ x283_4) = true := decide_eq_true c159
                      clear c159
                      by_cases c160 : x283_4 < (l0.length : Int)
                      rotate_left
                      · rw [if_neg c160] at H
                        exact absurd H (by simp)
                      rw [if_pos c160] at H
                      have c160b0 : decide (x283_4 < (l0.length : Int)) = true := decide_eq_true c160
                      clear c160
                      by_cases c161 : ((rd_T38 l0 x283_4).f0) = 0
                      · rw [if_pos c161] at H
                        exact absurd H (by simp)
                      rw [if_neg c161] at H
                      have c161b0 : (((rd_T38 l0 x283_4).f0) == 0) = false := beq_eq_false_iff_ne.mpr c161
                      have c161b1 : (((rd_T38 l0 x283_4).f0) != 0) = true := bne_iff_ne.mpr c161
                      by_cases c162 : (Int.tmod t364 ((rd_T38 l0 x283_4).f0)) = 0
                      rotate_left
                      · rw [if_neg c162] at H
                        have c162b0 : ((Int.tmod t364 ((rd_T38 l0 x283_4).f0)) == 0) = false := beq_eq_false_iff_ne.mpr c162
                        have c162b1 : ((Int.tmod t364 ((rd_T38 l0 x283_4).f0)) != 0) = true := bne_iff_ne.mpr c162
                        exact absurd (hrt.symm.trans (Option.some.inj H).symm) (by decide)
                      rw [if_pos c162] at H
                      have c162b0 : ((Int.tmod t364 ((rd_T38 l0 x283_4).f0)) == 0) = true := beq_iff_eq.mpr c162
                      have c162b1 : ((Int.tmod t364 ((rd_T38 l0 x283_4).f0)) != 0) = false := bne_eq_false_iff_eq.mpr c162
                      clear c162
                      have H' := Aside0.mk H
                      clear H
                      have p399 : 0 ≤ (x283_4 : Int) := of_decide_eq_true (by (with_reducible assumption))
                      have q399 : x283_4 < (l0.length : Int) := of_decide_eq_true (by (with_reducible assumption))
                      obtain ⟨ad399, e399, hx399_0, hx399_1⟩ := at_T38 HR0.out x283_4 p399 q399
                      cases e399
                      (try replace hx399_0 := (HB.out.cell (World.block_lt_of_cell? w _ hx399_0)).trans hx399_0)
                      (try replace hx399_1 := (HB.out.cell (World.block_lt_of_cell? w _ hx399_1)).trans hx399_1)
                      replace p399 := eq_true p399
                      replace q399 := eq_true q399
                      go_wp2_with (((with_reducible refine gate_dst (N := 40) rfl ?_); (try (refine gate_guard (by rfl) ?_; dsimp only)); refine box_event ?hg (N := 40) ?hd (cs := #[.int .i64 0, .int .i64 0]) (t := 38) ?hr ?_; (case hd => rfl); (case hg => rfl); (case hr => (go_simp; done)); intro gb400 hg w163 hbox hb; have n0_ := Aside0.mk (Kd.S_below (by (with_reducible repeat (fail)); exact HO_29.out) hb); have n1_ := Aside0.mk (below_step (by repeat ((with_reducible (exact HB.out)))) hb); have n2_ := Aside0.mk (hbox); have n3_ := Aside0.mk ((by rw [hg]; exact (below_size (by repeat ((with_reducible (exact HB.out))))) : w.heap.size ≤ gb400)); have n4_ := Aside0.mk ((by rw [hg]; exact (below_size (by repeat ((with_reducible (exact HB.out))))) : w.heap.size ≤ gb400)); clear HO_29; clear HB; have HO_29 := n0_; have HB := n1_; have BK400 := n2_; have GW400 := n3_; have GE400 := n4_; clear n0_ n1_ n2_ n3_ n4_; clear hb hbox hg; have hcz164_0 : w163.cell? ⟨gb400, 0, none⟩ = some (.int .i64 0) := (blk_cell BK400.out 0).trans rfl; have hcz164_1 : w163.cell? ⟨gb400, 1, none⟩ = some (.int .i64 0) := (blk_cell BK400.out 1).trans rfl; have hfz164_0 := blk_frozen BK400.out 0; have hfz164_1 := blk_frozen BK400.out 1))
                      (go_roundg k4)
                      case measure => (exact Nat.lt_succ_self _)
                      case rel => exact ⟨(wrap64 (x283_4 + 1)), (by rfl), H', ⟨by (exact Nat.le_of_lt HK4.out)⟩, ⟨by (with_reducible repeat (fail)); exact Kd.S_mono (Kd.S_far (p := ⟨gb400, 1, none⟩) (Kd.S_far (p := ⟨gb400, 0, none⟩) (Kd.S_types HO_29.out BK400.out (by decide)) (fun _ hk => hk.2) (.int .i64 ((rd_T38 l0 x283_4).f0))) (fun _ hk => hk.2) (.int .i64 ((rd_T38 l0 x283_4).f1))) (fun _ hk => trivial)⟩, ⟨by repeat ((with_reducible first | exact HB.out | refine below_set ?_ GE400.out))⟩⟩
                    rw [if_neg c158] at H
                    have c158b0 : decide (x283_4 < (l0.length : Int)) = false := decide_eq_false c158
                    clear c158
                    have H' := Aside0.mk H
                    clear H
                    obtain ⟨Ao167, co167, eo167⟩ := Kd.S_slice HO_29.out
                    subst eo167
                    go_wp2
                    go_loopg [295] k4 (fun kq v295 w' => ∃ (x295_5 : Int), v295 = .int .i64 x295_5 ∧ Aside0 (laws_FnPacesMeetOfAll.l1 kq l0 l1 a2 l3 a4 t360 t361 t364 t368 t369 t370 t374 t378 t378 (t378.length : Int) x295_5 = some r) ∧ Aside0 (kq ≤ k4) ∧ Aside0 (Kd.S (Kd.slice 3 (Kd.int .i64)) 39 w' w.heap.size (fun _ => True) (.slice Ao167 t378.length co167) t378) ∧ Aside0 (Kd.S (Kd.slice 3 (Kd.int .i64)) 39 w' w.heap.size (fun _ => True) (.slice Ao167 t378.length co167) t378) ∧ Aside0 (Below w.heap.size w w'))
                    case atStart => exact ⟨(0), (by rfl), H', ⟨Nat.le_refl _⟩, ⟨by (with_reducible repeat (fail)); exact HO_29.out⟩, ⟨by (with_reducible repeat (fail)); exact HO_29.out⟩, ⟨by repeat ((with_reducible (exact HB.out)))⟩⟩
                    case round =>
                      clear H' c158b0
                      obtain ⟨x295_5, rfl, HA, HK5, HO_29, HO_293, HB⟩ := hrel
                      cases gk with
                      | zero => exact absurd HA.out (by simp [laws_FnPacesMeetOfAll.l1])
                      | succ k5 =>
                        have H := HA.out
                        clear HA
                        simp only [laws_FnPacesMeetOfAll.l1] at H
                        by_cases c168 : x295_5 < (t378.length : Int)
                        rotate_left
                        · rw [if_neg c168] at H
                          have c168b0 : decide (x295_5 < (t378.length : Int)) = false := decide_eq_false c168
                          clear c168
                          have H' := Aside0.mk H
                          clear H
                          go_wp2
                          go_meet
                          case rel => exact ⟨_, H', ⟨by (have := HJ5.out; have := HJ21.out; have := HJ142.out; have := HK4.out; have := HK5.out; omega)⟩, ⟨by repeat ((with_reducible (exact HB.out)))⟩⟩
                        rw [if_pos c168] at H
                        have c168b0 : decide (x295_5 < (t378.length : Int)) = true := decide_eq_true c168
                        clear c168
                        by_cases c169 : 0 ≤ x295_5
                        rotate_left
                        · rw [if_neg c169] at H
                          exact absurd H (by simp)
                        rw [if_pos c169] at H
                        have c169b0 : decide (0 ≤ x295_5) = true := decide_eq_true c169
                        clear c169
                        by_cases c170 : x295_5 < (t378.length : Int)
                        rotate_left
                        · rw [if_neg c170] at H
                          exact absurd H (by simp)
                        rw [if_pos c170] at H
                        have c170b0 : decide (x295_5 < (t378.length : Int)) = true := decide_eq_true c170
                        clear c170
                        by_cases c171 : ((rd_L2 t378 x295_5).length : Int) = 2
                        rotate_left
                        · rw [if_neg c171] at H
                          have c171b0 : (((rd_L2 t378 x295_5).length : Int) == 2) = false := beq_eq_false_iff_ne.mpr c171
                          have c171b1 : (((rd_L2 t378 x295_5).length : Int) != 2) = true := bne_iff_ne.mpr c171
                          exact absurd (hrt.symm.trans (Option.some.inj H).symm) (by decide)
                        rw [if_pos c171] at H
                        have c171b0 : (((rd_L2 t378 x295_5).length : Int) == 2) = true := beq_iff_eq.mpr c171
                        have c171b1 : (((rd_L2 t378 x295_5).length : Int) != 2) = false := bne_eq_false_iff_eq.mpr c171
                        clear c171
                        by_cases c172 : 0 < ((rd_L2 t378 x295_5).length : Int)
                        rotate_left
                        · rw [if_neg c172] at H
                          exact absurd H (by simp)
                        rw [if_pos c172] at H
                        have c172b0 : decide (0 < ((rd_L2 t378 x295_5).length : Int)) = true := decide_eq_true c172
                        have c172b1 : decide (0 < (rd_L2 t378 x295_5).length) = true := decide_eq_true (by omega)
                        clear c172
                        by_cases c173 : 1 < ((rd_L2 t378 x295_5).length : Int)
                        rotate_left
                        · rw [if_neg c173] at H
                          exact absurd H (by simp)
                        rw [if_pos c173] at H
                        have c173b0 : decide (1 < ((rd_L2 t378 x295_5).length : Int)) = true := decide_eq_true c173
                        have c173b1 : decide (1 < (rd_L2 t378 x295_5).length) = true := decide_eq_true (by omega)
                        clear c173
                        by_cases c174 : (rd (rd_L2 t378 x295_5) 0) ≥ (rd (rd_L2 t378 x295_5) 1)
                        · rw [if_pos c174] at H
                          have c174b0 : decide ((rd (rd_L2 t378 x295_5) 1) ≤ (rd (rd_L2 t378 x295_5) 0)) = true := decide_eq_true c174
                          clear c174
                          exact absurd (hrt.symm.trans (Option.some.inj H).symm) (by decide)
                        rw [if_neg c174] at H
                        have c174b0 : decide ((rd (rd_L2 t378 x295_5) 1) ≤ (rd (rd_L2 t378 x295_5) 0)) = false := decide_eq_false c174
                        clear c174
                        by_cases c176 : x295_5 > 0
                        rotate_left
                        · rw [if_neg c176] at H
                          have c176b0 : decide (0 < x295_5) = false := decide_eq_false c176
                          clear c176
                          by_cases c201 : 0 ≤ (rd (rd_L2 t378 x295_5) 0)
                          rotate_left
                          · rw [if_neg c201] at H
                            exact absurd H (by simp)
                          rw [if_pos c201] at H
                          have c201b0 : decide (0 ≤ (rd (rd_L2 t378 x295_5) 0)) = true := decide_eq_true c201
                          clear c201
                          by_cases c202 : (rd (rd_L2 t378 x295_5) 0) < (l0.length : Int)
                          rotate_left
                          · rw [if_neg c202] at H
                            exact absurd H (by simp)
                          rw [if_pos c202] at H
                          have c202b0 : decide ((rd (rd_L2 t378 x295_5) 0) < (l0.length : Int)) = true := decide_eq_true c202
                          clear c202
                          by_cases c203 : 0 ≤ (rd (rd_L2 t378 x295_5) 1)
                          rotate_left
                          · rw [if_neg c203] at H
                            exact absurd H (by simp)
                          rw [if_pos c203] at H
                          have c203b0 : decide (0 ≤ (rd (rd_L2 t378 x295_5) 1)) = true := decide_eq_true c203
                          clear c203
                          by_cases c204 : (rd (rd_L2 t378 x295_5) 1) < (l0.length : Int)
                          rotate_left
                          · rw [if_neg c204] at H
                            exact absurd H (by simp)
                          rw [if_pos c204] at H
                          have c204b0 : decide ((rd (rd_L2 t378 x295_5) 1) < (l0.length : Int)) = true := decide_eq_true c204
                          clear c204
                          obtain ⟨y419, hy419⟩ : ∃ y_ : List (S38), y_ = (([(⟨(rd_T38 l0 (rd (rd_L2 t378 x295_5) 0)).f0, (rd_T38 l0 (rd (rd_L2 t378 x295_5) 0)).f1⟩ : S38), (⟨(rd_T38 l0 (rd (rd_L2 t378 x295_5) 1)).f0, (rd_T38 l0 (rd (rd_L2 t378 x295_5) 1)).f1⟩ : S38)] : List (S38))) := ⟨_, rfl⟩
                          replace H : ((impl_FirstTogether.f k5 y419).bind fun bt422 => (if bt422.2 = true then (some false) else (laws_FnPacesMeetOfAll.l1 k5 l0 l1 a2 l3 a4 t360 t361 t364 t368 t369 t370 t374 t378 t378 (t378.length : Int) (wrap64 (x295_5 + 1))))) = some r := by (rw [hy419]; with_reducible exact H)
                          have Ny419 := Aside0.mk hy419
                          clear hy419
                          replace H := Option.bind_eq_some_iff.mp H
                          obtain ⟨⟨t422, t423⟩, A2050, H⟩ := H
                          (try dsimp only at H)
                          have A205 := Aside0.mk A2050
                          clear A2050
                          by_cases c206 : t423 = true
                          · subst c206
                            rw [if_pos rfl] at H
                            exact absurd (hrt.symm.trans (Option.some.inj H).symm) (by decide)
                          replace c206 := Bool.eq_false_iff.mpr c206
                          subst c206
                          rw [if_neg (show ¬ (false = true) by decide)] at H
                          have H' := Aside0.mk H
                          clear H
                          have p401 : 0 ≤ (x295_5 : Int) := of_decide_eq_true (by (with_reducible assumption))
                          have q401 : x295_5 < (t378.length : Int) := of_decide_eq_true (by (with_reducible assumption))
                          obtain ⟨ad401, A401_0, c401_0, e401, hx401_0, hl401_0, hi401_0⟩ := at_L2 (Kd.S_reads' HO_293.out).2.2 x295_5 p401 q401
                          cases e401
                          obtain ⟨ce401, hce401, hMe401, hcc401⟩ := Kd.S_get HO_293.out [] x295_5 p401 (by (exact q401))
                          obtain ⟨ve401_0, rfl, ge401_0⟩ := hMe401
                          have hv401_0 := hcc401 0 _ rfl
                          rw [Nat.add_zero, show ((Kd.slice 3 (Kd.int .i64))).sz = 1 from rfl, Nat.mul_one] at hv401_0
                          replace hv401_0 := Option.some.inj (hv401_0.symm.trans hx401_0)
                          rw [hv401_0] at ge401_0
                          have HL401_0 := Aside0.mk (show Kd.R (Kd.int .i64) 3 _ _ _ _ (rd_L2 t378 x295_5) from ge401_0)
                          clear hv401_0 ge401_0 hcc401 hce401
                          have HR401_0 := Aside0.mk hi401_0
                          have HC401_0 := Aside0.mk hl401_0
                          clear hi401_0 hl401_0
                          replace p401 := eq_true p401
                          replace q401 := eq_true q401
                          try go_wp2
                          have n0_ := Aside0.mk (Kd.S_drew HO_29.out)
                          have n1_ := Aside0.mk (Kd.S_drew HO_293.out)
                          have n2_ := Aside0.mk (Kd.R_drew HL401_0.out)
                          have n3_ := Aside0.mk (Kd.C_drew HR401_0.out)
                          have n4_ := Aside0.mk (below_drew1 HB.out)
                          clear HO_29 HO_293 HL401_0 HR401_0 HB
                          have HO_29 := n0_
                          have HO_293 := n1_
                          have HL401_0 := n2_
                          have HR401_0 := n3_
                          have HB := n4_
                          clear n0_ n1_ n2_ n3_ n4_
                          have p402 : 0 ≤ (0 : Int) := (by omega)
                          have q402 : 0 < ((rd_L2 t378 x295_5).length : Int) := of_decide_eq_true (by (with_reducible assumption))
                          obtain ⟨ad402, e402, hx402_0⟩ := Kd.at_int (by repeat ((with_reducible exact HR401_0.out))) 0 p402 q402
                          cases e402
                          have qi402 : (0 < (rd_L2 t378 x295_5).length) = True := eq_true (by omega)
                          (try rw [show ((0 : Int)).toNat = 0 from rfl] at hx402_0)
                          (try rw [Addr.add_zero'] at hx402_0)
                          replace p402 := eq_true p402
                          replace q402 := eq_true q402
                          have p403 : 0 ≤ (1 : Int) := (by omega)
                          have q403 : 1 < ((rd_L2 t378 x295_5).length : Int) := of_decide_eq_true (by (with_reducible assumption))
                          obtain ⟨ad403, e403, hx403_0⟩ := Kd.at_int (by repeat ((with_reducible exact HR401_0.out))) 1 p403 q403
                          obtain rfl : ad402 = ad403 := (by injection e403)
                          (try simp only [show (1 : Int).toNat = 1 from rfl, Nat.reduceMul, Nat.reduceEqDiff, Go.Addr.add, ↓reduceIte] at hx403_0)
                          have qi403 : (1 < (rd_L2 t378 x295_5).length) = True := eq_true (by omega)
                          (try rw [show ((1 : Int)).toNat = 1 from rfl] at hx403_0)
                          replace p403 := eq_true p403
                          replace q403 := eq_true q403
                          refine start_ (n := 26) (S := fun w' => w'.cell? ad402 = some (.int .i64 (rd (rd_L2 t378 x295_5) 0)) ∧ w'.cell? ⟨ad402.block, ad402.off + 1, none⟩ = some (.int .i64 (rd (rd_L2 t378 x295_5) 1))) (ds := []) #[false, false, false, false, false, false, false, false, false, false, false, false, false, false, false, false, false, false, false, false, false, false, false, false, false, false] (by kernel_rfl) rfl rfl ⟨hx402_0, hx403_0⟩ (fun hHeld => ?_); refine with_tabW laws_FnPacesMeetOfAll.tab30 laws_FnPacesMeetOfAll.bits30 (fun HT_ HW_ => ?_)
                          generalize wr.drew = w213 at HO_29 HO_293 HL401_0 HR401_0 HB hx402_0 hx403_0 hHeld ⊢
                          refine pure_ (i := 0) (N := some 300) (v := ?_) (a' := ?_) #[true, false, false, false, false, false, false, false, false, false, false, false, false, false, false, false, false, false, false, false, false, false, false, false, false, false] rfl rfl (any_of HT_.out (by kernel_rfl)) (fun _ _ _ h => h) (Or.inl ⟨by rfl, ?_⟩) ?_ ?_
                          rotate_left
                          · intro w'
                            go_simp
                            with_reducible rfl
                          rotate_left
                          · simp only [Act.put, List.setIfInBounds_toArray, List.set_cons_zero, List.set_cons_succ, i64_w, i32_w]
                            rfl
                          refine pure_ (i := 1) (N := some 301) (v := ?_) (a' := ?_) #[true, true, false, false, false, false, false, false, false, false, false, false, false, false, false, false, false, false, false, false, false, false, false, false, false, false] rfl rfl (any_of HT_.out (by kernel_rfl)) (fun _ _ _ h => h) (Or.inl ⟨by rfl, ?_⟩) ?_ ?_
                          rotate_left
                          · intro w'
                            go_simp
                            with_reducible rfl
                          rotate_left
                          · simp only [Act.put, List.setIfInBounds_toArray, List.set_cons_zero, List.set_cons_succ, i64_w, i32_w]
                            rfl
                          refine pure_ (i := 2) (N := some 302) (v := ?_) (a' := ?_) #[true, true, true, false, false, false, false, false, false, false, false, false, false, false, false, false, false, false, false, false, false, false, false, false, false, false] rfl rfl (any_of HT_.out (by kernel_rfl)) (fun _ _ _ h => h) (Or.inl ⟨by rfl, ?_⟩) ?_ ?_
                          rotate_left
                          · intro w'
                            go_simp
                            with_reducible rfl
                          rotate_left
                          · simp only [Act.put, List.setIfInBounds_toArray, List.set_cons_zero, List.set_cons_succ, i64_w, i32_w]
                            rfl
                          refine pure_ (i := 3) (N := some 303) (v := ?_) (a' := ?_) #[true, true, true, true, false, false, false, false, false, false, false, false, false, false, false, false, false, false, false, false, false, false, false, false, false, false] rfl rfl (any_of HT_.out (by kernel_rfl)) (fun _ _ _ h => h) (Or.inl ⟨by rfl, ?_⟩) ?_ ?_
                          rotate_left
                          · intro w'
                            go_simp
                            with_reducible rfl
                          rotate_left
                          · simp only [Act.put, List.setIfInBounds_toArray, List.set_cons_zero, List.set_cons_succ, i64_w, i32_w]
                            rfl
                          refine pure_ (i := 4) (N := some 304) (v := ?_) (a' := ?_) #[true, true, true, true, true, false, false, false, false, false, false, false, false, false, false, false, false, false, false, false, false, false, false, false, false, false] rfl rfl (any_of HT_.out (by kernel_rfl)) (fun _ _ _ h => h) (Or.inl ⟨by rfl, ?_⟩) ?_ ?_
                          rotate_left
                          · intro w'
                            go_simp
                            with_reducible rfl
                          rotate_left
                          · simp only [Act.put, List.setIfInBounds_toArray, List.set_cons_zero, List.set_cons_succ, i64_w, i32_w]
                            rfl
                          refine pure_ (i := 5) (N := some 305) (v := ?_) (a' := ?_) #[true, true, true, true, true, true, false, false, false, false, false, false, false, false, false, false, false, false, false, false, false, false, false, false, false, false] rfl rfl (any_of HT_.out (by kernel_rfl)) (fun _ _ _ h => h) (Or.inl ⟨by rfl, ?_⟩) ?_ ?_
                          rotate_left
                          · intro w'
                            go_simp
                            with_reducible rfl
                          rotate_left
                          · simp only [Act.put, List.setIfInBounds_toArray, List.set_cons_zero, List.set_cons_succ, i64_w, i32_w]
                            rfl
                          refine pure_ (i := 7) (N := some 307) (v := ?_) (a' := ?_) #[true, true, true, true, true, true, false, true, false, false, false, false, false, false, false, false, false, false, false, false, false, false, false, false, false, false] rfl rfl (any_of HT_.out (by kernel_rfl)) (fun _ _ _ h => h) (Or.inl ⟨by rfl, ?_⟩) ?_ ?_
                          rotate_left
                          · intro w'
                            go_simp
                            with_reducible rfl
                          rotate_left
                          · simp only [Act.put, List.setIfInBounds_toArray, List.set_cons_zero, List.set_cons_succ, i64_w, i32_w]
                            rfl
                          refine pure_ (i := 8) (N := some 308) (v := ?_) (a' := ?_) #[true, true, true, true, true, true, false, true, true, false, false, false, false, false, false, false, false, false, false, false, false, false, false, false, false, false] rfl rfl (any_of HT_.out (by kernel_rfl)) (fun _ _ _ h => h) (Or.inl ⟨by rfl, ?_⟩) ?_ ?_
                          rotate_left
                          · intro w'
                            go_simp
                            with_reducible rfl
                          rotate_left
                          · simp only [Act.put, List.setIfInBounds_toArray, List.set_cons_zero, List.set_cons_succ, i64_w, i32_w]
                            rfl
                          refine take_ (i := 6) (N := some 306) (v := ?_) (a' := ?_) #[true, true, true, true, true, true, true, true, true, false, false, false, false, false, false, false, false, false, false, false, false, false, false, false, false, false] rfl rfl (take_ofW HT_.out HW_.out (by kernel_rfl)) (fun _ _ _ h => h) (Or.inl ⟨by rfl, ?_⟩) hHeld ?_ ?_
                          rotate_left
                          · rintro w' ⟨s0, s1⟩
                            go_simp
                            with_reducible rfl
                          rotate_left
                          · simp only [Act.put, List.setIfInBounds_toArray, List.set_cons_zero, List.set_cons_succ, i64_w, i32_w]
                            rfl
                          refine take_ (i := 9) (N := some 309) (v := ?_) (a' := ?_) #[true, true, true, true, true, true, true, true, true, true, false, false, false, false, false, false, false, false, false, false, false, false, false, false, false, false] rfl rfl (take_ofW HT_.out HW_.out (by kernel_rfl)) (fun _ _ _ h => h) (Or.inl ⟨by rfl, ?_⟩) hHeld ?_ ?_
                          rotate_left
                          · rintro w' ⟨s0, s1⟩
                            go_simp
                            with_reducible rfl
                          rotate_left
                          · simp only [Act.put, List.setIfInBounds_toArray, List.set_cons_zero, List.set_cons_succ, i64_w, i32_w]
                            rfl
                          refine pure_ (i := 10) (N := some 310) (v := ?_) (a' := ?_) #[true, true, true, true, true, true, true, true, true, true, true, false, false, false, false, false, false, false, false, false, false, false, false, false, false, false] rfl rfl (any_of HT_.out (by kernel_rfl)) (fun _ _ _ h => h) (Or.inl ⟨by rfl, ?_⟩) ?_ ?_
                          rotate_left
                          · intro w'
                            go_simp
                            with_reducible rfl
                          rotate_left
                          · simp only [Act.put, List.setIfInBounds_toArray, List.set_cons_zero, List.set_cons_succ, i64_w, i32_w]
                            rfl
                          refine pure_ (i := 11) (N := some 311) (v := ?_) (a' := ?_) #[true, true, true, true, true, true, true, true, true, true, true, true, false, false, false, false, false, false, false, false, false, false, false, false, false, false] rfl rfl (any_of HT_.out (by kernel_rfl)) (fun _ _ _ h => h) (Or.inl ⟨by rfl, ?_⟩) ?_ ?_
                          rotate_left
                          · intro w'
                            go_simp
                            with_reducible rfl
                          rotate_left
                          · simp only [Act.put, List.setIfInBounds_toArray, List.set_cons_zero, List.set_cons_succ, i64_w, i32_w]
                            rfl
                          refine pure_ (i := 12) (N := some 312) (v := ?_) (a' := ?_) #[true, true, true, true, true, true, true, true, true, true, true, true, true, false, false, false, false, false, false, false, false, false, false, false, false, false] rfl rfl (any_of HT_.out (by kernel_rfl)) (fun _ _ _ h => h) (Or.inl ⟨by rfl, ?_⟩) ?_ ?_
                          rotate_left
                          · intro w'
                            go_simp
                            with_reducible rfl
                          rotate_left
                          · simp only [Act.put, List.setIfInBounds_toArray, List.set_cons_zero, List.set_cons_succ, i64_w, i32_w]
                            rfl
                          refine pure_ (i := 13) (N := some 313) (v := ?_) (a' := ?_) #[true, true, true, true, true, true, true, true, true, true, true, true, true, true, false, false, false, false, false, false, false, false, false, false, false, false] rfl rfl (any_of HT_.out (by kernel_rfl)) (fun _ _ _ h => h) (Or.inl ⟨by rfl, ?_⟩) ?_ ?_
                          rotate_left
                          · intro w'
                            go_simp
                            with_reducible rfl
                          rotate_left
                          · simp only [Act.put, List.setIfInBounds_toArray, List.set_cons_zero, List.set_cons_succ, i64_w, i32_w]
                            rfl
                          refine pure_ (i := 14) (N := some 314) (v := ?_) (a' := ?_) #[true, true, true, true, true, true, true, true, true, true, true, true, true, true, true, false, false, false, false, false, false, false, false, false, false, false] rfl rfl (any_of HT_.out (by kernel_rfl)) (fun _ _ _ h => h) (Or.inl ⟨by rfl, ?_⟩) ?_ ?_
                          rotate_left
                          · intro w'
                            go_simp
                            with_reducible rfl
                          rotate_left
                          · simp only [Act.put, List.setIfInBounds_toArray, List.set_cons_zero, List.set_cons_succ, i64_w, i32_w]
                            rfl
                          refine pure_ (i := 15) (N := some 315) (v := ?_) (a' := ?_) #[true, true, true, true, true, true, true, true, true, true, true, true, true, true, true, true, false, false, false, false, false, false, false, false, false, false] rfl rfl (any_of HT_.out (by kernel_rfl)) (fun _ _ _ h => h) (Or.inl ⟨by rfl, ?_⟩) ?_ ?_
                          rotate_left
                          · intro w'
                            go_simp
                            with_reducible rfl
                          rotate_left
                          · simp only [Act.put, List.setIfInBounds_toArray, List.set_cons_zero, List.set_cons_succ, i64_w, i32_w]
                            rfl
                          refine pure_ (i := 16) (N := some 316) (v := undef) (a' := ?_) #[true, true, true, true, true, true, true, true, true, true, true, true, true, true, true, true, true, false, false, false, false, false, false, false, false, false] rfl rfl (any_of HT_.out (by kernel_rfl)) (fun _ _ _ h => h) (Or.inr ⟨by rfl, rfl⟩) ?_ ?_
                          rotate_left
                          · simp only [Act.put, List.setIfInBounds_toArray, List.set_cons_zero, List.set_cons_succ, i64_w, i32_w]
                            rfl
                          refine pure_ (i := 17) (N := some 317) (v := undef) (a' := ?_) #[true, true, true, true, true, true, true, true, true, true, true, true, true, true, true, true, true, true, false, false, false, false, false, false, false, false] rfl rfl (any_of HT_.out (by kernel_rfl)) (fun _ _ _ h => h) (Or.inr ⟨by rfl, rfl⟩) ?_ ?_
                          rotate_left
                          · simp only [Act.put, List.setIfInBounds_toArray, List.set_cons_zero, List.set_cons_succ, i64_w, i32_w]
                            rfl
                          refine pure_ (i := 18) (N := some 318) (v := undef) (a' := ?_) #[true, true, true, true, true, true, true, true, true, true, true, true, true, true, true, true, true, true, true, false, false, false, false, false, false, false] rfl rfl (any_of HT_.out (by kernel_rfl)) (fun _ _ _ h => h) (Or.inr ⟨by rfl, rfl⟩) ?_ ?_
                          rotate_left
                          · simp only [Act.put, List.setIfInBounds_toArray, List.set_cons_zero, List.set_cons_succ, i64_w, i32_w]
                            rfl
                          refine pure_ (i := 19) (N := some 319) (v := undef) (a' := ?_) #[true, true, true, true, true, true, true, true, true, true, true, true, true, true, true, true, true, true, true, true, false, false, false, false, false, false] rfl rfl (any_of HT_.out (by kernel_rfl)) (fun _ _ _ h => h) (Or.inr ⟨by rfl, rfl⟩) ?_ ?_
                          rotate_left
                          · simp only [Act.put, List.setIfInBounds_toArray, List.set_cons_zero, List.set_cons_succ, i64_w, i32_w]
                            rfl
                          refine pure_ (i := 20) (N := some 320) (v := undef) (a' := ?_) #[true, true, true, true, true, true, true, true, true, true, true, true, true, true, true, true, true, true, true, true, true, false, false, false, false, false] rfl rfl (any_of HT_.out (by kernel_rfl)) (fun _ _ _ h => h) (Or.inr ⟨by rfl, rfl⟩) ?_ ?_
                          rotate_left
                          · simp only [Act.put, List.setIfInBounds_toArray, List.set_cons_zero, List.set_cons_succ, i64_w, i32_w]
                            rfl
                          refine pure_ (i := 21) (N := some 321) (v := undef) (a' := ?_) #[true, true, true, true, true, true, true, true, true, true, true, true, true, true, true, true, true, true, true, true, true, true, false, false, false, false] rfl rfl (any_of HT_.out (by kernel_rfl)) (fun _ _ _ h => h) (Or.inr ⟨by rfl, rfl⟩) ?_ ?_
                          rotate_left
                          · simp only [Act.put, List.setIfInBounds_toArray, List.set_cons_zero, List.set_cons_succ, i64_w, i32_w]
                            rfl
                          refine pure_ (i := 22) (N := some 322) (v := undef) (a' := ?_) #[true, true, true, true, true, true, true, true, true, true, true, true, true, true, true, true, true, true, true, true, true, true, true, false, false, false] rfl rfl (any_of HT_.out (by kernel_rfl)) (fun _ _ _ h => h) (Or.inr ⟨by rfl, rfl⟩) ?_ ?_
                          rotate_left
                          · simp only [Act.put, List.setIfInBounds_toArray, List.set_cons_zero, List.set_cons_succ, i64_w, i32_w]
                            rfl
                          refine pure_ (i := 23) (N := some 323) (v := undef) (a' := ?_) #[true, true, true, true, true, true, true, true, true, true, true, true, true, true, true, true, true, true, true, true, true, true, true, true, false, false] rfl rfl (any_of HT_.out (by kernel_rfl)) (fun _ _ _ h => h) (Or.inr ⟨by rfl, rfl⟩) ?_ ?_
                          rotate_left
                          · simp only [Act.put, List.setIfInBounds_toArray, List.set_cons_zero, List.set_cons_succ, i64_w, i32_w]
                            rfl
                          refine pure_ (i := 24) (N := some 324) (v := ?_) (a' := ?_) #[true, true, true, true, true, true, true, true, true, true, true, true, true, true, true, true, true, true, true, true, true, true, true, true, true, false] rfl rfl (any_of HT_.out (by kernel_rfl)) (fun _ _ _ h => h) (Or.inl ⟨by rfl, ?_⟩) ?_ ?_
                          rotate_left
                          · intro w'
                            go_simp
                            with_reducible rfl
                          rotate_left
                          · simp only [Act.put, List.setIfInBounds_toArray, List.set_cons_zero, List.set_cons_succ, i64_w, i32_w]
                            rfl
                          refine pure_ (i := 25) (N := some 325) (v := ?_) (a' := ?_) #[true, true, true, true, true, true, true, true, true, true, true, true, true, true, true, true, true, true, true, true, true, true, true, true, true, true] rfl rfl (any_of HT_.out (by kernel_rfl)) (fun _ _ _ h => h) (Or.inl ⟨by rfl, ?_⟩) ?_ ?_
                          rotate_left
                          · intro w'
                            go_simp
                            with_reducible rfl
                          rotate_left
                          · simp only [Act.put, List.setIfInBounds_toArray, List.set_cons_zero, List.set_cons_succ, i64_w, i32_w]
                            rfl
                          refine done_ (done_of HT_.out (by kernel_rfl)) ?_
                          try go_wp2
                          have n0_ := Aside0.mk (Kd.S_drew HO_29.out)
                          have n1_ := Aside0.mk (Kd.S_drew HO_293.out)
                          have n2_ := Aside0.mk (Kd.R_drew HL401_0.out)
                          have n3_ := Aside0.mk (Kd.C_drew HR401_0.out)
                          have n4_ := Aside0.mk (below_drew1 HB.out)
                          clear HO_29 HO_293 HL401_0 HR401_0 HB
                          have HO_29 := n0_
                          have HO_293 := n1_
                          have HL401_0 := n2_
                          have HR401_0 := n3_
                          have HB := n4_
                          clear n0_ n1_ n2_ n3_ n4_
                          have p415 : 0 ≤ (0 : Int) := (by omega)
                          have q415 : 0 < ((rd_L2 t378 x295_5).length : Int) := of_decide_eq_true (by (with_reducible assumption))
                          obtain ⟨ad415, e415, hx415_0⟩ := Kd.at_int (by repeat ((with_reducible exact HR401_0.out))) 0 p415 q415
                          obtain rfl : ad402 = ad415 := (by injection e415)
                          have qi415 : (0 < (rd_L2 t378 x295_5).length) = True := eq_true (by omega)
                          (try rw [show ((0 : Int)).toNat = 0 from rfl] at hx415_0)
                          (try rw [Addr.add_zero'] at hx415_0)
                          replace p415 := eq_true p415
                          replace q415 := eq_true q415
                          have p416 : 0 ≤ ((rd (rd_L2 t378 x295_5) 0) : Int) := of_decide_eq_true (by (with_reducible assumption))
                          have q416 : (rd (rd_L2 t378 x295_5) 0) < (l0.length : Int) := of_decide_eq_true (by (with_reducible assumption))
                          obtain ⟨ad416, e416, hx416_0, hx416_1⟩ := at_T38 HR0.out (rd (rd_L2 t378 x295_5) 0) p416 q416
                          have hw416_1 := hx416_1
                          have hw416_0 := hx416_0
                          cases e416
                          (try replace hx416_0 := (HB.out.cell (World.block_lt_of_cell? w _ hx416_0)).trans hx416_0)
                          (try replace hx416_1 := (HB.out.cell (World.block_lt_of_cell? w _ hx416_1)).trans hx416_1)
                          replace p416 := eq_true p416
                          replace q416 := eq_true q416
                          have p417 : 0 ≤ (1 : Int) := (by omega)
                          have q417 : 1 < ((rd_L2 t378 x295_5).length : Int) := of_decide_eq_true (by (with_reducible assumption))
                          obtain ⟨ad417, e417, hx417_0⟩ := Kd.at_int (by repeat ((with_reducible exact HR401_0.out))) 1 p417 q417
                          obtain rfl : ad402 = ad417 := (by injection e417)
                          (try simp only [show (1 : Int).toNat = 1 from rfl, Nat.reduceMul, Nat.reduceEqDiff, Go.Addr.add, ↓reduceIte] at hx417_0)
                          have qi417 : (1 < (rd_L2 t378 x295_5).length) = True := eq_true (by omega)
                          (try rw [show ((1 : Int)).toNat = 1 from rfl] at hx417_0)
                          replace p417 := eq_true p417
                          replace q417 := eq_true q417
                          have p418 : 0 ≤ ((rd (rd_L2 t378 x295_5) 1) : Int) := of_decide_eq_true (by (with_reducible assumption))
                          have q418 : (rd (rd_L2 t378 x295_5) 1) < (l0.length : Int) := of_decide_eq_true (by (with_reducible assumption))
                          obtain ⟨ad418, e418, hx418_0, hx418_1⟩ := at_T38 HR0.out (rd (rd_L2 t378 x295_5) 1) p418 q418
                          have hw418_1 := hx418_1
                          have hw418_0 := hx418_0
                          obtain rfl : ad416 = ad418 := (by injection e418)
                          (try replace hx418_0 := (HB.out.cell (World.block_lt_of_cell? w _ hx418_0)).trans hx418_0)
                          (try replace hx418_1 := (HB.out.cell (World.block_lt_of_cell? w _ hx418_1)).trans hx418_1)
                          replace p418 := eq_true p418
                          replace q418 := eq_true q418
                          refine start_ (n := 14) (S := fun w' => w'.cell? ad402 = some (.int .i64 (rd (rd_L2 t378 x295_5) 0)) ∧ w'.cell? (ad416.add (((rd (rd_L2 t378 x295_5) 0)).toNat * 2)) = some (.int .i64 ((rd_T38 l0 (rd (rd_L2 t378 x295_5) 0)).f0)) ∧ w'.cell? ⟨(ad416.add (((rd (rd_L2 t378 x295_5) 0)).toNat * 2)).block, (ad416.add (((rd (rd_L2 t378 x295_5) 0)).toNat * 2)).off + 1, none⟩ = some (.int .i64 ((rd_T38 l0 (rd (rd_L2 t378 x295_5) 0)).f1)) ∧ w'.cell? ⟨ad402.block, ad402.off + 1, none⟩ = some (.int .i64 (rd (rd_L2 t378 x295_5) 1)) ∧ w'.cell? (ad416.add (((rd (rd_L2 t378 x295_5) 1)).toNat * 2)) = some (.int .i64 ((rd_T38 l0 (rd (rd_L2 t378 x295_5) 1)).f0)) ∧ w'.cell? ⟨(ad416.add (((rd (rd_L2 t378 x295_5) 1)).toNat * 2)).block, (ad416.add (((rd (rd_L2 t378 x295_5) 1)).toNat * 2)).off + 1, none⟩ = some (.int .i64 ((rd_T38 l0 (rd (rd_L2 t378 x295_5) 1)).f1))) (ds := []) #[false, false, false, false, false, false, false, false, false, false, false, false, false, false] (by kernel_rfl) rfl rfl ⟨hx415_0, ((HB.out.cell (World.block_lt_of_cell? w _ hw416_0)).trans hw416_0), ((HB.out.cell (World.block_lt_of_cell? w _ hw416_1)).trans hw416_1), hx417_0, ((HB.out.cell (World.block_lt_of_cell? w _ hw418_0)).trans hw418_0), ((HB.out.cell (World.block_lt_of_cell? w _ hw418_1)).trans hw418_1)⟩ (fun hHeld => ?_); refine with_tabW laws_FnPacesMeetOfAll.tab32 laws_FnPacesMeetOfAll.bits32 (fun HT_ HW_ => ?_)
                          generalize w213.drew = w214 at HO_29 HO_293 HL401_0 HR401_0 HB hx415_0 hx416_0 hx416_1 hx417_0 hx418_0 hx418_1 hHeld ⊢
                          refine pure_ (i := 0) (N := some 326) (v := ?_) (a' := ?_) #[true, false, false, false, false, false, false, false, false, false, false, false, false, false] rfl rfl (any_of HT_.out (by kernel_rfl)) (fun _ _ _ h => h) (Or.inl ⟨by rfl, ?_⟩) ?_ ?_
                          rotate_left
                          · intro w'
                            go_simp
                            with_reducible rfl
                          rotate_left
                          · simp only [Act.put, List.setIfInBounds_toArray, List.set_cons_zero, List.set_cons_succ, i64_w, i32_w]
                            rfl
                          refine pure_ (i := 1) (N := some 327) (v := ?_) (a' := ?_) #[true, true, false, false, false, false, false, false, false, false, false, false, false, false] rfl rfl (any_of HT_.out (by kernel_rfl)) (fun _ _ _ h => h) (Or.inl ⟨by rfl, ?_⟩) ?_ ?_
                          rotate_left
                          · intro w'
                            go_simp
                            with_reducible rfl
                          rotate_left
                          · simp only [Act.put, List.setIfInBounds_toArray, List.set_cons_zero, List.set_cons_succ, i64_w, i32_w]
                            rfl
                          refine pure_ (i := 2) (N := some 328) (v := ?_) (a' := ?_) #[true, true, true, false, false, false, false, false, false, false, false, false, false, false] rfl rfl (any_of HT_.out (by kernel_rfl)) (fun _ _ _ h => h) (Or.inl ⟨by rfl, ?_⟩) ?_ ?_
                          rotate_left
                          · intro w'
                            go_simp
                            with_reducible rfl
                          rotate_left
                          · simp only [Act.put, List.setIfInBounds_toArray, List.set_cons_zero, List.set_cons_succ, i64_w, i32_w]
                            rfl
                          refine pure_ (i := 6) (N := some 332) (v := ?_) (a' := ?_) #[true, true, true, false, false, false, true, false, false, false, false, false, false, false] rfl rfl (any_of HT_.out (by kernel_rfl)) (fun _ _ _ h => h) (Or.inl ⟨by rfl, ?_⟩) ?_ ?_
                          rotate_left
                          · intro w'
                            go_simp
                            with_reducible rfl
                          rotate_left
                          · simp only [Act.put, List.setIfInBounds_toArray, List.set_cons_zero, List.set_cons_succ, i64_w, i32_w]
                            rfl
                          refine pure_ (i := 7) (N := some 333) (v := ?_) (a' := ?_) #[true, true, true, false, false, false, true, true, false, false, false, false, false, false] rfl rfl (any_of HT_.out (by kernel_rfl)) (fun _ _ _ h => h) (Or.inl ⟨by rfl, ?_⟩) ?_ ?_
                          rotate_left
                          · intro w'
                            go_simp
                            with_reducible rfl
                          rotate_left
                          · simp only [Act.put, List.setIfInBounds_toArray, List.set_cons_zero, List.set_cons_succ, i64_w, i32_w]
                            rfl
                          refine pure_ (i := 8) (N := some 334) (v := ?_) (a' := ?_) #[true, true, true, false, false, false, true, true, true, false, false, false, false, false] rfl rfl (any_of HT_.out (by kernel_rfl)) (fun _ _ _ h => h) (Or.inl ⟨by rfl, ?_⟩) ?_ ?_
                          rotate_left
                          · intro w'
                            go_simp
                            with_reducible rfl
                          rotate_left
                          · simp only [Act.put, List.setIfInBounds_toArray, List.set_cons_zero, List.set_cons_succ, i64_w, i32_w]
                            rfl
                          refine take_ (i := 3) (N := some 329) (v := ?_) (a' := ?_) #[true, true, true, true, false, false, true, true, true, false, false, false, false, false] rfl rfl (take_ofW HT_.out HW_.out (by kernel_rfl)) (fun _ _ _ h => h) (Or.inl ⟨by rfl, ?_⟩) hHeld ?_ ?_
                          rotate_left
                          · rintro w' ⟨s0, s1, s2, s3, s4, s5⟩
                            go_simp
                            with_reducible rfl
                          rotate_left
                          · simp only [Act.put, List.setIfInBounds_toArray, List.set_cons_zero, List.set_cons_succ, i64_w, i32_w]
                            rfl
                          refine pure_ (i := 4) (N := some 330) (v := ?_) (a' := ?_) #[true, true, true, true, true, false, true, true, true, false, false, false, false, false] rfl rfl (any_of HT_.out (by kernel_rfl)) (fun _ _ _ h => h) (Or.inl ⟨by rfl, ?_⟩) ?_ ?_
                          rotate_left
                          · intro w'
                            go_simp
                            with_reducible rfl
                          rotate_left
                          · simp only [Act.put, List.setIfInBounds_toArray, List.set_cons_zero, List.set_cons_succ, i64_w, i32_w]
                            rfl
                          refine take_ (i := 5) (N := some 331) (v := ?_) (a' := ?_) #[true, true, true, true, true, true, true, true, true, false, false, false, false, false] rfl rfl (take_ofW HT_.out HW_.out (by kernel_rfl)) (fun _ _ _ h => h) (Or.inl ⟨by rfl, ?_⟩) hHeld ?_ ?_
                          rotate_left
                          · rintro w' ⟨s0, s1, s2, s3, s4, s5⟩
                            go_simp
                            with_reducible rfl
                          rotate_left
                          · simp only [Act.put, List.setIfInBounds_toArray, List.set_cons_zero, List.set_cons_succ, i64_w, i32_w]
                            rfl
                          refine take_ (i := 9) (N := some 335) (v := ?_) (a' := ?_) #[true, true, true, true, true, true, true, true, true, true, false, false, false, false] rfl rfl (take_ofW HT_.out HW_.out (by kernel_rfl)) (fun _ _ _ h => h) (Or.inl ⟨by rfl, ?_⟩) hHeld ?_ ?_
                          rotate_left
                          · rintro w' ⟨s0, s1, s2, s3, s4, s5⟩
                            go_simp
                            with_reducible rfl
                          rotate_left
                          · simp only [Act.put, List.setIfInBounds_toArray, List.set_cons_zero, List.set_cons_succ, i64_w, i32_w]
                            rfl
                          refine pure_ (i := 10) (N := some 336) (v := ?_) (a' := ?_) #[true, true, true, true, true, true, true, true, true, true, true, false, false, false] rfl rfl (any_of HT_.out (by kernel_rfl)) (fun _ _ _ h => h) (Or.inl ⟨by rfl, ?_⟩) ?_ ?_
                          rotate_left
                          · intro w'
                            go_simp
                            with_reducible rfl
                          rotate_left
                          · simp only [Act.put, List.setIfInBounds_toArray, List.set_cons_zero, List.set_cons_succ, i64_w, i32_w]
                            rfl
                          refine take_ (i := 11) (N := some 337) (v := ?_) (a' := ?_) #[true, true, true, true, true, true, true, true, true, true, true, true, false, false] rfl rfl (take_ofW HT_.out HW_.out (by kernel_rfl)) (fun _ _ _ h => h) (Or.inl ⟨by rfl, ?_⟩) hHeld ?_ ?_
                          rotate_left
                          · rintro w' ⟨s0, s1, s2, s3, s4, s5⟩
                            go_simp
                            with_reducible rfl
                          rotate_left
                          · simp only [Act.put, List.setIfInBounds_toArray, List.set_cons_zero, List.set_cons_succ, i64_w, i32_w]
                            rfl
                          refine one_ (i := 12) (N := some 338) #[true, true, true, true, true, true, true, true, true, true, true, true, true, false] rfl rfl (one_of HT_.out (by kernel_rfl)) (by decide) (fun K hK => ?_)
                          refine Kd.R_lit_step k38 _ 38 ?hg (N := 338) ?hd (xs := ([(⟨(rd_T38 l0 (rd (rd_L2 t378 x295_5) 0)).f0, (rd_T38 l0 (rd (rd_L2 t378 x295_5) 0)).f1⟩ : S38), (⟨(rd_T38 l0 (rd (rd_L2 t378 x295_5) 1)).f0, (rd_T38 l0 (rd (rd_L2 t378 x295_5) 1)).f1⟩ : S38)] : List (S38))) (inner := [.int .i64 ((rd_T38 l0 (rd (rd_L2 t378 x295_5) 0)).f0), .int .i64 ((rd_T38 l0 (rd (rd_L2 t378 x295_5) 0)).f1), .int .i64 ((rd_T38 l0 (rd (rd_L2 t378 x295_5) 1)).f0), .int .i64 ((rd_T38 l0 (rd (rd_L2 t378 x295_5) 1)).f1)]) (ok := fun _ => True) (okp := fun _ => True) ?hr ?hp (fun _ hk => hk) trivial (Below.refl _ _) (Nat.le_refl _) (by simp) ?_; (case hd => rfl); (case hg => rfl); (case hr => (go_simp; done)); (case hp => exact (Reps.c2 (show Kd.M k38 _ _ _ (⟨(rd_T38 l0 (rd (rd_L2 t378 x295_5) 0)).f0, (rd_T38 l0 (rd (rd_L2 t378 x295_5) 0)).f1⟩ : S38) [.int .i64 ((rd_T38 l0 (rd (rd_L2 t378 x295_5) 0)).f0), .int .i64 ((rd_T38 l0 (rd (rd_L2 t378 x295_5) 0)).f1)] from (k38_mkM _ _ _ (⟨(rd_T38 l0 (rd (rd_L2 t378 x295_5) 0)).f0, (rd_T38 l0 (rd (rd_L2 t378 x295_5) 0)).f1⟩ : S38) )) (Reps.c2 (show Kd.M k38 _ _ _ (⟨(rd_T38 l0 (rd (rd_L2 t378 x295_5) 1)).f0, (rd_T38 l0 (rd (rd_L2 t378 x295_5) 1)).f1⟩ : S38) [.int .i64 ((rd_T38 l0 (rd (rd_L2 t378 x295_5) 1)).f0), .int .i64 ((rd_T38 l0 (rd (rd_L2 t378 x295_5) 1)).f1)] from (k38_mkM _ _ _ (⟨(rd_T38 l0 (rd (rd_L2 t378 x295_5) 1)).f0, (rd_T38 l0 (rd (rd_L2 t378 x295_5) 1)).f1⟩ : S38) )) (Reps.none _ _))))
                          intro v420 w215 ho216 hb hg_ hnew_
                          have HS0_ := (hb.cell (World.block_lt_of_cell? _ _ (hHeld.1))).trans (hHeld.1)
                          have HS3_ := (hb.cell (World.block_lt_of_cell? _ _ (hHeld.2.2.2.1))).trans (hHeld.2.2.2.1)
                          clear hg_ hnew_
                          ((rw [← Ny419.out] at ho216))
                          have n0_ := Aside0.mk (Kd.S_below (by (with_reducible repeat (fail)); exact HO_29.out) hb)
                          have n1_ := Aside0.mk (Kd.S_below (by (with_reducible repeat (fail)); exact HO_293.out) hb)
                          have n2_ := Aside0.mk (Kd.R_below (by (with_reducible repeat (fail)); exact HL401_0.out) hb)
                          have n3_ := Aside0.mk (Kd.R_lower ho216 (below_size (by repeat ((with_reducible (exact HB.out))))))
                          have n4_ := Aside0.mk (Kd.C_below (by repeat ((with_reducible exact HR401_0.out))) hb)
                          have n5_ := Aside0.mk (below_step (by repeat ((with_reducible (exact HB.out)))) hb)
                          clear HO_29 HO_293 HL401_0 HR401_0 HB
                          have HO_29 := n0_
                          have HO_293 := n1_
                          have HL401_0 := n2_
                          have HO421 := n3_
                          have HR401_0 := n4_
                          have HB := n5_
                          clear n0_ n1_ n2_ n3_ n4_ n5_ hb ho216
                          refine hK.out _ _ ⟨HS0_, ((HB.out.cell (World.block_lt_of_cell? w _ hw416_0)).trans hw416_0), ((HB.out.cell (World.block_lt_of_cell? w _ hw416_1)).trans hw416_1), HS3_, ((HB.out.cell (World.block_lt_of_cell? w _ hw418_0)).trans hw418_0), ((HB.out.cell (World.block_lt_of_cell? w _ hw418_1)).trans hw418_1)⟩ (fun hHeld => ?_)
                          clear hK K
                          refine norm_ (a' := ?_) ?_ ?_
                          rotate_left
                          · show Act.put _ (some 338) _ = _
                            simp only [Act.put, List.setIfInBounds_toArray, List.set_cons_zero, List.set_cons_succ, i64_w, i32_w]
                            rfl
                          refine pure_ (i := 13) (N := some 43) (v := ?_) (a' := ?_) #[true, true, true, true, true, true, true, true, true, true, true, true, true, true] rfl rfl (any_of HT_.out (by kernel_rfl)) (fun _ _ _ h => h) (Or.inl ⟨by rfl, ?_⟩) ?_ ?_
                          rotate_left
                          · intro w'
                            go_simp
                            with_reducible rfl
                          rotate_left
                          · simp only [Act.put, List.setIfInBounds_toArray, List.set_cons_zero, List.set_cons_succ, i64_w, i32_w]
                            rfl
                          refine done_ (done_of HT_.out (by kernel_rfl)) ?_
                          obtain ⟨Ao217, co217, eo217⟩ := Kd.R_slice HO421.out
                          subst eo217
                          try go_wp2_with (((with_reducible refine gate_callee (f := 4) rfl ?_); refine goesL_ (some 341) rfl rfl Tryz.func4 (by kernel_rfl) rfl #[.slice Ao217 y419.length co217] rfl (by (try simp only [List.map_toArray, List.map_cons, List.map_nil]); rfl) ?_; (with_reducible refine (impl_FirstTogether.calls k5 _ _ y419 t422 false _ ?side1 ?side2 A205.out).mono ?_); (case side1 => repeat ((exact (Kd.R_reads' HO421.out).2.2))); (case side2 => exact (Kd.R_reads' HO421.out).2.1); rintro e w218 ⟨rfl, hb⟩; refine ⟨_, rfl, ?_⟩; have n0_ := Aside0.mk (Kd.S_below (by (with_reducible repeat (fail)); exact HO_29.out) hb); have n1_ := Aside0.mk (Kd.S_below (by (with_reducible repeat (fail)); exact HO_293.out) hb); have n2_ := Aside0.mk (Kd.R_below (by (with_reducible repeat (fail)); exact HL401_0.out) hb); have n3_ := Aside0.mk (Kd.R_below (by (with_reducible repeat (fail)); exact HO421.out) hb); have n4_ := Aside0.mk (Kd.C_below (by repeat ((with_reducible exact HR401_0.out))) hb); have n5_ := Aside0.mk (below_step (by repeat ((with_reducible (exact HB.out)))) hb); clear HO_29; clear HO_293; clear HL401_0; clear HO421; clear HR401_0; clear HB; have HO_29 := n0_; have HO_293 := n1_; have HL401_0 := n2_; have HO421 := n3_; have HR401_0 := n4_; have HB := n5_; clear n0_ n1_ n2_ n3_ n4_ n5_; (try clear hb); (try clear hb2); (try clear hk); (try clear hi)))
                          (go_roundg k5)
                          case measure => (exact Nat.lt_succ_self _)
                          case rel => exact ⟨(wrap64 (x295_5 + 1)), (by rfl), H', ⟨by (exact Nat.le_of_lt HK5.out)⟩, ⟨by (with_reducible repeat (fail)); exact HO_29.out⟩, ⟨by (with_reducible repeat (fail)); exact HO_293.out⟩, ⟨by repeat ((with_reducible (exact HB.out)))⟩⟩
                        rw [if_pos c176] at H
                        have c176b0 : decide (0 < x295_5) = true := decide_eq_true c176
                        clear c176
                        obtain ⟨ji177, hji177⟩ : ∃ j_ : Int, (wrap64 (x295_5 - 1)) = j_ := ⟨_, rfl⟩
                        replace H : (if 0 ≤ (ji177) then (if (ji177) < (t378.length : Int) then ((laws_mBefore.f k5 (rd_L2 t378 (ji177)) (rd_L2 t378 x295_5)).bind fun t405 => (if t405 = true then (if 0 ≤ (rd (rd_L2 t378 x295_5) 0) then (if (rd (rd_L2 t378 x295_5) 0) < (l0.length : Int) then (if 0 ≤ (rd (rd_L2 t378 x295_5) 1) then (if (rd (rd_L2 t378 x295_5) 1) < (l0.length : Int) then ((impl_FirstTogether.f k5 (([(⟨(rd_T38 l0 (rd (rd_L2 t378 x295_5) 0)).f0, (rd_T38 l0 (rd (rd_L2 t378 x295_5) 0)).f1⟩ : S38), (⟨(rd_T38 l0 (rd (rd_L2 t378 x295_5) 1)).f0, (rd_T38 l0 (rd (rd_L2 t378 x295_5) 1)).f1⟩ : S38)] : List (S38)))).bind fun bt413 => (if bt413.2 = true then (some false) else (laws_FnPacesMeetOfAll.l1 k5 l0 l1 a2 l3 a4 t360 t361 t364 t368 t369 t370 t374 t378 t378 (t378.length : Int) (wrap64 (x295_5 + 1))))) else (none)) else (none)) else (none)) else (none)) else (some false))) else (none)) else (none)) = some r := by (rw [hji177] at H; exact H)
                        have hji177w : (IntKind.i64.wrap (x295_5 - 1)) = ji177 := (i64_w _).trans hji177
                        by_cases c178 : 0 ≤ (ji177)
                        rotate_left
                        · rw [if_neg c178] at H
                          exact absurd H (by simp)
                        rw [if_pos c178] at H
                        have c178b0 : decide (0 ≤ (ji177)) = true := decide_eq_true c178
                        clear c178
                        by_cases c179 : (ji177) < (t378.length : Int)
                        rotate_left
                        · rw [if_neg c179] at H
                          exact absurd H (by simp)
                        rw [if_pos c179] at H
                        have c179b0 : decide ((ji177) < (t378.length : Int)) = true := decide_eq_true c179
                        clear c179
                        replace H := Option.bind_eq_some_iff.mp H
                        obtain ⟨t405, A1800, H⟩ := H
                        (try dsimp only at H)
                        have A180 := Aside0.mk A1800
                        clear A1800
                        by_cases c181 : t405 = true
                        rotate_left
                        · replace c181 := Bool.eq_false_iff.mpr c181
                          subst c181
                          rw [if_neg (show ¬ (false = true) by decide)] at H
                          exact absurd (hrt.symm.trans (Option.some.inj H).symm) (by decide)
                        subst c181
                        rw [if_pos rfl] at H
                        by_cases c182 : 0 ≤ (rd (rd_L2 t378 x295_5) 0)
                        rotate_left
                        · rw [if_neg c182] at H
                          exact absurd H (by simp)
                        rw [if_pos c182] at H
                        have c182b0 : decide (0 ≤ (rd (rd_L2 t378 x295_5) 0)) = true := decide_eq_true c182
                        clear c182
                        by_cases c183 : (rd (rd_L2 t378 x295_5) 0) < (l0.length : Int)
                        rotate_left
                        · rw [if_neg c183] at H
                          exact absurd H (by simp)
                        rw [if_pos c183] at H
                        have c183b0 : decide ((rd (rd_L2 t378 x295_5) 0) < (l0.length : Int)) = true := decide_eq_true c183
                        clear c183
                        by_cases c184 : 0 ≤ (rd (rd_L2 t378 x295_5) 1)
                        rotate_left
                        · rw [if_neg c184] at H
                          exact absurd H (by simp)
                        rw [if_pos c184] at H
                        have c184b0 : decide (0 ≤ (rd (rd_L2 t378 x295_5) 1)) = true := decide_eq_true c184
                        clear c184
                        by_cases c185 : (rd (rd_L2 t378 x295_5) 1) < (l0.length : Int)
                        rotate_left
                        · rw [if_neg c185] at H
                          exact absurd H (by simp)
                        rw [if_pos c185] at H
                        have c185b0 : decide ((rd (rd_L2 t378 x295_5) 1) < (l0.length : Int)) = true := decide_eq_true c185
                        clear c185
                        obtain ⟨y410, hy410⟩ : ∃ y_ : List (S38), y_ = (([(⟨(rd_T38 l0 (rd (rd_L2 t378 x295_5) 0)).f0, (rd_T38 l0 (rd (rd_L2 t378 x295_5) 0)).f1⟩ : S38), (⟨(rd_T38 l0 (rd (rd_L2 t378 x295_5) 1)).f0, (rd_T38 l0 (rd (rd_L2 t378 x295_5) 1)).f1⟩ : S38)] : List (S38))) := ⟨_, rfl⟩
                        replace H : ((impl_FirstTogether.f k5 y410).bind fun bt413 => (if bt413.2 = true then (some false) else (laws_FnPacesMeetOfAll.l1 k5 l0 l1 a2 l3 a4 t360 t361 t364 t368 t369 t370 t374 t378 t378 (t378.length : Int) (wrap64 (x295_5 + 1))))) = some r := by (rw [hy410]; with_reducible exact H)
                        have Ny410 := Aside0.mk hy410
                        clear hy410
                        replace H := Option.bind_eq_some_iff.mp H
                        obtain ⟨⟨t413, t414⟩, A1860, H⟩ := H
                        (try dsimp only at H)
                        have A186 := Aside0.mk A1860
                        clear A1860
                        by_cases c187 : t414 = true
                        · subst c187
                          rw [if_pos rfl] at H
                          exact absurd (hrt.symm.trans (Option.some.inj H).symm) (by decide)
                        replace c187 := Bool.eq_false_iff.mpr c187
                        subst c187
                        rw [if_neg (show ¬ (false = true) by decide)] at H
                        have H' := Aside0.mk H
                        clear H
                        have p401 : 0 ≤ (x295_5 : Int) := of_decide_eq_true (by (with_reducible assumption))
                        have q401 : x295_5 < (t378.length : Int) := of_decide_eq_true (by (with_reducible assumption))
                        obtain ⟨ad401, A401_0, c401_0, e401, hx401_0, hl401_0, hi401_0⟩ := at_L2 (Kd.S_reads' HO_293.out).2.2 x295_5 p401 q401
                        cases e401
                        obtain ⟨ce401, hce401, hMe401, hcc401⟩ := Kd.S_get HO_293.out [] x295_5 p401 (by (exact q401))
                        obtain ⟨ve401_0, rfl, ge401_0⟩ := hMe401
                        have hv401_0 := hcc401 0 _ rfl
                        rw [Nat.add_zero, show ((Kd.slice 3 (Kd.int .i64))).sz = 1 from rfl, Nat.mul_one] at hv401_0
                        replace hv401_0 := Option.some.inj (hv401_0.symm.trans hx401_0)
                        rw [hv401_0] at ge401_0
                        have HL401_0 := Aside0.mk (show Kd.R (Kd.int .i64) 3 _ _ _ _ (rd_L2 t378 x295_5) from ge401_0)
                        clear hv401_0 ge401_0 hcc401 hce401
                        have HR401_0 := Aside0.mk hi401_0
                        have HC401_0 := Aside0.mk hl401_0
                        clear hi401_0 hl401_0
                        replace p401 := eq_true p401
                        replace q401 := eq_true q401
                        try go_wp2
                        have n0_ := Aside0.mk (Kd.S_drew HO_29.out)
                        have n1_ := Aside0.mk (Kd.S_drew HO_293.out)
                        have n2_ := Aside0.mk (Kd.R_drew HL401_0.out)
                        have n3_ := Aside0.mk (Kd.C_drew HR401_0.out)
                        have n4_ := Aside0.mk (below_drew1 HB.out)
                        clear HO_29 HO_293 HL401_0 HR401_0 HB
                        have HO_29 := n0_
                        have HO_293 := n1_
                        have HL401_0 := n2_
                        have HR401_0 := n3_
                        have HB := n4_
                        clear n0_ n1_ n2_ n3_ n4_
                        have p402 : 0 ≤ (0 : Int) := (by omega)
                        have q402 : 0 < ((rd_L2 t378 x295_5).length : Int) := of_decide_eq_true (by (with_reducible assumption))
                        obtain ⟨ad402, e402, hx402_0⟩ := Kd.at_int (by repeat ((with_reducible exact HR401_0.out))) 0 p402 q402
                        cases e402
                        have qi402 : (0 < (rd_L2 t378 x295_5).length) = True := eq_true (by omega)
                        (try rw [show ((0 : Int)).toNat = 0 from rfl] at hx402_0)
                        (try rw [Addr.add_zero'] at hx402_0)
                        replace p402 := eq_true p402
                        replace q402 := eq_true q402
                        have p403 : 0 ≤ (1 : Int) := (by omega)
                        have q403 : 1 < ((rd_L2 t378 x295_5).length : Int) := of_decide_eq_true (by (with_reducible assumption))
                        obtain ⟨ad403, e403, hx403_0⟩ := Kd.at_int (by repeat ((with_reducible exact HR401_0.out))) 1 p403 q403
                        obtain rfl : ad402 = ad403 := (by injection e403)
                        (try simp only [show (1 : Int).toNat = 1 from rfl, Nat.reduceMul, Nat.reduceEqDiff, Go.Addr.add, ↓reduceIte] at hx403_0)
                        have qi403 : (1 < (rd_L2 t378 x295_5).length) = True := eq_true (by omega)
                        (try rw [show ((1 : Int)).toNat = 1 from rfl] at hx403_0)
                        replace p403 := eq_true p403
                        replace q403 := eq_true q403
                        have p404 : 0 ≤ ((ji177) : Int) := of_decide_eq_true (by (with_reducible assumption))
                        have q404 : (ji177) < (t378.length : Int) := of_decide_eq_true (by (with_reducible assumption))
                        obtain ⟨ad404, A404_0, c404_0, e404, hx404_0, hl404_0, hi404_0⟩ := at_L2 (Kd.S_reads' HO_29.out).2.2 (ji177) p404 q404
                        obtain rfl : ad401 = ad404 := (by injection e404)
                        obtain ⟨ce404, hce404, hMe404, hcc404⟩ := Kd.S_get HO_29.out [] (ji177) p404 (by (exact q404))
                        obtain ⟨ve404_0, rfl, ge404_0⟩ := hMe404
                        have hv404_0 := hcc404 0 _ rfl
                        rw [Nat.add_zero, show ((Kd.slice 3 (Kd.int .i64))).sz = 1 from rfl, Nat.mul_one] at hv404_0
                        replace hv404_0 := Option.some.inj (hv404_0.symm.trans hx404_0)
                        rw [hv404_0] at ge404_0
                        have HL404_0 := Aside0.mk (show Kd.R (Kd.int .i64) 3 _ _ _ _ (rd_L2 t378 (ji177)) from ge404_0)
                        clear hv404_0 ge404_0 hcc404 hce404
                        have HR404_0 := Aside0.mk hi404_0
                        have HC404_0 := Aside0.mk hl404_0
                        clear hi404_0 hl404_0
                        replace p404 := eq_true p404
                        replace q404 := eq_true q404
                        refine start_ (n := 26) (S := fun w' => w'.cell? ad402 = some (.int .i64 (rd (rd_L2 t378 x295_5) 0)) ∧ w'.cell? ⟨ad402.block, ad402.off + 1, none⟩ = some (.int .i64 (rd (rd_L2 t378 x295_5) 1)) ∧ w'.cell? (ad401.add ((ji177)).toNat) = some (.slice A404_0 (rd_L2 t378 (ji177)).length c404_0)) (ds := []) #[false, false, false, false, false, false, false, false, false, false, false, false, false, false, false, false, false, false, false, false, false, false, false, false, false, false] (by kernel_rfl) rfl rfl ⟨hx402_0, hx403_0, hx404_0⟩ (fun hHeld => ?_); refine with_tabW laws_FnPacesMeetOfAll.tab30 laws_FnPacesMeetOfAll.bits30 (fun HT_ HW_ => ?_)
                        generalize wr.drew = w194 at HO_29 HO_293 HL401_0 HR401_0 HB HL404_0 HR404_0 hx402_0 hx403_0 hx404_0 hHeld ⊢
                        refine pure_ (i := 0) (N := some 300) (v := ?_) (a' := ?_) #[true, false, false, false, false, false, false, false, false, false, false, false, false, false, false, false, false, false, false, false, false, false, false, false, false, false] rfl rfl (any_of HT_.out (by kernel_rfl)) (fun _ _ _ h => h) (Or.inl ⟨by rfl, ?_⟩) ?_ ?_
                        rotate_left
                        · intro w'
                          go_simp
                          with_reducible rfl
                        rotate_left
                        · simp only [Act.put, List.setIfInBounds_toArray, List.set_cons_zero, List.set_cons_succ, i64_w, i32_w]
                          rfl
                        refine pure_ (i := 1) (N := some 301) (v := ?_) (a' := ?_) #[true, true, false, false, false, false, false, false, false, false, false, false, false, false, false, false, false, false, false, false, false, false, false, false, false, false] rfl rfl (any_of HT_.out (by kernel_rfl)) (fun _ _ _ h => h) (Or.inl ⟨by rfl, ?_⟩) ?_ ?_
                        rotate_left
                        · intro w'
                          go_simp
                          with_reducible rfl
                        rotate_left
                        · simp only [Act.put, List.setIfInBounds_toArray, List.set_cons_zero, List.set_cons_succ, i64_w, i32_w]
                          rfl
                        refine pure_ (i := 2) (N := some 302) (v := ?_) (a' := ?_) #[true, true, true, false, false, false, false, false, false, false, false, false, false, false, false, false, false, false, false, false, false, false, false, false, false, false] rfl rfl (any_of HT_.out (by kernel_rfl)) (fun _ _ _ h => h) (Or.inl ⟨by rfl, ?_⟩) ?_ ?_
                        rotate_left
                        · intro w'
                          go_simp
                          with_reducible rfl
                        rotate_left
                        · simp only [Act.put, List.setIfInBounds_toArray, List.set_cons_zero, List.set_cons_succ, i64_w, i32_w]
                          rfl
                        refine pure_ (i := 3) (N := some 303) (v := ?_) (a' := ?_) #[true, true, true, true, false, false, false, false, false, false, false, false, false, false, false, false, false, false, false, false, false, false, false, false, false, false] rfl rfl (any_of HT_.out (by kernel_rfl)) (fun _ _ _ h => h) (Or.inl ⟨by rfl, ?_⟩) ?_ ?_
                        rotate_left
                        · intro w'
                          go_simp
                          with_reducible rfl
                        rotate_left
                        · simp only [Act.put, List.setIfInBounds_toArray, List.set_cons_zero, List.set_cons_succ, i64_w, i32_w]
                          rfl
                        refine pure_ (i := 4) (N := some 304) (v := ?_) (a' := ?_) #[true, true, true, true, true, false, false, false, false, false, false, false, false, false, false, false, false, false, false, false, false, false, false, false, false, false] rfl rfl (any_of HT_.out (by kernel_rfl)) (fun _ _ _ h => h) (Or.inl ⟨by rfl, ?_⟩) ?_ ?_
                        rotate_left
                        · intro w'
                          go_simp
                          with_reducible rfl
                        rotate_left
                        · simp only [Act.put, List.setIfInBounds_toArray, List.set_cons_zero, List.set_cons_succ, i64_w, i32_w]
                          rfl
                        refine pure_ (i := 5) (N := some 305) (v := ?_) (a' := ?_) #[true, true, true, true, true, true, false, false, false, false, false, false, false, false, false, false, false, false, false, false, false, false, false, false, false, false] rfl rfl (any_of HT_.out (by kernel_rfl)) (fun _ _ _ h => h) (Or.inl ⟨by rfl, ?_⟩) ?_ ?_
                        rotate_left
                        · intro w'
                          go_simp
                          with_reducible rfl
                        rotate_left
                        · simp only [Act.put, List.setIfInBounds_toArray, List.set_cons_zero, List.set_cons_succ, i64_w, i32_w]
                          rfl
                        refine pure_ (i := 7) (N := some 307) (v := ?_) (a' := ?_) #[true, true, true, true, true, true, false, true, false, false, false, false, false, false, false, false, false, false, false, false, false, false, false, false, false, false] rfl rfl (any_of HT_.out (by kernel_rfl)) (fun _ _ _ h => h) (Or.inl ⟨by rfl, ?_⟩) ?_ ?_
                        rotate_left
                        · intro w'
                          go_simp
                          with_reducible rfl
                        rotate_left
                        · simp only [Act.put, List.setIfInBounds_toArray, List.set_cons_zero, List.set_cons_succ, i64_w, i32_w]
                          rfl
                        refine pure_ (i := 8) (N := some 308) (v := ?_) (a' := ?_) #[true, true, true, true, true, true, false, true, true, false, false, false, false, false, false, false, false, false, false, false, false, false, false, false, false, false] rfl rfl (any_of HT_.out (by kernel_rfl)) (fun _ _ _ h => h) (Or.inl ⟨by rfl, ?_⟩) ?_ ?_
                        rotate_left
                        · intro w'
                          go_simp
                          with_reducible rfl
                        rotate_left
                        · simp only [Act.put, List.setIfInBounds_toArray, List.set_cons_zero, List.set_cons_succ, i64_w, i32_w]
                          rfl
                        refine take_ (i := 6) (N := some 306) (v := ?_) (a' := ?_) #[true, true, true, true, true, true, true, true, true, false, false, false, false, false, false, false, false, false, false, false, false, false, false, false, false, false] rfl rfl (take_ofW HT_.out HW_.out (by kernel_rfl)) (fun _ _ _ h => h) (Or.inl ⟨by rfl, ?_⟩) hHeld ?_ ?_
                        rotate_left
                        · rintro w' ⟨s0, s1, s2⟩
                          go_simp
                          with_reducible rfl
                        rotate_left
                        · simp only [Act.put, List.setIfInBounds_toArray, List.set_cons_zero, List.set_cons_succ, i64_w, i32_w]
                          rfl
                        refine take_ (i := 9) (N := some 309) (v := ?_) (a' := ?_) #[true, true, true, true, true, true, true, true, true, true, false, false, false, false, false, false, false, false, false, false, false, false, false, false, false, false] rfl rfl (take_ofW HT_.out HW_.out (by kernel_rfl)) (fun _ _ _ h => h) (Or.inl ⟨by rfl, ?_⟩) hHeld ?_ ?_
                        rotate_left
                        · rintro w' ⟨s0, s1, s2⟩
                          go_simp
                          with_reducible rfl
                        rotate_left
                        · simp only [Act.put, List.setIfInBounds_toArray, List.set_cons_zero, List.set_cons_succ, i64_w, i32_w]
                          rfl
                        refine pure_ (i := 10) (N := some 310) (v := ?_) (a' := ?_) #[true, true, true, true, true, true, true, true, true, true, true, false, false, false, false, false, false, false, false, false, false, false, false, false, false, false] rfl rfl (any_of HT_.out (by kernel_rfl)) (fun _ _ _ h => h) (Or.inl ⟨by rfl, ?_⟩) ?_ ?_
                        rotate_left
                        · intro w'
                          go_simp
                          with_reducible rfl
                        rotate_left
                        · simp only [Act.put, List.setIfInBounds_toArray, List.set_cons_zero, List.set_cons_succ, i64_w, i32_w]
                          rfl
                        refine pure_ (i := 11) (N := some 311) (v := ?_) (a' := ?_) #[true, true, true, true, true, true, true, true, true, true, true, true, false, false, false, false, false, false, false, false, false, false, false, false, false, false] rfl rfl (any_of HT_.out (by kernel_rfl)) (fun _ _ _ h => h) (Or.inl ⟨by rfl, ?_⟩) ?_ ?_
                        rotate_left
                        · intro w'
                          go_simp
                          with_reducible rfl
                        rotate_left
                        · simp only [Act.put, List.setIfInBounds_toArray, List.set_cons_zero, List.set_cons_succ, i64_w, i32_w]
                          rfl
                        refine pure_ (i := 12) (N := some 312) (v := ?_) (a' := ?_) #[true, true, true, true, true, true, true, true, true, true, true, true, true, false, false, false, false, false, false, false, false, false, false, false, false, false] rfl rfl (any_of HT_.out (by kernel_rfl)) (fun _ _ _ h => h) (Or.inl ⟨by rfl, ?_⟩) ?_ ?_
                        rotate_left
                        · intro w'
                          go_simp
                          with_reducible rfl
                        rotate_left
                        · simp only [Act.put, List.setIfInBounds_toArray, List.set_cons_zero, List.set_cons_succ, i64_w, i32_w]
                          rfl
                        refine pure_ (i := 13) (N := some 313) (v := ?_) (a' := ?_) #[true, true, true, true, true, true, true, true, true, true, true, true, true, true, false, false, false, false, false, false, false, false, false, false, false, false] rfl rfl (any_of HT_.out (by kernel_rfl)) (fun _ _ _ h => h) (Or.inl ⟨by rfl, ?_⟩) ?_ ?_
                        rotate_left
                        · intro w'
                          go_simp
                          with_reducible rfl
                        rotate_left
                        · simp only [Act.put, List.setIfInBounds_toArray, List.set_cons_zero, List.set_cons_succ, i64_w, i32_w]
                          rfl
                        refine pure_ (i := 14) (N := some 314) (v := ?_) (a' := ?_) #[true, true, true, true, true, true, true, true, true, true, true, true, true, true, true, false, false, false, false, false, false, false, false, false, false, false] rfl rfl (any_of HT_.out (by kernel_rfl)) (fun _ _ _ h => h) (Or.inl ⟨by rfl, ?_⟩) ?_ ?_
                        rotate_left
                        · intro w'
                          go_simp
                          with_reducible rfl
                        rotate_left
                        · simp only [Act.put, List.setIfInBounds_toArray, List.set_cons_zero, List.set_cons_succ, i64_w, i32_w]
                          rfl
                        refine pure_ (i := 15) (N := some 315) (v := ?_) (a' := ?_) #[true, true, true, true, true, true, true, true, true, true, true, true, true, true, true, true, false, false, false, false, false, false, false, false, false, false] rfl rfl (any_of HT_.out (by kernel_rfl)) (fun _ _ _ h => h) (Or.inl ⟨by rfl, ?_⟩) ?_ ?_
                        rotate_left
                        · intro w'
                          go_simp
                          with_reducible rfl
                        rotate_left
                        · simp only [Act.put, List.setIfInBounds_toArray, List.set_cons_zero, List.set_cons_succ, i64_w, i32_w]
                          rfl
                        refine pure_ (i := 16) (N := some 316) (v := ?_) (a' := ?_) #[true, true, true, true, true, true, true, true, true, true, true, true, true, true, true, true, true, false, false, false, false, false, false, false, false, false] rfl rfl (any_of HT_.out (by kernel_rfl)) (fun _ _ _ h => h) (Or.inl ⟨by rfl, ?_⟩) ?_ ?_
                        rotate_left
                        · intro w'
                          go_simp
                          with_reducible rfl
                        rotate_left
                        · simp only [Act.put, List.setIfInBounds_toArray, List.set_cons_zero, List.set_cons_succ, i64_w, i32_w]
                          rfl
                        refine pure_ (i := 17) (N := some 317) (v := ?_) (a' := ?_) #[true, true, true, true, true, true, true, true, true, true, true, true, true, true, true, true, true, true, false, false, false, false, false, false, false, false] rfl rfl (any_of HT_.out (by kernel_rfl)) (fun _ _ _ h => h) (Or.inl ⟨by rfl, ?_⟩) ?_ ?_
                        rotate_left
                        · intro w'
                          go_simp
                          with_reducible rfl
                        rotate_left
                        · simp only [Act.put, List.setIfInBounds_toArray, List.set_cons_zero, List.set_cons_succ, i64_w, i32_w]
                          rfl
                        refine pure_ (i := 18) (N := some 318) (v := ?_) (a' := ?_) #[true, true, true, true, true, true, true, true, true, true, true, true, true, true, true, true, true, true, true, false, false, false, false, false, false, false] rfl rfl (any_of HT_.out (by kernel_rfl)) (fun _ _ _ h => h) (Or.inl ⟨by rfl, ?_⟩) ?_ ?_
                        rotate_left
                        · intro w'
                          go_simp
                          with_reducible rfl
                        rotate_left
                        · simp only [Act.put, List.setIfInBounds_toArray, List.set_cons_zero, List.set_cons_succ, i64_w, i32_w]
                          rfl
                        refine pure_ (i := 19) (N := some 319) (v := ?_) (a' := ?_) #[true, true, true, true, true, true, true, true, true, true, true, true, true, true, true, true, true, true, true, true, false, false, false, false, false, false] rfl rfl (any_of HT_.out (by kernel_rfl)) (fun _ _ _ h => h) (Or.inl ⟨by rfl, ?_⟩) ?_ ?_
                        rotate_left
                        · intro w'
                          go_simp
                          with_reducible rfl
                        rotate_left
                        · simp only [Act.put, List.setIfInBounds_toArray, List.set_cons_zero, List.set_cons_succ, i64_w, i32_w]
                          rfl
                        refine pure_ (i := 21) (N := some 321) (v := ?_) (a' := ?_) #[true, true, true, true, true, true, true, true, true, true, true, true, true, true, true, true, true, true, true, true, false, true, false, false, false, false] rfl rfl (any_of HT_.out (by kernel_rfl)) (fun _ _ _ h => h) (Or.inl ⟨by rfl, ?_⟩) ?_ ?_
                        rotate_left
                        · intro w'
                          go_simp
                          with_reducible rfl
                        rotate_left
                        · simp only [Act.put, List.setIfInBounds_toArray, List.set_cons_zero, List.set_cons_succ, i64_w, i32_w]
                          rfl
                        refine take_ (i := 20) (N := some 320) (v := ?_) (a' := ?_) #[true, true, true, true, true, true, true, true, true, true, true, true, true, true, true, true, true, true, true, true, true, true, false, false, false, false] rfl rfl (take_ofW HT_.out HW_.out (by kernel_rfl)) (fun _ _ _ h => h) (Or.inl ⟨by rfl, ?_⟩) hHeld ?_ ?_
                        rotate_left
                        · rintro w' ⟨s0, s1, s2⟩
                          go_simp
                          with_reducible rfl
                        rotate_left
                        · simp only [Act.put, List.setIfInBounds_toArray, List.set_cons_zero, List.set_cons_succ, i64_w, i32_w]
                          rfl
                        refine one_ (i := 22) (N := some 322) #[true, true, true, true, true, true, true, true, true, true, true, true, true, true, true, true, true, true, true, true, true, true, true, false, false, false] rfl rfl (one_of HT_.out (by kernel_rfl)) (by decide) (fun K hK => ?_)
                        refine goes_ Tryz.func21 (by kernel_rfl) rfl #[.slice A404_0 (rd_L2 t378 (ji177)).length c404_0, .slice (some ad402) (rd_L2 t378 x295_5).length c401_0] (by rfl) rfl rfl (by (try simp only [List.map_toArray, List.map_cons, List.map_nil]); rfl) ?_
                        with_reducible refine (laws_mBefore.calls k5 _ _ (rd_L2 t378 (ji177)) _ _ (rd_L2 t378 x295_5) true _ ?side1 ?side2 ?side3 ?side4 A180.out).mono ?_
                        (case side1 => repeat ((exact (by repeat ((with_reducible exact HR404_0.out))))))
                        (case side2 => exact HC404_0.out)
                        (case side3 => repeat ((exact (by repeat ((with_reducible exact HR401_0.out))))))
                        (case side4 => exact HC401_0.out)
                        rintro e w' ⟨rfl, ⟨nd, rfl⟩⟩
                        refine ⟨_, rfl, ?_⟩
                        refine hK.out _ _ ⟨hHeld.1, hHeld.2.1, hHeld.2.2⟩ (fun hHeld => ?_)
                        clear hK K
                        refine norm_ (a' := ?_) ?_ ?_
                        rotate_left
                        · show Act.put _ (some 322) _ = _
                          simp only [Act.put, List.setIfInBounds_toArray, List.set_cons_zero, List.set_cons_succ, i64_w, i32_w]
                          rfl
                        refine pure_ (i := 23) (N := some 323) (v := ?_) (a' := ?_) #[true, true, true, true, true, true, true, true, true, true, true, true, true, true, true, true, true, true, true, true, true, true, true, true, false, false] rfl rfl (any_of HT_.out (by kernel_rfl)) (fun _ _ _ h => h) (Or.inl ⟨by rfl, ?_⟩) ?_ ?_
                        rotate_left
                        · intro w'
                          go_simp
                          with_reducible rfl
                        rotate_left
                        · simp only [Act.put, List.setIfInBounds_toArray, List.set_cons_zero, List.set_cons_succ, i64_w, i32_w]
                          rfl
                        refine pure_ (i := 24) (N := some 324) (v := ?_) (a' := ?_) #[true, true, true, true, true, true, true, true, true, true, true, true, true, true, true, true, true, true, true, true, true, true, true, true, true, false] rfl rfl (any_of HT_.out (by kernel_rfl)) (fun _ _ _ h => h) (Or.inl ⟨by rfl, ?_⟩) ?_ ?_
                        rotate_left
                        · intro w'
                          go_simp
                          with_reducible rfl
                        rotate_left
                        · simp only [Act.put, List.setIfInBounds_toArray, List.set_cons_zero, List.set_cons_succ, i64_w, i32_w]
                          rfl
                        refine pure_ (i := 25) (N := some 325) (v := ?_) (a' := ?_) #[true, true, true, true, true, true, true, true, true, true, true, true, true, true, true, true, true, true, true, true, true, true, true, true, true, true] rfl rfl (any_of HT_.out (by kernel_rfl)) (fun _ _ _ h => h) (Or.inl ⟨by rfl, ?_⟩) ?_ ?_
                        rotate_left
                        · intro w'
                          go_simp
                          with_reducible rfl
                        rotate_left
                        · simp only [Act.put, List.setIfInBounds_toArray, List.set_cons_zero, List.set_cons_succ, i64_w, i32_w]
                          rfl
                        refine done_ (done_of HT_.out (by kernel_rfl)) ?_
                        try go_wp2
                        (try (rw [drewN_self w194]; generalize hq_ : World.drewN w194 _ = w194; have n0_ : Aside0 (Kd.R (Kd.int .i64) 3 w194 w.heap.size (fun k_ => some k_ ≠ (.slice (some ad401) t378.length co167 : Value).ownBlock) (.slice (some ad402) (rd_L2 t378 x295_5).length c401_0) (rd_L2 t378 x295_5)) := ⟨by rw [← hq_]; exact (by (with_reducible repeat ((apply Kd.R_drewN))); exact Kd.R_mono HL401_0.out (fun _ hk => hk.2))⟩; have n1_ : Aside0 (Kd.R (Kd.int .i64) 3 w194 w.heap.size (fun k_ => some k_ ≠ (.slice (some ad401) t378.length co167 : Value).ownBlock) (.slice A404_0 (rd_L2 t378 (ji177)).length c404_0) (rd_L2 t378 (ji177))) := ⟨by rw [← hq_]; exact (by (with_reducible repeat ((apply Kd.R_drewN))); exact Kd.R_mono HL404_0.out (fun _ hk => hk.2))⟩; have n2_ : Aside0 (Kd.S (Kd.slice 3 (Kd.int .i64)) 39 w194 w.heap.size (fun _ => True) (.slice (some ad401) t378.length co167) t378) := ⟨by rw [← hq_]; exact (by (with_reducible repeat ((apply Kd.S_drewN))); exact HO_29.out)⟩; have n3_ : Aside0 (Kd.S (Kd.slice 3 (Kd.int .i64)) 39 w194 w.heap.size (fun _ => True) (.slice (some ad401) t378.length co167) t378) := ⟨by rw [← hq_]; exact (by (with_reducible repeat ((apply Kd.S_drewN))); exact HO_293.out)⟩; have n4_ : Aside0 (Below w.heap.size w w194) := ⟨by rw [← hq_]; exact (by repeat ((with_reducible first | exact HB.out | apply pw_below_drewN)))⟩; have n5_ : Aside0 (Kd.C (Kd.int .i64) w194 (some ad402) (rd_L2 t378 x295_5).length (rd_L2 t378 x295_5)) := ⟨by rw [← hq_]; exact (by repeat (first | (with_reducible exact HR401_0.out) | (with_reducible refine Kd.C_drewN ?_ _)))⟩; have n6_ : Aside0 (Kd.C (Kd.int .i64) w194 A404_0 (rd_L2 t378 (ji177)).length (rd_L2 t378 (ji177))) := ⟨by rw [← hq_]; exact (by repeat (first | (with_reducible exact HR404_0.out) | (with_reducible refine Kd.C_drewN ?_ _)))⟩; clear HL401_0 HL404_0 HO_29 HO_293 HB HR401_0 HR404_0 hq_; have HL401_0 := n0_; have HL404_0 := n1_; have HO_29 := n2_; have HO_293 := n3_; have HB := n4_; have HR401_0 := n5_; have HR404_0 := n6_; clear n0_ n1_ n2_ n3_ n4_ n5_ n6_))
                        have n0_ := Aside0.mk (Kd.S_drew HO_29.out)
                        have n1_ := Aside0.mk (Kd.S_drew HO_293.out)
                        have n2_ := Aside0.mk (Kd.R_drew HL401_0.out)
                        have n3_ := Aside0.mk (Kd.R_drew HL404_0.out)
                        have n4_ := Aside0.mk (Kd.C_drew HR401_0.out)
                        have n5_ := Aside0.mk (Kd.C_drew HR404_0.out)
                        have n6_ := Aside0.mk (below_drew1 HB.out)
                        clear HO_29 HO_293 HL401_0 HL404_0 HR401_0 HR404_0 HB
                        have HO_29 := n0_
                        have HO_293 := n1_
                        have HL401_0 := n2_
                        have HL404_0 := n3_
                        have HR401_0 := n4_
                        have HR404_0 := n5_
                        have HB := n6_
                        clear n0_ n1_ n2_ n3_ n4_ n5_ n6_
                        have p406 : 0 ≤ (0 : Int) := (by omega)
                        have q406 : 0 < ((rd_L2 t378 x295_5).length : Int) := of_decide_eq_true (by (with_reducible assumption))
                        obtain ⟨ad406, e406, hx406_0⟩ := Kd.at_int (by repeat ((with_reducible exact HR401_0.out))) 0 p406 q406
                        obtain rfl : ad402 = ad406 := (by injection e406)
                        have qi406 : (0 < (rd_L2 t378 x295_5).length) = True := eq_true (by omega)
                        (try rw [show ((0 : Int)).toNat = 0 from rfl] at hx406_0)
                        (try rw [Addr.add_zero'] at hx406_0)
                        replace p406 := eq_true p406
                        replace q406 := eq_true q406
                        have p407 : 0 ≤ ((rd (rd_L2 t378 x295_5) 0) : Int) := of_decide_eq_true (by (with_reducible assumption))
                        have q407 : (rd (rd_L2 t378 x295_5) 0) < (l0.length : Int) := of_decide_eq_true (by (with_reducible assumption))
                        obtain ⟨ad407, e407, hx407_0, hx407_1⟩ := at_T38 HR0.out (rd (rd_L2 t378 x295_5) 0) p407 q407
                        have hw407_1 := hx407_1
                        have hw407_0 := hx407_0
                        cases e407
                        (try replace hx407_0 := (HB.out.cell (World.block_lt_of_cell? w _ hx407_0)).trans hx407_0)
                        (try replace hx407_1 := (HB.out.cell (World.block_lt_of_cell? w _ hx407_1)).trans hx407_1)
                        replace p407 := eq_true p407
                        replace q407 := eq_true q407
                        have p408 : 0 ≤ (1 : Int) := (by omega)
                        have q408 : 1 < ((rd_L2 t378 x295_5).length : Int) := of_decide_eq_true (by (with_reducible assumption))
                        obtain ⟨ad408, e408, hx408_0⟩ := Kd.at_int (by repeat ((with_reducible exact HR401_0.out))) 1 p408 q408
                        obtain rfl : ad402 = ad408 := (by injection e408)
                        (try simp only [show (1 : Int).toNat = 1 from rfl, Nat.reduceMul, Nat.reduceEqDiff, Go.Addr.add, ↓reduceIte] at hx408_0)
                        have qi408 : (1 < (rd_L2 t378 x295_5).length) = True := eq_true (by omega)
                        (try rw [show ((1 : Int)).toNat = 1 from rfl] at hx408_0)
                        replace p408 := eq_true p408
                        replace q408 := eq_true q408
                        have p409 : 0 ≤ ((rd (rd_L2 t378 x295_5) 1) : Int) := of_decide_eq_true (by (with_reducible assumption))
                        have q409 : (rd (rd_L2 t378 x295_5) 1) < (l0.length : Int) := of_decide_eq_true (by (with_reducible assumption))
                        obtain ⟨ad409, e409, hx409_0, hx409_1⟩ := at_T38 HR0.out (rd (rd_L2 t378 x295_5) 1) p409 q409
                        have hw409_1 := hx409_1
                        have hw409_0 := hx409_0
                        obtain rfl : ad407 = ad409 := (by injection e409)
                        (try replace hx409_0 := (HB.out.cell (World.block_lt_of_cell? w _ hx409_0)).trans hx409_0)
                        (try replace hx409_1 := (HB.out.cell (World.block_lt_of_cell? w _ hx409_1)).trans hx409_1)
                        replace p409 := eq_true p409
                        replace q409 := eq_true q409
                        refine start_ (n := 14) (S := fun w' => w'.cell? ad402 = some (.int .i64 (rd (rd_L2 t378 x295_5) 0)) ∧ w'.cell? (ad407.add (((rd (rd_L2 t378 x295_5) 0)).toNat * 2)) = some (.int .i64 ((rd_T38 l0 (rd (rd_L2 t378 x295_5) 0)).f0)) ∧ w'.cell? ⟨(ad407.add (((rd (rd_L2 t378 x295_5) 0)).toNat * 2)).block, (ad407.add (((rd (rd_L2 t378 x295_5) 0)).toNat * 2)).off + 1, none⟩ = some (.int .i64 ((rd_T38 l0 (rd (rd_L2 t378 x295_5) 0)).f1)) ∧ w'.cell? ⟨ad402.block, ad402.off + 1, none⟩ = some (.int .i64 (rd (rd_L2 t378 x295_5) 1)) ∧ w'.cell? (ad407.add (((rd (rd_L2 t378 x295_5) 1)).toNat * 2)) = some (.int .i64 ((rd_T38 l0 (rd (rd_L2 t378 x295_5) 1)).f0)) ∧ w'.cell? ⟨(ad407.add (((rd (rd_L2 t378 x295_5) 1)).toNat * 2)).block, (ad407.add (((rd (rd_L2 t378 x295_5) 1)).toNat * 2)).off + 1, none⟩ = some (.int .i64 ((rd_T38 l0 (rd (rd_L2 t378 x295_5) 1)).f1))) (ds := []) #[false, false, false, false, false, false, false, false, false, false, false, false, false, false] (by kernel_rfl) rfl rfl ⟨hx406_0, ((HB.out.cell (World.block_lt_of_cell? w _ hw407_0)).trans hw407_0), ((HB.out.cell (World.block_lt_of_cell? w _ hw407_1)).trans hw407_1), hx408_0, ((HB.out.cell (World.block_lt_of_cell? w _ hw409_0)).trans hw409_0), ((HB.out.cell (World.block_lt_of_cell? w _ hw409_1)).trans hw409_1)⟩ (fun hHeld => ?_); refine with_tabW laws_FnPacesMeetOfAll.tab32 laws_FnPacesMeetOfAll.bits32 (fun HT_ HW_ => ?_)
                        generalize w194.drew = w195 at HO_29 HO_293 HL401_0 HL404_0 HR401_0 HR404_0 HB hx406_0 hx407_0 hx407_1 hx408_0 hx409_0 hx409_1 hHeld ⊢
                        refine pure_ (i := 0) (N := some 326) (v := ?_) (a' := ?_) #[true, false, false, false, false, false, false, false, false, false, false, false, false, false] rfl rfl (any_of HT_.out (by kernel_rfl)) (fun _ _ _ h => h) (Or.inl ⟨by rfl, ?_⟩) ?_ ?_
                        rotate_left
                        · intro w'
                          go_simp
                          with_reducible rfl
                        rotate_left
                        · simp only [Act.put, List.setIfInBounds_toArray, List.set_cons_zero, List.set_cons_succ, i64_w, i32_w]
                          rfl
                        refine pure_ (i := 1) (N := some 327) (v := ?_) (a' := ?_) #[true, true, false, false, false, false, false, false, false, false, false, false, false, false] rfl rfl (any_of HT_.out (by kernel_rfl)) (fun _ _ _ h => h) (Or.inl ⟨by rfl, ?_⟩) ?_ ?_
                        rotate_left
                        · intro w'
                          go_simp
                          with_reducible rfl
                        rotate_left
                        · simp only [Act.put, List.setIfInBounds_toArray, List.set_cons_zero, List.set_cons_succ, i64_w, i32_w]
                          rfl
                        refine pure_ (i := 2) (N := some 328) (v := ?_) (a' := ?_) #[true, true, true, false, false, false, false, false, false, false, false, false, false, false] rfl rfl (any_of HT_.out (by kernel_rfl)) (fun _ _ _ h => h) (Or.inl ⟨by rfl, ?_⟩) ?_ ?_
                        rotate_left
                        · intro w'
                          go_simp
                          with_reducible rfl
                        rotate_left
                        · simp only [Act.put, List.setIfInBounds_toArray, List.set_cons_zero, List.set_cons_succ, i64_w, i32_w]
                          rfl
                        refine pure_ (i := 6) (N := some 332) (v := ?_) (a' := ?_) #[true, true, true, false, false, false, true, false, false, false, false, false, false, false] rfl rfl (any_of HT_.out (by kernel_rfl)) (fun _ _ _ h => h) (Or.inl ⟨by rfl, ?_⟩) ?_ ?_
                        rotate_left
                        · intro w'
                          go_simp
                          with_reducible rfl
                        rotate_left
                        · simp only [Act.put, List.setIfInBounds_toArray, List.set_cons_zero, List.set_cons_succ, i64_w, i32_w]
                          rfl
                        refine pure_ (i := 7) (N := some 333) (v := ?_) (a' := ?_) #[true, true, true, false, false, false, true, true, false, false, false, false, false, false] rfl rfl (any_of HT_.out (by kernel_rfl)) (fun _ _ _ h => h) (Or.inl ⟨by rfl, ?_⟩) ?_ ?_
                        rotate_left
                        · intro w'
                          go_simp
                          with_reducible rfl
                        rotate_left
                        · simp only [Act.put, List.setIfInBounds_toArray, List.set_cons_zero, List.set_cons_succ, i64_w, i32_w]
                          rfl
                        refine pure_ (i := 8) (N := some 334) (v := ?_) (a' := ?_) #[true, true, true, false, false, false, true, true, true, false, false, false, false, false] rfl rfl (any_of HT_.out (by kernel_rfl)) (fun _ _ _ h => h) (Or.inl ⟨by rfl, ?_⟩) ?_ ?_
                        rotate_left
                        · intro w'
                          go_simp
                          with_reducible rfl
                        rotate_left
                        · simp only [Act.put, List.setIfInBounds_toArray, List.set_cons_zero, List.set_cons_succ, i64_w, i32_w]
                          rfl
                        refine take_ (i := 3) (N := some 329) (v := ?_) (a' := ?_) #[true, true, true, true, false, false, true, true, true, false, false, false, false, false] rfl rfl (take_ofW HT_.out HW_.out (by kernel_rfl)) (fun _ _ _ h => h) (Or.inl ⟨by rfl, ?_⟩) hHeld ?_ ?_
                        rotate_left
                        · rintro w' ⟨s0, s1, s2, s3, s4, s5⟩
                          go_simp
                          with_reducible rfl
                        rotate_left
                        · simp only [Act.put, List.setIfInBounds_toArray, List.set_cons_zero, List.set_cons_succ, i64_w, i32_w]
                          rfl
                        refine pure_ (i := 4) (N := some 330) (v := ?_) (a' := ?_) #[true, true, true, true, true, false, true, true, true, false, false, false, false, false] rfl rfl (any_of HT_.out (by kernel_rfl)) (fun _ _ _ h => h) (Or.inl ⟨by rfl, ?_⟩) ?_ ?_
                        rotate_left
                        · intro w'
                          go_simp
                          with_reducible rfl
                        rotate_left
                        · simp only [Act.put, List.setIfInBounds_toArray, List.set_cons_zero, List.set_cons_succ, i64_w, i32_w]
                          rfl
                        refine take_ (i := 5) (N := some 331) (v := ?_) (a' := ?_) #[true, true, true, true, true, true, true, true, true, false, false, false, false, false] rfl rfl (take_ofW HT_.out HW_.out (by kernel_rfl)) (fun _ _ _ h => h) (Or.inl ⟨by rfl, ?_⟩) hHeld ?_ ?_
                        rotate_left
                        · rintro w' ⟨s0, s1, s2, s3, s4, s5⟩
                          go_simp
                          with_reducible rfl
                        rotate_left
                        · simp only [Act.put, List.setIfInBounds_toArray, List.set_cons_zero, List.set_cons_succ, i64_w, i32_w]
                          rfl
                        refine take_ (i := 9) (N := some 335) (v := ?_) (a' := ?_) #[true, true, true, true, true, true, true, true, true, true, false, false, false, false] rfl rfl (take_ofW HT_.out HW_.out (by kernel_rfl)) (fun _ _ _ h => h) (Or.inl ⟨by rfl, ?_⟩) hHeld ?_ ?_
                        rotate_left
                        · rintro w' ⟨s0, s1, s2, s3, s4, s5⟩
                          go_simp
                          with_reducible rfl
                        rotate_left
                        · simp only [Act.put, List.setIfInBounds_toArray, List.set_cons_zero, List.set_cons_succ, i64_w, i32_w]
                          rfl
                        refine pure_ (i := 10) (N := some 336) (v := ?_) (a' := ?_) #[true, true, true, true, true, true, true, true, true, true, true, false, false, false] rfl rfl (any_of HT_.out (by kernel_rfl)) (fun _ _ _ h => h) (Or.inl ⟨by rfl, ?_⟩) ?_ ?_
                        rotate_left
                        · intro w'
                          go_simp
                          with_reducible rfl
                        rotate_left
                        · simp only [Act.put, List.setIfInBounds_toArray, List.set_cons_zero, List.set_cons_succ, i64_w, i32_w]
                          rfl
                        refine take_ (i := 11) (N := some 337) (v := ?_) (a' := ?_) #[true, true, true, true, true, true, true, true, true, true, true, true, false, false] rfl rfl (take_ofW HT_.out HW_.out (by kernel_rfl)) (fun _ _ _ h => h) (Or.inl ⟨by rfl, ?_⟩) hHeld ?_ ?_
                        rotate_left
                        · rintro w' ⟨s0, s1, s2, s3, s4, s5⟩
                          go_simp
                          with_reducible rfl
                        rotate_left
                        · simp only [Act.put, List.setIfInBounds_toArray, List.set_cons_zero, List.set_cons_succ, i64_w, i32_w]
                          rfl
                        refine one_ (i := 12) (N := some 338) #[true, true, true, true, true, true, true, true, true, true, true, true, true, false] rfl rfl (one_of HT_.out (by kernel_rfl)) (by decide) (fun K hK => ?_)
                        refine Kd.R_lit_step k38 _ 38 ?hg (N := 338) ?hd (xs := ([(⟨(rd_T38 l0 (rd (rd_L2 t378 x295_5) 0)).f0, (rd_T38 l0 (rd (rd_L2 t378 x295_5) 0)).f1⟩ : S38), (⟨(rd_T38 l0 (rd (rd_L2 t378 x295_5) 1)).f0, (rd_T38 l0 (rd (rd_L2 t378 x295_5) 1)).f1⟩ : S38)] : List (S38))) (inner := [.int .i64 ((rd_T38 l0 (rd (rd_L2 t378 x295_5) 0)).f0), .int .i64 ((rd_T38 l0 (rd (rd_L2 t378 x295_5) 0)).f1), .int .i64 ((rd_T38 l0 (rd (rd_L2 t378 x295_5) 1)).f0), .int .i64 ((rd_T38 l0 (rd (rd_L2 t378 x295_5) 1)).f1)]) (ok := fun _ => True) (okp := fun _ => True) ?hr ?hp (fun _ hk => hk) trivial (Below.refl _ _) (Nat.le_refl _) (by simp) ?_; (case hd => rfl); (case hg => rfl); (case hr => (go_simp; done)); (case hp => exact (Reps.c2 (show Kd.M k38 _ _ _ (⟨(rd_T38 l0 (rd (rd_L2 t378 x295_5) 0)).f0, (rd_T38 l0 (rd (rd_L2 t378 x295_5) 0)).f1⟩ : S38) [.int .i64 ((rd_T38 l0 (rd (rd_L2 t378 x295_5) 0)).f0), .int .i64 ((rd_T38 l0 (rd (rd_L2 t378 x295_5) 0)).f1)] from (k38_mkM _ _ _ (⟨(rd_T38 l0 (rd (rd_L2 t378 x295_5) 0)).f0, (rd_T38 l0 (rd (rd_L2 t378 x295_5) 0)).f1⟩ : S38) )) (Reps.c2 (show Kd.M k38 _ _ _ (⟨(rd_T38 l0 (rd (rd_L2 t378 x295_5) 1)).f0, (rd_T38 l0 (rd (rd_L2 t378 x295_5) 1)).f1⟩ : S38) [.int .i64 ((rd_T38 l0 (rd (rd_L2 t378 x295_5) 1)).f0), .int .i64 ((rd_T38 l0 (rd (rd_L2 t378 x295_5) 1)).f1)] from (k38_mkM _ _ _ (⟨(rd_T38 l0 (rd (rd_L2 t378 x295_5) 1)).f0, (rd_T38 l0 (rd (rd_L2 t378 x295_5) 1)).f1⟩ : S38) )) (Reps.none _ _))))
                        intro v411 w196 ho197 hb hg_ hnew_
                        have HS0_ := (hb.cell (World.block_lt_of_cell? _ _ (hHeld.1))).trans (hHeld.1)
                        have HS3_ := (hb.cell (World.block_lt_of_cell? _ _ (hHeld.2.2.2.1))).trans (hHeld.2.2.2.1)
                        clear hg_ hnew_
                        ((rw [← Ny410.out] at ho197))
                        have n0_ := Aside0.mk (Kd.S_below (by (with_reducible repeat (fail)); exact HO_29.out) hb)
                        have n1_ := Aside0.mk (Kd.S_below (by (with_reducible repeat (fail)); exact HO_293.out) hb)
                        have n2_ := Aside0.mk (Kd.R_below (by (with_reducible repeat (fail)); exact HL401_0.out) hb)
                        have n3_ := Aside0.mk (Kd.R_below (by (with_reducible repeat (fail)); exact HL404_0.out) hb)
                        have n4_ := Aside0.mk (Kd.R_lower ho197 (below_size (by repeat ((with_reducible (exact HB.out))))))
                        have n5_ := Aside0.mk (Kd.C_below (by repeat ((with_reducible exact HR401_0.out))) hb)
                        have n6_ := Aside0.mk (Kd.C_below (by repeat ((with_reducible exact HR404_0.out))) hb)
                        have n7_ := Aside0.mk (below_step (by repeat ((with_reducible (exact HB.out)))) hb)
                        clear HO_29 HO_293 HL401_0 HL404_0 HR401_0 HR404_0 HB
                        have HO_29 := n0_
                        have HO_293 := n1_
                        have HL401_0 := n2_
                        have HL404_0 := n3_
                        have HO412 := n4_
                        have HR401_0 := n5_
                        have HR404_0 := n6_
                        have HB := n7_
                        clear n0_ n1_ n2_ n3_ n4_ n5_ n6_ n7_ hb ho197
                        refine hK.out _ _ ⟨HS0_, ((HB.out.cell (World.block_lt_of_cell? w _ hw407_0)).trans hw407_0), ((HB.out.cell (World.block_lt_of_cell? w _ hw407_1)).trans hw407_1), HS3_, ((HB.out.cell (World.block_lt_of_cell? w _ hw409_0)).trans hw409_0), ((HB.out.cell (World.block_lt_of_cell? w _ hw409_1)).trans hw409_1)⟩ (fun hHeld => ?_)
                        clear hK K
                        refine norm_ (a' := ?_) ?_ ?_
                        rotate_left
                        · show Act.put _ (some 338) _ = _
                          simp only [Act.put, List.setIfInBounds_toArray, List.set_cons_zero, List.set_cons_succ, i64_w, i32_w]
                          rfl
                        refine pure_ (i := 13) (N := some 43) (v := ?_) (a' := ?_) #[true, true, true, true, true, true, true, true, true, true, true, true, true, true] rfl rfl (any_of HT_.out (by kernel_rfl)) (fun _ _ _ h => h) (Or.inl ⟨by rfl, ?_⟩) ?_ ?_
                        rotate_left
                        · intro w'
                          go_simp
                          with_reducible rfl
                        rotate_left
                        · simp only [Act.put, List.setIfInBounds_toArray, List.set_cons_zero, List.set_cons_succ, i64_w, i32_w]
                          rfl
                        refine done_ (done_of HT_.out (by kernel_rfl)) ?_
                        obtain ⟨Ao198, co198, eo198⟩ := Kd.R_slice HO412.out
                        subst eo198
                        try go_wp2_with (((with_reducible refine gate_callee (f := 4) rfl ?_); refine goesL_ (some 341) rfl rfl Tryz.func4 (by kernel_rfl) rfl #[.slice Ao198 y410.length co198] rfl (by (try simp only [List.map_toArray, List.map_cons, List.map_nil]); rfl) ?_; (with_reducible refine (impl_FirstTogether.calls k5 _ _ y410 t413 false _ ?side1 ?side2 A186.out).mono ?_); (case side1 => repeat ((exact (Kd.R_reads' HO412.out).2.2))); (case side2 => exact (Kd.R_reads' HO412.out).2.1); rintro e w199 ⟨rfl, hb⟩; refine ⟨_, rfl, ?_⟩; have n0_ := Aside0.mk (Kd.S_below (by (with_reducible repeat (fail)); exact HO_29.out) hb); have n1_ := Aside0.mk (Kd.S_below (by (with_reducible repeat (fail)); exact HO_293.out) hb); have n2_ := Aside0.mk (Kd.R_below (by (with_reducible repeat (fail)); exact HL401_0.out) hb); have n3_ := Aside0.mk (Kd.R_below (by (with_reducible repeat (fail)); exact HL404_0.out) hb); have n4_ := Aside0.mk (Kd.R_below (by (with_reducible repeat (fail)); exact HO412.out) hb); have n5_ := Aside0.mk (Kd.C_below (by repeat ((with_reducible exact HR401_0.out))) hb); have n6_ := Aside0.mk (Kd.C_below (by repeat ((with_reducible exact HR404_0.out))) hb); have n7_ := Aside0.mk (below_step (by repeat ((with_reducible (exact HB.out)))) hb); clear HO_29; clear HO_293; clear HL401_0; clear HL404_0; clear HO412; clear HR401_0; clear HR404_0; clear HB; have HO_29 := n0_; have HO_293 := n1_; have HL401_0 := n2_; have HL404_0 := n3_; have HO412 := n4_; have HR401_0 := n5_; have HR404_0 := n6_; have HB := n7_; clear n0_ n1_ n2_ n3_ n4_ n5_ n6_ n7_; (try clear hb); (try clear hb2); (try clear hk); (try clear hi)))
                        (go_roundg k5)
                        case measure => (exact Nat.lt_succ_self _)
                        case rel => exact ⟨(wrap64 (x295_5 + 1)), (by rfl), H', ⟨by (exact Nat.le_of_lt HK5.out)⟩, ⟨by (with_reducible repeat (fail)); exact HO_29.out⟩, ⟨by (with_reducible repeat (fail)); exact HO_293.out⟩, ⟨by repeat ((with_reducible (exact HB.out)))⟩⟩
          case rest => as_aux_lemma =>
            clear HC140
            obtain ⟨kq, HA, HJ139, HB⟩ := hcut
            cases kq with
            | zero => exact absurd HA.out (by simp [laws_FnPacesMeetOfAll.j5])
            | succ kj139 =>
              have H := HA.out
              clear HA
              simp only [laws_FnPacesMeetOfAll.j5] at H
              have HC220 := Aside0.mk H
              clear H
              go_upto_region 37 with (fail)
              go_cut [350] from 350 to 350 (fun v350 wc => ∃ (kq : Nat) (x350_219 : Bool), v350 = .bool x350_219 ∧ Aside0 (laws_FnPacesMeetOfAll.j6 kq l0 l1 a2 l3 a4 t360 t361 t364 t368 t369 t370 t374 x350_219 = some r) ∧ Aside0 (kq ≤ kj139) ∧ Aside0 (Below w.heap.size w wc))
              case first => as_aux_lemma =>
                have H := HC220.out
                clear HC220
                by_cases c221 : t361 = true
                · subst c221
                  rw [if_pos rfl] at H
                  have H' := Aside0.mk H
                  clear H
                  go_wp2
                  go_meet
                  case rel => exact ⟨_, (decide (t360 ≤ 1000000000)), (by rfl), H', ⟨by (exact Nat.le_refl _)⟩, ⟨by repeat ((with_reducible (exact HB.out)))⟩⟩
                replace c221 := Bool.eq_false_iff.mpr c221
                subst c221
                rw [if_neg (show ¬ (false = true) by decide)] at H
                have H' := Aside0.mk H
                clear H
                go_wp2
                go_meet
                case rel => exact ⟨_, (false), (by rfl), H', ⟨by (exact Nat.le_refl _)⟩, ⟨by repeat ((with_reducible (exact HB.out)))⟩⟩
              case rest => as_aux_lemma =>
                clear HC220
                obtain ⟨kq, x350_219, rfl, HA, HJ219, HB⟩ := hcut
                cases kq with
                | zero => exact absurd HA.out (by simp [laws_FnPacesMeetOfAll.j6])
                | succ kj219 =>
                  have H := HA.out
                  clear HA
                  simp only [laws_FnPacesMeetOfAll.j6] at H
                  have HC222 := Aside0.mk H
                  clear H
                  go_upto_if 350 with (fail)
                  go_cut [] from 350 to 350 (fun wc => ∃ (kq : Nat), Aside0 (laws_FnPacesMeetOfAll.j7 kq l0 l1 a2 l3 a4 t361 t364 t368 t369 t370 t374 = some r) ∧ Aside0 (kq ≤ kj219) ∧ Aside0 (Below w.heap.size w wc))
                  case first => as_aux_lemma =>
                    have H := HC222.out
                    clear HC222
                    by_cases c223 : x350_219 = true
                    rotate_left
                    · replace c223 := Bool.eq_false_iff.mpr c223
                      subst c223
                      rw [if_neg (show ¬ (false = true) by decide)] at H
                      have H' := Aside0.mk H
                      clear H
                      go_wp2
                      go_meet
                      case rel => exact ⟨_, H', ⟨by (exact Nat.le_refl _)⟩, ⟨by repeat ((with_reducible (exact HB.out)))⟩⟩
                    subst c223
                    rw [if_pos rfl] at H
                    replace H := Option.bind_eq_some_iff.mp H
                    obtain ⟨⟨t424, t425⟩, A2240, H⟩ := H
                    (try dsimp only at H)
                    have A224 := Aside0.mk A2240
                    clear A2240
                    by_cases c225 : t425 = true
                    rotate_left
                    · replace c225 := Bool.eq_false_iff.mpr c225
                      subst c225
                      rw [if_neg (show ¬ (false = true) by decide)] at H
                      exact absurd (hrt.symm.trans (Option.some.inj H).symm) (by decide)
                    subst c225
                    rw [if_pos rfl] at H
                    by_cases c226 : (t424.length : Int) = (l0.length : Int)
                    rotate_left
                    · rw [if_neg c226] at H
                      have c226b0 : ((t424.length : Int) == (l0.length : Int)) = false := beq_eq_false_iff_ne.mpr c226
                      have c226b1 : ((t424.length : Int) != (l0.length : Int)) = true := bne_iff_ne.mpr c226
                      have c226b2 : (t424.length == l0.length) = false := by (simp at c226 ⊢; omega)
                      (skip)
                      exact absurd (hrt.symm.trans (Option.some.inj H).symm) (by decide)
                    rw [if_pos c226] at H
                    have c226b0 : ((t424.length : Int) == (l0.length : Int)) = true := beq_iff_eq.mpr c226
                    have c226b1 : ((t424.length : Int) != (l0.length : Int)) = false := bne_eq_false_iff_eq.mpr c226
                    have c226b2 : (t424.length == l0.length) = true := by (simp at c226 ⊢; omega)
                    clear c226
                    (skip)
                    have H' := Aside0.mk H
                    clear H
                    go_wp2_with (((with_reducible refine gate_callee (f := 22) rfl ?_); refine goesL_ (some 354) rfl rfl Tryz.func22 (by kernel_rfl) rfl #[.slice A0 l0.length c0, .int .i64 t360] rfl (by (try simp only [List.map_toArray, List.map_cons, List.map_nil]); rfl) ?_; (with_reducible refine (impl_SteppingAt.calls kj219 _ _ l0 t360 t424 true _ ?side1 ?side2 A224.out).mono ?_); (case side1 => repeat ((exact (Kd.C_below HR0.out HB.out)))); (case side2 => exact HC0.out); rintro e w227 ⟨v426, rfl, ho0, hb⟩; refine ⟨_, rfl, ?_⟩; have n0_ := Aside0.mk (Kd.R_lower ho0 (below_size (by repeat ((with_reducible (exact HB.out)))))); have n1_ := Aside0.mk (below_step (by repeat ((with_reducible (exact HB.out)))) hb); clear HB; have HO427 := n0_; have HB := n1_; clear n0_ n1_; (try clear hb); (try clear hb2); (try clear hk); (try clear hi); (try clear ho0); obtain ⟨Ao228, co228, eo228⟩ := Kd.R_slice HO427.out; subst eo228))
                    go_meet
                    case rel => exact ⟨_, H', ⟨by (exact Nat.le_refl _)⟩, ⟨by repeat ((with_reducible (exact HB.out)))⟩⟩
                  case rest => as_aux_lemma =>
                    clear HC222
                    obtain ⟨kq, HA, HJ221, HB⟩ := hcut
                    cases kq with
                    | zero => exact absurd HA.out (by simp [laws_FnPacesMeetOfAll.j7])
                    | succ kj221 =>
                      have H := HA.out
                      clear HA
                      simp only [laws_FnPacesMeetOfAll.j7] at H
                      have HC232 := Aside0.mk H
                      clear H
                      go_upto_if 366 with (fail)
                      go_cut [] from 366 to 366 (fun wc => ∃ (kq : Nat), Aside0 (laws_FnPacesMeetOfAll.j10 kq l1 a2 l3 a4 = some r) ∧ Aside0 (kq ≤ kj221) ∧ Aside0 (Below w.heap.size w wc))
                      case first => as_aux_lemma =>
                        have H := HC232.out
                        clear HC232
                        by_cases c233 : t370 = true
                        rotate_left
                        · replace c233 := Bool.eq_false_iff.mpr c233
                          subst c233
                          rw [if_neg (show ¬ (false = true) by decide)] at H
                          have H' := Aside0.mk H
                          clear H
                          go_wp2
                          go_meet
                          case rel => exact ⟨_, H', ⟨by (exact Nat.le_refl _)⟩, ⟨by repeat ((with_reducible (exact HB.out)))⟩⟩
                        subst c233
                        rw [if_pos rfl] at H
                        have H' := Aside0.mk H
                        clear H
                        go_wp2
                        go_loopg [48, 49, 50] kj221 (fun kq v48 v49 v50 w' => ∃ (x48_6 : Int) (x49_6 : Int) (x50_6 : Int), v48 = .int .i64 x48_6 ∧ v49 = .int .i64 x49_6 ∧ v50 = .int .i64 x50_6 ∧ Aside0 (laws_FnPacesMeetOfAll.l2 kq l0 l1 a2 l3 a4 t361 t364 t368 t369 t374 x48_6 x49_6 x50_6 = some r) ∧ Aside0 (kq ≤ kj221) ∧ Aside0 (Below w.heap.size w w'))
                        case atStart => exact ⟨(0), (0), (0), (by rfl), (by rfl), (by rfl), H', ⟨Nat.le_refl _⟩, ⟨by repeat ((with_reducible (exact HB.out)))⟩⟩
                        case round =>
                          clear H'
                          obtain ⟨x48_6, x49_6, x50_6, rfl, rfl, rfl, HA, HK6, HB⟩ := hrel
                          cases gk with
                          | zero => exact absurd HA.out (by simp [laws_FnPacesMeetOfAll.l2])
                          | succ k6 =>
                            have H := HA.out
                            clear HA
                            simp only [laws_FnPacesMeetOfAll.l2] at H
                            by_cases c234 : x50_6 ≤ (l0.length : Int)
                            · rw [if_pos c234] at H
                              have c234b0 : decide (x50_6 ≤ (l0.length : Int)) = true := decide_eq_true c234
                              clear c234
                              (skip)
                              replace H := Option.bind_eq_some_iff.mp H
                              obtain ⟨⟨t428, t429⟩, A2350, H⟩ := H
                              (try dsimp only at H)
                              have A235 := Aside0.mk A2350
                              clear A2350
                              by_cases c236 : t429 = true
                              rotate_left
                              · replace c236 := Bool.eq_false_iff.mpr c236
                                subst c236
                                rw [if_neg (show ¬ (false = true) by decide)] at H
                                exact absurd (hrt.symm.trans (Option.some.inj H).symm) (by decide)
                              subst c236
                              rw [if_pos rfl] at H
                              by_cases c237 : x50_6 > t368
                              rotate_left
                              · rw [if_neg c237] at H
                                have c237b0 : decide (t368 < x50_6) = false := decide_eq_false c237
                                clear c237
                                by_cases c245 : x50_6 = t368
                                rotate_left
                                · rw [if_neg c245] at H
                                  have c245b0 : (x50_6 == t368) = false := beq_eq_false_iff_ne.mpr c245
                                  have c245b1 : (x50_6 != t368) = true := bne_iff_ne.mpr c245
                                  have H' := Aside0.mk H
                                  clear H
                                  go_wp2_with (((with_reducible refine gate_callee (f := 23) rfl ?_); refine goesL_ (some 376) rfl rfl Tryz.func23 (by kernel_rfl) rfl #[.slice A0 l0.length c0, .int .i64 x50_6] rfl (by (try simp only [List.map_toArray, List.map_cons, List.map_nil]); rfl) ?_; (with_reducible refine (impl_CountAtOnce.calls k6 _ _ l0 x50_6 t428 true _ ?side1 ?side2 A235.out).mono ?_); (case side1 => repeat ((exact (Kd.C_below HR0.out HB.out)))); (case side2 => exact HC0.out); rintro e w249 ⟨rfl, hb⟩; refine ⟨_, rfl, ?_⟩; have n0_ := Aside0.mk (below_step (by repeat ((with_reducible (exact HB.out)))) hb); clear HB; have HB := n0_; clear n0_; (try clear hb); (try clear hb2); (try clear hk); (try clear hi)))
                                  (go_roundg k6)
                                  case measure => (exact Nat.lt_succ_self _)
                                  case rel => exact ⟨(wrap64 (x48_6 + t428)), (wrap64 (x49_6 + (wrap64 (x50_6 * t428)))), (wrap64 (x50_6 + 1)), (by rfl), (by rfl), (by rfl), H', ⟨by (exact Nat.le_of_lt HK6.out)⟩, ⟨by repeat ((with_reducible (exact HB.out)))⟩⟩
                                rw [if_pos c245] at H
                                have c245b0 : (x50_6 == t368) = true := beq_iff_eq.mpr c245
                                have c245b1 : (x50_6 != t368) = false := bne_eq_false_iff_eq.mpr c245
                                clear c245
                                by_cases c246 : t428 < 1
                                · rw [if_pos c246] at H
                                  have c246b0 : decide (t428 < 1) = true := decide_eq_true c246
                                  clear c246
                                  exact absurd (hrt.symm.trans (Option.some.inj H).symm) (by decide)
                                rw [if_neg c246] at H
                                have c246b0 : decide (t428 < 1) = false := decide_eq_false c246
                                clear c246
                                have H' := Aside0.mk H
                                clear H
                                go_wp2_with (((with_reducible refine gate_callee (f := 23) rfl ?_); refine goesL_ (some 376) rfl rfl Tryz.func23 (by kernel_rfl) rfl #[.slice A0 l0.length c0, .int .i64 x50_6] rfl (by (try simp only [List.map_toArray, List.map_cons, List.map_nil]); rfl) ?_; (with_reducible refine (impl_CountAtOnce.calls k6 _ _ l0 x50_6 t428 true _ ?side1 ?side2 A235.out).mono ?_); (case side1 => repeat ((exact (Kd.C_below HR0.out HB.out)))); (case side2 => exact HC0.out); rintro e w248 ⟨rfl, hb⟩; refine ⟨_, rfl, ?_⟩; have n0_ := Aside0.mk (below_step (by repeat ((with_reducible (exact HB.out)))) hb); clear HB; have HB := n0_; clear n0_; (try clear hb); (try clear hb2); (try clear hk); (try clear hi)))
                                (go_roundg k6)
                                case measure => (exact Nat.lt_succ_self _)
                                case rel => exact ⟨(wrap64 (x48_6 + t428)), (wrap64 (x49_6 + (wrap64 (x50_6 * t428)))), (wrap64 (x50_6 + 1)), (by rfl), (by rfl), (by rfl), H', ⟨by (exact Nat.le_of_lt HK6.out)⟩, ⟨by repeat ((with_reducible (exact HB.out)))⟩⟩
                              rw [if_pos c237] at H
                              have c237b0 : decide (t368 < x50_6) = true := decide_eq_true c237
                              clear c237
                              by_cases c238 : t428 = 0
                              rotate_left
                              · rw [if_neg c238] at H
                                have c238b0 : (t428 == 0) = false := beq_eq_false_iff_ne.mpr c238
                                have c238b1 : (t428 != 0) = true := bne_iff_ne.mpr c238
                                exact absurd (hrt.symm.trans (Option.some.inj H).symm) (by decide)
                              rw [if_pos c238] at H
                              have c238b0 : (t428 == 0) = true := beq_iff_eq.mpr c238
                              have c238b1 : (t428 != 0) = false := bne_eq_false_iff_eq.mpr c238
                              clear c238
                              by_cases c239 : x50_6 = t368
                              rotate_left
                              · rw [if_neg c239] at H
                                have c239b0 : (x50_6 == t368) = false := beq_eq_false_iff_ne.mpr c239
                                have c239b1 : (x50_6 != t368) = true := bne_iff_ne.mpr c239
                                have H' := Aside0.mk H
                                clear H
                                go_wp2_with (((with_reducible refine gate_callee (f := 23) rfl ?_); refine goesL_ (some 376) rfl rfl Tryz.func23 (by kernel_rfl) rfl #[.slice A0 l0.length c0, .int .i64 x50_6] rfl (by (try simp only [List.map_toArray, List.map_cons, List.map_nil]); rfl) ?_; (with_reducible refine (impl_CountAtOnce.calls k6 _ _ l0 x50_6 t428 true _ ?side1 ?side2 A235.out).mono ?_); (case side1 => repeat ((exact (Kd.C_below HR0.out HB.out)))); (case side2 => exact HC0.out); rintro e w243 ⟨rfl, hb⟩; refine ⟨_, rfl, ?_⟩; have n0_ := Aside0.mk (below_step (by repeat ((with_reducible (exact HB.out)))) hb); clear HB; have HB := n0_; clear n0_; (try clear hb); (try clear hb2); (try clear hk); (try clear hi)))
                                (go_roundg k6)
                                case measure => (exact Nat.lt_succ_self _)
                                case rel => exact ⟨(wrap64 (x48_6 + t428)), (wrap64 (x49_6 + (wrap64 (x50_6 * t428)))), (wrap64 (x50_6 + 1)), (by rfl), (by rfl), (by rfl), H', ⟨by (exact Nat.le_of_lt HK6.out)⟩, ⟨by repeat ((with_reducible (exact HB.out)))⟩⟩
                              rw [if_pos c239] at H
                              have c239b0 : (x50_6 == t368) = true := beq_iff_eq.mpr c239
                              have c239b1 : (x50_6 != t368) = false := bne_eq_false_iff_eq.mpr c239
                              clear c239
                              by_cases c240 : t428 < 1
                              · rw [if_pos c240] at H
                                have c240b0 : decide (t428 < 1) = true := decide_eq_true c240
                                clear c240
                                exact absurd (hrt.symm.trans (Option.some.inj H).symm) (by decide)
                              rw [if_neg c240] at H
                              have c240b0 : decide (t428 < 1) = false := decide_eq_false c240
                              clear c240
                              have H' := Aside0.mk H
                              clear H
                              go_wp2_with (((with_reducible refine gate_callee (f := 23) rfl ?_); refine goesL_ (some 376) rfl rfl Tryz.func23 (by kernel_rfl) rfl #[.slice A0 l0.length c0, .int .i64 x50_6] rfl (by (try simp only [List.map_toArray, List.map_cons, List.map_nil]); rfl) ?_; (with_reducible refine (impl_CountAtOnce.calls k6 _ _ l0 x50_6 t428 true _ ?side1 ?side2 A235.out).mono ?_); (case side1 => repeat ((exact (Kd.C_below HR0.out HB.out)))); (case side2 => exact HC0.out); rintro e w242 ⟨rfl, hb⟩; refine ⟨_, rfl, ?_⟩; have n0_ := Aside0.mk (below_step (by repeat ((with_reducible (exact HB.out)))) hb); clear HB; have HB := n0_; clear n0_; (try clear hb); (try clear hb2); (try clear hk); (try clear hi)))
                              (go_roundg k6)
                              case measure => (exact Nat.lt_succ_self _)
                              case rel => exact ⟨(wrap64 (x48_6 + t428)), (wrap64 (x49_6 + (wrap64 (x50_6 * t428)))), (wrap64 (x50_6 + 1)), (by rfl), (by rfl), (by rfl), H', ⟨by (exact Nat.le_of_lt HK6.out)⟩, ⟨by repeat ((with_reducible (exact HB.out)))⟩⟩
                            rw [if_neg c234] at H
                            have c234b0 : decide (x50_6 ≤ (l0.length : Int)) = false := decide_eq_false c234
                            clear c234
                            (skip)
                            replace H := Option.bind_eq_some_iff.mp H
                            obtain ⟨⟨t430, t431⟩, A2510, H⟩ := H
                            (try dsimp only at H)
                            have A251 := Aside0.mk A2510
                            clear A2510
                            replace H := Option.bind_eq_some_iff.mp H
                            obtain ⟨⟨t432, t433⟩, A2520, H⟩ := H
                            (try dsimp only at H)
                            have A252 := Aside0.mk A2520
                            clear A2520
                            have HC253 := Aside0.mk H
                            clear H
                            go_upto_region 53 with (first | ((with_reducible refine gate_callee (f := 24) rfl ?_); refine goesL_ (some 410) rfl rfl Tryz.func24 (by kernel_rfl) rfl #[.slice A0 l0.length c0, .int .i64 0, .int .i64 t364] rfl (by (try simp only [List.map_toArray, List.map_cons, List.map_nil]); rfl) ?_; (with_reducible refine (impl_StepsIn.calls k6 _ _ l0 0 t364 t430 t431 _ ?side1 ?side2 A251.out).mono ?_); (case side1 => repeat ((exact (Kd.C_below HR0.out HB.out)))); (case side2 => exact HC0.out); rintro e w254 ⟨rfl, hb⟩; refine ⟨_, rfl, ?_⟩; have n0_ := Aside0.mk (below_step (by repeat ((with_reducible (exact HB.out)))) hb); clear HB; have HB := n0_; clear n0_; (try clear hb); (try clear hb2); (try clear hk); (try clear hi)) | ((with_reducible refine gate_callee (f := 22) rfl ?_); refine goesL_ (some 416) rfl rfl Tryz.func22 (by kernel_rfl) rfl #[.slice A0 l0.length c0, .int .i64 t369] rfl (by (try simp only [List.map_toArray, List.map_cons, List.map_nil]); rfl) ?_; (with_reducible refine (impl_SteppingAt.calls k6 _ _ l0 t369 t432 t433 _ ?side1 ?side2 A252.out).mono ?_); (case side1 => repeat ((exact (Kd.C_below HR0.out HB.out)))); (case side2 => exact HC0.out); rintro e w255 ⟨v434, rfl, ho0, hb⟩; refine ⟨_, rfl, ?_⟩; have n0_ := Aside0.mk (Kd.R_lower ho0 (below_size (by repeat ((with_reducible (exact HB.out)))))); have n1_ := Aside0.mk (below_step (by repeat ((with_reducible (exact HB.out)))) hb); clear HB; have HO435 := n0_; have HB := n1_; clear n0_ n1_; (try clear hb); (try clear hb2); (try clear hk); (try clear hi); (try clear ho0)))
                            (try simp only [Act.put, List.setIfInBounds_toArray, List.set_cons_zero, List.set_cons_succ])
                            go_cut [462] from 462 to 462 (fun v462 wc => ∃ (kq : Nat) (x462_252 : Bool), v462 = .bool x462_252 ∧ Aside0 (laws_FnPacesMeetOfAll.j9 kq l0 l1 a2 l3 a4 t368 t369 x462_252 = some r) ∧ Aside0 (kq ≤ k6) ∧ Aside0 (Below w.heap.size w wc))
                            case first => as_aux_lemma =>
                              have H := HC253.out
                              clear HC253
                              by_cases c256 : x48_6 = t364
                              rotate_left
                              · rw [if_neg c256] at H
                                have c256b0 : (x48_6 == t364) = false := beq_eq_false_iff_ne.mpr c256
                                have c256b1 : (x48_6 != t364) = true := bne_iff_ne.mpr c256
                                (skip)
                                exact absurd (hrt.symm.trans (laws_FnPacesMeetOfAll.j9_false H)) (by decide)
                              rw [if_pos c256] at H
                              have c256b0 : (x48_6 == t364) = true := beq_iff_eq.mpr c256
                              have c256b1 : (x48_6 != t364) = false := bne_eq_false_iff_eq.mpr c256
                              clear c256
                              (skip)
                              by_cases c257 : t431 = true
                              rotate_left
                              · replace c257 := Bool.eq_false_iff.mpr c257
                                subst c257
                                rw [if_neg (show ¬ (false = true) by decide)] at H
                                exact absurd (hrt.symm.trans (laws_FnPacesMeetOfAll.j9_false H)) (by decide)
                              subst c257
                              rw [if_pos rfl] at H
                              by_cases c258 : t430 = x49_6
                              rotate_left
                              · rw [if_neg c258] at H
                                have c258b0 : (t430 == x49_6) = false := beq_eq_false_iff_ne.mpr c258
                                have c258b1 : (t430 != x49_6) = true := bne_iff_ne.mpr c258
                                exact absurd (hrt.symm.trans (laws_FnPacesMeetOfAll.j9_false H)) (by decide)
                              rw [if_pos c258] at H
                              have c258b0 : (t430 == x49_6) = true := beq_iff_eq.mpr c258
                              have c258b1 : (t430 != x49_6) = false := bne_eq_false_iff_eq.mpr c258
                              clear c258
                              by_cases c259 : t433 = true
                              rotate_left
                              · replace c259 := Bool.eq_false_iff.mpr c259
                                subst c259
                                rw [if_neg (show ¬ (false = true) by decide)] at H
                                exact absurd (hrt.symm.trans (laws_FnPacesMeetOfAll.j9_false H)) (by decide)
                              subst c259
                              rw [if_pos rfl] at H
                              by_cases c260 : (t432.length : Int) = t368
                              rotate_left
                              · rw [if_neg c260] at H
                                have c260b0 : ((t432.length : Int) == t368) = false := beq_eq_false_iff_ne.mpr c260
                                have c260b1 : ((t432.length : Int) != t368) = true := bne_iff_ne.mpr c260
                                exact absurd (hrt.symm.trans (laws_FnPacesMeetOfAll.j9_false H)) (by decide)
                              rw [if_pos c260] at H
                              have c260b0 : ((t432.length : Int) == t368) = true := beq_iff_eq.mpr c260
                              have c260b1 : ((t432.length : Int) != t368) = false := bne_eq_false_iff_eq.mpr c260
                              clear c260
                              by_cases c261 : t368 < 1
                              · rw [if_pos c261] at H
                                have c261b0 : decide (t368 < 1) = true := decide_eq_true c261
                                clear c261
                                exact absurd (hrt.symm.trans (laws_FnPacesMeetOfAll.j9_false H)) (by decide)
                              rw [if_neg c261] at H
                              have c261b0 : decide (t368 < 1) = false := decide_eq_false c261
                              clear c261
                              by_cases c263 : t361 = true
                              rotate_left
                              · replace c263 := Bool.eq_false_iff.mpr c263
                                subst c263
                                rw [if_neg (show ¬ (false = true) by decide)] at H
                                by_cases c269 : t374 < 0
                                · rw [if_pos c269] at H
                                  have c269b0 : decide (t374 < 0) = true := decide_eq_true c269
                                  clear c269
                                  exact absurd (hrt.symm.trans (laws_FnPacesMeetOfAll.j9_false H)) (by decide)
                                rw [if_neg c269] at H
                                have c269b0 : decide (t374 < 0) = false := decide_eq_false c269
                                clear c269
                                have H' := Aside0.mk H
                                clear H
                                obtain ⟨Ao271, co271, eo271⟩ := Kd.R_slice HO435.out
                                subst eo271
                                go_wp2
                                go_meet
                                case rel => exact ⟨_, (decide (t374 ≥ t364)), (by rfl), H', ⟨by (exact Nat.le_refl _)⟩, ⟨by repeat ((with_reducible (exact HB.out)))⟩⟩
                              subst c263
                              rw [if_pos rfl] at H
                              by_cases c264 : t368 = (l0.length : Int)
                              rotate_left
                              · rw [if_neg c264] at H
                                have c264b0 : (t368 == (l0.length : Int)) = false := beq_eq_false_iff_ne.mpr c264
                                have c264b1 : (t368 != (l0.length : Int)) = true := bne_iff_ne.mpr c264
                                exact absurd (hrt.symm.trans (laws_FnPacesMeetOfAll.j9_false H)) (by decide)
                              rw [if_pos c264] at H
                              have c264b0 : (t368 == (l0.length : Int)) = true := beq_iff_eq.mpr c264
                              have c264b1 : (t368 != (l0.length : Int)) = false := bne_eq_false_iff_eq.mpr c264
                              clear c264
                              by_cases c265 : t374 < 0
                              · rw [if_pos c265] at H
                                have c265b0 : decide (t374 < 0) = true := decide_eq_true c265
                                clear c265
                                exact absurd (hrt.symm.trans (laws_FnPacesMeetOfAll.j9_false H)) (by decide)
                              rw [if_neg c265] at H
                              have c265b0 : decide (t374 < 0) = false := decide_eq_false c265
                              clear c265
                              have H' := Aside0.mk H
                              clear H
                              obtain ⟨Ao267, co267, eo267⟩ := Kd.R_slice HO435.out
                              subst eo267
                              go_wp2
                              go_meet
                              case rel => exact ⟨_, (decide (t374 ≥ t364)), (by rfl), H', ⟨by (exact Nat.le_refl _)⟩, ⟨by repeat ((with_reducible (exact HB.out)))⟩⟩
                            case rest => as_aux_lemma =>
                              clear HC253 c234b0
                              obtain ⟨kq, x462_252, rfl, HA, HJ252, HB⟩ := hcut
                              cases kq with
                              | zero => exact absurd HA.out (by simp [laws_FnPacesMeetOfAll.j9])
                              | succ kj252 =>
                                have H := HA.out
                                clear HA
                                simp only [laws_FnPacesMeetOfAll.j9] at H
                                by_cases c273 : x462_252 = true
                                · subst c273
                                  rw [if_pos rfl] at H
                                  exact absurd (hrt.symm.trans (Option.some.inj H).symm) (by decide)
                                replace c273 := Bool.eq_false_iff.mpr c273
                                subst c273
                                rw [if_neg (show ¬ (false = true) by decide)] at H
                                by_cases c274 : t369 > 0
                                rotate_left
                                · rw [if_neg c274] at H
                                  have c274b0 : decide (0 < t369) = false := decide_eq_false c274
                                  clear c274
                                  have H' := Aside0.mk H
                                  clear H
                                  go_wp2
                                  go_meet
                                  case rel => exact ⟨_, H', ⟨by (have := HJ5.out; have := HJ21.out; have := HJ139.out; have := HJ219.out; have := HJ221.out; have := HK6.out; have := HJ252.out; omega)⟩, ⟨by repeat ((with_reducible (exact HB.out)))⟩⟩
                                rw [if_pos c274] at H
                                have c274b0 : decide (0 < t369) = true := decide_eq_true c274
                                clear c274
                                replace H := Option.bind_eq_some_iff.mp H
                                obtain ⟨⟨t436, t437⟩, A2750, H⟩ := H
                                (try dsimp only at H)
                                have A275 := Aside0.mk A2750
                                clear A2750
                                by_cases c276 : t437 = true
                                rotate_left
                                · replace c276 := Bool.eq_false_iff.mpr c276
                                  subst c276
                                  rw [if_neg (show ¬ (false = true) by decide)] at H
                                  exact absurd (hrt.symm.trans (Option.some.inj H).symm) (by decide)
                                subst c276
                                rw [if_pos rfl] at H
                                by_cases c277 : (t436.length : Int) ≥ t368
                                · rw [if_pos c277] at H
                                  have c277b0 : decide (t368 ≤ (t436.length : Int)) = true := decide_eq_true c277
                                  clear c277
                                  exact absurd (hrt.symm.trans (Option.some.inj H).symm) (by decide)
                                rw [if_neg c277] at H
                                have c277b0 : decide (t368 ≤ (t436.length : Int)) = false := decide_eq_false c277
                                clear c277
                                have H' := Aside0.mk H
                                clear H
                                go_wp2_with (((with_reducible refine gate_callee (f := 22) rfl ?_); refine goesL_ (some 469) rfl rfl Tryz.func22 (by kernel_rfl) rfl #[.slice A0 l0.length c0, .int .i64 (wrap64 (t369 - 1))] rfl (by (try simp only [List.map_toArray, List.map_cons, List.map_nil]); rfl) ?_; (with_reducible refine (impl_SteppingAt.calls kj252 _ _ l0 (wrap64 (t369 - 1)) t436 true _ ?side1 ?side2 A275.out).mono ?_); (case side1 => repeat ((exact (Kd.C_below HR0.out HB.out)))); (case side2 => exact HC0.out); rintro e w280 ⟨v438, rfl, ho0, hb⟩; refine ⟨_, rfl, ?_⟩; have n0_ := Aside0.mk (Kd.R_lower ho0 (below_size (by repeat ((with_reducible (exact HB.out)))))); have n1_ := Aside0.mk (below_step (by repeat ((with_reducible (exact HB.out)))) hb); clear HB; have HO439 := n0_; have HB := n1_; clear n0_ n1_; (try clear hb); (try clear hb2); (try clear hk); (try clear hi); (try clear ho0); obtain ⟨Ao281, co281, eo281⟩ := Kd.R_slice HO439.out; subst eo281))
                                go_meet
                                case rel => exact ⟨_, H', ⟨by (have := HJ5.out; have := HJ21.out; have := HJ139.out; have := HJ219.out; have := HJ221.out; have := HK6.out; have := HJ252.out; omega)⟩, ⟨by repeat ((with_reducible (exact HB.out)))⟩⟩
                      case rest => as_aux_lemma =>
                        clear HC232
                        obtain ⟨kq, HA, HJ231, HB⟩ := hcut
                        cases kq with
                        | zero => exact absurd HA.out (by simp [laws_FnPacesMeetOfAll.j10])
                        | succ kj231 =>
                          have H := HA.out
                          clear HA
                          simp only [laws_FnPacesMeetOfAll.j10] at H
                          replace H := Option.bind_eq_some_iff.mp H
                          obtain ⟨⟨t440, t441⟩, A2830, H⟩ := H
                          (try dsimp only at H)
                          have A283 := Aside0.mk A2830
                          clear A2830
                          replace H := Option.bind_eq_some_iff.mp H
                          obtain ⟨⟨t444, t445⟩, A2840, H⟩ := H
                          (try dsimp only at H)
                          have A284 := Aside0.mk A2840
                          clear A2840
                          replace H := Option.bind_eq_some_iff.mp H
                          obtain ⟨⟨t448, t449⟩, A2850, H⟩ := H
                          (try dsimp only at H)
                          have A285 := Aside0.mk A2850
                          clear A2850
                          replace H := Option.bind_eq_some_iff.mp H
                          obtain ⟨⟨t450, t451⟩, A2860, H⟩ := H
                          (try dsimp only at H)
                          have A286 := Aside0.mk A2860
                          clear A2860
                          have HC287 := Aside0.mk H
                          clear H
                          go_upto_region 63 with (first | ((with_reducible refine gate_callee (f := 22) rfl ?_); refine goesL_ (some 483) rfl rfl Tryz.func22 (by kernel_rfl) rfl #[.slice A1 l1.length c1, .int .i64 a2] rfl (by (try simp only [List.map_toArray, List.map_cons, List.map_nil]); rfl) ?_; (with_reducible refine (impl_SteppingAt.calls kj231 _ _ l1 a2 t440 t441 _ ?side1 ?side2 A283.out).mono ?_); (case side1 => repeat ((exact (Kd.C_below HR1.out HB.out)))); (case side2 => exact HC1.out); rintro e w288 ⟨v442, rfl, ho0, hb⟩; refine ⟨_, rfl, ?_⟩; have n0_ := Aside0.mk (Kd.R_lower ho0 (below_size (by repeat ((with_reducible (exact HB.out)))))); have n1_ := Aside0.mk (below_step (by repeat ((with_reducible (exact HB.out)))) hb); clear HB; have HO443 := n0_; have HB := n1_; clear n0_ n1_; (try clear hb); (try clear hb2); (try clear hk); (try clear hi); (try clear ho0)) | ((with_reducible refine gate_callee (f := 25) rfl ?_); refine goesL_ (some 489) rfl rfl Tryz.func25 (by kernel_rfl) rfl #[.slice A1 l1.length c1, .int .i64 a2] rfl (by (try simp only [List.map_toArray, List.map_cons, List.map_nil]); rfl) ?_; (with_reducible refine (spec_SteppingAt.calls kj231 _ _ l1 a2 t444 t445 _ ?side1 ?side2 A284.out).mono ?_); (case side1 => repeat ((exact (Kd.C_below HR1.out HB.out)))); (case side2 => exact HC1.out); rintro e w289 ⟨v446, rfl, ho0, hb⟩; refine ⟨_, rfl, ?_⟩; have n0_ := Aside0.mk (Kd.R_elder' (by (with_reducible repeat (fail)); exact HO443.out) (Kd.R_base ho0) hb); have n1_ := Aside0.mk (Kd.R_lower (Kd.R_new' ho0 (Kd.R_lt (by (with_reducible repeat (fail)); exact HO443.out))) (below_size (by repeat ((with_reducible (exact HB.out)))))); have n2_ := Aside0.mk (below_step (by repeat ((with_reducible (exact HB.out)))) hb); clear HO443; clear HB; have HO443 := n0_; have HO447 := n1_; have HB := n2_; clear n0_ n1_ n2_; (try clear hb); (try clear hb2); (try clear hk); (try clear hi); (try clear ho0)) | ((with_reducible refine gate_callee (f := 23) rfl ?_); refine goesL_ (some 495) rfl rfl Tryz.func23 (by kernel_rfl) rfl #[.slice A3 l3.length c3, .int .i64 a4] rfl (by (try simp only [List.map_toArray, List.map_cons, List.map_nil]); rfl) ?_; (with_reducible refine (impl_CountAtOnce.calls kj231 _ _ l3 a4 t448 t449 _ ?side1 ?side2 A285.out).mono ?_); (case side1 => repeat ((exact (Kd.C_below HR3.out HB.out)))); (case side2 => exact HC3.out); rintro e w290 ⟨rfl, hb⟩; refine ⟨_, rfl, ?_⟩; have n0_ := Aside0.mk (Kd.R_below (by (with_reducible repeat (fail)); exact HO443.out) hb); have n1_ := Aside0.mk (Kd.R_below (by (with_reducible repeat (fail)); exact HO447.out) hb); have n2_ := Aside0.mk (below_step (by repeat ((with_reducible (exact HB.out)))) hb); clear HO443; clear HO447; clear HB; have HO443 := n0_; have HO447 := n1_; have HB := n2_; clear n0_ n1_ n2_; (try clear hb); (try clear hb2); (try clear hk); (try clear hi)) | ((with_reducible refine gate_callee (f := 26) rfl ?_); refine goesL_ (some 501) rfl rfl Tryz.func26 (by kernel_rfl) rfl #[.slice A3 l3.length c3, .int .i64 a4] rfl (by (try simp only [List.map_toArray, List.map_cons, List.map_nil]); rfl) ?_; (with_reducible refine (spec_CountAtOnce.calls kj231 _ _ l3 a4 t450 t451 _ ?side1 ?side2 A286.out).mono ?_); (case side1 => repeat ((exact (Kd.C_below HR3.out HB.out)))); (case side2 => exact HC3.out); rintro e w291 ⟨rfl, hb⟩; refine ⟨_, rfl, ?_⟩; have n0_ := Aside0.mk (Kd.R_below (by (with_reducible repeat (fail)); exact HO443.out) hb); have n1_ := Aside0.mk (Kd.R_below (by (with_reducible repeat (fail)); exact HO447.out) hb); have n2_ := Aside0.mk (below_step (by repeat ((with_reducible (exact HB.out)))) hb); clear HO443; clear HO447; clear HB; have HO443 := n0_; have HO447 := n1_; have HB := n2_; clear n0_ n1_ n2_; (try clear hb); (try clear hb2); (try clear hk); (try clear hi)))
                          (try simp only [Act.put, List.setIfInBounds_toArray, List.set_cons_zero, List.set_cons_succ])
                          go_cut [522] from 522 to 522 (fun v522 wc => ∃ (kq : Nat) (x522_286 : Bool), v522 = .bool x522_286 ∧ Aside0 (laws_FnPacesMeetOfAll.j11 kq l1 a2 t440 t441 x522_286 = some r) ∧ Aside0 (kq ≤ kj231) ∧ Aside0 (Kd.R (Kd.int .i64) 3 wc w.heap.size (fun _ => True) v442 t440) ∧ Aside0 (Below w.heap.size w wc))
                          case first => as_aux_lemma =>
                            have H := HC287.out
                            clear HC287
                            by_cases c292 : (t441 != t445) = true
                            · rw [if_pos c292] at H
                              have c292b0 : (t441 != t445) = true := c292
                              (try (have c292b1 : decide (t441 = t445) = false := by simpa using c292))
                              (try (have c292b2 : (t441 == t445) = false := by simpa using c292))
                              (try (have c292b3 : ¬ (t441 = t445) := by simpa using c292))
                              clear c292
                              (skip)
                              exact absurd (hrt.symm.trans (laws_FnPacesMeetOfAll.j11_false H)) (by decide)
                            rw [if_neg c292] at H
                            have c292b0 : (t441 != t445) = false := by simpa using c292
                            (try (have c292b1 : decide (t441 = t445) = true := by simpa using c292))
                            (try (have c292b2 : (t441 == t445) = true := by simpa using c292))
                            clear c292
                            (skip)
                            replace H := Option.bind_eq_some_iff.mp H
                            obtain ⟨t452, A2930, H⟩ := H
                            (try dsimp only at H)
                            have A293 := Aside0.mk A2930
                            clear A2930
                            by_cases c294 : t452 = true
                            rotate_left
                            · replace c294 := Bool.eq_false_iff.mpr c294
                              subst c294
                              rw [if_neg (show ¬ (false = true) by decide)] at H
                              exact absurd (hrt.symm.trans (laws_FnPacesMeetOfAll.j11_false H)) (by decide)
                            subst c294
                            rw [if_pos rfl] at H
                            by_cases c295 : (t449 != t451) = true
                            · rw [if_pos c295] at H
                              have c295b0 : (t449 != t451) = true := c295
                              (try (have c295b1 : decide (t449 = t451) = false := by simpa using c295))
                              (try (have c295b2 : (t449 == t451) = false := by simpa using c295))
                              (try (have c295b3 : ¬ (t449 = t451) := by simpa using c295))
                              clear c295
                              exact absurd (hrt.symm.trans (laws_FnPacesMeetOfAll.j11_false H)) (by decide)
                            rw [if_neg c295] at H
                            have c295b0 : (t449 != t451) = false := by simpa using c295
                            (try (have c295b1 : decide (t449 = t451) = true := by simpa using c295))
                            (try (have c295b2 : (t449 == t451) = true := by simpa using c295))
                            clear c295
                            cases cq_ : (t448 != t450) with
                            | true =>
                              rw [cq_] at H
                              exact absurd (hrt.symm.trans (laws_FnPacesMeetOfAll.j11_false H)) (by decide)
                            | false =>
                              rw [cq_] at H
                              (try (have cq1_ : decide (t448 = t450) = true := by simpa using cq_))
                              (try (have cq2_ : (t448 == t450) = true := by simpa using cq_))
                              have H' := Aside0.mk H
                              clear H
                              obtain ⟨Ao298, co298, eo298⟩ := Kd.R_slice HO443.out
                              subst eo298
                              obtain ⟨Ao299, co299, eo299⟩ := Kd.R_slice HO447.out
                              subst eo299
                              go_wp2_with ((go_at_call 27; (with_reducible refine (laws_mSame.calls kj231 _ _ t440 _ _ t444 true _ ?side1 ?side2 ?side3 ?side4 A293.out).mono ?_); (case side1 => repeat ((exact (Kd.R_reads' HO443.out).2.2))); (case side2 => exact (Kd.R_reads' HO443.out).2.1); (case side3 => repeat ((exact (Kd.R_reads' HO447.out).2.2))); (case side4 => exact (Kd.R_reads' HO447.out).2.1); rintro e w' ⟨rfl, ⟨nd, rfl⟩⟩))
                              go_meet
                              case rel => exact ⟨_, (false), (by rfl), H', ⟨by (exact Nat.le_refl _)⟩, ⟨by (with_reducible repeat ((apply Kd.R_drewN))); exact Kd.R_mono HO443.out (fun _ hk => trivial)⟩, ⟨by repeat ((with_reducible first | exact HB.out | apply pw_below_drewN))⟩⟩
                          case rest => as_aux_lemma =>
                            clear HC287
                            obtain ⟨kq, x522_286, rfl, HA, HJ286, HO_59, HB⟩ := hcut
                            cases kq with
                            | zero => exact absurd HA.out (by simp [laws_FnPacesMeetOfAll.j11])
                            | succ kj286 =>
                              have H := HA.out
                              clear HA
                              simp only [laws_FnPacesMeetOfAll.j11] at H
                              by_cases c302 : x522_286 = true
                              · subst c302
                                rw [if_pos rfl] at H
                                exact absurd (hrt.symm.trans (Option.some.inj H).symm) (by decide)
                              replace c302 := Bool.eq_false_iff.mpr c302
                              subst c302
                              rw [if_neg (show ¬ (false = true) by decide)] at H
                              by_cases c303 : t441 = true
                              rotate_left
                              · replace c303 := Bool.eq_false_iff.mpr c303
                                subst c303
                                rw [if_neg (show ¬ (false = true) by decide)] at H
                                obtain rfl := Option.some.inj H
                                clear hrt
                                go_wp2
                                go_ret
                                exact ⟨by rfl, by repeat ((with_reducible (exact HB.out)))⟩
                              subst c303
                              rw [if_pos rfl] at H
                              have H' := Aside0.mk H
                              clear H
                              go_wp2
                              go_loopg [526] kj286 (fun kq v526 w' => ∃ (x526_8 : Int), v526 = .int .i64 x526_8 ∧ Aside0 (laws_FnPacesMeetOfAll.l3 kq a2 t440 l1 (l1.length : Int) x526_8 = some r) ∧ Aside0 (kq ≤ kj286) ∧ Aside0 (Kd.R (Kd.int .i64) 3 w' w.heap.size (fun _ => True) v442 t440) ∧ Aside0 (Below w.heap.size w w'))
                              case atStart => exact ⟨(0), (by rfl), H', ⟨Nat.le_refl _⟩, ⟨by (with_reducible repeat (fail)); exact HO_59.out⟩, ⟨by repeat ((with_reducible (exact HB.out)))⟩⟩
                              case round =>
                                clear H'
                                obtain ⟨x526_8, rfl, HA, HK8, HO_59, HB⟩ := hrel
                                cases gk with
                                | zero => exact absurd HA.out (by simp [laws_FnPacesMeetOfAll.l3])
                                | succ k8 =>
                                  have H := HA.out
                                  clear HA
                                  simp only [laws_FnPacesMeetOfAll.l3] at H
                                  by_cases c304 : x526_8 < (l1.length : Int)
                                  rotate_left
                                  · rw [if_neg c304] at H
                                    have c304b0 : decide (x526_8 < (l1.length : Int)) = false := decide_eq_false c304
                                    clear c304
                                    obtain rfl := Option.some.inj H
                                    clear hrt
                                    go_wp2
                                    go_ret
                                    exact ⟨by rfl, by repeat ((with_reducible (exact HB.out)))⟩
                                  rw [if_pos c304] at H
                                  have c304b0 : decide (x526_8 < (l1.length : Int)) = true := decide_eq_true c304
                                  clear c304
                                  by_cases c305 : 0 ≤ x526_8
                                  rotate_left
                                  · rw [if_neg c305] at H
                                    exact absurd H (by simp)
                                  rw [if_pos c305] at H
                                  have c305b0 : decide (0 ≤ x526_8) = true := decide_eq_true c305
                                  clear c305
                                  by_cases c306 : x526_8 < (l1.length : Int)
                                  rotate_left
                                  · rw [if_neg c306] at H
                                    exact absurd H (by simp)
                                  rw [if_pos c306] at H
                                  have c306b0 : decide (x526_8 < (l1.length : Int)) = true := decide_eq_true c306
                                  clear c306
                                  replace H := Option.bind_eq_some_iff.mp H
                                  obtain ⟨t455, A3070, H⟩ := H
                                  (try dsimp only at H)
                                  have A307 := Aside0.mk A3070
                                  clear A3070
                                  by_cases c308 : ((rd_T38 l1 x526_8).f0) = 0
                                  · rw [if_pos c308] at H
                                    exact absurd H (by simp)
                                  rw [if_neg c308] at H
                                  have c308b0 : (((rd_T38 l1 x526_8).f0) == 0) = false := beq_eq_false_iff_ne.mpr c308
                                  have c308b1 : (((rd_T38 l1 x526_8).f0) != 0) = true := bne_iff_ne.mpr c308
                                  by_cases c309 : (t455 != ((Int.tmod a2 ((rd_T38 l1 x526_8).f0)) == ((rd_T38 l1 x526_8).f1))) = true
                                  · rw [if_pos c309] at H
                                    have c309b0 : (t455 != ((Int.tmod a2 ((rd_T38 l1 x526_8).f0)) == ((rd_T38 l1 x526_8).f1))) = true := c309
                                    (try (have c309b1 : decide (t455 = ((Int.tmod a2 ((rd_T38 l1 x526_8).f0)) == ((rd_T38 l1 x526_8).f1))) = false := by simpa using c309))
                                    (try (have c309b2 : (t455 == ((Int.tmod a2 ((rd_T38 l1 x526_8).f0)) == ((rd_T38 l1 x526_8).f1))) = false := by simpa using c309))
                                    (try (have c309b3 : ¬ (t455 = ((Int.tmod a2 ((rd_T38 l1 x526_8).f0)) == ((rd_T38 l1 x526_8).f1))) := by simpa using c309))
                                    clear c309
                                    exact absurd (hrt.symm.trans (Option.some.inj H).symm) (by decide)
                                  rw [if_neg c309] at H
                                  have c309b0 : (t455 != ((Int.tmod a2 ((rd_T38 l1 x526_8).f0)) == ((rd_T38 l1 x526_8).f1))) = false := by simpa using c309
                                  (try (have c309b1 : decide (t455 = ((Int.tmod a2 ((rd_T38 l1 x526_8).f0)) == ((rd_T38 l1 x526_8).f1))) = true := by simpa using c309))
                                  (try (have c309b2 : (t455 == ((Int.tmod a2 ((rd_T38 l1 x526_8).f0)) == ((rd_T38 l1 x526_8).f1))) = true := by simpa using c309))
                                  clear c309
                                  have H' := Aside0.mk H
                                  clear H
                                  have p453 : 0 ≤ (x526_8 : Int) := of_decide_eq_true (by (with_reducible assumption))
                                  have q453 : x526_8 < (l1.length : Int) := of_decide_eq_true (by (with_reducible assumption))
                                  obtain ⟨ad453, e453, hx453_0, hx453_1⟩ := at_T38 HR1.out x526_8 p453 q453
                                  cases e453
                                  (try replace hx453_0 := (HB.out.cell (World.block_lt_of_cell? w _ hx453_0)).trans hx453_0)
                                  (try replace hx453_1 := (HB.out.cell (World.block_lt_of_cell? w _ hx453_1)).trans hx453_1)
                                  replace p453 := eq_true p453
                                  replace q453 := eq_true q453
                                  try go_wp2_with (((with_reducible refine gate_dst (N := 68) rfl ?_); (try (refine gate_guard (by rfl) ?_; dsimp only)); refine box_event ?hg (N := 68) ?hd (cs := #[.int .i64 0, .int .i64 0]) (t := 38) ?hr ?_; (case hd => rfl); (case hg => rfl); (case hr => (go_simp; done)); intro gb454 hg w315 hbox hb; have n0_ := Aside0.mk (Kd.R_below (by (with_reducible repeat (fail)); exact HO_59.out) hb); have n1_ := Aside0.mk (below_step (by repeat ((with_reducible (exact HB.out)))) hb); have n2_ := Aside0.mk (hbox); have n3_ := Aside0.mk ((by rw [hg]; exact (below_size (by repeat ((with_reducible (exact HB.out))))) : w.heap.size ≤ gb454)); have n4_ := Aside0.mk ((by rw [hg]; exact (below_size (by repeat ((with_reducible (exact HB.out))))) : w.heap.size ≤ gb454)); clear HO_59; clear HB; have HO_59 := n0_; have HB := n1_; have BK454 := n2_; have GW454 := n3_; have GE454 := n4_; clear n0_ n1_ n2_ n3_ n4_; clear hb hbox hg; have hcz316_0 : w315.cell? ⟨gb454, 0, none⟩ = some (.int .i64 0) := (blk_cell BK454.out 0).trans rfl; have hcz316_1 : w315.cell? ⟨gb454, 1, none⟩ = some (.int .i64 0) := (blk_cell BK454.out 1).trans rfl; have hfz316_0 := blk_frozen BK454.out 0; have hfz316_1 := blk_frozen BK454.out 1))
                                  have n0_ : Aside0 (Kd.R (Kd.int .i64) 3 ((w315.setCell ⟨gb454, 0, none⟩ (.int .i64 ((rd_T38 l1 x526_8).f0))).setCell ⟨gb454, 1, none⟩ (.int .i64 ((rd_T38 l1 x526_8).f1))) w.heap.size (fun _ => True) v442 t440) := ⟨by (with_reducible repeat (fail)); exact Kd.R_mono (Kd.R_far (p := ⟨gb454, 1, none⟩) (Kd.R_far (p := ⟨gb454, 0, none⟩) (Kd.R_types HO_59.out BK454.out (by decide)) (fun _ hk => hk.2) (.int .i64 ((rd_T38 l1 x526_8).f0))) (fun _ hk => hk.2) (.int .i64 ((rd_T38 l1 x526_8).f1))) (fun _ hk => trivial)⟩
                                  have n1_ : Aside0 (((w315.setCell ⟨gb454, 0, none⟩ (.int .i64 ((rd_T38 l1 x526_8).f0))).setCell ⟨gb454, 1, none⟩ (.int .i64 ((rd_T38 l1 x526_8).f1))).heap[gb454]? = some (.cells #[.int .i64 ((rd_T38 l1 x526_8).f0), .int .i64 ((rd_T38 l1 x526_8).f1)] 38 (0, 0))) := ⟨by (with_reducible repeat (fail)); refine blk_put (cs := #[.int .i64 ((rd_T38 l1 x526_8).f0), .int .i64 0]) ?_ 1 _ rfl; (with_reducible repeat (fail)); refine blk_put (cs := #[.int .i64 0, .int .i64 0]) ?_ 0 _ rfl; (with_reducible repeat (fail)); exact BK454.out⟩
                                  have n2_ : Aside0 (Below w.heap.size w ((w315.setCell ⟨gb454, 0, none⟩ (.int .i64 ((rd_T38 l1 x526_8).f0))).setCell ⟨gb454, 1, none⟩ (.int .i64 ((rd_T38 l1 x526_8).f1)))) := ⟨by repeat ((with_reducible first | exact HB.out | refine below_set ?_ GE454.out))⟩
                                  clear HO_59 BK454 HB
                                  generalize ((w315.setCell ⟨gb454, 0, none⟩ (.int .i64 ((rd_T38 l1 x526_8).f0))).setCell ⟨gb454, 1, none⟩ (.int .i64 ((rd_T38 l1 x526_8).f1))) = w317 at n0_ n1_ n2_ ⊢
                                  have HO_59 := n0_
                                  have BK454 := n1_
                                  have HB := n2_
                                  clear n0_ n1_ n2_
                                  have n0_ := Aside0.mk (Kd.R_drew HO_59.out)
                                  have n1_ := Aside0.mk (blk_drew BK454.out)
                                  have n2_ := Aside0.mk (below_drew1 HB.out)
                                  clear HO_59 BK454 HB
                                  have HO_59 := n0_
                                  have BK454 := n1_
                                  have HB := n2_
                                  clear n0_ n1_ n2_
                                  obtain ⟨Ao319, co319, eo319⟩ := Kd.R_slice HO_59.out
                                  ((subst eo319))
                                  refine start_ (n := 11) (S := fun w' => w'.cell? ⟨gb454, 0, none⟩ = some (.int .i64 ((rd_T38 l1 x526_8).f0)) ∧ w'.cell? ⟨gb454, 1, none⟩ = some (.int .i64 ((rd_T38 l1 x526_8).f1))) (ds := []) #[false, false, false, false, false, false, false, false, false, false, false] (by kernel_rfl) rfl rfl ⟨(blk_cell BK454.out 0).trans rfl, (blk_cell BK454.out 1).trans rfl⟩ (fun hHeld => ?_); refine with_tabW laws_FnPacesMeetOfAll.tab69 laws_FnPacesMeetOfAll.bits69 (fun HT_ HW_ => ?_)
                                  generalize w317.drew = w318 at HO_59 BK454 HB hHeld ⊢
                                  refine pure_ (i := 0) (N := some 531) (v := ?_) (a' := ?_) #[true, false, false, false, false, false, false, false, false, false, false] rfl rfl (any_of HT_.out (by kernel_rfl)) (fun _ _ _ h => h) (Or.inl ⟨by rfl, ?_⟩) ?_ ?_
                                  rotate_left
                                  · intro w'
                                    go_simp
                                    with_reducible rfl
                                  rotate_left
                                  · simp only [Act.put, List.setIfInBounds_toArray, List.set_cons_zero, List.set_cons_succ, i64_w, i32_w]
                                    rfl
                                  refine pure_ (i := 1) (N := some 532) (v := ?_) (a' := ?_) #[true, true, false, false, false, false, false, false, false, false, false] rfl rfl (any_of HT_.out (by kernel_rfl)) (fun _ _ _ h => h) (Or.inl ⟨by rfl, ?_⟩) ?_ ?_
                                  rotate_left
                                  · intro w'
                                    go_simp
                                    with_reducible rfl
                                  rotate_left
                                  · simp only [Act.put, List.setIfInBounds_toArray, List.set_cons_zero, List.set_cons_succ, i64_w, i32_w]
                                    rfl
                                  refine pure_ (i := 3) (N := some 534) (v := ?_) (a' := ?_) #[true, true, false, true, false, false, false, false, false, false, false] rfl rfl (any_of HT_.out (by kernel_rfl)) (fun _ _ _ h => h) (Or.inl ⟨by rfl, ?_⟩) ?_ ?_
                                  rotate_left
                                  · intro w'
                                    go_simp
                                    with_reducible rfl
                                  rotate_left
                                  · simp only [Act.put, List.setIfInBounds_toArray, List.set_cons_zero, List.set_cons_succ, i64_w, i32_w]
                                    rfl
                                  refine pure_ (i := 4) (N := some 535) (v := ?_) (a' := ?_) #[true, true, false, true, true, false, false, false, false, false, false] rfl rfl (any_of HT_.out (by kernel_rfl)) (fun _ _ _ h => h) (Or.inl ⟨by rfl, ?_⟩) ?_ ?_
                                  rotate_left
                                  · intro w'
                                    go_simp
                                    with_reducible rfl
                                  rotate_left
                                  · simp only [Act.put, List.setIfInBounds_toArray, List.set_cons_zero, List.set_cons_succ, i64_w, i32_w]
                                    rfl
                                  refine pure_ (i := 7) (N := some 538) (v := ?_) (a' := ?_) #[true, true, false, true, true, false, false, true, false, false, false] rfl rfl (any_of HT_.out (by kernel_rfl)) (fun _ _ _ h => h) (Or.inl ⟨by rfl, ?_⟩) ?_ ?_
                                  rotate_left
                                  · intro w'
                                    go_simp
                                    with_reducible rfl
                                  rotate_left
                                  · simp only [Act.put, List.setIfInBounds_toArray, List.set_cons_zero, List.set_cons_succ, i64_w, i32_w]
                                    rfl
                                  refine take_ (i := 5) (N := some 536) (v := ?_) (a' := ?_) #[true, true, false, true, true, true, false, true, false, false, false] rfl rfl (take_ofW HT_.out HW_.out (by kernel_rfl)) (fun _ _ _ h => h) (Or.inl ⟨by rfl, ?_⟩) hHeld ?_ ?_
                                  rotate_left
                                  · rintro w' ⟨s0, s1⟩
                                    go_simp
                                    with_reducible rfl
                                  rotate_left
                                  · simp only [Act.put, List.setIfInBounds_toArray, List.set_cons_zero, List.set_cons_succ, i64_w, i32_w]
                                    rfl
                                  refine pure_ (i := 6) (N := some 537) (v := ?_) (a' := ?_) #[true, true, false, true, true, true, true, true, false, false, false] rfl rfl (any_of HT_.out (by kernel_rfl)) (fun _ _ _ h => h) (Or.inl ⟨by rfl, ?_⟩) ?_ ?_
                                  rotate_left
                                  · intro w'
                                    go_simp
                                    with_reducible rfl
                                  rotate_left
                                  · simp only [Act.put, List.setIfInBounds_toArray, List.set_cons_zero, List.set_cons_succ, i64_w, i32_w]
                                    rfl
                                  refine take_ (i := 8) (N := some 539) (v := ?_) (a' := ?_) #[true, true, false, true, true, true, true, true, true, false, false] rfl rfl (take_ofW HT_.out HW_.out (by kernel_rfl)) (fun _ _ _ h => h) (Or.inl ⟨by rfl, ?_⟩) hHeld ?_ ?_
                                  rotate_left
                                  · rintro w' ⟨s0, s1⟩
                                    go_simp
                                    with_reducible rfl
                                  rotate_left
                                  · simp only [Act.put, List.setIfInBounds_toArray, List.set_cons_zero, List.set_cons_succ, i64_w, i32_w]
                                    rfl
                                  refine pure_ (i := 9) (N := some 540) (v := ?_) (a' := ?_) #[true, true, false, true, true, true, true, true, true, true, false] rfl rfl (any_of HT_.out (by kernel_rfl)) (fun _ _ _ h => h) (Or.inl ⟨by rfl, ?_⟩) ?_ ?_
                                  rotate_left
                                  · intro w'
                                    go_simp
                                    with_reducible rfl
                                  rotate_left
                                  · simp only [Act.put, List.setIfInBounds_toArray, List.set_cons_zero, List.set_cons_succ, i64_w, i32_w]
                                    rfl
                                  refine one_ (i := 2) (N := some 533) #[true, true, true, true, true, true, true, true, true, true, false] rfl rfl (one_of HT_.out (by kernel_rfl)) (by decide) (fun K hK => ?_)
                                  refine goes_ Tryz.func28 (by kernel_rfl) rfl #[.slice Ao319 t440.length co319, .int .i64 x526_8] (by rfl) rfl rfl (by (try simp only [List.map_toArray, List.map_cons, List.map_nil]); rfl) ?_
                                  with_reducible refine (laws_mHas.calls k8 _ _ t440 x526_8 t455 _ ?side1 ?side2 A307.out).mono ?_
                                  (case side1 => repeat ((exact (Kd.R_reads' HO_59.out).2.2)))
                                  (case side2 => exact (Kd.R_reads' HO_59.out).2.1)
                                  rintro e w' ⟨rfl, ⟨nd, rfl⟩⟩
                                  refine ⟨_, rfl, ?_⟩
                                  refine hK.out _ _ ⟨(blk_cell BK454.out 0).trans rfl, (blk_cell BK454.out 1).trans rfl⟩ (fun hHeld => ?_)
                                  clear hK K
                                  refine norm_ (a' := ?_) ?_ ?_
                                  rotate_left
                                  · show Act.put _ (some 533) _ = _
                                    simp only [Act.put, List.setIfInBounds_toArray, List.set_cons_zero, List.set_cons_succ, i64_w, i32_w]
                                    rfl
                                  refine pure_ (i := 10) (N := some 541) (v := ?_) (a' := ?_) #[true, true, true, true, true, true, true, true, true, true, true] rfl rfl (any_of HT_.out (by kernel_rfl)) (fun _ _ _ h => h) (Or.inl ⟨by rfl, ?_⟩) ?_ ?_
                                  rotate_left
                                  · intro w'
                                    go_simp
                                    with_reducible rfl
                                  rotate_left
                                  · simp only [Act.put, List.setIfInBounds_toArray, List.set_cons_zero, List.set_cons_succ, i64_w, i32_w]
                                    rfl
                                  refine done_ (done_of HT_.out (by kernel_rfl)) ?_
                                  try go_wp2
                                  (go_roundg k8)
                                  case measure => (exact Nat.lt_succ_self _)
                                  case rel => exact ⟨(wrap64 (x526_8 + 1)), (by rfl), H', ⟨by (exact Nat.le_of_lt HK8.out)⟩, ⟨by (with_reducible repeat ((apply Kd.R_drewN))); exact HO_59.out⟩, ⟨by repeat ((with_reducible first | exact HB.out | apply pw_below_drewN))⟩⟩

end Go.Proofs.YteohjnmiifmldaaGreatDoor.A
