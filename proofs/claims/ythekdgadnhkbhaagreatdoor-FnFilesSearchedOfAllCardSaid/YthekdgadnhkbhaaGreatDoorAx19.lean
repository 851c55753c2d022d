-- WRITTEN BY printx.py, a program of this session over the kit's print: not typed by hand. Lean checks it.
import Derived.Test.YthekdgadnhkbhaaGreatDoorAx0
import Derived.Test.YthekdgadnhkbhaaGreatDoorAx3
import Derived.Test.YthekdgadnhkbhaaGreatDoorAx5
import Derived.Test.YthekdgadnhkbhaaGreatDoorAx6
import Derived.Test.YthekdgadnhkbhaaGreatDoorAx7
import Derived.Test.YthekdgadnhkbhaaGreatDoorAx8
import Derived.Test.YthekdgadnhkbhaaGreatDoorAx10
import Derived.Test.YthekdgadnhkbhaaGreatDoorAx11
import Derived.Test.YthekdgadnhkbhaaGreatDoorAx12
import Derived.Test.YthekdgadnhkbhaaGreatDoorAx14
import Derived.Test.YthekdgadnhkbhaaGreatDoorAx15
import Derived.Test.YthekdgadnhkbhaaGreatDoorAx17
import Derived.Test.YthekdgadnhkbhaaGreatDoorAx18
import Derived.Test.YthekdgadnhkbhaaGreatDoorGivB
import Derived.Test.YthekdgadnhkbhaaGreatDoorGivE
import Derived.Test.YthekdgadnhkbhaaGreatDoorGivH
namespace Go.Proofs.YthekdgadnhkbhaaGreatDoor.A
open Go.RowKit Go.Proofs.YthekdgadnhkbhaaGreatDoorW.PrintWords Go.Proofs.YthekdgadnhkbhaaGreatDoorW.PrintLast Go.Proofs.YthekdgadnhkbhaaGreatDoorW.PrintMore Go.Proofs.YthekdgadnhkbhaaGreatDoor.X
attribute [local go_sem] max2_int min2_int max_two min_two max_three min_three max_four min_four   -- for this text's walks alone
set_option linter.unusedVariables false
set_option linter.unusedSimpArgs false

/-! ### laws_FnFilesSearchedOfAll: function 3 -/
mutual
def laws_FnFilesSearchedOfAll.j0 : Nat → List (List Int) → Int → List (List Int) → Int → List (List Int) → Int → Int → Int → Int → ByteArray → Bool → Option (Bool)
  | 0, _, _, _, _, _, _, _, _, _, _, _ => none
  | k + 1, x0, x1, x2, x3, x4, x5, x6, x7, x8, x9, x92 => if x92 = true then (some true) else ((impl_PlacesSearched.f k x0 x1).bind fun bt422 => ((spec_PlacesSearched.f k x0 x1).bind fun bt426 => ((impl_CountUpTo.f k x0 x1).bind fun bt430 => ((spec_CountUpTo.f k x0 x1).bind fun bt432 => (if (bt422.2 != bt426.2) = true then (laws_FnFilesSearchedOfAll.j1 k x0 x1 x2 x3 x4 x5 x6 x7 x8 x9 bt422.1 bt422.2 bt430.1 bt430.2 true) else ((laws_vRows.f k bt422.1 bt426.1).bind fun t434 => (if t434 = true then (if (bt430.2 != bt432.2) = true then (laws_FnFilesSearchedOfAll.j1 k x0 x1 x2 x3 x4 x5 x6 x7 x8 x9 bt422.1 bt422.2 bt430.1 bt430.2 true) else (if bt430.1 = bt432.1 then (if bt422.2 = true then (laws_FnFilesSearchedOfAll.j1 k x0 x1 x2 x3 x4 x5 x6 x7 x8 x9 bt422.1 bt422.2 bt430.1 bt430.2 (!bt430.2)) else (laws_FnFilesSearchedOfAll.j1 k x0 x1 x2 x3 x4 x5 x6 x7 x8 x9 bt422.1 bt422.2 bt430.1 bt430.2 false)) else (laws_FnFilesSearchedOfAll.j1 k x0 x1 x2 x3 x4 x5 x6 x7 x8 x9 bt422.1 bt422.2 bt430.1 bt430.2 true))) else (laws_FnFilesSearchedOfAll.j1 k x0 x1 x2 x3 x4 x5 x6 x7 x8 x9 bt422.1 bt422.2 bt430.1 bt430.2 true))))))))
def laws_FnFilesSearchedOfAll.j1 : Nat → List (List Int) → Int → List (List Int) → Int → List (List Int) → Int → Int → Int → Int → ByteArray → List (List Int) → Bool → Int → Bool → Bool → Option (Bool)
  | 0, _, _, _, _, _, _, _, _, _, _, _, _, _, _, _ => none
  | k + 1, x0, x1, x2, x3, x4, x5, x6, x7, x8, x9, x21, x22, x25, x26, x142 => if x142 = true then (some false) else (if x22 = true then (if 0 < (x0.length : Int) then (if (x21.length : Int) < 1 then (laws_FnFilesSearchedOfAll.j2 k x0 x1 x2 x3 x4 x5 x6 x7 x8 x9 x21 x25 x26 true) else (if (x21.length : Int) > (wrap64 ((wrap64 ((x0.length : Int) + ((rd_L1 x0 0).length : Int))) - 1)) then (laws_FnFilesSearchedOfAll.j2 k x0 x1 x2 x3 x4 x5 x6 x7 x8 x9 x21 x25 x26 true) else (if 0 < (x21.length : Int) then ((laws_vSame.f k (rd_L1 x21 0) (([0, wrap64 (((rd_L1 x0 0).length : Int) - 1)] : List Int))).bind fun t440 => (laws_FnFilesSearchedOfAll.j2 k x0 x1 x2 x3 x4 x5 x6 x7 x8 x9 x21 x25 x26 (!t440))) else (none)))) else (none)) else (laws_FnFilesSearchedOfAll.j5 k x0 x1 x2 x3 x4 x5 x6 x7 x8 x9 x25 x26))
def laws_FnFilesSearchedOfAll.j5 : Nat → List (List Int) → Int → List (List Int) → Int → List (List Int) → Int → Int → Int → Int → ByteArray → Int → Bool → Option (Bool)
  | 0, _, _, _, _, _, _, _, _, _, _, _, _ => none
  | k + 1, x0, x1, x2, x3, x4, x5, x6, x7, x8, x9, x25, x26 => if x26 = true then (if 0 < (x0.length : Int) then (if x25 < 0 then (laws_FnFilesSearchedOfAll.j6 k x0 x1 x2 x3 x4 x5 x6 x7 x8 x9 x25 (wrap64 ((x0.length : Int) * ((rd_L1 x0 0).length : Int))) true) else (laws_FnFilesSearchedOfAll.j6 k x0 x1 x2 x3 x4 x5 x6 x7 x8 x9 x25 (wrap64 ((x0.length : Int) * ((rd_L1 x0 0).length : Int))) (decide (x25 > (wrap64 ((x0.length : Int) * ((rd_L1 x0 0).length : Int))))))) else (none)) else (laws_FnFilesSearchedOfAll.j8 k x2 x3 x4 x5 x6 x7 x8 x9)
def laws_FnFilesSearchedOfAll.j8 : Nat → List (List Int) → Int → List (List Int) → Int → Int → Int → Int → ByteArray → Option (Bool)
  | 0, _, _, _, _, _, _, _, _ => none
  | k + 1, x2, x3, x4, x5, x6, x7, x8, x9 => (impl_HeightOfRank.f k x2 x3).bind fun bt461 => ((spec_HeightOfRank.f k x2 x3).bind fun bt463 => ((impl_ExchangeFiles.f k x4 x5 x6).bind fun bt465 => ((spec_ExchangeFiles.f k x4 x5 x6).bind fun bt469 => ((impl_CountSortedFiles.f x7 x8).bind fun bt473 => ((spec_CountSortedFiles.f k x7 x8).bind fun bt475 => ((impl_FileDisorder.f k x2).bind fun bt477 => ((spec_FileDisorder.f k x2).bind fun bt479 => ((impl_FilesText.f k x2).bind fun bt481 => ((spec_FilesText.f k x2).bind fun bt483 => ((impl_ParseFiles.f k x9).bind fun bt485 => ((spec_ParseFiles.f k x9).bind fun bt489 => (if (bt461.2 != bt463.2) = true then (laws_FnFilesSearchedOfAll.j9 k x2 x4 x5 x6 x7 x8 x9 bt465.1 bt465.2 bt473.1 bt473.2 bt481.1 bt481.2 bt485.1 bt485.2 true) else (if bt461.1 = bt463.1 then (if (bt465.2 != bt469.2) = true then (laws_FnFilesSearchedOfAll.j9 k x2 x4 x5 x6 x7 x8 x9 bt465.1 bt465.2 bt473.1 bt473.2 bt481.1 bt481.2 bt485.1 bt485.2 true) else ((laws_vRows.f k bt465.1 bt469.1).bind fun t493 => (if t493 = true then (if (bt473.2 != bt475.2) = true then (laws_FnFilesSearchedOfAll.j9 k x2 x4 x5 x6 x7 x8 x9 bt465.1 bt465.2 bt473.1 bt473.2 bt481.1 bt481.2 bt485.1 bt485.2 true) else (if bt473.1 = bt475.1 then (if (bt477.2 != bt479.2) = true then (laws_FnFilesSearchedOfAll.j9 k x2 x4 x5 x6 x7 x8 x9 bt465.1 bt465.2 bt473.1 bt473.2 bt481.1 bt481.2 bt485.1 bt485.2 true) else (if bt477.1 = bt479.1 then (if (bt481.2 != bt483.2) = true then (laws_FnFilesSearchedOfAll.j9 k x2 x4 x5 x6 x7 x8 x9 bt465.1 bt465.2 bt473.1 bt473.2 bt481.1 bt481.2 bt485.1 bt485.2 true) else (if bt481.1.toList = bt483.1.toList then (if (bt485.2 != bt489.2) = true then (laws_FnFilesSearchedOfAll.j9 k x2 x4 x5 x6 x7 x8 x9 bt465.1 bt465.2 bt473.1 bt473.2 bt481.1 bt481.2 bt485.1 bt485.2 true) else ((laws_vRows.f k bt485.1 bt489.1).bind fun t494 => (if t494 = true then ((impl_AreFiles.f x2).bind fun t495 => (if (bt481.2 != t495) = true then (laws_FnFilesSearchedOfAll.j9 k x2 x4 x5 x6 x7 x8 x9 bt465.1 bt465.2 bt473.1 bt473.2 bt481.1 bt481.2 bt485.1 bt485.2 true) else (laws_FnFilesSearchedOfAll.j9 k x2 x4 x5 x6 x7 x8 x9 bt465.1 bt465.2 bt473.1 bt473.2 bt481.1 bt481.2 bt485.1 bt485.2 (bt477.2 != bt481.2)))) else (laws_FnFilesSearchedOfAll.j9 k x2 x4 x5 x6 x7 x8 x9 bt465.1 bt465.2 bt473.1 bt473.2 bt481.1 bt481.2 bt485.1 bt485.2 true)))) else (laws_FnFilesSearchedOfAll.j9 k x2 x4 x5 x6 x7 x8 x9 bt465.1 bt465.2 bt473.1 bt473.2 bt481.1 bt481.2 bt485.1 bt485.2 true))) else (laws_FnFilesSearchedOfAll.j9 k x2 x4 x5 x6 x7 x8 x9 bt465.1 bt465.2 bt473.1 bt473.2 bt481.1 bt481.2 bt485.1 bt485.2 true))) else (laws_FnFilesSearchedOfAll.j9 k x2 x4 x5 x6 x7 x8 x9 bt465.1 bt465.2 bt473.1 bt473.2 bt481.1 bt481.2 bt485.1 bt485.2 true))) else (laws_FnFilesSearchedOfAll.j9 k x2 x4 x5 x6 x7 x8 x9 bt465.1 bt465.2 bt473.1 bt473.2 bt481.1 bt481.2 bt485.1 bt485.2 true)))) else (laws_FnFilesSearchedOfAll.j9 k x2 x4 x5 x6 x7 x8 x9 bt465.1 bt465.2 bt473.1 bt473.2 bt481.1 bt481.2 bt485.1 bt485.2 true))))))))))))))
def laws_FnFilesSearchedOfAll.j9 : Nat → List (List Int) → List (List Int) → Int → Int → Int → Int → ByteArray → List (List Int) → Bool → Int → Bool → ByteArray → Bool → List (List Int) → Bool → Bool → Option (Bool)
  | 0, _, _, _, _, _, _, _, _, _, _, _, _, _, _, _, _ => none
  | k + 1, x2, x4, x5, x6, x7, x8, x9, x47, x48, x51, x52, x59, x60, x63, x64, x437 => if x437 = true then (some false) else (if x48 = true then ((impl_ExchangeFiles.f k x47 x5 x6).bind fun bt496 => (if bt496.2 = true then ((laws_vRows.f k bt496.1 x4).bind fun t500 => (if t500 = true then (if 0 ≤ x5 then (if x5 < (x47.length : Int) then (if 0 ≤ x6 then (if x6 < (x4.length : Int) then ((laws_vSame.f k (rd_L1 x47 x5) (rd_L1 x4 x6)).bind fun t503 => (if t503 = true then (laws_FnFilesSearchedOfAll.j10 k x2 x7 x8 x9 x51 x52 x59 x60 x63 x64) else (some false))) else (none)) else (none)) else (none)) else (none)) else (some false))) else (some false))) else (laws_FnFilesSearchedOfAll.j10 k x2 x7 x8 x9 x51 x52 x59 x60 x63 x64))
def laws_FnFilesSearchedOfAll.j10 : Nat → List (List Int) → Int → Int → ByteArray → Int → Bool → ByteArray → Bool → List (List Int) → Bool → Option (Bool)
  | 0, _, _, _, _, _, _, _, _, _, _ => none
  | k + 1, x2, x7, x8, x9, x51, x52, x59, x60, x63, x64 => if x52 = true then (if x51 < 1 then (laws_FnFilesSearchedOfAll.j11 k x2 x7 x8 x9 x51 x59 x60 x63 x64 true) else (if x7 = 1 then (laws_FnFilesSearchedOfAll.j11 k x2 x7 x8 x9 x51 x59 x60 x63 x64 (true != (x51 == 1))) else (laws_FnFilesSearchedOfAll.j11 k x2 x7 x8 x9 x51 x59 x60 x63 x64 ((x8 == 1) != (x51 == 1))))) else (laws_FnFilesSearchedOfAll.j12 k x2 x9 x59 x60 x63 x64)
def laws_FnFilesSearchedOfAll.j12 : Nat → List (List Int) → ByteArray → ByteArray → Bool → List (List Int) → Bool → Option (Bool)
  | 0, _, _, _, _, _, _ => none
  | k + 1, x2, x9, x59, x60, x63, x64 => if x60 = true then (laws_FnFilesSearchedOfAll.j13 k x2 x9 x59 x63 x64 (decide ((x59.size : Int) ≤ 300))) else (laws_FnFilesSearchedOfAll.j13 k x2 x9 x59 x63 x64 false)
def laws_FnFilesSearchedOfAll.j13 : Nat → List (List Int) → ByteArray → ByteArray → List (List Int) → Bool → Bool → Option (Bool)
  | 0, _, _, _, _, _, _ => none
  | k + 1, x2, x9, x59, x63, x64, x500 => if x500 = true then ((impl_ParseFiles.f k x59).bind fun bt506 => (if bt506.2 = true then ((laws_vRows.f k bt506.1 x2).bind fun t510 => (laws_FnFilesSearchedOfAll.j14 k x9 x63 x64 (!t510))) else (laws_FnFilesSearchedOfAll.j14 k x9 x63 x64 true))) else (if x64 = true then ((impl_FilesText.f k x63).bind fun bt513 => (if bt513.2 = true then (some (bt513.1.toList == x9.toList)) else (some false))) else (some true))
def laws_FnFilesSearchedOfAll.j14 : Nat → ByteArray → List (List Int) → Bool → Bool → Option (Bool)
  | 0, _, _, _, _ => none
  | k + 1, x9, x63, x64, x513 => if x513 = true then (some false) else (if x64 = true then ((impl_FilesText.f k x63).bind fun bt511 => (if bt511.2 = true then (some (bt511.1.toList == x9.toList)) else (some false))) else (some true))
def laws_FnFilesSearchedOfAll.j11 : Nat → List (List Int) → Int → Int → ByteArray → Int → ByteArray → Bool → List (List Int) → Bool → Bool → Option (Bool)
  | 0, _, _, _, _, _, _, _, _, _, _ => none
  | k + 1, x2, x7, x8, x9, x51, x59, x60, x63, x64, x479 => if x479 = true then (some false) else (if x8 ≤ 4 then ((impl_CountSortedFiles.f x8 x7).bind fun bt504 => (if bt504.2 = true then (if bt504.1 = x51 then (laws_FnFilesSearchedOfAll.j12 k x2 x9 x59 x60 x63 x64) else (some false)) else (some false))) else (laws_FnFilesSearchedOfAll.j12 k x2 x9 x59 x60 x63 x64))
def laws_FnFilesSearchedOfAll.j6 : Nat → List (List Int) → Int → List (List Int) → Int → List (List Int) → Int → Int → Int → Int → ByteArray → Int → Int → Bool → Option (Bool)
  | 0, _, _, _, _, _, _, _, _, _, _, _, _, _ => none
  | k + 1, x0, x1, x2, x3, x4, x5, x6, x7, x8, x9, x25, x38, x266 => if x266 = true then (some false) else (if x25 > 0 then ((impl_HeightOfRank.f k x0 (wrap64 (x25 - 1))).bind fun bt457 => (if bt457.2 = true then (if bt457.1 > x1 then (some false) else (laws_FnFilesSearchedOfAll.j7 k x0 x1 x2 x3 x4 x5 x6 x7 x8 x9 x25 x38)) else (some false))) else (laws_FnFilesSearchedOfAll.j7 k x0 x1 x2 x3 x4 x5 x6 x7 x8 x9 x25 x38))
def laws_FnFilesSearchedOfAll.j7 : Nat → List (List Int) → Int → List (List Int) → Int → List (List Int) → Int → Int → Int → Int → ByteArray → Int → Int → Option (Bool)
  | 0, _, _, _, _, _, _, _, _, _, _, _, _ => none
  | k + 1, x0, x1, x2, x3, x4, x5, x6, x7, x8, x9, x25, x38 => if x25 < x38 then ((impl_HeightOfRank.f k x0 x25).bind fun bt459 => (if bt459.2 = true then (if bt459.1 ≤ x1 then (some false) else (laws_FnFilesSearchedOfAll.j8 k x2 x3 x4 x5 x6 x7 x8 x9)) else (some false))) else (laws_FnFilesSearchedOfAll.j8 k x2 x3 x4 x5 x6 x7 x8 x9)
def laws_FnFilesSearchedOfAll.j2 : Nat → List (List Int) → Int → List (List Int) → Int → List (List Int) → Int → Int → Int → Int → ByteArray → List (List Int) → Int → Bool → Bool → Option (Bool)
  | 0, _, _, _, _, _, _, _, _, _, _, _, _, _, _ => none
  | k + 1, x0, x1, x2, x3, x4, x5, x6, x7, x8, x9, x21, x25, x26, x171 => if x171 = true then (some false) else (laws_FnFilesSearchedOfAll.l0 k x0 x1 x2 x3 x4 x5 x6 x7 x8 x9 x21 x25 x26 1)
def laws_FnFilesSearchedOfAll.l0 : Nat → List (List Int) → Int → List (List Int) → Int → List (List Int) → Int → Int → Int → Int → ByteArray → List (List Int) → Int → Bool → Int → Option (Bool)
  | 0, _, _, _, _, _, _, _, _, _, _, _, _, _, _ => none
  | k + 1, x0, x1, x2, x3, x4, x5, x6, x7, x8, x9, x21, x25, x26, x31 => if x31 < (x21.length : Int) then (if 0 ≤ x31 then (if 0 < ((rd_L1 x21 x31).length : Int) then (if 0 ≤ (wrap64 (x31 - 1)) then (if (wrap64 (x31 - 1)) < (x21.length : Int) then (if 0 < ((rd_L1 x21 (wrap64 (x31 - 1))).length : Int) then (if 1 < ((rd_L1 x21 (wrap64 (x31 - 1))).length : Int) then (if 1 < ((rd_L1 x21 x31).length : Int) then (if (wrap64 ((rd (rd_L1 x21 x31) 0) - (rd (rd_L1 x21 (wrap64 (x31 - 1))) 0))) < 0 then (some false) else (if (wrap64 ((rd (rd_L1 x21 (wrap64 (x31 - 1))) 1) - (rd (rd_L1 x21 x31) 1))) < 0 then (some false) else (if (wrap64 ((wrap64 ((rd (rd_L1 x21 x31) 0) - (rd (rd_L1 x21 (wrap64 (x31 - 1))) 0))) + (wrap64 ((rd (rd_L1 x21 (wrap64 (x31 - 1))) 1) - (rd (rd_L1 x21 x31) 1))))) = 1 then (laws_FnFilesSearchedOfAll.l0 k x0 x1 x2 x3 x4 x5 x6 x7 x8 x9 x21 x25 x26 (wrap64 (x31 + 1))) else (some false)))) else (none)) else (none)) else (none)) else (none)) else (none)) else (none)) else (none)) else (if 0 ≤ (wrap64 ((x21.length : Int) - 1)) then (if (wrap64 ((x21.length : Int) - 1)) < (x21.length : Int) then (laws_FnFilesSearchedOfAll.l1 k x0 x1 x2 x3 x4 x5 x6 x7 x8 x9 x25 x26 (rd_L1 x21 (wrap64 ((x21.length : Int) - 1))) false x0 (x0.length : Int) 0) else (none)) else (none))
def laws_FnFilesSearchedOfAll.l1 : Nat → List (List Int) → Int → List (List Int) → Int → List (List Int) → Int → Int → Int → Int → ByteArray → Int → Bool → List Int → Bool → List (List Int) → Int → Int → Option (Bool)
  | 0, _, _, _, _, _, _, _, _, _, _, _, _, _, _, _, _, _ => none
  | k + 1, x0, x1, x2, x3, x4, x5, x6, x7, x8, x9, x25, x26, x34, x35, x224, x225, x226 => if x226 < x225 then (if 0 ≤ x226 then (if x226 < (x224.length : Int) then (if x35 = true then (laws_FnFilesSearchedOfAll.l1 k x0 x1 x2 x3 x4 x5 x6 x7 x8 x9 x25 x26 x34 true x224 x225 (wrap64 (x226 + 1))) else ((laws_vHas.f k (rd_L1 x224 x226) x1).bind fun t451 => (laws_FnFilesSearchedOfAll.l1 k x0 x1 x2 x3 x4 x5 x6 x7 x8 x9 x25 x26 x34 t451 x224 x225 (wrap64 (x226 + 1))))) else (none)) else (none)) else (if 0 < (x34.length : Int) then (if 0 ≤ (rd x34 0) then (if (rd x34 0) < (x0.length : Int) then (if 1 < (x34.length : Int) then (if 0 ≤ (rd x34 1) then (if (rd x34 1) < ((rd_L1 x0 (rd x34 0)).length : Int) then (if (x35 != ((rd (rd_L1 x0 (rd x34 0)) (rd x34 1)) == x1)) = true then (some false) else (laws_FnFilesSearchedOfAll.j5 k x0 x1 x2 x3 x4 x5 x6 x7 x8 x9 x25 x26)) else (none)) else (none)) else (none)) else (none)) else (none)) else (none))
end
def laws_FnFilesSearchedOfAll.f (k : Nat) (l0 : List (List Int)) (a1 : Int) (l2 : List (List Int)) (a3 : Int) (l4 : List (List Int)) (a5 : Int) (a6 : Int) (a7 : Int) (a8 : Int) (a9 : ByteArray) : Option (Bool) := if (l0.length : Int) > 10000 then (laws_FnFilesSearchedOfAll.j0 k l0 a1 l2 a3 l4 a5 a6 a7 a8 a9 true) else (if (l2.length : Int) > 10000 then (laws_FnFilesSearchedOfAll.j0 k l0 a1 l2 a3 l4 a5 a6 a7 a8 a9 true) else (if (l4.length : Int) > 10000 then (laws_FnFilesSearchedOfAll.j0 k l0 a1 l2 a3 l4 a5 a6 a7 a8 a9 true) else (laws_FnFilesSearchedOfAll.j0 k l0 a1 l2 a3 l4 a5 a6 a7 a8 a9 (decide ((a9.size : Int) > 1048576)))))
theorem laws_FnFilesSearchedOfAll.j1_false {k : Nat} {x0 x1 x2 x3 x4 x5 x6 x7 x8 x9 x10 x11 x12 x13} {r : Bool} (h : laws_FnFilesSearchedOfAll.j1 k x0 x1 x2 x3 x4 x5 x6 x7 x8 x9 x10 x11 x12 x13 true = some r) : r = false := by
  cases k with
  | zero => simp [laws_FnFilesSearchedOfAll.j1] at h
  | succ k => simp only [laws_FnFilesSearchedOfAll.j1, if_true, Option.some.injEq] at h; exact h.symm
theorem laws_FnFilesSearchedOfAll.j9_false {k : Nat} {x0 x1 x2 x3 x4 x5 x6 x7 x8 x9 x10 x11 x12 x13 x14} {r : Bool} (h : laws_FnFilesSearchedOfAll.j9 k x0 x1 x2 x3 x4 x5 x6 x7 x8 x9 x10 x11 x12 x13 x14 true = some r) : r = false := by
  cases k with
  | zero => simp [laws_FnFilesSearchedOfAll.j9] at h
  | succ k => simp only [laws_FnFilesSearchedOfAll.j9, if_true, Option.some.injEq] at h; exact h.symm
theorem laws_FnFilesSearchedOfAll.j14_false {k : Nat} {x0 x1 x2} {r : Bool} (h : laws_FnFilesSearchedOfAll.j14 k x0 x1 x2 true = some r) : r = false := by
  cases k with
  | zero => simp [laws_FnFilesSearchedOfAll.j14] at h
  | succ k => simp only [laws_FnFilesSearchedOfAll.j14, if_true, Option.some.injEq] at h; exact h.symm
theorem laws_FnFilesSearchedOfAll.j11_false {k : Nat} {x0 x1 x2 x3 x4 x5 x6 x7 x8} {r : Bool} (h : laws_FnFilesSearchedOfAll.j11 k x0 x1 x2 x3 x4 x5 x6 x7 x8 true = some r) : r = false := by
  cases k with
  | zero => simp [laws_FnFilesSearchedOfAll.j11] at h
  | succ k => simp only [laws_FnFilesSearchedOfAll.j11, if_true, Option.some.injEq] at h; exact h.symm
theorem laws_FnFilesSearchedOfAll.j6_false {k : Nat} {x0 x1 x2 x3 x4 x5 x6 x7 x8 x9 x10 x11} {r : Bool} (h : laws_FnFilesSearchedOfAll.j6 k x0 x1 x2 x3 x4 x5 x6 x7 x8 x9 x10 x11 true = some r) : r = false := by
  cases k with
  | zero => simp [laws_FnFilesSearchedOfAll.j6] at h
  | succ k => simp only [laws_FnFilesSearchedOfAll.j6, if_true, Option.some.injEq] at h; exact h.symm
theorem laws_FnFilesSearchedOfAll.j2_false {k : Nat} {x0 x1 x2 x3 x4 x5 x6 x7 x8 x9 x10 x11 x12} {r : Bool} (h : laws_FnFilesSearchedOfAll.j2 k x0 x1 x2 x3 x4 x5 x6 x7 x8 x9 x10 x11 x12 true = some r) : r = false := by
  cases k with
  | zero => simp [laws_FnFilesSearchedOfAll.j2] at h
  | succ k => simp only [laws_FnFilesSearchedOfAll.j2, if_true, Option.some.injEq] at h; exact h.symm
set_option maxHeartbeats 8000000 in
set_option maxRecDepth 100000 in
theorem laws_FnFilesSearchedOfAll.calls (k : Nat) (A0 : Option Addr) (c0 : Nat) (l0 : List (List Int)) (a1 : Int) (A2 : Option Addr) (c2 : Nat) (l2 : List (List Int)) (a3 : Int) (A4 : Option Addr) (c4 : Nat) (l4 : List (List Int)) (a5 : Int) (a6 : Int) (a7 : Int) (a8 : Int) (a9 : ByteArray) (r : Bool) (w : World) (hU : TabOK w) (hr0 : Kd.C (Kd.slice 3 (Kd.int .i64)) w A0 l0.length l0) (hc0 : l0.length ≤ c0) (hr2 : Kd.C (Kd.slice 3 (Kd.int .i64)) w A2 l2.length l2) (hc2 : l2.length ≤ c2) (hr4 : Kd.C (Kd.slice 3 (Kd.int .i64)) w A4 l4.length l4) (hc4 : l4.length ≤ c4) (h : r = true ∧ laws_FnFilesSearchedOfAll.f k l0 a1 l2 a3 l4 a5 a6 a7 a8 a9 = some r) :
    Calls Tryz.prog 3 #[.slice A0 l0.length c0, .int .i64 a1, .slice A2 l2.length c2, .int .i64 a3, .slice A4 l4.length c4, .int .i64 a5, .int .i64 a6, .int .i64 a7, .int .i64 a8, .string a9] w fun e w' => e = .returned (.bool r) ∧ Below w.heap.size w w' := by
  have HU := Aside0.mk hU
  clear hU
  obtain ⟨hrt, h⟩ := h
  have HR0 := Aside0.mk hr0
  have HC0 := Aside0.mk hc0
  clear hr0 hc0
  have HR2 := Aside0.mk hr2
  have HC2 := Aside0.mk hc2
  clear hr2 hc2
  have HR4 := Aside0.mk hr4
  have HC4 := Aside0.mk hc4
  clear hr4 hc4
  have HB := Aside0.mk (Below.refl w.heap.size w)
  have H : (if (l0.length : Int) > 10000 then (laws_FnFilesSearchedOfAll.j0 k l0 a1 l2 a3 l4 a5 a6 a7 a8 a9 true) else (if (l2.length : Int) > 10000 then (laws_FnFilesSearchedOfAll.j0 k l0 a1 l2 a3 l4 a5 a6 a7 a8 a9 true) else (if (l4.length : Int) > 10000 then (laws_FnFilesSearchedOfAll.j0 k l0 a1 l2 a3 l4 a5 a6 a7 a8 a9 true) else (laws_FnFilesSearchedOfAll.j0 k l0 a1 l2 a3 l4 a5 a6 a7 a8 a9 (decide ((a9.size : Int) > 1048576)))))) = some r := h
  clear h
  have HC11 := Aside0.mk H
  clear H
  go_enter Tryz.func3, Tryz.ntmps3
  go_upto_region 1 with (fail)
  repeat (go_quiet (fail); go_upto_region 1 with (fail))
  go_cut [92] from 92 to 92 (fun v92 wc => ∃ (kq : Nat) (x92_10 : Bool), v92 = .bool x92_10 ∧ Aside0 (laws_FnFilesSearchedOfAll.j0 kq l0 a1 l2 a3 l4 a5 a6 a7 a8 a9 x92_10 = some r) ∧ Aside0 (kq ≤ k) ∧ Aside0 (Below w.heap.size w wc))
  case first => as_aux_lemma =>
    have H := HC11.out
    clear HC11
    by_cases c12 : (l0.length : Int) > 10000
    · rw [if_pos c12] at H
      have c12b0 : decide (10000 < (l0.length : Int)) = true := decide_eq_true c12
      have c12b1 : decide (10000 < l0.length) = true := decide_eq_true (by omega)
      clear c12
      (skip)
      have H' := Aside0.mk H
      clear H
      go_wp2
      repeat (go_quiet (fail); try go_wp2)
      go_meet
      case rel => exact ⟨_, (true), (by rfl), H', ⟨by (exact Nat.le_refl _)⟩, ⟨by repeat ((with_reducible (exact HB.out)))⟩⟩
    rw [if_neg c12] at H
    have c12b0 : decide (10000 < (l0.length : Int)) = false := decide_eq_false c12
    have c12b1 : decide (10000 < l0.length) = false := decide_eq_false (by omega)
    clear c12
    (skip)
    by_cases c13 : (l2.length : Int) > 10000
    · rw [if_pos c13] at H
      have c13b0 : decide (10000 < (l2.length : Int)) = true := decide_eq_true c13
      have c13b1 : decide (10000 < l2.length) = true := decide_eq_true (by omega)
      clear c13
      have H' := Aside0.mk H
      clear H
      go_wp2
      repeat (go_quiet (fail); try go_wp2)
      go_meet
      case rel => exact ⟨_, (true), (by rfl), H', ⟨by (exact Nat.le_refl _)⟩, ⟨by repeat ((with_reducible (exact HB.out)))⟩⟩
    rw [if_neg c13] at H
    have c13b0 : decide (10000 < (l2.length : Int)) = false := decide_eq_false c13
    have c13b1 : decide (10000 < l2.length) = false := decide_eq_false (by omega)
    clear c13
    by_cases c14 : (l4.length : Int) > 10000
    · rw [if_pos c14] at H
      have c14b0 : decide (10000 < (l4.length : Int)) = true := decide_eq_true c14
      have c14b1 : decide (10000 < l4.length) = true := decide_eq_true (by omega)
      clear c14
      have H' := Aside0.mk H
      clear H
      go_wp2
      repeat (go_quiet (fail); try go_wp2)
      go_meet
      case rel => exact ⟨_, (true), (by rfl), H', ⟨by (exact Nat.le_refl _)⟩, ⟨by repeat ((with_reducible (exact HB.out)))⟩⟩
    rw [if_neg c14] at H
    have c14b0 : decide (10000 < (l4.length : Int)) = false := decide_eq_false c14
    have c14b1 : decide (10000 < l4.length) = false := decide_eq_false (by omega)
    clear c14
    have H' := Aside0.mk H
    clear H
    go_wp2
    repeat (go_quiet (fail); try go_wp2)
    go_meet
    case rel => exact ⟨_, (decide ((a9.size : Int) > 1048576)), (by rfl), H', ⟨by (exact Nat.le_refl _)⟩, ⟨by repeat ((with_reducible (exact HB.out)))⟩⟩
  case rest => as_aux_lemma =>
    clear HC11
    obtain ⟨kq, x92_10, rfl, HA, HJ10, HB⟩ := hcut
    cases kq with
    | zero => exact absurd HA.out (by simp [laws_FnFilesSearchedOfAll.j0])
    | succ kj10 =>
      have H := HA.out
      clear HA
      simp only [laws_FnFilesSearchedOfAll.j0] at H
      by_cases c15 : x92_10 = true
      · subst c15
        rw [if_pos rfl] at H
        obtain rfl := Option.some.inj H
        clear hrt
        go_wp2
        repeat (go_quiet (fail); try go_wp2)
        go_ret
        exact ⟨by rfl, by repeat ((with_reducible (exact HB.out)))⟩
      replace c15 := Bool.eq_false_iff.mpr c15
      subst c15
      rw [if_neg (show ¬ (false = true) by decide)] at H
      replace H := Option.bind_eq_some_iff.mp H
      obtain ⟨⟨t422, t423⟩, A160, H⟩ := H
      (try dsimp only at H)
      have A16 := Aside0.mk A160
      clear A160
      replace H := Option.bind_eq_some_iff.mp H
      obtain ⟨⟨t426, t427⟩, A170, H⟩ := H
      (try dsimp only at H)
      have A17 := Aside0.mk A170
      clear A170
      replace H := Option.bind_eq_some_iff.mp H
      obtain ⟨⟨t430, t431⟩, A180, H⟩ := H
      (try dsimp only at H)
      have A18 := Aside0.mk A180
      clear A180
      replace H := Option.bind_eq_some_iff.mp H
      obtain ⟨⟨t432, t433⟩, A190, H⟩ := H
      (try dsimp only at H)
      have A19 := Aside0.mk A190
      clear A190
      have HC20 := Aside0.mk H
      clear H
      go_upto_region 7 with (first | (go_at_call 4; (with_reducible refine (impl_PlacesSearched.calls kj10 _ _ l0 a1 t422 t423 _ ?side1 ?side2 A16.out).mono ?_); (case side1 => repeat ((exact (Kd.C_below HR0.out HB.out)))); (case side2 => exact HC0.out); rintro e w21 ⟨v424, rfl, ho0, hb⟩; have n0_ := Aside0.mk (Kd.S_lower ho0 (below_size (by repeat ((with_reducible (exact HB.out)))))); have n1_ := Aside0.mk (below_step (by repeat ((with_reducible (exact HB.out)))) hb); clear HB; have HO425 := n0_; have HB := n1_; clear n0_ n1_; (try clear hb); (try clear hb2); (try clear hk); (try clear hi); (try clear ho0)) | (go_at_call 5; (with_reducible refine (spec_PlacesSearched.calls kj10 _ _ l0 a1 t426 t427 _ ?side1 ?side2 A17.out).mono ?_); (case side1 => repeat ((exact (Kd.C_below HR0.out HB.out)))); (case side2 => exact HC0.out); rintro e w22 ⟨v428, rfl, ho0, hb⟩; have n0_ := Aside0.mk (Kd.S_elder' (by (with_reducible repeat (fail)); exact HO425.out) (Kd.S_base ho0) hb); have n1_ := Aside0.mk (Kd.S_lower (Kd.S_new' ho0 (Kd.S_lt (by (with_reducible repeat (fail)); exact HO425.out))) (below_size (by repeat ((with_reducible (exact HB.out)))))); have n2_ := Aside0.mk (below_step (by repeat ((with_reducible (exact HB.out)))) hb); clear HO425; clear HB; have HO425 := n0_; have HO429 := n1_; have HB := n2_; clear n0_ n1_ n2_; (try clear hb); (try clear hb2); (try clear hk); (try clear hi); (try clear ho0)) | (go_at_call 6; (with_reducible refine (impl_CountUpTo.calls kj10 _ _ l0 a1 t430 t431 _ ?side1 ?side2 A18.out).mono ?_); (case side1 => repeat ((exact (Kd.C_below HR0.out HB.out)))); (case side2 => exact HC0.out); rintro e w23 ⟨rfl, hb⟩; have n0_ := Aside0.mk (Kd.S_below (by (with_reducible repeat (fail)); exact HO425.out) hb); have n1_ := Aside0.mk (Kd.S_below (by (with_reducible repeat (fail)); exact HO429.out) hb); have n2_ := Aside0.mk (below_step (by repeat ((with_reducible (exact HB.out)))) hb); clear HO425; clear HO429; clear HB; have HO425 := n0_; have HO429 := n1_; have HB := n2_; clear n0_ n1_ n2_; (try clear hb); (try clear hb2); (try clear hk); (try clear hi)) | (go_at_call 7; (with_reducible refine (spec_CountUpTo.calls kj10 _ _ l0 a1 t432 t433 _ ?side1 ?side2 A19.out).mono ?_); (case side1 => repeat ((exact (Kd.C_below HR0.out HB.out)))); (case side2 => exact HC0.out); rintro e w24 ⟨rfl, hb⟩; have n0_ := Aside0.mk (Kd.S_below (by (with_reducible repeat (fail)); exact HO425.out) hb); have n1_ := Aside0.mk (Kd.S_below (by (with_reducible repeat (fail)); exact HO429.out) hb); have n2_ := Aside0.mk (below_step (by repeat ((with_reducible (exact HB.out)))) hb); clear HO425; clear HO429; clear HB; have HO425 := n0_; have HO429 := n1_; have HB := n2_; clear n0_ n1_ n2_; (try clear hb); (try clear hb2); (try clear hk); (try clear hi)))
      (try simp only [Act.put, List.setIfInBounds_toArray, List.set_cons_zero, List.set_cons_succ])
      go_cut [142] from 142 to 142 (fun v142 wc => ∃ (kq : Nat) (x142_19 : Bool), v142 = .bool x142_19 ∧ Aside0 (laws_FnFilesSearchedOfAll.j1 kq l0 a1 l2 a3 l4 a5 a6 a7 a8 a9 t422 t423 t430 t431 x142_19 = some r) ∧ Aside0 (kq ≤ kj10) ∧ Aside0 (Kd.S (Kd.slice 3 (Kd.int .i64)) 28 wc w.heap.size (fun _ => True) v424 t422) ∧ Aside0 (Below w.heap.size w wc))
      case first => as_aux_lemma =>
        have H := HC20.out
        clear HC20
        by_cases c25 : (t423 != t427) = true
        · rw [if_pos c25] at H
          have c25b0 : (t423 != t427) = true := c25
          (try (have c25b1 : decide (t423 = t427) = false := by simpa using c25))
          (try (have c25b2 : (t423 == t427) = false := by simpa using c25))
          (try (have c25b3 : ¬ (t423 = t427) := by simpa using c25))
          clear c25
          (skip)
          exact absurd (hrt.symm.trans (laws_FnFilesSearchedOfAll.j1_false H)) (by decide)
        rw [if_neg c25] at H
        have c25b0 : (t423 != t427) = false := by simpa using c25
        (try (have c25b1 : decide (t423 = t427) = true := by simpa using c25))
        (try (have c25b2 : (t423 == t427) = true := by simpa using c25))
        clear c25
        (skip)
        replace H := Option.bind_eq_some_iff.mp H
        obtain ⟨t434, A260, H⟩ := H
        (try dsimp only at H)
        have A26 := Aside0.mk A260
        clear A260
        by_cases c27 : t434 = true
        rotate_left
        · replace c27 := Bool.eq_false_iff.mpr c27
          subst c27
          rw [if_neg (show ¬ (false = true) by decide)] at H
          exact absurd (hrt.symm.trans (laws_FnFilesSearchedOfAll.j1_false H)) (by decide)
        subst c27
        rw [if_pos rfl] at H
        by_cases c28 : (t431 != t433) = true
        · rw [if_pos c28] at H
          have c28b0 : (t431 != t433) = true := c28
          (try (have c28b1 : decide (t431 = t433) = false := by simpa using c28))
          (try (have c28b2 : (t431 == t433) = false := by simpa using c28))
          (try (have c28b3 : ¬ (t431 = t433) := by simpa using c28))
          clear c28
          exact absurd (hrt.symm.trans (laws_FnFilesSearchedOfAll.j1_false H)) (by decide)
        rw [if_neg c28] at H
        have c28b0 : (t431 != t433) = false := by simpa using c28
        (try (have c28b1 : decide (t431 = t433) = true := by simpa using c28))
        (try (have c28b2 : (t431 == t433) = true := by simpa using c28))
        clear c28
        by_cases c31 : t430 = t432
        rotate_left
        · rw [if_neg c31] at H
          have c31b0 : (t430 == t432) = false := beq_eq_false_iff_ne.mpr c31
          have c31b1 : (t430 != t432) = true := bne_iff_ne.mpr c31
          exact absurd (hrt.symm.trans (laws_FnFilesSearchedOfAll.j1_false H)) (by decide)
        rw [if_pos c31] at H
        have c31b0 : (t430 == t432) = true := beq_iff_eq.mpr c31
        have c31b1 : (t430 != t432) = false := bne_eq_false_iff_eq.mpr c31
        clear c31
        by_cases c32 : t423 = true
        · subst c32
          rw [if_pos rfl] at H
          have H' := Aside0.mk H
          clear H
          obtain ⟨Ao33, co33, eo33⟩ := Kd.S_slice HO425.out
          subst eo33
          obtain ⟨Ao34, co34, eo34⟩ := Kd.S_slice HO429.out
          subst eo34
          go_wp2_with ((go_at_call 8; (with_reducible refine (laws_vRows.calls kj10 _ _ t422 _ _ t426 true _ ?side1 ?side2 ?side3 ?side4 A26.out).mono ?_); (case side1 => repeat ((exact (Kd.S_reads' HO425.out).2.2))); (case side2 => exact (Kd.S_reads' HO425.out).2.1); (case side3 => repeat ((exact (Kd.S_reads' HO429.out).2.2))); (case side4 => exact (Kd.S_reads' HO429.out).2.1); rintro e w' ⟨rfl, ⟨nd, rfl⟩⟩; (try fail)))
          repeat (go_quiet (fail); try go_wp2_with (fail))
          go_meet
          case rel => exact ⟨_, (!t431), (by rfl), H', ⟨by (exact Nat.le_refl _)⟩, ⟨by (with_reducible repeat ((apply Kd.S_drewN))); exact Kd.S_mono HO425.out (fun _ hk => trivial)⟩, ⟨by repeat ((with_reducible first | exact HB.out | apply pw_below_drewN))⟩⟩
        replace c32 := Bool.eq_false_iff.mpr c32
        subst c32
        rw [if_neg (show ¬ (false = true) by decide)] at H
        have H' := Aside0.mk H
        clear H
        obtain ⟨Ao35, co35, eo35⟩ := Kd.S_slice HO425.out
        subst eo35
        obtain ⟨Ao36, co36, eo36⟩ := Kd.S_slice HO429.out
        subst eo36
        go_wp2_with ((go_at_call 8; (with_reducible refine (laws_vRows.calls kj10 _ _ t422 _ _ t426 true _ ?side1 ?side2 ?side3 ?side4 A26.out).mono ?_); (case side1 => repeat ((exact (Kd.S_reads' HO425.out).2.2))); (case side2 => exact (Kd.S_reads' HO425.out).2.1); (case side3 => repeat ((exact (Kd.S_reads' HO429.out).2.2))); (case side4 => exact (Kd.S_reads' HO429.out).2.1); rintro e w' ⟨rfl, ⟨nd, rfl⟩⟩; (try fail)))
        repeat (go_quiet (fail); try go_wp2_with (fail))
        go_meet
        case rel => exact ⟨_, (false), (by rfl), H', ⟨by (exact Nat.le_refl _)⟩, ⟨by (with_reducible repeat ((apply Kd.S_drewN))); exact Kd.S_mono HO425.out (fun _ hk => trivial)⟩, ⟨by repeat ((with_reducible first | exact HB.out | apply pw_below_drewN))⟩⟩
      case rest => as_aux_lemma =>
        clear HC20
        obtain ⟨kq, x142_19, rfl, HA, HJ19, HO_21, HB⟩ := hcut
        cases kq with
        | zero => exact absurd HA.out (by simp [laws_FnFilesSearchedOfAll.j1])
        | succ kj19 =>
          have H := HA.out
          clear HA
          simp only [laws_FnFilesSearchedOfAll.j1] at H
          by_cases c41 : x142_19 = true
          · subst c41
            rw [if_pos rfl] at H
            exact absurd (hrt.symm.trans (Option.some.inj H).symm) (by decide)
          replace c41 := Bool.eq_false_iff.mpr c41
          subst c41
          rw [if_neg (show ¬ (false = true) by decide)] at H
          have HC42 := Aside0.mk H
          clear H
          go_upto_if 143 with (fail)
          repeat (go_quiet (fail); go_upto_if 143 with (fail))
          go_cut [] from 143 to 143 (fun wc => ∃ (kq : Nat), Aside0 (laws_FnFilesSearchedOfAll.j5 kq l0 a1 l2 a3 l4 a5 a6 a7 a8 a9 t430 t431 = some r) ∧ Aside0 (kq ≤ kj19) ∧ Aside0 (Below w.heap.size w wc))
          case first => as_aux_lemma =>
            have H := HC42.out
            clear HC42
            by_cases c43 : t423 = true
            rotate_left
            · replace c43 := Bool.eq_false_iff.mpr c43
              subst c43
              rw [if_neg (show ¬ (false = true) by decide)] at H
              have H' := Aside0.mk H
              clear H
              go_wp2
              repeat (go_quiet (fail); try go_wp2)
              go_meet
              case rel => exact ⟨_, H', ⟨by (exact Nat.le_refl _)⟩, ⟨by repeat ((with_reducible (exact HB.out)))⟩⟩
            subst c43
            rw [if_pos rfl] at H
            by_cases c44 : 0 < (l0.length : Int)
            rotate_left
            · rw [if_neg c44] at H
              exact absurd H (by simp)
            rw [if_pos c44] at H
            have c44b0 : decide (0 < (l0.length : Int)) = true := decide_eq_true c44
            have c44b1 : decide (0 < l0.length) = true := decide_eq_true (by omega)
            clear c44
            (skip)
            have HC45 := Aside0.mk H
            clear H
            have p435 : 0 ≤ (0 : Int) := (by omega)
            have q435 : 0 < (l0.length : Int) := of_decide_eq_true (by (with_reducible assumption))
            obtain ⟨ad435, A435_0, c435_0, e435, hx435_0, hl435_0, hi435_0⟩ := at_L1 HR0.out 0 p435 q435
            cases e435
            have qi435 : (0 < l0.length) = True := eq_true (by omega)
            (try rw [show ((0 : Int)).toNat = 0 from rfl] at hx435_0)
            (try rw [Addr.add_zero'] at hx435_0)
            (try replace hx435_0 := (HB.out.cell (World.block_lt_of_cell? w _ hx435_0)).trans hx435_0)
            have HR435_0 := Aside0.mk hi435_0
            have HC435_0 := Aside0.mk hl435_0
            clear hi435_0 hl435_0
            replace p435 := eq_true p435
            replace q435 := eq_true q435
            go_upto_region 11 with (fail)
            repeat (go_quiet (fail); go_upto_region 11 with (fail))
            go_cut [171] from 171 to 171 (fun v171 wc => ∃ (kq : Nat) (x171_44 : Bool), v171 = .bool x171_44 ∧ Aside0 (laws_FnFilesSearchedOfAll.j2 kq l0 a1 l2 a3 l4 a5 a6 a7 a8 a9 t422 t430 t431 x171_44 = some r) ∧ Aside0 (kq ≤ kj19) ∧ Aside0 (Kd.S (Kd.slice 3 (Kd.int .i64)) 28 wc w.heap.size (fun _ => True) v424 t422) ∧ Aside0 (Below w.heap.size w wc))
            case first => as_aux_lemma =>
              have H := HC45.out
              clear HC45
              by_cases c46 : (t422.length : Int) < 1
              · rw [if_pos c46] at H
                have c46b0 : decide ((t422.length : Int) < 1) = true := decide_eq_true c46
                have c46b1 : decide (t422.length < 1) = true := decide_eq_true (by omega)
                clear c46
                (skip)
                exact absurd (hrt.symm.trans (laws_FnFilesSearchedOfAll.j2_false H)) (by decide)
              rw [if_neg c46] at H
              have c46b0 : decide ((t422.length : Int) < 1) = false := decide_eq_false c46
              have c46b1 : decide (t422.length < 1) = false := decide_eq_false (by omega)
              clear c46
              (skip)
              by_cases c48 : (t422.length : Int) > (wrap64 ((wrap64 ((l0.length : Int) + ((rd_L1 l0 0).length : Int))) - 1))
              · rw [if_pos c48] at H
                have c48b0 : decide ((wrap64 ((wrap64 ((l0.length : Int) + ((rd_L1 l0 0).length : Int))) - 1)) < (t422.length : Int)) = true := decide_eq_true c48
                clear c48
                exact absurd (hrt.symm.trans (laws_FnFilesSearchedOfAll.j2_false H)) (by decide)
              rw [if_neg c48] at H
              have c48b0 : decide ((wrap64 ((wrap64 ((l0.length : Int) + ((rd_L1 l0 0).length : Int))) - 1)) < (t422.length : Int)) = false := decide_eq_false c48
              clear c48
              by_cases c50 : 0 < (t422.length : Int)
              rotate_left
              · rw [if_neg c50] at H
                exact absurd H (by simp)
              rw [if_pos c50] at H
              have c50b0 : decide (0 < (t422.length : Int)) = true := decide_eq_true c50
              have c50b1 : decide (0 < t422.length) = true := decide_eq_true (by omega)
              clear c50
              obtain ⟨y437, hy437⟩ : ∃ y_ : List Int, y_ = (([0, wrap64 (((rd_L1 l0 0).length : Int) - 1)] : List Int)) := ⟨_, rfl⟩
              replace H : ((laws_vSame.f kj19 (rd_L1 t422 0) y437).bind fun t440 => (laws_FnFilesSearchedOfAll.j2 kj19 l0 a1 l2 a3 l4 a5 a6 a7 a8 a9 t422 t430 t431 (!t440))) = some r := by (rw [hy437]; with_reducible exact H)
              have Ny437 := Aside0.mk hy437
              clear hy437
              replace H := Option.bind_eq_some_iff.mp H
              obtain ⟨t440, A510, H⟩ := H
              (try dsimp only at H)
              have A51 := Aside0.mk A510
              clear A510
              have H' := Aside0.mk H
              clear H
              obtain ⟨Ao52, co52, eo52⟩ := Kd.S_slice HO_21.out
              subst eo52
              have p436 : 0 ≤ (0 : Int) := (by omega)
              have q436 : 0 < (t422.length : Int) := of_decide_eq_true (by (with_reducible assumption))
              obtain ⟨ad436, A436_0, c436_0, e436, hx436_0, hl436_0, hi436_0⟩ := at_L1 (Kd.S_reads' HO_21.out).2.2 0 p436 q436
              cases e436
              obtain ⟨ce436, hce436, hMe436, hcc436⟩ := Kd.S_get HO_21.out [] 0 p436 (by (exact q436))
              obtain ⟨ve436_0, rfl, ge436_0⟩ := hMe436
              have hv436_0 := hcc436 0 _ rfl
              rw [Nat.add_zero, show ((Kd.slice 3 (Kd.int .i64))).sz = 1 from rfl, Nat.mul_one] at hv436_0
              replace hv436_0 := Option.some.inj (hv436_0.symm.trans hx436_0)
              rw [hv436_0] at ge436_0
              have HL436_0 := Aside0.mk (show Kd.R (Kd.int .i64) 3 _ _ _ _ (rd_L1 t422 0) from ge436_0)
              clear hv436_0 ge436_0 hcc436 hce436
              have qi436 : (0 < t422.length) = True := eq_true (by omega)
              (try rw [show ((0 : Int)).toNat = 0 from rfl] at hx436_0)
              (try rw [Addr.add_zero'] at hx436_0)
              have HR436_0 := Aside0.mk hi436_0
              have HC436_0 := Aside0.mk hl436_0
              clear hi436_0 hl436_0
              replace p436 := eq_true p436
              replace q436 := eq_true q436
              go_wp2_with (first | ((with_reducible refine gate_dst (N := 168) rfl ?_); (try (refine gate_guard (by rfl) ?_; dsimp only)); refine Kd.R_lit (Kd.int .i64) _ 3 ?hg (N := 168) ?hd (xs := ([0, wrap64 (((rd_L1 l0 0).length : Int) - 1)] : List Int)) (inner := [.int .i64 0, .int .i64 (wrap64 (((rd_L1 l0 0).length : Int) - 1))]) (ok := fun _ => True) (okp := fun _ => True) ?hr ?hp (fun _ hk => hk) trivial (Below.refl _ _) (Nat.le_refl _) (by simp) ?_; (case hd => rfl); (case hg => rfl); (case hr => (go_simp; done)); (case hp => exact (Reps.one (show Kd.M (Kd.int .i64) _ _ _ 0 [.int .i64 0] from rfl) (Reps.one (show Kd.M (Kd.int .i64) _ _ _ (wrap64 (((rd_L1 l0 0).length : Int) - 1)) [.int .i64 (wrap64 (((rd_L1 l0 0).length : Int) - 1))] from rfl) (Reps.none _ _)))); intro v438 w53 ho54 hb hg_ hnew_; clear hg_ hnew_; ((rw [← Ny437.out] at ho54)); have n0_ := Aside0.mk (Kd.S_elder' (by (with_reducible repeat ((apply Kd.S_drewN))); exact HO_21.out) (Kd.R_base ho54) hb); have n1_ := Aside0.mk (Kd.R_elder' (by (with_reducible repeat ((apply Kd.R_drewN))); exact HL436_0.out) (Kd.R_base ho54) hb); have n2_ := Aside0.mk (Kd.R_lower (Kd.R_new' ho54 (Kd.R_lt (by (with_reducible repeat ((apply Kd.R_drewN))); exact HL436_0.out))) (below_size (by repeat ((with_reducible first | exact HB.out | apply pw_below_drewN))))); have n3_ := Aside0.mk (Kd.C_below (by repeat ((exact HR436_0.out))) hb); have n4_ := Aside0.mk (below_step (by repeat ((with_reducible first | exact HB.out | apply pw_below_drewN))) hb); clear HO_21; clear HL436_0; clear HR436_0; clear HB; have HO_21 := n0_; have HL436_0 := n1_; have HO439 := n2_; have HR436_0 := n3_; have HB := n4_; clear n0_ n1_ n2_ n3_ n4_; clear hb ho54; obtain ⟨Ao55, co55, eo55⟩ := Kd.R_slice HO439.out; subst eo55) | (go_at_call 9; (with_reducible refine (laws_vSame.calls kj19 _ _ (rd_L1 t422 0) _ _ y437 t440 _ ?side1 ?side2 ?side3 ?side4 A51.out).mono ?_); (case side1 => repeat ((exact (by repeat ((with_reducible exact HR436_0.out)))))); (case side2 => exact HC436_0.out); (case side3 => repeat ((exact (Kd.R_reads' HO439.out).2.2))); (case side4 => exact (Kd.R_reads' HO439.out).2.1); rintro e w' ⟨rfl, ⟨nd, rfl⟩⟩; (try fail)))
              repeat (go_quiet (fail); try go_wp2_with (fail))
              go_meet
              case rel => exact ⟨_, (!t440), (by rfl), H', ⟨by (exact Nat.le_refl _)⟩, ⟨by (with_reducible repeat ((apply Kd.S_drewN))); exact Kd.S_mono HO_21.out (fun _ hk => trivial)⟩, ⟨by repeat ((with_reducible first | exact HB.out | apply pw_below_drewN))⟩⟩
            case rest => as_aux_lemma =>
              clear HC45 c44b0 c44b1 hx435_0 p435 q435
              obtain ⟨kq, x171_44, rfl, HA, HJ44, HO_21, HB⟩ := hcut
              cases kq with
              | zero => exact absurd HA.out (by simp [laws_FnFilesSearchedOfAll.j2])
              | succ kj44 =>
                have H := HA.out
                clear HA
                simp only [laws_FnFilesSearchedOfAll.j2] at H
                by_cases c56 : x171_44 = true
                · subst c56
                  rw [if_pos rfl] at H
                  exact absurd (hrt.symm.trans (Option.some.inj H).symm) (by decide)
                replace c56 := Bool.eq_false_iff.mpr c56
                subst c56
                rw [if_neg (show ¬ (false = true) by decide)] at H
                have H' := Aside0.mk H
                clear H
                go_wp2
                repeat (go_quiet (fail); try go_wp2)
                go_loopg [31] kj44 (fun kq v31 w' => ∃ (x31_4 : Int), v31 = .int .i64 x31_4 ∧ Aside0 (laws_FnFilesSearchedOfAll.l0 kq l0 a1 l2 a3 l4 a5 a6 a7 a8 a9 t422 t430 t431 x31_4 = some r) ∧ Aside0 (kq ≤ kj44) ∧ Aside0 (Kd.S (Kd.slice 3 (Kd.int .i64)) 28 w' w.heap.size (fun _ => True) v424 t422) ∧ Aside0 (Below w.heap.size w w'))
                case atStart => exact ⟨(1), (by rfl), H', ⟨Nat.le_refl _⟩, ⟨by (with_reducible repeat (fail)); exact HO_21.out⟩, ⟨by repeat ((with_reducible (exact HB.out)))⟩⟩
                case round =>
                  clear H'
                  obtain ⟨x31_4, rfl, HA, HK4, HO_21, HB⟩ := hrel
                  cases gk with
                  | zero => exact absurd HA.out (by simp [laws_FnFilesSearchedOfAll.l0])
                  | succ k4 =>
                    have H := HA.out
                    clear HA
                    simp only [laws_FnFilesSearchedOfAll.l0] at H
                    by_cases c57 : x31_4 < (t422.length : Int)
                    rotate_left
                    · rw [if_neg c57] at H
                      have c57b0 : decide (x31_4 < (t422.length : Int)) = false := decide_eq_false c57
                      clear c57
                      obtain ⟨ji73, hji73⟩ : ∃ j_ : Int, (wrap64 ((t422.length : Int) - 1)) = j_ := ⟨_, rfl⟩
                      replace H : (if 0 ≤ (ji73) then (if (ji73) < (t422.length : Int) then (laws_FnFilesSearchedOfAll.l1 k4 l0 a1 l2 a3 l4 a5 a6 a7 a8 a9 t430 t431 (rd_L1 t422 (ji73)) false l0 (l0.length : Int) 0) else (none)) else (none)) = some r := by (rw [hji73] at H; exact H)
                      have hji73w : (IntKind.i64.wrap ((t422.length : Int) - 1)) = ji73 := (i64_w _).trans hji73
                      by_cases c74 : 0 ≤ (ji73)
                      rotate_left
                      · rw [if_neg c74] at H
                        exact absurd H (by simp)
                      rw [if_pos c74] at H
                      have c74b0 : decide (0 ≤ (ji73)) = true := decide_eq_true c74
                      clear c74
                      by_cases c75 : (ji73) < (t422.length : Int)
                      rotate_left
                      · rw [if_neg c75] at H
                        exact absurd H (by simp)
                      rw [if_pos c75] at H
                      have c75b0 : decide ((ji73) < (t422.length : Int)) = true := decide_eq_true c75
                      clear c75
                      have H' := Aside0.mk H
                      clear H
                      obtain ⟨Ao76, co76, eo76⟩ := Kd.S_slice HO_21.out
                      subst eo76
                      have p449 : 0 ≤ ((ji73) : Int) := of_decide_eq_true (by (with_reducible assumption))
                      have q449 : (ji73) < (t422.length : Int) := of_decide_eq_true (by (with_reducible assumption))
                      obtain ⟨ad449, A449_0, c449_0, e449, hx449_0, hl449_0, hi449_0⟩ := at_L1 (Kd.S_reads' HO_21.out).2.2 (ji73) p449 q449
                      cases e449
                      obtain ⟨ce449, hce449, hMe449, hcc449⟩ := Kd.S_get HO_21.out [] (ji73) p449 (by (exact q449))
                      obtain ⟨ve449_0, rfl, ge449_0⟩ := hMe449
                      have hv449_0 := hcc449 0 _ rfl
                      rw [Nat.add_zero, show ((Kd.slice 3 (Kd.int .i64))).sz = 1 from rfl, Nat.mul_one] at hv449_0
                      replace hv449_0 := Option.some.inj (hv449_0.symm.trans hx449_0)
                      rw [hv449_0] at ge449_0
                      have HL449_0 := Aside0.mk (show Kd.R (Kd.int .i64) 3 _ _ _ _ (rd_L1 t422 (ji73)) from ge449_0)
                      clear hv449_0 ge449_0 hcc449 hce449
                      have HR449_0 := Aside0.mk hi449_0
                      have HC449_0 := Aside0.mk hl449_0
                      clear hi449_0 hl449_0
                      replace p449 := eq_true p449
                      replace q449 := eq_true q449
                      go_wp2
                      repeat (go_quiet (fail); try go_wp2)
                      go_loopg [35, 226] k4 (fun kq v35 v226 w' => ∃ (x35_5 : Bool) (x226_5 : Int), v35 = .bool x35_5 ∧ v226 = .int .i64 x226_5 ∧ Aside0 (laws_FnFilesSearchedOfAll.l1 kq l0 a1 l2 a3 l4 a5 a6 a7 a8 a9 t430 t431 (rd_L1 t422 (ji73)) x35_5 l0 (l0.length : Int) x226_5 = some r) ∧ Aside0 (kq ≤ k4) ∧ Aside0 (Kd.C (Kd.int .i64) w' A449_0 (rd_L1 t422 (ji73)).length (rd_L1 t422 (ji73))) ∧ Aside0 (Below w.heap.size w w'))
                      case atStart => exact ⟨(false), (0), (by rfl), (by rfl), H', ⟨Nat.le_refl _⟩, ⟨by repeat ((with_reducible exact HR449_0.out))⟩, ⟨by repeat ((with_reducible (exact HB.out)))⟩⟩
                      case round =>
                        clear H' c57b0 c74b0 c75b0 hx449_0 p449 q449
                        obtain ⟨x35_5, x226_5, rfl, rfl, HA, HK5, HR449_0, HB⟩ := hrel
                        cases gk with
                        | zero => exact absurd HA.out (by simp [laws_FnFilesSearchedOfAll.l1])
                        | succ k5 =>
                          have H := HA.out
                          clear HA
                          simp only [laws_FnFilesSearchedOfAll.l1] at H
                          by_cases c77 : x226_5 < (l0.length : Int)
                          · rw [if_pos c77] at H
                            have c77b0 : decide (x226_5 < (l0.length : Int)) = true := decide_eq_true c77
                            clear c77
                            by_cases c78 : 0 ≤ x226_5
                            rotate_left
                            · rw [if_neg c78] at H
                              exact absurd H (by simp)
                            rw [if_pos c78] at H
                            have c78b0 : decide (0 ≤ x226_5) = true := decide_eq_true c78
                            clear c78
                            by_cases c79 : x226_5 < (l0.length : Int)
                            rotate_left
                            · rw [if_neg c79] at H
                              exact absurd H (by simp)
                            rw [if_pos c79] at H
                            have c79b0 : decide (x226_5 < (l0.length : Int)) = true := decide_eq_true c79
                            clear c79
                            by_cases c80 : x35_5 = true
                            · subst c80
                              rw [if_pos rfl] at H
                              have H' := Aside0.mk H
                              clear H
                              have p450 : 0 ≤ (x226_5 : Int) := of_decide_eq_true (by (with_reducible assumption))
                              have q450 : x226_5 < (l0.length : Int) := of_decide_eq_true (by (with_reducible assumption))
                              obtain ⟨ad450, A450_0, c450_0, e450, hx450_0, hl450_0, hi450_0⟩ := at_L1 HR0.out x226_5 p450 q450
                              obtain rfl : ad435 = ad450 := (by injection e450)
                              (try replace hx450_0 := (HB.out.cell (World.block_lt_of_cell? w _ hx450_0)).trans hx450_0)
                              have HR450_0 := Aside0.mk hi450_0
                              have HC450_0 := Aside0.mk hl450_0
                              clear hi450_0 hl450_0
                              replace p450 := eq_true p450
                              replace q450 := eq_true q450
                              go_wp2
                              repeat (go_quiet (fail); try go_wp2)
                              (go_roundg k5)
                              case measure => (exact Nat.lt_succ_self _)
                              case rel => exact ⟨(true), (wrap64 (x226_5 + 1)), (by rfl), (by rfl), H', ⟨by (exact Nat.le_of_lt HK5.out)⟩, ⟨by repeat ((with_reducible exact HR449_0.out))⟩, ⟨by repeat ((with_reducible (exact HB.out)))⟩⟩
                            replace c80 := Bool.eq_false_iff.mpr c80
                            subst c80
                            rw [if_neg (show ¬ (false = true) by decide)] at H
                            replace H := Option.bind_eq_some_iff.mp H
                            obtain ⟨t451, A810, H⟩ := H
                            (try dsimp only at H)
                            have A81 := Aside0.mk A810
                            clear A810
                            have H' := Aside0.mk H
                            clear H
                            have p450 : 0 ≤ (x226_5 : Int) := of_decide_eq_true (by (with_reducible assumption))
                            have q450 : x226_5 < (l0.length : Int) := of_decide_eq_true (by (with_reducible assumption))
                            obtain ⟨ad450, A450_0, c450_0, e450, hx450_0, hl450_0, hi450_0⟩ := at_L1 HR0.out x226_5 p450 q450
                            obtain rfl : ad435 = ad450 := (by injection e450)
                            (try replace hx450_0 := (HB.out.cell (World.block_lt_of_cell? w _ hx450_0)).trans hx450_0)
                            have HR450_0 := Aside0.mk hi450_0
                            have HC450_0 := Aside0.mk hl450_0
                            clear hi450_0 hl450_0
                            replace p450 := eq_true p450
                            replace q450 := eq_true q450
                            go_wp2_with ((go_at_call 10; (with_reducible refine (laws_vHas.calls k5 _ _ (rd_L1 l0 x226_5) a1 t451 _ ?side1 ?side2 A81.out).mono ?_); (case side1 => repeat ((exact (Kd.C_below HR450_0.out HB.out)))); (case side2 => exact HC450_0.out); rintro e w' ⟨rfl, ⟨nd, rfl⟩⟩; (try fail)))
                            repeat (go_quiet (fail); try go_wp2_with (fail))
                            (go_roundg k5)
                            case measure => (exact Nat.lt_succ_self _)
                            case rel => exact ⟨(t451), (wrap64 (x226_5 + 1)), (by rfl), (by rfl), H', ⟨by (exact Nat.le_of_lt HK5.out)⟩, ⟨by repeat (first | (with_reducible exact HR449_0.out) | (with_reducible refine Kd.C_drewN ?_ _))⟩, ⟨by repeat ((with_reducible first | exact HB.out | apply pw_below_drewN))⟩⟩
                          rw [if_neg c77] at H
                          have c77b0 : decide (x226_5 < (l0.length : Int)) = false := decide_eq_false c77
                          clear c77
                          by_cases c82 : 0 < ((rd_L1 t422 (ji73)).length : Int)
                          rotate_left
                          · rw [if_neg c82] at H
                            exact absurd H (by simp)
                          rw [if_pos c82] at H
                          have c82b0 : decide (0 < ((rd_L1 t422 (ji73)).length : Int)) = true := decide_eq_true c82
                          have c82b1 : decide (0 < (rd_L1 t422 (ji73)).length) = true := decide_eq_true (by omega)
                          clear c82
                          by_cases c83 : 0 ≤ (rd (rd_L1 t422 (ji73)) 0)
                          rotate_left
                          · rw [if_neg c83] at H
                            exact absurd H (by simp)
                          rw [if_pos c83] at H
                          have c83b0 : decide (0 ≤ (rd (rd_L1 t422 (ji73)) 0)) = true := decide_eq_true c83
                          clear c83
                          by_cases c84 : (rd (rd_L1 t422 (ji73)) 0) < (l0.length : Int)
                          rotate_left
                          · rw [if_neg c84] at H
                            exact absurd H (by simp)
                          rw [if_pos c84] at H
                          have c84b0 : decide ((rd (rd_L1 t422 (ji73)) 0) < (l0.length : Int)) = true := decide_eq_true c84
                          clear c84
                          by_cases c85 : 1 < ((rd_L1 t422 (ji73)).length : Int)
                          rotate_left
                          · rw [if_neg c85] at H
                            exact absurd H (by simp)
                          rw [if_pos c85] at H
                          have c85b0 : decide (1 < ((rd_L1 t422 (ji73)).length : Int)) = true := decide_eq_true c85
                          have c85b1 : decide (1 < (rd_L1 t422 (ji73)).length) = true := decide_eq_true (by omega)
                          clear c85
                          by_cases c86 : 0 ≤ (rd (rd_L1 t422 (ji73)) 1)
                          rotate_left
                          · rw [if_neg c86] at H
                            exact absurd H (by simp)
                          rw [if_pos c86] at H
                          have c86b0 : decide (0 ≤ (rd (rd_L1 t422 (ji73)) 1)) = true := decide_eq_true c86
                          clear c86
                          by_cases c87 : (rd (rd_L1 t422 (ji73)) 1) < ((rd_L1 l0 (rd (rd_L1 t422 (ji73)) 0)).length : Int)
                          rotate_left
                          · rw [if_neg c87] at H
                            exact absurd H (by simp)
                          rw [if_pos c87] at H
                          have c87b0 : decide ((rd (rd_L1 t422 (ji73)) 1) < ((rd_L1 l0 (rd (rd_L1 t422 (ji73)) 0)).length : Int)) = true := decide_eq_true c87
                          clear c87
                          by_cases c88 : (x35_5 != ((rd (rd_L1 l0 (rd (rd_L1 t422 (ji73)) 0)) (rd (rd_L1 t422 (ji73)) 1)) == a1)) = true
                          · rw [if_pos c88] at H
                            have c88b0 : (x35_5 != ((rd (rd_L1 l0 (rd (rd_L1 t422 (ji73)) 0)) (rd (rd_L1 t422 (ji73)) 1)) == a1)) = true := c88
                            (try (have c88b1 : decide (x35_5 = ((rd (rd_L1 l0 (rd (rd_L1 t422 (ji73)) 0)) (rd (rd_L1 t422 (ji73)) 1)) == a1)) = false := by simpa using c88))
                            (try (have c88b2 : (x35_5 == ((rd (rd_L1 l0 (rd (rd_L1 t422 (ji73)) 0)) (rd (rd_L1 t422 (ji73)) 1)) == a1)) = false := by simpa using c88))
                            (try (have c88b3 : ¬ (x35_5 = ((rd (rd_L1 l0 (rd (rd_L1 t422 (ji73)) 0)) (rd (rd_L1 t422 (ji73)) 1)) == a1)) := by simpa using c88))
                            clear c88
                            exact absurd (hrt.symm.trans (Option.some.inj H).symm) (by decide)
                          rw [if_neg c88] at H
                          have c88b0 : (x35_5 != ((rd (rd_L1 l0 (rd (rd_L1 t422 (ji73)) 0)) (rd (rd_L1 t422 (ji73)) 1)) == a1)) = false := by simpa using c88
                          (try (have c88b1 : decide (x35_5 = ((rd (rd_L1 l0 (rd (rd_L1 t422 (ji73)) 0)) (rd (rd_L1 t422 (ji73)) 1)) == a1)) = true := by simpa using c88))
                          (try (have c88b2 : (x35_5 == ((rd (rd_L1 l0 (rd (rd_L1 t422 (ji73)) 0)) (rd (rd_L1 t422 (ji73)) 1)) == a1)) = true := by simpa using c88))
                          clear c88
                          have H' := Aside0.mk H
                          clear H
                          have p452 : 0 ≤ (0 : Int) := (by omega)
                          have q452 : 0 < ((rd_L1 t422 (ji73)).length : Int) := of_decide_eq_true (by (with_reducible assumption))
                          obtain ⟨ad452, e452, hx452_0⟩ := Kd.at_int HR449_0.out 0 p452 q452
                          cases e452
                          have qi452 : (0 < (rd_L1 t422 (ji73)).length) = True := eq_true (by omega)
                          (try rw [show ((0 : Int)).toNat = 0 from rfl] at hx452_0)
                          (try rw [Addr.add_zero'] at hx452_0)
                          (try replace hx452_0 := (HB.out.cell (World.block_lt_of_cell? w _ hx452_0)).trans hx452_0)
                          replace p452 := eq_true p452
                          replace q452 := eq_true q452
                          have p453 : 0 ≤ ((rd (rd_L1 t422 (ji73)) 0) : Int) := of_decide_eq_true (by (with_reducible assumption))
                          have q453 : (rd (rd_L1 t422 (ji73)) 0) < (l0.length : Int) := of_decide_eq_true (by (with_reducible assumption))
                          obtain ⟨ad453, A453_0, c453_0, e453, hx453_0, hl453_0, hi453_0⟩ := at_L1 HR0.out (rd (rd_L1 t422 (ji73)) 0) p453 q453
                          obtain rfl : ad435 = ad453 := (by injection e453)
                          (try replace hx453_0 := (HB.out.cell (World.block_lt_of_cell? w _ hx453_0)).trans hx453_0)
                          have HR453_0 := Aside0.mk hi453_0
                          have HC453_0 := Aside0.mk hl453_0
                          clear hi453_0 hl453_0
                          replace p453 := eq_true p453
                          replace q453 := eq_true q453
                          have p454 : 0 ≤ (1 : Int) := (by omega)
                          have q454 : 1 < ((rd_L1 t422 (ji73)).length : Int) := of_decide_eq_true (by (with_reducible assumption))
                          obtain ⟨ad454, e454, hx454_0⟩ := Kd.at_int HR449_0.out 1 p454 q454
                          obtain rfl : ad452 = ad454 := (by injection e454)
                          (try simp only [show (1 : Int).toNat = 1 from rfl, Nat.reduceMul, Nat.reduceEqDiff, Go.Addr.add, ↓reduceIte] at hx454_0)
                          have qi454 : (1 < (rd_L1 t422 (ji73)).length) = True := eq_true (by omega)
                          (try rw [show ((1 : Int)).toNat = 1 from rfl] at hx454_0)
                          (try replace hx454_0 := (HB.out.cell (World.block_lt_of_cell? w _ hx454_0)).trans hx454_0)
                          replace p454 := eq_true p454
                          replace q454 := eq_true q454
                          have p455 : 0 ≤ ((rd (rd_L1 t422 (ji73)) 1) : Int) := of_decide_eq_true (by (with_reducible assumption))
                          have q455 : (rd (rd_L1 t422 (ji73)) 1) < ((rd_L1 l0 (rd (rd_L1 t422 (ji73)) 0)).length : Int) := of_decide_eq_true (by (with_reducible assumption))
                          obtain ⟨ad455, e455, hx455_0⟩ := Kd.at_int HR453_0.out (rd (rd_L1 t422 (ji73)) 1) p455 q455
                          cases e455
                          (try replace hx455_0 := (HB.out.cell (World.block_lt_of_cell? w _ hx455_0)).trans hx455_0)
                          replace p455 := eq_true p455
                          replace q455 := eq_true q455
                          go_wp2
                          repeat (go_quiet (fail); try go_wp2)
                          go_meet
                          case rel => exact ⟨_, H', ⟨by (have := HJ10.out; have := HJ19.out; have := HJ44.out; have := HK4.out; have := HK5.out; omega)⟩, ⟨by repeat ((with_reducible first | exact HB.out | apply pw_below_drewN))⟩⟩
                    rw [if_pos c57] at H
                    have c57b0 : decide (x31_4 < (t422.length : Int)) = true := decide_eq_true c57
                    clear c57
                    by_cases c58 : 0 ≤ x31_4
                    rotate_left
                    · rw [if_neg c58] at H
                      exact absurd H (by simp)
                    rw [if_pos c58] at H
                    have c58b0 : decide (0 ≤ x31_4) = true := decide_eq_true c58
                    clear c58
                    by_cases c59 : 0 < ((rd_L1 t422 x31_4).length : Int)
                    rotate_left
                    · rw [if_neg c59] at H
                      exact absurd H (by simp)
                    rw [if_pos c59] at H
                    have c59b0 : decide (0 < ((rd_L1 t422 x31_4).length : Int)) = true := decide_eq_true c59
                    have c59b1 : decide (0 < (rd_L1 t422 x31_4).length) = true := decide_eq_true (by omega)
                    clear c59
                    obtain ⟨ji60, hji60⟩ : ∃ j_ : Int, (wrap64 (x31_4 - 1)) = j_ := ⟨_, rfl⟩
                    replace H : (if 0 ≤ (ji60) then (if (ji60) < (t422.length : Int) then (if 0 < ((rd_L1 t422 (ji60)).length : Int) then (if 1 < ((rd_L1 t422 (ji60)).length : Int) then (if 1 < ((rd_L1 t422 x31_4).length : Int) then (if (wrap64 ((rd (rd_L1 t422 x31_4) 0) - (rd (rd_L1 t422 (ji60)) 0))) < 0 then (some false) else (if (wrap64 ((rd (rd_L1 t422 (ji60)) 1) - (rd (rd_L1 t422 x31_4) 1))) < 0 then (some false) else (if (wrap64 ((wrap64 ((rd (rd_L1 t422 x31_4) 0) - (rd (rd_L1 t422 (ji60)) 0))) + (wrap64 ((rd (rd_L1 t422 (ji60)) 1) - (rd (rd_L1 t422 x31_4) 1))))) = 1 then (laws_FnFilesSearchedOfAll.l0 k4 l0 a1 l2 a3 l4 a5 a6 a7 a8 a9 t422 t430 t431 (wrap64 (x31_4 + 1))) else (some false)))) else (none)) else (none)) else (none)) else (none)) else (none)) = some r := by (rw [hji60] at H; exact H)
                    have hji60w : (IntKind.i64.wrap (x31_4 - 1)) = ji60 := (i64_w _).trans hji60
                    by_cases c61 : 0 ≤ (ji60)
                    rotate_left
                    · rw [if_neg c61] at H
                      exact absurd H (by simp)
                    rw [if_pos c61] at H
                    have c61b0 : decide (0 ≤ (ji60)) = true := decide_eq_true c61
                    clear c61
                    by_cases c62 : (ji60) < (t422.length : Int)
                    rotate_left
                    · rw [if_neg c62] at H
                      exact absurd H (by simp)
                    rw [if_pos c62] at H
                    have c62b0 : decide ((ji60) < (t422.length : Int)) = true := decide_eq_true c62
                    clear c62
                    by_cases c63 : 0 < ((rd_L1 t422 (ji60)).length : Int)
                    rotate_left
                    · rw [if_neg c63] at H
                      exact absurd H (by simp)
                    rw [if_pos c63] at H
                    have c63b0 : decide (0 < ((rd_L1 t422 (ji60)).length : Int)) = true := decide_eq_true c63
                    have c63b1 : decide (0 < (rd_L1 t422 (ji60)).length) = true := decide_eq_true (by omega)
                    clear c63
                    by_cases c64 : 1 < ((rd_L1 t422 (ji60)).length : Int)
                    rotate_left
                    · rw [if_neg c64] at H
                      exact absurd H (by simp)
                    rw [if_pos c64] at H
                    have c64b0 : decide (1 < ((rd_L1 t422 (ji60)).length : Int)) = true := decide_eq_true c64
                    have c64b1 : decide (1 < (rd_L1 t422 (ji60)).length) = true := decide_eq_true (by omega)
                    clear c64
                    by_cases c65 : 1 < ((rd_L1 t422 x31_4).length : Int)
                    rotate_left
                    · rw [if_neg c65] at H
                      exact absurd H (by simp)
                    rw [if_pos c65] at H
                    have c65b0 : decide (1 < ((rd_L1 t422 x31_4).length : Int)) = true := decide_eq_true c65
                    have c65b1 : decide (1 < (rd_L1 t422 x31_4).length) = true := decide_eq_true (by omega)
                    clear c65
                    by_cases c66 : (wrap64 ((rd (rd_L1 t422 x31_4) 0) - (rd (rd_L1 t422 (ji60)) 0))) < 0
                    · rw [if_pos c66] at H
                      have c66b0 : decide ((wrap64 ((rd (rd_L1 t422 x31_4) 0) - (rd (rd_L1 t422 (ji60)) 0))) < 0) = true := decide_eq_true c66
                      clear c66
                      exact absurd (hrt.symm.trans (Option.some.inj H).symm) (by decide)
                    rw [if_neg c66] at H
                    have c66b0 : decide ((wrap64 ((rd (rd_L1 t422 x31_4) 0) - (rd (rd_L1 t422 (ji60)) 0))) < 0) = false := decide_eq_false c66
                    clear c66
                    by_cases c68 : (wrap64 ((rd (rd_L1 t422 (ji60)) 1) - (rd (rd_L1 t422 x31_4) 1))) < 0
                    · rw [if_pos c68] at H
                      have c68b0 : decide ((wrap64 ((rd (rd_L1 t422 (ji60)) 1) - (rd (rd_L1 t422 x31_4) 1))) < 0) = true := decide_eq_true c68
                      clear c68
                      exact absurd (hrt.symm.trans (Option.some.inj H).symm) (by decide)
                    rw [if_neg c68] at H
                    have c68b0 : decide ((wrap64 ((rd (rd_L1 t422 (ji60)) 1) - (rd (rd_L1 t422 x31_4) 1))) < 0) = false := decide_eq_false c68
                    clear c68
                    by_cases c70 : (wrap64 ((wrap64 ((rd (rd_L1 t422 x31_4) 0) - (rd (rd_L1 t422 (ji60)) 0))) + (wrap64 ((rd (rd_L1 t422 (ji60)) 1) - (rd (rd_L1 t422 x31_4) 1))))) = 1
                    rotate_left
                    · rw [if_neg c70] at H
                      have c70b0 : ((wrap64 ((wrap64 ((rd (rd_L1 t422 x31_4) 0) - (rd (rd_L1 t422 (ji60)) 0))) + (wrap64 ((rd (rd_L1 t422 (ji60)) 1) - (rd (rd_L1 t422 x31_4) 1))))) == 1) = false := beq_eq_false_iff_ne.mpr c70
                      have c70b1 : ((wrap64 ((wrap64 ((rd (rd_L1 t422 x31_4) 0) - (rd (rd_L1 t422 (ji60)) 0))) + (wrap64 ((rd (rd_L1 t422 (ji60)) 1) - (rd (rd_L1 t422 x31_4) 1))))) != 1) = true := bne_iff_ne.mpr c70
                      exact absurd (hrt.symm.trans (Option.some.inj H).symm) (by decide)
                    rw [if_pos c70] at H
                    have c70b0 : ((wrap64 ((wrap64 ((rd (rd_L1 t422 x31_4) 0) - (rd (rd_L1 t422 (ji60)) 0))) + (wrap64 ((rd (rd_L1 t422 (ji60)) 1) - (rd (rd_L1 t422 x31_4) 1))))) == 1) = true := beq_iff_eq.mpr c70
                    have c70b1 : ((wrap64 ((wrap64 ((rd (rd_L1 t422 x31_4) 0) - (rd (rd_L1 t422 (ji60)) 0))) + (wrap64 ((rd (rd_L1 t422 (ji60)) 1) - (rd (rd_L1 t422 x31_4) 1))))) != 1) = false := bne_eq_false_iff_eq.mpr c70
                    clear c70
                    have H' := Aside0.mk H
                    clear H
                    obtain ⟨Ao71, co71, eo71⟩ := Kd.S_slice HO_21.out
                    subst eo71
                    have p441 : 0 ≤ (x31_4 : Int) := of_decide_eq_true (by (with_reducible assumption))
                    have q441 : x31_4 < (t422.length : Int) := of_decide_eq_true (by (with_reducible assumption))
                    obtain ⟨ad441, A441_0, c441_0, e441, hx441_0, hl441_0, hi441_0⟩ := at_L1 (Kd.S_reads' HO_21.out).2.2 x31_4 p441 q441
                    cases e441
                    obtain ⟨ce441, hce441, hMe441, hcc441⟩ := Kd.S_get HO_21.out [] x31_4 p441 (by (exact q441))
                    obtain ⟨ve441_0, rfl, ge441_0⟩ := hMe441
                    have hv441_0 := hcc441 0 _ rfl
                    rw [Nat.add_zero, show ((Kd.slice 3 (Kd.int .i64))).sz = 1 from rfl, Nat.mul_one] at hv441_0
                    replace hv441_0 := Option.some.inj (hv441_0.symm.trans hx441_0)
                    rw [hv441_0] at ge441_0
                    have HL441_0 := Aside0.mk (show Kd.R (Kd.int .i64) 3 _ _ _ _ (rd_L1 t422 x31_4) from ge441_0)
                    clear hv441_0 ge441_0 hcc441 hce441
                    have HR441_0 := Aside0.mk hi441_0
                    have HC441_0 := Aside0.mk hl441_0
                    clear hi441_0 hl441_0
                    replace p441 := eq_true p441
                    replace q441 := eq_true q441
                    have p442 : 0 ≤ (0 : Int) := (by omega)
                    have q442 : 0 < ((rd_L1 t422 x31_4).length : Int) := of_decide_eq_true (by (with_reducible assumption))
                    obtain ⟨ad442, e442, hx442_0⟩ := Kd.at_int (by repeat ((with_reducible exact HR441_0.out))) 0 p442 q442
                    cases e442
                    have qi442 : (0 < (rd_L1 t422 x31_4).length) = True := eq_true (by omega)
                    (try rw [show ((0 : Int)).toNat = 0 from rfl] at hx442_0)
                    (try rw [Addr.add_zero'] at hx442_0)
                    replace p442 := eq_true p442
                    replace q442 := eq_true q442
                    have p443 : 0 ≤ ((ji60) : Int) := of_decide_eq_true (by (with_reducible assumption))
                    have q443 : (ji60) < (t422.length : Int) := of_decide_eq_true (by (with_reducible assumption))
                    obtain ⟨ad443, A443_0, c443_0, e443, hx443_0, hl443_0, hi443_0⟩ := at_L1 (Kd.S_reads' HO_21.out).2.2 (ji60) p443 q443
                    obtain rfl : ad441 = ad443 := (by injection e443)
                    obtain ⟨ce443, hce443, hMe443, hcc443⟩ := Kd.S_get HO_21.out [] (ji60) p443 (by (exact q443))
                    obtain ⟨ve443_0, rfl, ge443_0⟩ := hMe443
                    have hv443_0 := hcc443 0 _ rfl
                    rw [Nat.add_zero, show ((Kd.slice 3 (Kd.int .i64))).sz = 1 from rfl, Nat.mul_one] at hv443_0
                    replace hv443_0 := Option.some.inj (hv443_0.symm.trans hx443_0)
                    rw [hv443_0] at ge443_0
                    have HL443_0 := Aside0.mk (show Kd.R (Kd.int .i64) 3 _ _ _ _ (rd_L1 t422 (ji60)) from ge443_0)
                    clear hv443_0 ge443_0 hcc443 hce443
                    have HR443_0 := Aside0.mk hi443_0
                    have HC443_0 := Aside0.mk hl443_0
                    clear hi443_0 hl443_0
                    replace p443 := eq_true p443
                    replace q443 := eq_true q443
                    have p444 : 0 ≤ (0 : Int) := (by omega)
                    have q444 : 0 < ((rd_L1 t422 (ji60)).length : Int) := of_decide_eq_true (by (with_reducible assumption))
                    obtain ⟨ad444, e444, hx444_0⟩ := Kd.at_int (by repeat ((with_reducible exact HR443_0.out))) 0 p444 q444
                    cases e444
                    have qi444 : (0 < (rd_L1 t422 (ji60)).length) = True := eq_true (by omega)
                    (try rw [show ((0 : Int)).toNat = 0 from rfl] at hx444_0)
                    (try rw [Addr.add_zero'] at hx444_0)
                    replace p444 := eq_true p444
                    replace q444 := eq_true q444
                    have p445 : 0 ≤ ((ji60) : Int) := of_decide_eq_true (by (with_reducible assumption))
                    have q445 : (ji60) < (t422.length : Int) := of_decide_eq_true (by (with_reducible assumption))
                    obtain ⟨ad445, A445_0, c445_0, e445, hx445_0, hl445_0, hi445_0⟩ := at_L1 (Kd.S_reads' HO_21.out).2.2 (ji60) p445 q445
                    obtain rfl : ad441 = ad445 := (by injection e445)
                    obtain ⟨ce445, hce445, hMe445, hcc445⟩ := Kd.S_get HO_21.out [] (ji60) p445 (by (exact q445))
                    obtain ⟨ve445_0, rfl, ge445_0⟩ := hMe445
                    have hv445_0 := hcc445 0 _ rfl
                    rw [Nat.add_zero, show ((Kd.slice 3 (Kd.int .i64))).sz = 1 from rfl, Nat.mul_one] at hv445_0
                    replace hv445_0 := Option.some.inj (hv445_0.symm.trans hx445_0)
                    rw [hv445_0] at ge445_0
                    have HL445_0 := Aside0.mk (show Kd.R (Kd.int .i64) 3 _ _ _ _ (rd_L1 t422 (ji60)) from ge445_0)
                    clear hv445_0 ge445_0 hcc445 hce445
                    have HR445_0 := Aside0.mk hi445_0
                    have HC445_0 := Aside0.mk hl445_0
                    clear hi445_0 hl445_0
                    replace p445 := eq_true p445
                    replace q445 := eq_true q445
                    have ea_ := Option.some.inj (hx443_0.symm.trans hx445_0)
                    injection ea_ with ea_ en_ ec_
                    subst ea_
                    subst ec_
                    clear en_
                    have p446 : 0 ≤ (1 : Int) := (by omega)
                    have q446 : 1 < ((rd_L1 t422 (ji60)).length : Int) := of_decide_eq_true (by (with_reducible assumption))
                    obtain ⟨ad446, e446, hx446_0⟩ := Kd.at_int (by repeat ((with_reducible exact HR445_0.out))) 1 p446 q446
                    cases e446
                    (try simp only [show (1 : Int).toNat = 1 from rfl, Nat.reduceMul, Nat.reduceEqDiff, Go.Addr.add, ↓reduceIte] at hx446_0)
                    have qi446 : (1 < (rd_L1 t422 (ji60)).length) = True := eq_true (by omega)
                    (try rw [show ((1 : Int)).toNat = 1 from rfl] at hx446_0)
                    replace p446 := eq_true p446
                    replace q446 := eq_true q446
                    have p447 : 0 ≤ (x31_4 : Int) := of_decide_eq_true (by (with_reducible assumption))
                    have q447 : x31_4 < (t422.length : Int) := of_decide_eq_true (by (with_reducible assumption))
                    obtain ⟨ad447, A447_0, c447_0, e447, hx447_0, hl447_0, hi447_0⟩ := at_L1 (Kd.S_reads' HO_21.out).2.2 x31_4 p447 q447
                    obtain rfl : ad441 = ad447 := (by injection e447)
                    obtain ⟨ce447, hce447, hMe447, hcc447⟩ := Kd.S_get HO_21.out [] x31_4 p447 (by (exact q447))
                    obtain ⟨ve447_0, rfl, ge447_0⟩ := hMe447
                    have hv447_0 := hcc447 0 _ rfl
                    rw [Nat.add_zero, show ((Kd.slice 3 (Kd.int .i64))).sz = 1 from rfl, Nat.mul_one] at hv447_0
                    replace hv447_0 := Option.some.inj (hv447_0.symm.trans hx447_0)
                    rw [hv447_0] at ge447_0
                    have HL447_0 := Aside0.mk (show Kd.R (Kd.int .i64) 3 _ _ _ _ (rd_L1 t422 x31_4) from ge447_0)
                    clear hv447_0 ge447_0 hcc447 hce447
                    have HR447_0 := Aside0.mk hi447_0
                    have HC447_0 := Aside0.mk hl447_0
                    clear hi447_0 hl447_0
                    replace p447 := eq_true p447
                    replace q447 := eq_true q447
                    have ea_ := Option.some.inj (hx441_0.symm.trans hx447_0)
                    injection ea_ with ea_ en_ ec_
                    subst ea_
                    subst ec_
                    clear en_
                    have p448 : 0 ≤ (1 : Int) := (by omega)
                    have q448 : 1 < ((rd_L1 t422 x31_4).length : Int) := of_decide_eq_true (by (with_reducible assumption))
                    obtain ⟨ad448, e448, hx448_0⟩ := Kd.at_int (by repeat ((with_reducible exact HR447_0.out))) 1 p448 q448
                    cases e448
                    (try simp only [show (1 : Int).toNat = 1 from rfl, Nat.reduceMul, Nat.reduceEqDiff, Go.Addr.add, ↓reduceIte] at hx448_0)
                    have qi448 : (1 < (rd_L1 t422 x31_4).length) = True := eq_true (by omega)
                    (try rw [show ((1 : Int)).toNat = 1 from rfl] at hx448_0)
                    replace p448 := eq_true p448
                    replace q448 := eq_true q448
                    go_wp2
                    repeat (go_quiet (fail); try go_wp2)
                    (go_roundg k4)
                    case measure => (exact Nat.lt_succ_self _)
                    case rel => exact ⟨(wrap64 (x31_4 + 1)), (by rfl), H', ⟨by (exact Nat.le_of_lt HK4.out)⟩, ⟨by (with_reducible repeat ((apply Kd.S_drewN))); exact HO_21.out⟩, ⟨by repeat ((with_reducible first | exact HB.out | apply pw_below_drewN))⟩⟩
          case rest => as_aux_lemma =>
            clear HC42
            obtain ⟨kq, HA, HJ41, HB⟩ := hcut
            cases kq with
            | zero => exact absurd HA.out (by simp [laws_FnFilesSearchedOfAll.j5])
            | succ kj41 =>
              have H := HA.out
              clear HA
              simp only [laws_FnFilesSearchedOfAll.j5] at H
              have HC89 := Aside0.mk H
              clear H
              go_upto_if 252 with (fail)
              repeat (go_quiet (fail); go_upto_if 252 with (fail))
              go_cut [] from 252 to 252 (fun wc => ∃ (kq : Nat), Aside0 (laws_FnFilesSearchedOfAll.j8 kq l2 a3 l4 a5 a6 a7 a8 a9 = some r) ∧ Aside0 (kq ≤ kj41) ∧ Aside0 (Below w.heap.size w wc))
              case first => as_aux_lemma =>
                have H := HC89.out
                clear HC89
                by_cases c90 : t431 = true
                rotate_left
                · replace c90 := Bool.eq_false_iff.mpr c90
                  subst c90
                  rw [if_neg (show ¬ (false = true) by decide)] at H
                  have H' := Aside0.mk H
                  clear H
                  go_wp2
                  repeat (go_quiet (fail); try go_wp2)
                  go_meet
                  case rel => exact ⟨_, H', ⟨by (exact Nat.le_refl _)⟩, ⟨by repeat ((with_reducible (exact HB.out)))⟩⟩
                subst c90
                rw [if_pos rfl] at H
                by_cases c91 : 0 < (l0.length : Int)
                rotate_left
                · rw [if_neg c91] at H
                  exact absurd H (by simp)
                rw [if_pos c91] at H
                have c91b0 : decide (0 < (l0.length : Int)) = true := decide_eq_true c91
                have c91b1 : decide (0 < l0.length) = true := decide_eq_true (by omega)
                clear c91
                (skip)
                have HC92 := Aside0.mk H
                clear H
                have p456 : 0 ≤ (0 : Int) := (by omega)
                have q456 : 0 < (l0.length : Int) := of_decide_eq_true (by (with_reducible assumption))
                obtain ⟨ad456, A456_0, c456_0, e456, hx456_0, hl456_0, hi456_0⟩ := at_L1 HR0.out 0 p456 q456
                cases e456
                have qi456 : (0 < l0.length) = True := eq_true (by omega)
                (try rw [show ((0 : Int)).toNat = 0 from rfl] at hx456_0)
                (try rw [Addr.add_zero'] at hx456_0)
                (try replace hx456_0 := (HB.out.cell (World.block_lt_of_cell? w _ hx456_0)).trans hx456_0)
                have HR456_0 := Aside0.mk hi456_0
                have HC456_0 := Aside0.mk hl456_0
                clear hi456_0 hl456_0
                replace p456 := eq_true p456
                replace q456 := eq_true q456
                go_upto_region 30 with (fail)
                repeat (go_quiet (fail); go_upto_region 30 with (fail))
                go_cut [266] from 266 to 266 (fun v266 wc => ∃ (kq : Nat) (x266_91 : Bool), v266 = .bool x266_91 ∧ Aside0 (laws_FnFilesSearchedOfAll.j6 kq l0 a1 l2 a3 l4 a5 a6 a7 a8 a9 t430 (wrap64 ((l0.length : Int) * ((rd_L1 l0 0).length : Int))) x266_91 = some r) ∧ Aside0 (kq ≤ kj41) ∧ Aside0 (Below w.heap.size w wc))
                case first => as_aux_lemma =>
                  have H := HC92.out
                  clear HC92
                  by_cases c93 : t430 < 0
                  · rw [if_pos c93] at H
                    have c93b0 : decide (t430 < 0) = true := decide_eq_true c93
                    clear c93
                    (skip)
                    exact absurd (hrt.symm.trans (laws_FnFilesSearchedOfAll.j6_false H)) (by decide)
                  rw [if_neg c93] at H
                  have c93b0 : decide (t430 < 0) = false := decide_eq_false c93
                  clear c93
                  (skip)
                  have H' := Aside0.mk H
                  clear H
                  go_wp2
                  repeat (go_quiet (fail); try go_wp2)
                  go_meet
                  case rel => exact ⟨_, (decide (t430 > (wrap64 ((l0.length : Int) * ((rd_L1 l0 0).length : Int))))), (by rfl), H', ⟨by (exact Nat.le_refl _)⟩, ⟨by repeat ((with_reducible (exact HB.out)))⟩⟩
                case rest => as_aux_lemma =>
                  clear HC92 c91b0 c91b1 hx456_0 p456 q456
                  obtain ⟨kq, x266_91, rfl, HA, HJ91, HB⟩ := hcut
                  cases kq with
                  | zero => exact absurd HA.out (by simp [laws_FnFilesSearchedOfAll.j6])
                  | succ kj91 =>
                    have H := HA.out
                    clear HA
                    simp only [laws_FnFilesSearchedOfAll.j6] at H
                    by_cases c94 : x266_91 = true
                    · subst c94
                      rw [if_pos rfl] at H
                      exact absurd (hrt.symm.trans (Option.some.inj H).symm) (by decide)
                    replace c94 := Bool.eq_false_iff.mpr c94
                    subst c94
                    rw [if_neg (show ¬ (false = true) by decide)] at H
                    have HC95 := Aside0.mk H
                    clear H
                    go_upto_if 268 with (fail)
                    repeat (go_quiet (fail); go_upto_if 268 with (fail))
                    go_cut [] from 268 to 268 (fun wc => ∃ (kq : Nat), Aside0 (laws_FnFilesSearchedOfAll.j7 kq l0 a1 l2 a3 l4 a5 a6 a7 a8 a9 t430 (wrap64 ((l0.length : Int) * ((rd_L1 l0 0).length : Int))) = some r) ∧ Aside0 (kq ≤ kj91) ∧ Aside0 (Below w.heap.size w wc))
                    case first => as_aux_lemma =>
                      have H := HC95.out
                      clear HC95
                      by_cases c96 : t430 > 0
                      rotate_left
                      · rw [if_neg c96] at H
                        have c96b0 : decide (0 < t430) = false := decide_eq_false c96
                        clear c96
                        ((rw [c96b0]))
                        have H' := Aside0.mk H
                        clear H
                        go_wp2
                        repeat (go_quiet (fail); try go_wp2)
                        go_meet
                        case rel => exact ⟨_, H', ⟨by (exact Nat.le_refl _)⟩, ⟨by repeat ((with_reducible (exact HB.out)))⟩⟩
                      rw [if_pos c96] at H
                      have c96b0 : decide (0 < t430) = true := decide_eq_true c96
                      clear c96
                      ((rw [c96b0]))
                      replace H := Option.bind_eq_some_iff.mp H
                      obtain ⟨⟨t457, t458⟩, A970, H⟩ := H
                      (try dsimp only at H)
                      have A97 := Aside0.mk A970
                      clear A970
                      by_cases c98 : t458 = true
                      rotate_left
                      · replace c98 := Bool.eq_false_iff.mpr c98
                        subst c98
                        rw [if_neg (show ¬ (false = true) by decide)] at H
                        exact absurd (hrt.symm.trans (Option.some.inj H).symm) (by decide)
                      subst c98
                      rw [if_pos rfl] at H
                      by_cases c99 : t457 > a1
                      · rw [if_pos c99] at H
                        have c99b0 : decide (a1 < t457) = true := decide_eq_true c99
                        clear c99
                        exact absurd (hrt.symm.trans (Option.some.inj H).symm) (by decide)
                      rw [if_neg c99] at H
                      have c99b0 : decide (a1 < t457) = false := decide_eq_false c99
                      clear c99
                      have H' := Aside0.mk H
                      clear H
                      go_wp2_with ((go_at_call 11; (with_reducible refine (impl_HeightOfRank.calls kj91 _ _ l0 (wrap64 (t430 - 1)) t457 true _ ?side1 ?side2 A97.out).mono ?_); (case side1 => repeat ((exact (Kd.C_below HR0.out HB.out)))); (case side2 => exact HC0.out); rintro e w101 ⟨rfl, hb⟩; have n0_ := Aside0.mk (below_step (by repeat ((with_reducible (exact HB.out)))) hb); clear HB; have HB := n0_; clear n0_; (try clear hb); (try clear hb2); (try clear hk); (try clear hi)))
                      repeat (go_quiet (fail); try go_wp2_with (fail))
                      go_meet
                      case rel => exact ⟨_, H', ⟨by (exact Nat.le_refl _)⟩, ⟨by repeat ((with_reducible (exact HB.out)))⟩⟩
                    case rest => as_aux_lemma =>
                      clear HC95
                      obtain ⟨kq, HA, HJ94, HB⟩ := hcut
                      cases kq with
                      | zero => exact absurd HA.out (by simp [laws_FnFilesSearchedOfAll.j7])
                      | succ kj94 =>
                        have H := HA.out
                        clear HA
                        simp only [laws_FnFilesSearchedOfAll.j7] at H
                        by_cases c103 : t430 < (wrap64 ((l0.length : Int) * ((rd_L1 l0 0).length : Int)))
                        rotate_left
                        · rw [if_neg c103] at H
                          have c103b0 : decide (t430 < (wrap64 ((l0.length : Int) * ((rd_L1 l0 0).length : Int)))) = false := decide_eq_false c103
                          clear c103
                          have H' := Aside0.mk H
                          clear H
                          go_wp2
                          repeat (go_quiet (fail); try go_wp2)
                          go_meet
                          case rel => exact ⟨_, H', ⟨by (have := HJ10.out; have := HJ19.out; have := HJ41.out; have := HJ91.out; have := HJ94.out; omega)⟩, ⟨by repeat ((with_reducible (exact HB.out)))⟩⟩
                        rw [if_pos c103] at H
                        have c103b0 : decide (t430 < (wrap64 ((l0.length : Int) * ((rd_L1 l0 0).length : Int)))) = true := decide_eq_true c103
                        clear c103
                        replace H := Option.bind_eq_some_iff.mp H
                        obtain ⟨⟨t459, t460⟩, A1040, H⟩ := H
                        (try dsimp only at H)
                        have A104 := Aside0.mk A1040
                        clear A1040
                        by_cases c105 : t460 = true
                        rotate_left
                        · replace c105 := Bool.eq_false_iff.mpr c105
                          subst c105
                          rw [if_neg (show ¬ (false = true) by decide)] at H
                          exact absurd (hrt.symm.trans (Option.some.inj H).symm) (by decide)
                        subst c105
                        rw [if_pos rfl] at H
                        by_cases c106 : t459 ≤ a1
                        · rw [if_pos c106] at H
                          have c106b0 : decide (t459 ≤ a1) = true := decide_eq_true c106
                          clear c106
                          exact absurd (hrt.symm.trans (Option.some.inj H).symm) (by decide)
                        rw [if_neg c106] at H
                        have c106b0 : decide (t459 ≤ a1) = false := decide_eq_false c106
                        clear c106
                        have H' := Aside0.mk H
                        clear H
                        go_wp2_with ((go_at_call 11; (with_reducible refine (impl_HeightOfRank.calls kj94 _ _ l0 t430 t459 true _ ?side1 ?side2 A104.out).mono ?_); (case side1 => repeat ((exact (Kd.C_below HR0.out HB.out)))); (case side2 => exact HC0.out); rintro e w108 ⟨rfl, hb⟩; have n0_ := Aside0.mk (below_step (by repeat ((with_reducible (exact HB.out)))) hb); clear HB; have HB := n0_; clear n0_; (try clear hb); (try clear hb2); (try clear hk); (try clear hi)))
                        repeat (go_quiet (fail); try go_wp2_with (fail))
                        go_meet
                        case rel => exact ⟨_, H', ⟨by (have := HJ10.out; have := HJ19.out; have := HJ41.out; have := HJ91.out; have := HJ94.out; omega)⟩, ⟨by repeat ((with_reducible (exact HB.out)))⟩⟩
              case rest => as_aux_lemma =>
                clear HC89
                obtain ⟨kq, HA, HJ88, HB⟩ := hcut
                cases kq with
                | zero => exact absurd HA.out (by simp [laws_FnFilesSearchedOfAll.j8])
                | succ kj88 =>
                  have H := HA.out
                  clear HA
                  simp only [laws_FnFilesSearchedOfAll.j8] at H
                  replace H := Option.bind_eq_some_iff.mp H
                  obtain ⟨⟨t461, t462⟩, A1100, H⟩ := H
                  (try dsimp only at H)
                  have A110 := Aside0.mk A1100
                  clear A1100
                  replace H := Option.bind_eq_some_iff.mp H
                  obtain ⟨⟨t463, t464⟩, A1110, H⟩ := H
                  (try dsimp only at H)
                  have A111 := Aside0.mk A1110
                  clear A1110
                  replace H := Option.bind_eq_some_iff.mp H
                  obtain ⟨⟨t465, t466⟩, A1120, H⟩ := H
                  (try dsimp only at H)
                  have A112 := Aside0.mk A1120
                  clear A1120
                  replace H := Option.bind_eq_some_iff.mp H
                  obtain ⟨⟨t469, t470⟩, A1130, H⟩ := H
                  (try dsimp only at H)
                  have A113 := Aside0.mk A1130
                  clear A1130
                  replace H := Option.bind_eq_some_iff.mp H
                  obtain ⟨⟨t473, t474⟩, A1140, H⟩ := H
                  (try dsimp only at H)
                  have A114 := Aside0.mk A1140
                  clear A1140
                  replace H := Option.bind_eq_some_iff.mp H
                  obtain ⟨⟨t475, t476⟩, A1150, H⟩ := H
                  (try dsimp only at H)
                  have A115 := Aside0.mk A1150
                  clear A1150
                  replace H := Option.bind_eq_some_iff.mp H
                  obtain ⟨⟨t477, t478⟩, A1160, H⟩ := H
                  (try dsimp only at H)
                  have A116 := Aside0.mk A1160
                  clear A1160
                  replace H := Option.bind_eq_some_iff.mp H
                  obtain ⟨⟨t479, t480⟩, A1170, H⟩ := H
                  (try dsimp only at H)
                  have A117 := Aside0.mk A1170
                  clear A1170
                  replace H := Option.bind_eq_some_iff.mp H
                  obtain ⟨⟨t481, t482⟩, A1180, H⟩ := H
                  (try dsimp only at H)
                  have A118 := Aside0.mk A1180
                  clear A1180
                  replace H := Option.bind_eq_some_iff.mp H
                  obtain ⟨⟨t483, t484⟩, A1190, H⟩ := H
                  (try dsimp only at H)
                  have A119 := Aside0.mk A1190
                  clear A1190
                  replace H := Option.bind_eq_some_iff.mp H
                  obtain ⟨⟨t485, t486⟩, A1200, H⟩ := H
                  (try dsimp only at H)
                  have A120 := Aside0.mk A1200
                  clear A1200
                  replace H := Option.bind_eq_some_iff.mp H
                  obtain ⟨⟨t489, t490⟩, A1210, H⟩ := H
                  (try dsimp only at H)
                  have A121 := Aside0.mk A1210
                  clear A1210
                  have HC122 := Aside0.mk H
                  clear H
                  go_upto_region 52 with (first | (go_at_call 11; (with_reducible refine (impl_HeightOfRank.calls kj88 _ _ l2 a3 t461 t462 _ ?side1 ?side2 A110.out).mono ?_); (case side1 => repeat ((exact (Kd.C_below HR2.out HB.out)))); (case side2 => exact HC2.out); rintro e w123 ⟨rfl, hb⟩; have n0_ := Aside0.mk (below_step (by repeat ((with_reducible (exact HB.out)))) hb); clear HB; have HB := n0_; clear n0_; (try clear hb); (try clear hb2); (try clear hk); (try clear hi)) | (go_at_call 12; (with_reducible refine (spec_HeightOfRank.calls kj88 _ _ l2 a3 t463 t464 _ ?side1 ?side2 A111.out).mono ?_); (case side1 => repeat ((exact (Kd.C_below HR2.out HB.out)))); (case side2 => exact HC2.out); rintro e w124 ⟨rfl, hb⟩; have n0_ := Aside0.mk (below_step (by repeat ((with_reducible (exact HB.out)))) hb); clear HB; have HB := n0_; clear n0_; (try clear hb); (try clear hb2); (try clear hk); (try clear hi)) | (go_at_call 13; (with_reducible refine (impl_ExchangeFiles.calls kj88 _ _ l4 a5 a6 t465 t466 _ ?side1 ?side2 A112.out).mono ?_); (case side1 => repeat ((exact (Kd.C_below HR4.out HB.out)))); (case side2 => exact HC4.out); rintro e w125 ⟨v467, rfl, ho0, hb⟩; have n0_ := Aside0.mk (Kd.S_lower ho0 (below_size (by repeat ((with_reducible (exact HB.out)))))); have n1_ := Aside0.mk (below_step (by repeat ((with_reducible (exact HB.out)))) hb); clear HB; have HO468 := n0_; have HB := n1_; clear n0_ n1_; (try clear hb); (try clear hb2); (try clear hk); (try clear hi); (try clear ho0)) | (go_at_call 14; (with_reducible refine (spec_ExchangeFiles.calls kj88 _ _ l4 a5 a6 t469 t470 _ ?side1 ?side2 A113.out).mono ?_); (case side1 => repeat ((exact (Kd.C_below HR4.out HB.out)))); (case side2 => exact HC4.out); rintro e w126 ⟨v471, rfl, ho0, hb⟩; have n0_ := Aside0.mk (Kd.S_elder' (by (with_reducible repeat (fail)); exact HO468.out) (Kd.S_base ho0) hb); have n1_ := Aside0.mk (Kd.S_lower (Kd.S_new' ho0 (Kd.S_lt (by (with_reducible repeat (fail)); exact HO468.out))) (below_size (by repeat ((with_reducible (exact HB.out)))))); have n2_ := Aside0.mk (below_step (by repeat ((with_reducible (exact HB.out)))) hb); clear HO468; clear HB; have HO468 := n0_; have HO472 := n1_; have HB := n2_; clear n0_ n1_ n2_; (try clear hb); (try clear hb2); (try clear hk); (try clear hi); (try clear ho0)) | (go_at_call 15; (with_reducible refine (impl_CountSortedFiles.calls a7 a8 t473 t474 _ A114.out).mono ?_); rintro e w127 ⟨rfl, hb⟩; have n0_ := Aside0.mk (Kd.S_below (by (with_reducible repeat (fail)); exact HO468.out) hb); have n1_ := Aside0.mk (Kd.S_below (by (with_reducible repeat (fail)); exact HO472.out) hb); have n2_ := Aside0.mk (below_step (by repeat ((with_reducible (exact HB.out)))) hb); clear HO468; clear HO472; clear HB; have HO468 := n0_; have HO472 := n1_; have HB := n2_; clear n0_ n1_ n2_; (try clear hb); (try clear hb2); (try clear hk); (try clear hi)) | (go_at_call 16; (with_reducible refine (spec_CountSortedFiles.calls kj88 a7 a8 t475 t476 _ A115.out).mono ?_); rintro e w128 ⟨rfl, hb⟩; have n0_ := Aside0.mk (Kd.S_below (by (with_reducible repeat (fail)); exact HO468.out) hb); have n1_ := Aside0.mk (Kd.S_below (by (with_reducible repeat (fail)); exact HO472.out) hb); have n2_ := Aside0.mk (below_step (by repeat ((with_reducible (exact HB.out)))) hb); clear HO468; clear HO472; clear HB; have HO468 := n0_; have HO472 := n1_; have HB := n2_; clear n0_ n1_ n2_; (try clear hb); (try clear hb2); (try clear hk); (try clear hi)) | (go_at_call 17; (with_reducible refine (impl_FileDisorder.calls kj88 _ _ l2 t477 t478 _ ?side1 ?side2 A116.out).mono ?_); (case side1 => repeat ((exact (Kd.C_below HR2.out HB.out)))); (case side2 => exact HC2.out); rintro e w129 ⟨rfl, hb⟩; have n0_ := Aside0.mk (Kd.S_below (by (with_reducible repeat (fail)); exact HO468.out) hb); have n1_ := Aside0.mk (Kd.S_below (by (with_reducible repeat (fail)); exact HO472.out) hb); have n2_ := Aside0.mk (below_step (by repeat ((with_reducible (exact HB.out)))) hb); clear HO468; clear HO472; clear HB; have HO468 := n0_; have HO472 := n1_; have HB := n2_; clear n0_ n1_ n2_; (try clear hb); (try clear hb2); (try clear hk); (try clear hi)) | (go_at_call 18; (with_reducible refine (spec_FileDisorder.calls kj88 _ _ l2 t479 t480 _ ?side1 ?side2 A117.out).mono ?_); (case side1 => repeat ((exact (Kd.C_below HR2.out HB.out)))); (case side2 => exact HC2.out); rintro e w130 ⟨rfl, hb⟩; have n0_ := Aside0.mk (Kd.S_below (by (with_reducible repeat (fail)); exact HO468.out) hb); have n1_ := Aside0.mk (Kd.S_below (by (with_reducible repeat (fail)); exact HO472.out) hb); have n2_ := Aside0.mk (below_step (by repeat ((with_reducible (exact HB.out)))) hb); clear HO468; clear HO472; clear HB; have HO468 := n0_; have HO472 := n1_; have HB := n2_; clear n0_ n1_ n2_; (try clear hb); (try clear hb2); (try clear hk); (try clear hi)) | (go_at_call 19; (with_reducible refine (impl_FilesText.calls kj88 _ _ l2 t481 t482 _ (tab_below HU.out (by repeat ((with_reducible (exact HB.out))))) ?side1 ?side2 A118.out).mono ?_); (case side1 => repeat ((exact (Kd.C_below HR2.out HB.out)))); (case side2 => exact HC2.out); rintro e w131 ⟨rfl, hb⟩; have n0_ := Aside0.mk (Kd.S_below (by (with_reducible repeat (fail)); exact HO468.out) hb); have n1_ := Aside0.mk (Kd.S_below (by (with_reducible repeat (fail)); exact HO472.out) hb); have n2_ := Aside0.mk (below_step (by repeat ((with_reducible (exact HB.out)))) hb); clear HO468; clear HO472; clear HB; have HO468 := n0_; have HO472 := n1_; have HB := n2_; clear n0_ n1_ n2_; (try clear hb); (try clear hb2); (try clear hk); (try clear hi)) | (go_at_call 20; (with_reducible refine (spec_FilesText.calls kj88 _ _ l2 t483 t484 _ ?side1 ?side2 A119.out).mono ?_); (case side1 => repeat ((exact (Kd.C_below HR2.out HB.out)))); (case side2 => exact HC2.out); rintro e w132 ⟨rfl, hb⟩; have n0_ := Aside0.mk (Kd.S_below (by (with_reducible repeat (fail)); exact HO468.out) hb); have n1_ := Aside0.mk (Kd.S_below (by (with_reducible repeat (fail)); exact HO472.out) hb); have n2_ := Aside0.mk (below_step (by repeat ((with_reducible (exact HB.out)))) hb); clear HO468; clear HO472; clear HB; have HO468 := n0_; have HO472 := n1_; have HB := n2_; clear n0_ n1_ n2_; (try clear hb); (try clear hb2); (try clear hk); (try clear hi)) | (go_at_call 21; (with_reducible refine (impl_ParseFiles.calls kj88 a9 t485 t486 _ (tab_below HU.out (by repeat ((with_reducible (exact HB.out))))) A120.out).mono ?_); rintro e w133 ⟨v487, rfl, ho0, hb⟩; have n0_ := Aside0.mk (Kd.S_elder' (by (with_reducible repeat (fail)); exact HO468.out) (Kd.S_base ho0) hb); have n1_ := Aside0.mk (Kd.S_elder' (by (with_reducible repeat (fail)); exact HO472.out) (Kd.S_base ho0) hb); have n2_ := Aside0.mk (Kd.S_lower (Kd.S_new' (Kd.S_new' ho0 (Kd.S_lt (by (with_reducible repeat (fail)); exact HO468.out))) (Kd.S_lt (by (with_reducible repeat (fail)); exact HO472.out))) (below_size (by repeat ((with_reducible (exact HB.out)))))); have n3_ := Aside0.mk (below_step (by repeat ((with_reducible (exact HB.out)))) hb); clear HO468; clear HO472; clear HB; have HO468 := n0_; have HO472 := n1_; have HO488 := n2_; have HB := n3_; clear n0_ n1_ n2_ n3_; (try clear hb); (try clear hb2); (try clear hk); (try clear hi); (try clear ho0)) | (go_at_call 22; (with_reducible refine (spec_ParseFiles.calls kj88 a9 t489 t490 _ A121.out).mono ?_); rintro e w134 ⟨v491, rfl, ho0, hb⟩; have n0_ := Aside0.mk (Kd.S_elder' (by (with_reducible repeat (fail)); exact HO468.out) (Kd.S_base ho0) hb); have n1_ := Aside0.mk (Kd.S_elder' (by (with_reducible repeat (fail)); exact HO472.out) (Kd.S_base ho0) hb); have n2_ := Aside0.mk (Kd.S_elder' (by (with_reducible repeat (fail)); exact HO488.out) (Kd.S_base ho0) hb); have n3_ := Aside0.mk (Kd.S_lower (Kd.S_new' (Kd.S_new' (Kd.S_new' ho0 (Kd.S_lt (by (with_reducible repeat (fail)); exact HO468.out))) (Kd.S_lt (by (with_reducible repeat (fail)); exact HO472.out))) (Kd.S_lt (by (with_reducible repeat (fail)); exact HO488.out))) (below_size (by repeat ((with_reducible (exact HB.out)))))); have n4_ := Aside0.mk (below_step (by repeat ((with_reducible (exact HB.out)))) hb); clear HO468; clear HO472; clear HO488; clear HB; have HO468 := n0_; have HO472 := n1_; have HO488 := n2_; have HO492 := n3_; have HB := n4_; clear n0_ n1_ n2_ n3_ n4_; (try clear hb); (try clear hb2); (try clear hk); (try clear hi); (try clear ho0)))
                  (try simp only [Act.put, List.setIfInBounds_toArray, List.set_cons_zero, List.set_cons_succ])
                  go_cut [437] from 437 to 437 (fun v437 wc => ∃ (kq : Nat) (x437_121 : Bool), v437 = .bool x437_121 ∧ Aside0 (laws_FnFilesSearchedOfAll.j9 kq l2 l4 a5 a6 a7 a8 a9 t465 t466 t473 t474 t481 t482 t485 t486 x437_121 = some r) ∧ Aside0 (kq ≤ kj88) ∧ Aside0 (Kd.S (Kd.slice 3 (Kd.int .i64)) 28 wc w.heap.size (fun k_ => some k_ ≠ (v487 : Value).ownBlock) v467 t465) ∧ Aside0 (Kd.S (Kd.slice 3 (Kd.int .i64)) 28 wc w.heap.size (fun k_ => some k_ ≠ (v467 : Value).ownBlock) v487 t485) ∧ Aside0 (Below w.heap.size w wc))
                  case first => as_aux_lemma =>
                    have H := HC122.out
                    clear HC122
                    by_cases c135 : (t462 != t464) = true
                    · rw [if_pos c135] at H
                      have c135b0 : (t462 != t464) = true := c135
                      (try (have c135b1 : decide (t462 = t464) = false := by simpa using c135))
                      (try (have c135b2 : (t462 == t464) = false := by simpa using c135))
                      (try (have c135b3 : ¬ (t462 = t464) := by simpa using c135))
                      clear c135
                      (skip)
                      exact absurd (hrt.symm.trans (laws_FnFilesSearchedOfAll.j9_false H)) (by decide)
                    rw [if_neg c135] at H
                    have c135b0 : (t462 != t464) = false := by simpa using c135
                    (try (have c135b1 : decide (t462 = t464) = true := by simpa using c135))
                    (try (have c135b2 : (t462 == t464) = true := by simpa using c135))
                    clear c135
                    (skip)
                    by_cases c136 : t461 = t463
                    rotate_left
                    · rw [if_neg c136] at H
                      have c136b0 : (t461 == t463) = false := beq_eq_false_iff_ne.mpr c136
                      have c136b1 : (t461 != t463) = true := bne_iff_ne.mpr c136
                      exact absurd (hrt.symm.trans (laws_FnFilesSearchedOfAll.j9_false H)) (by decide)
                    rw [if_pos c136] at H
                    have c136b0 : (t461 == t463) = true := beq_iff_eq.mpr c136
                    have c136b1 : (t461 != t463) = false := bne_eq_false_iff_eq.mpr c136
                    clear c136
                    by_cases c137 : (t466 != t470) = true
                    · rw [if_pos c137] at H
                      have c137b0 : (t466 != t470) = true := c137
                      (try (have c137b1 : decide (t466 = t470) = false := by simpa using c137))
                      (try (have c137b2 : (t466 == t470) = false := by simpa using c137))
                      (try (have c137b3 : ¬ (t466 = t470) := by simpa using c137))
                      clear c137
                      exact absurd (hrt.symm.trans (laws_FnFilesSearchedOfAll.j9_false H)) (by decide)
                    rw [if_neg c137] at H
                    have c137b0 : (t466 != t470) = false := by simpa using c137
                    (try (have c137b1 : decide (t466 = t470) = true := by simpa using c137))
                    (try (have c137b2 : (t466 == t470) = true := by simpa using c137))
                    clear c137
                    replace H := Option.bind_eq_some_iff.mp H
                    obtain ⟨t493, A1380, H⟩ := H
                    (try dsimp only at H)
                    have A138 := Aside0.mk A1380
                    clear A1380
                    by_cases c139 : t493 = true
                    rotate_left
                    · replace c139 := Bool.eq_false_iff.mpr c139
                      subst c139
                      rw [if_neg (show ¬ (false = true) by decide)] at H
                      exact absurd (hrt.symm.trans (laws_FnFilesSearchedOfAll.j9_false H)) (by decide)
                    subst c139
                    rw [if_pos rfl] at H
                    by_cases c140 : (t474 != t476) = true
                    · rw [if_pos c140] at H
                      have c140b0 : (t474 != t476) = true := c140
                      (try (have c140b1 : decide (t474 = t476) = false := by simpa using c140))
                      (try (have c140b2 : (t474 == t476) = false := by simpa using c140))
                      (try (have c140b3 : ¬ (t474 = t476) := by simpa using c140))
                      clear c140
                      exact absurd (hrt.symm.trans (laws_FnFilesSearchedOfAll.j9_false H)) (by decide)
                    rw [if_neg c140] at H
                    have c140b0 : (t474 != t476) = false := by simpa using c140
                    (try (have c140b1 : decide (t474 = t476) = true := by simpa using c140))
                    (try (have c140b2 : (t474 == t476) = true := by simpa using c140))
                    clear c140
                    by_cases c143 : t473 = t475
                    rotate_left
                    · rw [if_neg c143] at H
                      have c143b0 : (t473 == t475) = false := beq_eq_false_iff_ne.mpr c143
                      have c143b1 : (t473 != t475) = true := bne_iff_ne.mpr c143
                      exact absurd (hrt.symm.trans (laws_FnFilesSearchedOfAll.j9_false H)) (by decide)
                    rw [if_pos c143] at H
                    have c143b0 : (t473 == t475) = true := beq_iff_eq.mpr c143
                    have c143b1 : (t473 != t475) = false := bne_eq_false_iff_eq.mpr c143
                    clear c143
                    by_cases c144 : (t478 != t480) = true
                    · rw [if_pos c144] at H
                      have c144b0 : (t478 != t480) = true := c144
                      (try (have c144b1 : decide (t478 = t480) = false := by simpa using c144))
                      (try (have c144b2 : (t478 == t480) = false := by simpa using c144))
                      (try (have c144b3 : ¬ (t478 = t480) := by simpa using c144))
                      clear c144
                      exact absurd (hrt.symm.trans (laws_FnFilesSearchedOfAll.j9_false H)) (by decide)
                    rw [if_neg c144] at H
                    have c144b0 : (t478 != t480) = false := by simpa using c144
                    (try (have c144b1 : decide (t478 = t480) = true := by simpa using c144))
                    (try (have c144b2 : (t478 == t480) = true := by simpa using c144))
                    clear c144
                    by_cases c147 : t477 = t479
                    rotate_left
                    · rw [if_neg c147] at H
                      have c147b0 : (t477 == t479) = false := beq_eq_false_iff_ne.mpr c147
                      have c147b1 : (t477 != t479) = true := bne_iff_ne.mpr c147
                      exact absurd (hrt.symm.trans (laws_FnFilesSearchedOfAll.j9_false H)) (by decide)
                    rw [if_pos c147] at H
                    have c147b0 : (t477 == t479) = true := beq_iff_eq.mpr c147
                    have c147b1 : (t477 != t479) = false := bne_eq_false_iff_eq.mpr c147
                    clear c147
                    by_cases c148 : (t482 != t484) = true
                    · rw [if_pos c148] at H
                      have c148b0 : (t482 != t484) = true := c148
                      (try (have c148b1 : decide (t482 = t484) = false := by simpa using c148))
                      (try (have c148b2 : (t482 == t484) = false := by simpa using c148))
                      (try (have c148b3 : ¬ (t482 = t484) := by simpa using c148))
                      clear c148
                      exact absurd (hrt.symm.trans (laws_FnFilesSearchedOfAll.j9_false H)) (by decide)
                    rw [if_neg c148] at H
                    have c148b0 : (t482 != t484) = false := by simpa using c148
                    (try (have c148b1 : decide (t482 = t484) = true := by simpa using c148))
                    (try (have c148b2 : (t482 == t484) = true := by simpa using c148))
                    clear c148
                    by_cases c151 : t481.toList = t483.toList
                    rotate_left
                    · rw [if_neg c151] at H
                      have c151b0 : (t481.toList == t483.toList) = false := beq_eq_false_iff_ne.mpr c151
                      have c151b1 : (t481.toList != t483.toList) = true := bne_iff_ne.mpr c151
                      exact absurd (hrt.symm.trans (laws_FnFilesSearchedOfAll.j9_false H)) (by decide)
                    rw [if_pos c151] at H
                    have c151b0 : (t481.toList == t483.toList) = true := beq_iff_eq.mpr c151
                    have c151b1 : (t481.toList != t483.toList) = false := bne_eq_false_iff_eq.mpr c151
                    clear c151
                    by_cases c152 : (t486 != t490) = true
                    · rw [if_pos c152] at H
                      have c152b0 : (t486 != t490) = true := c152
                      (try (have c152b1 : decide (t486 = t490) = false := by simpa using c152))
                      (try (have c152b2 : (t486 == t490) = false := by simpa using c152))
                      (try (have c152b3 : ¬ (t486 = t490) := by simpa using c152))
                      clear c152
                      exact absurd (hrt.symm.trans (laws_FnFilesSearchedOfAll.j9_false H)) (by decide)
                    rw [if_neg c152] at H
                    have c152b0 : (t486 != t490) = false := by simpa using c152
                    (try (have c152b1 : decide (t486 = t490) = true := by simpa using c152))
                    (try (have c152b2 : (t486 == t490) = true := by simpa using c152))
                    clear c152
                    replace H := Option.bind_eq_some_iff.mp H
                    obtain ⟨t494, A1550, H⟩ := H
                    (try dsimp only at H)
                    have A155 := Aside0.mk A1550
                    clear A1550
                    by_cases c156 : t494 = true
                    rotate_left
                    · replace c156 := Bool.eq_false_iff.mpr c156
                      subst c156
                      rw [if_neg (show ¬ (false = true) by decide)] at H
                      exact absurd (hrt.symm.trans (laws_FnFilesSearchedOfAll.j9_false H)) (by decide)
                    subst c156
                    rw [if_pos rfl] at H
                    replace H := Option.bind_eq_some_iff.mp H
                    obtain ⟨t495, A1570, H⟩ := H
                    (try dsimp only at H)
                    have A157 := Aside0.mk A1570
                    clear A1570
                    by_cases c158 : (t482 != t495) = true
                    · rw [if_pos c158] at H
                      have c158b0 : (t482 != t495) = true := c158
                      (try (have c158b1 : decide (t482 = t495) = false := by simpa using c158))
                      (try (have c158b2 : (t482 == t495) = false := by simpa using c158))
                      (try (have c158b3 : ¬ (t482 = t495) := by simpa using c158))
                      clear c158
                      exact absurd (hrt.symm.trans (laws_FnFilesSearchedOfAll.j9_false H)) (by decide)
                    rw [if_neg c158] at H
                    have c158b0 : (t482 != t495) = false := by simpa using c158
                    (try (have c158b1 : decide (t482 = t495) = true := by simpa using c158))
                    (try (have c158b2 : (t482 == t495) = true := by simpa using c158))
                    clear c158
                    cases cq_ : (t478 != t482) with
                    | true =>
                      rw [cq_] at H
                      exact absurd (hrt.symm.trans (laws_FnFilesSearchedOfAll.j9_false H)) (by decide)
                    | false =>
                      rw [cq_] at H
                      (try (have cq1_ : decide (t478 = t482) = true := by simpa using cq_))
                      (try (have cq2_ : (t478 == t482) = true := by simpa using cq_))
                      have H' := Aside0.mk H
                      clear H
                      obtain ⟨Ao164, co164, eo164⟩ := Kd.S_slice HO468.out
                      subst eo164
                      obtain ⟨Ao165, co165, eo165⟩ := Kd.S_slice HO472.out
                      subst eo165
                      go_wp2_with (first | (go_at_call 8; (with_reducible refine (laws_vRows.calls kj88 _ _ t465 _ _ t469 true _ ?side1 ?side2 ?side3 ?side4 A138.out).mono ?_); (case side1 => repeat ((exact (Kd.S_reads' HO468.out).2.2))); (case side2 => exact (Kd.S_reads' HO468.out).2.1); (case side3 => repeat ((exact (Kd.S_reads' HO472.out).2.2))); (case side4 => exact (Kd.S_reads' HO472.out).2.1); rintro e w' ⟨rfl, ⟨nd, rfl⟩⟩; (try fail); obtain ⟨Ao166, co166, eo166⟩ := Kd.S_slice HO488.out; subst eo166; obtain ⟨Ao167, co167, eo167⟩ := Kd.S_slice HO492.out; subst eo167) | (go_at_call 8; (with_reducible refine (laws_vRows.calls kj88 _ _ t485 _ _ t489 true _ ?side1 ?side2 ?side3 ?side4 A155.out).mono ?_); (case side1 => repeat ((exact (Kd.S_reads' HO488.out).2.2))); (case side2 => exact (Kd.S_reads' HO488.out).2.1); (case side3 => repeat ((exact (Kd.S_reads' HO492.out).2.2))); (case side4 => exact (Kd.S_reads' HO492.out).2.1); rintro e w' ⟨rfl, ⟨nd, rfl⟩⟩; (try fail)) | (go_at_call 23; (with_reducible refine (impl_AreFiles.calls _ _ l2 t495 _ ?side1 ?side2 A157.out).mono ?_); (case side1 => repeat ((exact (Kd.C_below HR2.out (by repeat ((with_reducible first | exact HB.out | apply pw_below_drewN))))))); (case side2 => exact HC2.out); rintro e w168 ⟨rfl, hb⟩; have n0_ := Aside0.mk (Kd.S_below (by (with_reducible repeat ((apply Kd.S_drewN))); exact HO468.out) hb); have n1_ := Aside0.mk (Kd.S_below (by (with_reducible repeat ((apply Kd.S_drewN))); exact HO472.out) hb); have n2_ := Aside0.mk (Kd.S_below (by (with_reducible repeat ((apply Kd.S_drewN))); exact HO488.out) hb); have n3_ := Aside0.mk (Kd.S_below (by (with_reducible repeat ((apply Kd.S_drewN))); exact HO492.out) hb); have n4_ := Aside0.mk (below_step (by repeat ((with_reducible first | exact HB.out | apply pw_below_drewN))) hb); clear HO468; clear HO472; clear HO488; clear HO492; clear HB; have HO468 := n0_; have HO472 := n1_; have HO488 := n2_; have HO492 := n3_; have HB := n4_; clear n0_ n1_ n2_ n3_ n4_; (try clear hb); (try clear hb2); (try clear hk); (try clear hi)))
                      repeat (go_quiet (fail); try go_wp2_with (fail))
                      go_meet
                      case rel => exact ⟨_, (false), (by rfl), H', ⟨by (exact Nat.le_refl _)⟩, ⟨by (with_reducible repeat (fail)); exact Kd.S_mono HO468.out (fun _ hk => hk.1.2)⟩, ⟨by (with_reducible repeat (fail)); exact Kd.S_mono HO488.out (fun _ hk => hk.1.1.2)⟩, ⟨by repeat ((with_reducible (exact HB.out)))⟩⟩
                  case rest => as_aux_lemma =>
                    clear HC122
                    obtain ⟨kq, x437_121, rfl, HA, HJ121, HO_47, HO_63, HB⟩ := hcut
                    cases kq with
                    | zero => exact absurd HA.out (by simp [laws_FnFilesSearchedOfAll.j9])
                    | succ kj121 =>
                      have H := HA.out
                      clear HA
                      simp only [laws_FnFilesSearchedOfAll.j9] at H
                      by_cases c181 : x437_121 = true
                      · subst c181
                        rw [if_pos rfl] at H
                        exact absurd (hrt.symm.trans (Option.some.inj H).symm) (by decide)
                      replace c181 := Bool.eq_false_iff.mpr c181
                      subst c181
                      rw [if_neg (show ¬ (false = true) by decide)] at H
                      have HC182 := Aside0.mk H
                      clear H
                      go_upto_if 438 with (fail)
                      repeat (go_quiet (fail); go_upto_if 438 with (fail))
                      go_cut [] from 438 to 438 (fun wc => ∃ (kq : Nat), Aside0 (laws_FnFilesSearchedOfAll.j10 kq l2 a7 a8 a9 t473 t474 t481 t482 t485 t486 = some r) ∧ Aside0 (kq ≤ kj121) ∧ Aside0 (Kd.S (Kd.slice 3 (Kd.int .i64)) 28 wc w.heap.size (fun _ => True) v487 t485) ∧ Aside0 (Below w.heap.size w wc))
                      case first => as_aux_lemma =>
                        have H := HC182.out
                        clear HC182
                        by_cases c183 : t466 = true
                        rotate_left
                        · replace c183 := Bool.eq_false_iff.mpr c183
                          subst c183
                          rw [if_neg (show ¬ (false = true) by decide)] at H
                          have H' := Aside0.mk H
                          clear H
                          go_wp2
                          repeat (go_quiet (fail); try go_wp2)
                          go_meet
                          case rel => exact ⟨_, H', ⟨by (exact Nat.le_refl _)⟩, ⟨by (with_reducible repeat (fail)); exact Kd.S_mono HO_63.out (fun _ hk => trivial)⟩, ⟨by repeat ((with_reducible (exact HB.out)))⟩⟩
                        subst c183
                        rw [if_pos rfl] at H
                        replace H := Option.bind_eq_some_iff.mp H
                        obtain ⟨⟨t496, t497⟩, A1840, H⟩ := H
                        (try dsimp only at H)
                        have A184 := Aside0.mk A1840
                        clear A1840
                        by_cases c185 : t497 = true
                        rotate_left
                        · replace c185 := Bool.eq_false_iff.mpr c185
                          subst c185
                          rw [if_neg (show ¬ (false = true) by decide)] at H
                          exact absurd (hrt.symm.trans (Option.some.inj H).symm) (by decide)
                        subst c185
                        rw [if_pos rfl] at H
                        replace H := Option.bind_eq_some_iff.mp H
                        obtain ⟨t500, A1860, H⟩ := H
                        (try dsimp only at H)
                        have A186 := Aside0.mk A1860
                        clear A1860
                        by_cases c187 : t500 = true
                        rotate_left
                        · replace c187 := Bool.eq_false_iff.mpr c187
                          subst c187
                          rw [if_neg (show ¬ (false = true) by decide)] at H
                          exact absurd (hrt.symm.trans (Option.some.inj H).symm) (by decide)
                        subst c187
                        rw [if_pos rfl] at H
                        by_cases c188 : 0 ≤ a5
                        rotate_left
                        · rw [if_neg c188] at H
                          exact absurd H (by simp)
                        rw [if_pos c188] at H
                        have c188b0 : decide (0 ≤ a5) = true := decide_eq_true c188
                        clear c188
                        (skip)
                        by_cases c189 : a5 < (t465.length : Int)
                        rotate_left
                        · rw [if_neg c189] at H
                          exact absurd H (by simp)
                        rw [if_pos c189] at H
                        have c189b0 : decide (a5 < (t465.length : Int)) = true := decide_eq_true c189
                        clear c189
                        by_cases c190 : 0 ≤ a6
                        rotate_left
                        · rw [if_neg c190] at H
                          exact absurd H (by simp)
                        rw [if_pos c190] at H
                        have c190b0 : decide (0 ≤ a6) = true := decide_eq_true c190
                        clear c190
                        by_cases c191 : a6 < (l4.length : Int)
                        rotate_left
                        · rw [if_neg c191] at H
                          exact absurd H (by simp)
                        rw [if_pos c191] at H
                        have c191b0 : decide (a6 < (l4.length : Int)) = true := decide_eq_true c191
                        clear c191
                        replace H := Option.bind_eq_some_iff.mp H
                        obtain ⟨t503, A1920, H⟩ := H
                        (try dsimp only at H)
                        have A192 := Aside0.mk A1920
                        clear A1920
                        by_cases c193 : t503 = true
                        rotate_left
                        · replace c193 := Bool.eq_false_iff.mpr c193
                          subst c193
                          rw [if_neg (show ¬ (false = true) by decide)] at H
                          exact absurd (hrt.symm.trans (Option.some.inj H).symm) (by decide)
                        subst c193
                        rw [if_pos rfl] at H
                        have H' := Aside0.mk H
                        clear H
                        obtain ⟨Ao194, co194, eo194⟩ := Kd.S_slice HO_47.out
                        subst eo194
                        go_wp2_with ((go_at_call 13; (with_reducible refine (impl_ExchangeFiles.calls kj121 _ _ t465 a5 a6 t496 true _ ?side1 ?side2 A184.out).mono ?_); (case side1 => repeat ((exact (Kd.S_reads' HO_47.out).2.2))); (case side2 => exact (Kd.S_reads' HO_47.out).2.1); rintro e w195 ⟨v498, rfl, ho0, hb⟩; have n0_ := Aside0.mk (Kd.S_elder' (by (with_reducible repeat (fail)); exact HO_47.out) (Kd.S_base ho0) hb); have n1_ := Aside0.mk (Kd.S_elder' (by (with_reducible repeat (fail)); exact HO_63.out) (Kd.S_base ho0) hb); have n2_ := Aside0.mk (Kd.S_lower (Kd.S_new' (Kd.S_new' ho0 (Kd.S_lt (by (with_reducible repeat (fail)); exact HO_47.out))) (Kd.S_lt (by (with_reducible repeat (fail)); exact HO_63.out))) (below_size (by repeat ((with_reducible (exact HB.out)))))); have n3_ := Aside0.mk (below_step (by repeat ((with_reducible (exact HB.out)))) hb); clear HO_47; clear HO_63; clear HB; have HO_47 := n0_; have HO_63 := n1_; have HO499 := n2_; have HB := n3_; clear n0_ n1_ n2_ n3_; (try clear hb); (try clear hb2); (try clear hk); (try clear hi); (try clear ho0); obtain ⟨Ao196, co196, eo196⟩ := Kd.S_slice HO499.out; subst eo196))
                        repeat (go_quiet (first | (go_at_call 8; (with_reducible refine (laws_vRows.calls kj121 _ _ t496 _ _ l4 true _ ?side1 ?side2 ?side3 ?side4 A186.out).mono ?_); (case side1 => repeat ((exact (Kd.S_reads' HO499.out).2.2))); (case side2 => exact (Kd.S_reads' HO499.out).2.1); (case side3 => repeat (first | exact (Kd.C_below HR4.out HB.out) | (with_reducible refine Kd.C_drewN ?_ _))); (case side4 => exact HC4.out); rintro e w' ⟨rfl, ⟨nd, rfl⟩⟩; (try (exact ⟨rfl, _, World.drewN_drewN _ _ _⟩)); have p501 : 0 ≤ (a5 : Int) := of_decide_eq_true (by (with_reducible assumption)); have q501 : a5 < (t465.length : Int) := of_decide_eq_true (by (with_reducible assumption)); obtain ⟨ad501, A501_0, c501_0, e501, hx501_0, hl501_0, hi501_0⟩ := at_L1 (Kd.S_reads' HO_47.out).2.2 a5 p501 q501; cases e501; obtain ⟨ce501, hce501, hMe501, hcc501⟩ := Kd.S_get HO_47.out [] a5 p501 (by (exact q501)); obtain ⟨ve501_0, rfl, ge501_0⟩ := hMe501; have hv501_0 := hcc501 0 _ rfl; rw [Nat.add_zero, show ((Kd.slice 3 (Kd.int .i64))).sz = 1 from rfl, Nat.mul_one] at hv501_0; replace hv501_0 := Option.some.inj (hv501_0.symm.trans hx501_0); rw [hv501_0] at ge501_0; have HL501_0 := Aside0.mk (show Kd.R (Kd.int .i64) 3 _ _ _ _ (rd_L1 t465 a5) from ge501_0); clear hv501_0 ge501_0; clear hcc501 hce501; have HR501_0 := Aside0.mk hi501_0; have HC501_0 := Aside0.mk hl501_0; clear hi501_0 hl501_0; replace p501 := eq_true p501; replace q501 := eq_true q501; have p502 : 0 ≤ (a6 : Int) := of_decide_eq_true (by (with_reducible assumption)); have q502 : a6 < (l4.length : Int) := of_decide_eq_true (by (with_reducible assumption)); obtain ⟨ad502, A502_0, c502_0, e502, hx502_0, hl502_0, hi502_0⟩ := at_L1 HR4.out a6 p502 q502; cases e502; replace hx502_0 := (HB.out.cell (World.block_lt_of_cell? w _ hx502_0)).trans hx502_0; have HR502_0 := Aside0.mk hi502_0; have HC502_0 := Aside0.mk hl502_0; clear hi502_0 hl502_0; replace p502 := eq_true p502; replace q502 := eq_true q502) | (go_at_call 9; (with_reducible refine (laws_vSame.calls kj121 _ _ (rd_L1 t465 a5) _ _ (rd_L1 l4 a6) true _ ?side1 ?side2 ?side3 ?side4 A192.out).mono ?_); (case side1 => repeat ((exact (by repeat (first | (with_reducible exact HR501_0.out) | (with_reducible refine Kd.C_drewN ?_ _)))))); (case side2 => exact HC501_0.out); (case side3 => repeat ((exact (Kd.C_below HR502_0.out (by repeat ((with_reducible first | exact HB.out | apply pw_below_drewN))))))); (case side4 => exact HC502_0.out); rintro e w' ⟨rfl, ⟨nd, rfl⟩⟩; (try (exact ⟨rfl, _, World.drewN_drewN _ _ _⟩)))); try go_wp2_with (fail))
                        go_meet
                        case rel => exact ⟨_, H', ⟨by (exact Nat.le_refl _)⟩, ⟨by (with_reducible repeat ((apply Kd.S_drewN))); exact Kd.S_mono HO_63.out (fun _ hk => trivial)⟩, ⟨by repeat ((with_reducible first | exact HB.out | apply pw_below_drewN))⟩⟩
                      case rest => as_aux_lemma =>
                        clear HC182
                        obtain ⟨kq, HA, HJ181, HO_63, HB⟩ := hcut
                        cases kq with
                        | zero => exact absurd HA.out (by simp [laws_FnFilesSearchedOfAll.j10])
                        | succ kj181 =>
                          have H := HA.out
                          clear HA
                          simp only [laws_FnFilesSearchedOfAll.j10] at H
                          have HC205 := Aside0.mk H
                          clear H
                          go_upto_if 466 with (fail)
                          repeat (go_quiet (fail); go_upto_if 466 with (fail))
                          go_cut [] from 466 to 466 (fun wc => ∃ (kq : Nat), Aside0 (laws_FnFilesSearchedOfAll.j12 kq l2 a9 t481 t482 t485 t486 = some r) ∧ Aside0 (kq ≤ kj181) ∧ Aside0 (Kd.S (Kd.slice 3 (Kd.int .i64)) 28 wc w.heap.size (fun _ => True) v487 t485) ∧ Aside0 (Below w.heap.size w wc))
                          case first => as_aux_lemma =>
                            have H := HC205.out
                            clear HC205
                            by_cases c206 : t474 = true
                            rotate_left
                            · replace c206 := Bool.eq_false_iff.mpr c206
                              subst c206
                              rw [if_neg (show ¬ (false = true) by decide)] at H
                              have H' := Aside0.mk H
                              clear H
                              go_wp2
                              repeat (go_quiet (fail); try go_wp2)
                              go_meet
                              case rel => exact ⟨_, H', ⟨by (exact Nat.le_refl _)⟩, ⟨by (with_reducible repeat (fail)); exact HO_63.out⟩, ⟨by repeat ((with_reducible (exact HB.out)))⟩⟩
                            subst c206
                            rw [if_pos rfl] at H
                            have HC207 := Aside0.mk H
                            clear H
                            go_upto_region 59 with (fail)
                            repeat (go_quiet (fail); go_upto_region 59 with (fail))
                            go_cut [479] from 479 to 479 (fun v479 wc => ∃ (kq : Nat) (x479_206 : Bool), v479 = .bool x479_206 ∧ Aside0 (laws_FnFilesSearchedOfAll.j11 kq l2 a7 a8 a9 t473 t481 t482 t485 t486 x479_206 = some r) ∧ Aside0 (kq ≤ kj181) ∧ Aside0 (Kd.S (Kd.slice 3 (Kd.int .i64)) 28 wc w.heap.size (fun _ => True) v487 t485) ∧ Aside0 (Below w.heap.size w wc))
                            case first => as_aux_lemma =>
                              have H := HC207.out
                              clear HC207
                              by_cases c208 : t473 < 1
                              · rw [if_pos c208] at H
                                have c208b0 : decide (t473 < 1) = true := decide_eq_true c208
                                clear c208
                                (skip)
                                exact absurd (hrt.symm.trans (laws_FnFilesSearchedOfAll.j11_false H)) (by decide)
                              rw [if_neg c208] at H
                              have c208b0 : decide (t473 < 1) = false := decide_eq_false c208
                              clear c208
                              (skip)
                              by_cases c209 : a7 = 1
                              rotate_left
                              · rw [if_neg c209] at H
                                have c209b0 : (a7 == 1) = false := beq_eq_false_iff_ne.mpr c209
                                have c209b1 : (a7 != 1) = true := bne_iff_ne.mpr c209
                                have H' := Aside0.mk H
                                clear H
                                go_wp2
                                repeat (go_quiet (fail); try go_wp2)
                                go_meet
                                case rel => exact ⟨_, (((a8 == 1) != (t473 == 1))), (by rfl), H', ⟨by (exact Nat.le_refl _)⟩, ⟨by (with_reducible repeat (fail)); exact HO_63.out⟩, ⟨by repeat ((with_reducible (exact HB.out)))⟩⟩
                              rw [if_pos c209] at H
                              have c209b0 : (a7 == 1) = true := beq_iff_eq.mpr c209
                              have c209b1 : (a7 != 1) = false := bne_eq_false_iff_eq.mpr c209
                              clear c209
                              have H' := Aside0.mk H
                              clear H
                              go_wp2
                              repeat (go_quiet (fail); try go_wp2)
                              go_meet
                              case rel => exact ⟨_, ((true != (t473 == 1))), (by (simp; done)), H', ⟨by (exact Nat.le_refl _)⟩, ⟨by (with_reducible repeat (fail)); exact HO_63.out⟩, ⟨by repeat ((with_reducible (exact HB.out)))⟩⟩
                            case rest => as_aux_lemma =>
                              clear HC207
                              obtain ⟨kq, x479_206, rfl, HA, HJ206, HO_63, HB⟩ := hcut
                              cases kq with
                              | zero => exact absurd HA.out (by simp [laws_FnFilesSearchedOfAll.j11])
                              | succ kj206 =>
                                have H := HA.out
                                clear HA
                                simp only [laws_FnFilesSearchedOfAll.j11] at H
                                by_cases c210 : x479_206 = true
                                · subst c210
                                  rw [if_pos rfl] at H
                                  exact absurd (hrt.symm.trans (Option.some.inj H).symm) (by decide)
                                replace c210 := Bool.eq_false_iff.mpr c210
                                subst c210
                                rw [if_neg (show ¬ (false = true) by decide)] at H
                                by_cases c211 : a8 ≤ 4
                                rotate_left
                                · rw [if_neg c211] at H
                                  have c211b0 : decide (a8 ≤ 4) = false := decide_eq_false c211
                                  clear c211
                                  have H' := Aside0.mk H
                                  clear H
                                  go_wp2
                                  repeat (go_quiet (fail); try go_wp2)
                                  go_meet
                                  case rel => exact ⟨_, H', ⟨by (have := HJ10.out; have := HJ19.out; have := HJ41.out; have := HJ88.out; have := HJ121.out; have := HJ181.out; have := HJ206.out; omega)⟩, ⟨by (with_reducible repeat (fail)); exact HO_63.out⟩, ⟨by repeat ((with_reducible (exact HB.out)))⟩⟩
                                rw [if_pos c211] at H
                                have c211b0 : decide (a8 ≤ 4) = true := decide_eq_true c211
                                clear c211
                                replace H := Option.bind_eq_some_iff.mp H
                                obtain ⟨⟨t504, t505⟩, A2120, H⟩ := H
                                (try dsimp only at H)
                                have A212 := Aside0.mk A2120
                                clear A2120
                                by_cases c213 : t505 = true
                                rotate_left
                                · replace c213 := Bool.eq_false_iff.mpr c213
                                  subst c213
                                  rw [if_neg (show ¬ (false = true) by decide)] at H
                                  exact absurd (hrt.symm.trans (Option.some.inj H).symm) (by decide)
                                subst c213
                                rw [if_pos rfl] at H
                                by_cases c214 : t504 = t473
                                rotate_left
                                · rw [if_neg c214] at H
                                  have c214b0 : (t504 == t473) = false := beq_eq_false_iff_ne.mpr c214
                                  have c214b1 : (t504 != t473) = true := bne_iff_ne.mpr c214
                                  exact absurd (hrt.symm.trans (Option.some.inj H).symm) (by decide)
                                rw [if_pos c214] at H
                                have c214b0 : (t504 == t473) = true := beq_iff_eq.mpr c214
                                have c214b1 : (t504 != t473) = false := bne_eq_false_iff_eq.mpr c214
                                clear c214
                                have H' := Aside0.mk H
                                clear H
                                go_wp2_with ((go_at_call 15; (with_reducible refine (impl_CountSortedFiles.calls a8 a7 t504 true _ A212.out).mono ?_); rintro e w215 ⟨rfl, hb⟩; have n0_ := Aside0.mk (Kd.S_below (by (with_reducible repeat (fail)); exact HO_63.out) hb); have n1_ := Aside0.mk (below_step (by repeat ((with_reducible (exact HB.out)))) hb); clear HO_63; clear HB; have HO_63 := n0_; have HB := n1_; clear n0_ n1_; (try clear hb); (try clear hb2); (try clear hk); (try clear hi)))
                                repeat (go_quiet (fail); try go_wp2_with (fail))
                                go_meet
                                case rel => exact ⟨_, H', ⟨by (have := HJ10.out; have := HJ19.out; have := HJ41.out; have := HJ88.out; have := HJ121.out; have := HJ181.out; have := HJ206.out; omega)⟩, ⟨by (with_reducible repeat (fail)); exact HO_63.out⟩, ⟨by repeat ((with_reducible (exact HB.out)))⟩⟩
                          case rest => as_aux_lemma =>
                            clear HC205
                            obtain ⟨kq, HA, HJ204, HO_63, HB⟩ := hcut
                            cases kq with
                            | zero => exact absurd HA.out (by simp [laws_FnFilesSearchedOfAll.j12])
                            | succ kj204 =>
                              have H := HA.out
                              clear HA
                              simp only [laws_FnFilesSearchedOfAll.j12] at H
                              have HC218 := Aside0.mk H
                              clear H
                              go_upto_region 65 with (fail)
                              repeat (go_quiet (fail); go_upto_region 65 with (fail))
                              go_cut [500] from 500 to 500 (fun v500 wc => ∃ (kq : Nat) (x500_217 : Bool), v500 = .bool x500_217 ∧ Aside0 (laws_FnFilesSearchedOfAll.j13 kq l2 a9 t481 t485 t486 x500_217 = some r) ∧ Aside0 (kq ≤ kj204) ∧ Aside0 (Kd.S (Kd.slice 3 (Kd.int .i64)) 28 wc w.heap.size (fun _ => True) v487 t485) ∧ Aside0 (Below w.heap.size w wc))
                              case first => as_aux_lemma =>
                                have H := HC218.out
                                clear HC218
                                by_cases c219 : t482 = true
                                · subst c219
                                  rw [if_pos rfl] at H
                                  have H' := Aside0.mk H
                                  clear H
                                  go_wp2
                                  repeat (go_quiet (fail); try go_wp2)
                                  go_meet
                                  case rel => exact ⟨_, (decide ((t481.size : Int) ≤ 300)), (by rfl), H', ⟨by (exact Nat.le_refl _)⟩, ⟨by (with_reducible repeat (fail)); exact HO_63.out⟩, ⟨by repeat ((with_reducible (exact HB.out)))⟩⟩
                                replace c219 := Bool.eq_false_iff.mpr c219
                                subst c219
                                rw [if_neg (show ¬ (false = true) by decide)] at H
                                have H' := Aside0.mk H
                                clear H
                                go_wp2
                                repeat (go_quiet (fail); try go_wp2)
                                go_meet
                                case rel => exact ⟨_, (false), (by rfl), H', ⟨by (exact Nat.le_refl _)⟩, ⟨by (with_reducible repeat (fail)); exact HO_63.out⟩, ⟨by repeat ((with_reducible (exact HB.out)))⟩⟩
                              case rest => as_aux_lemma =>
                                clear HC218
                                obtain ⟨kq, x500_217, rfl, HA, HJ217, HO_63, HB⟩ := hcut
                                cases kq with
                                | zero => exact absurd HA.out (by simp [laws_FnFilesSearchedOfAll.j13])
                                | succ kj217 =>
                                  have H := HA.out
                                  clear HA
                                  simp only [laws_FnFilesSearchedOfAll.j13] at H
                                  by_cases c220 : x500_217 = true
                                  rotate_left
                                  · replace c220 := Bool.eq_false_iff.mpr c220
                                    subst c220
                                    rw [if_neg (show ¬ (false = true) by decide)] at H
                                    by_cases c235 : t486 = true
                                    rotate_left
                                    · replace c235 := Bool.eq_false_iff.mpr c235
                                      subst c235
                                      rw [if_neg (show ¬ (false = true) by decide)] at H
                                      obtain rfl := Option.some.inj H
                                      clear hrt
                                      go_wp2
                                      repeat (go_quiet (fail); try go_wp2)
                                      go_ret
                                      exact ⟨by rfl, by repeat ((with_reducible (exact HB.out)))⟩
                                    subst c235
                                    rw [if_pos rfl] at H
                                    replace H := Option.bind_eq_some_iff.mp H
                                    obtain ⟨⟨t513, t514⟩, A2360, H⟩ := H
                                    (try dsimp only at H)
                                    have A236 := Aside0.mk A2360
                                    clear A2360
                                    by_cases c237 : t514 = true
                                    rotate_left
                                    · replace c237 := Bool.eq_false_iff.mpr c237
                                      subst c237
                                      rw [if_neg (show ¬ (false = true) by decide)] at H
                                      exact absurd (hrt.symm.trans (Option.some.inj H).symm) (by decide)
                                    subst c237
                                    rw [if_pos rfl] at H
                                    obtain rfl := Option.some.inj H
                                    clear hrt
                                    obtain ⟨Ao238, co238, eo238⟩ := Kd.S_slice HO_63.out
                                    subst eo238
                                    go_wp2_with ((go_at_call 19; (with_reducible refine (impl_FilesText.calls kj217 _ _ t485 t513 true _ (tab_below HU.out (by repeat ((with_reducible (exact HB.out))))) ?side1 ?side2 A236.out).mono ?_); (case side1 => repeat ((exact (Kd.S_reads' HO_63.out).2.2))); (case side2 => exact (Kd.S_reads' HO_63.out).2.1); rintro e w239 ⟨rfl, hb⟩; have n0_ := Aside0.mk (Kd.S_below (by (with_reducible repeat (fail)); exact HO_63.out) hb); have n1_ := Aside0.mk (below_step (by repeat ((with_reducible (exact HB.out)))) hb); clear HO_63; clear HB; have HO_63 := n0_; have HB := n1_; clear n0_ n1_; (try clear hb); (try clear hb2); (try clear hk); (try clear hi)))
                                    repeat (go_quiet (fail); try go_wp2_with (fail))
                                    go_ret
                                    exact ⟨by rfl, by repeat ((with_reducible (exact HB.out)))⟩
                                  subst c220
                                  rw [if_pos rfl] at H
                                  replace H := Option.bind_eq_some_iff.mp H
                                  obtain ⟨⟨t506, t507⟩, A2210, H⟩ := H
                                  (try dsimp only at H)
                                  have A221 := Aside0.mk A2210
                                  clear A2210
                                  have HC222 := Aside0.mk H
                                  clear H
                                  go_upto_region 67 with ((go_at_call 21; (with_reducible refine (impl_ParseFiles.calls kj217 t481 t506 t507 _ (tab_below HU.out (by repeat ((with_reducible (exact HB.out))))) A221.out).mono ?_); rintro e w223 ⟨v508, rfl, ho0, hb⟩; have n0_ := Aside0.mk (Kd.S_elder' (by (with_reducible repeat (fail)); exact HO_63.out) (Kd.S_base ho0) hb); have n1_ := Aside0.mk (Kd.S_lower (Kd.S_new' ho0 (Kd.S_lt (by (with_reducible repeat (fail)); exact HO_63.out))) (below_size (by repeat ((with_reducible (exact HB.out)))))); have n2_ := Aside0.mk (below_step (by repeat ((with_reducible (exact HB.out)))) hb); clear HO_63; clear HB; have HO_63 := n0_; have HO509 := n1_; have HB := n2_; clear n0_ n1_ n2_; (try clear hb); (try clear hb2); (try clear hk); (try clear hi); (try clear ho0)))
                                  (try simp only [Act.put, List.setIfInBounds_toArray, List.set_cons_zero, List.set_cons_succ])
                                  go_cut [513] from 513 to 513 (fun v513 wc => ∃ (kq : Nat) (x513_221 : Bool), v513 = .bool x513_221 ∧ Aside0 (laws_FnFilesSearchedOfAll.j14 kq a9 t485 t486 x513_221 = some r) ∧ Aside0 (kq ≤ kj217) ∧ Aside0 (Kd.S (Kd.slice 3 (Kd.int .i64)) 28 wc w.heap.size (fun _ => True) v487 t485) ∧ Aside0 (Below w.heap.size w wc))
                                  case first => as_aux_lemma =>
                                    have H := HC222.out
                                    clear HC222
                                    by_cases c224 : t507 = true
                                    rotate_left
                                    · replace c224 := Bool.eq_false_iff.mpr c224
                                      subst c224
                                      rw [if_neg (show ¬ (false = true) by decide)] at H
                                      exact absurd (hrt.symm.trans (laws_FnFilesSearchedOfAll.j14_false H)) (by decide)
                                    subst c224
                                    rw [if_pos rfl] at H
                                    replace H := Option.bind_eq_some_iff.mp H
                                    obtain ⟨t510, A2250, H⟩ := H
                                    (try dsimp only at H)
                                    have A225 := Aside0.mk A2250
                                    clear A2250
                                    have H' := Aside0.mk H
                                    clear H
                                    obtain ⟨Ao226, co226, eo226⟩ := Kd.S_slice HO509.out
                                    subst eo226
                                    go_wp2_with ((go_at_call 8; (with_reducible refine (laws_vRows.calls kj217 _ _ t506 _ _ l2 t510 _ ?side1 ?side2 ?side3 ?side4 A225.out).mono ?_); (case side1 => repeat ((exact (Kd.S_reads' HO509.out).2.2))); (case side2 => exact (Kd.S_reads' HO509.out).2.1); (case side3 => repeat ((exact (Kd.C_below HR2.out HB.out)))); (case side4 => exact HC2.out); rintro e w' ⟨rfl, ⟨nd, rfl⟩⟩; (try fail)))
                                    repeat (go_quiet (fail); try go_wp2_with (fail))
                                    go_meet
                                    case rel => exact ⟨_, (!t510), (by rfl), H', ⟨by (exact Nat.le_refl _)⟩, ⟨by (with_reducible repeat ((apply Kd.S_drewN))); exact Kd.S_mono HO_63.out (fun _ hk => trivial)⟩, ⟨by repeat ((with_reducible first | exact HB.out | apply pw_below_drewN))⟩⟩
                                  case rest => as_aux_lemma =>
                                    clear HC222
                                    obtain ⟨kq, x513_221, rfl, HA, HJ221, HO_63, HB⟩ := hcut
                                    cases kq with
                                    | zero => exact absurd HA.out (by simp [laws_FnFilesSearchedOfAll.j14])
                                    | succ kj221 =>
                                      have H := HA.out
                                      clear HA
                                      simp only [laws_FnFilesSearchedOfAll.j14] at H
                                      by_cases c227 : x513_221 = true
                                      · subst c227
                                        rw [if_pos rfl] at H
                                        exact absurd (hrt.symm.trans (Option.some.inj H).symm) (by decide)
                                      replace c227 := Bool.eq_false_iff.mpr c227
                                      subst c227
                                      rw [if_neg (show ¬ (false = true) by decide)] at H
                                      by_cases c228 : t486 = true
                                      rotate_left
                                      · replace c228 := Bool.eq_false_iff.mpr c228
                                        subst c228
                                        rw [if_neg (show ¬ (false = true) by decide)] at H
                                        obtain rfl := Option.some.inj H
                                        clear hrt
                                        go_wp2
                                        repeat (go_quiet (fail); try go_wp2)
                                        go_ret
                                        exact ⟨by rfl, by repeat ((with_reducible (exact HB.out)))⟩
                                      subst c228
                                      rw [if_pos rfl] at H
                                      replace H := Option.bind_eq_some_iff.mp H
                                      obtain ⟨⟨t511, t512⟩, A2290, H⟩ := H
                                      (try dsimp only at H)
                                      have A229 := Aside0.mk A2290
                                      clear A2290
                                      by_cases c230 : t512 = true
                                      rotate_left
                                      · replace c230 := Bool.eq_false_iff.mpr c230
                                        subst c230
                                        rw [if_neg (show ¬ (false = true) by decide)] at H
                                        exact absurd (hrt.symm.trans (Option.some.inj H).symm) (by decide)
                                      subst c230
                                      rw [if_pos rfl] at H
                                      obtain rfl := Option.some.inj H
                                      clear hrt
                                      obtain ⟨Ao231, co231, eo231⟩ := Kd.S_slice HO_63.out
                                      subst eo231
                                      go_wp2_with ((go_at_call 19; (with_reducible refine (impl_FilesText.calls kj221 _ _ t485 t511 true _ (tab_below HU.out (by repeat ((with_reducible (exact HB.out))))) ?side1 ?side2 A229.out).mono ?_); (case side1 => repeat ((exact (Kd.S_reads' HO_63.out).2.2))); (case side2 => exact (Kd.S_reads' HO_63.out).2.1); rintro e w232 ⟨rfl, hb⟩; have n0_ := Aside0.mk (Kd.S_below (by (with_reducible repeat (fail)); exact HO_63.out) hb); have n1_ := Aside0.mk (below_step (by repeat ((with_reducible (exact HB.out)))) hb); clear HO_63; clear HB; have HO_63 := n0_; have HB := n1_; clear n0_ n1_; (try clear hb); (try clear hb2); (try clear hk); (try clear hi)))
                                      repeat (go_quiet (fail); try go_wp2_with (fail))
                                      go_ret
                                      exact ⟨by rfl, by repeat ((with_reducible (exact HB.out)))⟩

end Go.Proofs.YthekdgadnhkbhaaGreatDoor.A
