-- Printed: Lean checks it.
import Derived.Test.YtohhlkehglahhaaGreatDoorAx0
import Derived.Test.YtohhlkehglahhaaGreatDoorAx1
import Derived.Test.YtohhlkehglahhaaGreatDoorAx6
import Derived.Test.YtohhlkehglahhaaGreatDoorAx7
import Derived.Test.YtohhlkehglahhaaGreatDoorAx8
import Derived.Test.YtohhlkehglahhaaGreatDoorAx9
import Derived.Test.YtohhlkehglahhaaGreatDoorAx11
import Derived.Test.YtohhlkehglahhaaGreatDoorAx14
import Derived.Test.YtohhlkehglahhaaGreatDoorAx16
import Derived.Test.YtohhlkehglahhaaGreatDoorAx17
import Derived.Test.YtohhlkehglahhaaGreatDoorAx19
import Derived.Test.YtohhlkehglahhaaGreatDoorAx20
import Derived.Test.YtohhlkehglahhaaGreatDoorAx23
import Derived.Test.YtohhlkehglahhaaGreatDoorAx24
import Derived.Test.YtohhlkehglahhaaGreatDoorGivB
import Derived.Test.YtohhlkehglahhaaGreatDoorGivD
import Derived.Test.YtohhlkehglahhaaGreatDoorGivE
import Derived.Test.YtohhlkehglahhaaGreatDoorGivH
namespace Go.Proofs.YtohhlkehglahhaaGreatDoor.A
open Go.RowKit Go.Proofs.YtohhlkehglahhaaGreatDoorW.PrintWords Go.Proofs.YtohhlkehglahhaaGreatDoorW.PrintLast Go.Proofs.YtohhlkehglahhaaGreatDoorW.PrintMore Go.Proofs.YtohhlkehglahhaaGreatDoor.X
attribute [local go_sem] max2_int min2_int max_two min_two max_three min_three max_four min_four
set_option linter.unusedVariables false
set_option linter.unusedSimpArgs false
mutual
def Qb.j0 : Nat → List Int → List (List Int) → Int → List (List Int) → Bool → Int → Bool → Bool → Option (Bool)
 | 0, _, _, _, _, _, _, _, _ => none
 | k + 1, x1, x5, x6, x7, x8, x11, x12, x126 => if x126 = true then (some false) else (if x8 = true then (if 0 < (x5.length : Int) then (if (x7.length : Int) < 1 then (Qb.j1 k x1 x5 x6 x7 x11 x12 true) else (if (x7.length : Int) > (wrap64 ((wrap64 ((x5.length : Int) + ((rd_L2 x5 0).length : Int))) - 1)) then (Qb.j1 k x1 x5 x6 x7 x11 x12 true) else (if 0 < (x7.length : Int) then ((Qf2.f k (rd_L2 x7 0) (([0, wrap64 (((rd_L2 x5 0).length : Int) - 1)] : List Int))).bind fun t520 => (Qb.j1 k x1 x5 x6 x7 x11 x12 (!t520))) else (none)))) else (none)) else (Qb.j4 k x1 x5 x6 x11 x12))
def Qb.j4 : Nat → List Int → List (List Int) → Int → Int → Bool → Option (Bool)
 | 0, _, _, _, _, _ => none
 | k + 1, x1, x5, x6, x11, x12 => if x12 = true then (if 0 < (x5.length : Int) then (if x11 < 0 then (Qb.j5 k x1 x5 x6 x11 (wrap64 ((x5.length : Int) * ((rd_L2 x5 0).length : Int))) true) else (Qb.j5 k x1 x5 x6 x11 (wrap64 ((x5.length : Int) * ((rd_L2 x5 0).length : Int))) (decide (x11 > (wrap64 ((x5.length : Int) * ((rd_L2 x5 0).length : Int))))))) else (none)) else (Qb.j7 k x1)
def Qb.j7 : Nat → List Int → Option (Bool)
 | 0, _ => none
 | k + 1, x1 => (Qe2.f k x1).bind fun bt541 => ((Qz1.f k bt541.1 bt541.2).bind fun bt545 => ((Qp2.f k bt541.1 bt541.2).bind fun bt547 => ((Qa2.f k x1).bind fun bt549 => ((Qt1.f k bt549.1 bt549.2.1 bt549.2.2).bind fun bt554 => ((Qj.f k bt549.1 bt549.2.1 bt549.2.2).bind fun bt558 => ((Qs1.f x1).bind fun bt562 => ((Qi1.f bt562.1 bt562.2).bind fun bt564 => ((Qc.f k bt562.1 bt562.2).bind fun bt566 => ((Ql2.f k bt541.1).bind fun bt568 => ((Qm2.f k bt541.1).bind fun bt570 => ((Qk2.f k bt541.1).bind fun bt572 => ((Qr2.f k bt541.1).bind fun bt574 => ((Qb2.f k x1).bind fun t576 => ((Qu.f k t576).bind fun bt577 => ((Qd1.f k t576).bind fun bt581 => (if (bt545.2 != bt547.2) = true then (Qb.j8 k bt541.1 bt549.1 bt549.2.1 bt549.2.2 bt554.1 bt554.2 bt562.1 bt562.2 bt564.1 bt564.2 bt572.1 bt572.2 t576 bt577.1 bt577.2 true) else (if bt545.1 = bt547.1 then (if (bt554.2 != bt558.2) = true then (Qb.j8 k bt541.1 bt549.1 bt549.2.1 bt549.2.2 bt554.1 bt554.2 bt562.1 bt562.2 bt564.1 bt564.2 bt572.1 bt572.2 t576 bt577.1 bt577.2 true) else ((Qr1.f k bt554.1 bt558.1).bind fun t585 => (if t585 = true then (if (bt564.2 != bt566.2) = true then (Qb.j8 k bt541.1 bt549.1 bt549.2.1 bt549.2.2 bt554.1 bt554.2 bt562.1 bt562.2 bt564.1 bt564.2 bt572.1 bt572.2 t576 bt577.1 bt577.2 true) else (if bt564.1 = bt566.1 then (if (bt568.2 != bt570.2) = true then (Qb.j8 k bt541.1 bt549.1 bt549.2.1 bt549.2.2 bt554.1 bt554.2 bt562.1 bt562.2 bt564.1 bt564.2 bt572.1 bt572.2 t576 bt577.1 bt577.2 true) else (if bt568.1 = bt570.1 then (if (bt572.2 != bt574.2) = true then (Qb.j8 k bt541.1 bt549.1 bt549.2.1 bt549.2.2 bt554.1 bt554.2 bt562.1 bt562.2 bt564.1 bt564.2 bt572.1 bt572.2 t576 bt577.1 bt577.2 true) else (if bt572.1.toList = bt574.1.toList then (if (bt577.2 != bt581.2) = true then (Qb.j8 k bt541.1 bt549.1 bt549.2.1 bt549.2.2 bt554.1 bt554.2 bt562.1 bt562.2 bt564.1 bt564.2 bt572.1 bt572.2 t576 bt577.1 bt577.2 true) else ((Qr1.f k bt577.1 bt581.1).bind fun t586 => (if t586 = true then ((Qs2.f bt541.1).bind fun t587 => (if (bt572.2 != t587) = true then (Qb.j8 k bt541.1 bt549.1 bt549.2.1 bt549.2.2 bt554.1 bt554.2 bt562.1 bt562.2 bt564.1 bt564.2 bt572.1 bt572.2 t576 bt577.1 bt577.2 true) else (Qb.j8 k bt541.1 bt549.1 bt549.2.1 bt549.2.2 bt554.1 bt554.2 bt562.1 bt562.2 bt564.1 bt564.2 bt572.1 bt572.2 t576 bt577.1 bt577.2 (bt568.2 != bt572.2)))) else (Qb.j8 k bt541.1 bt549.1 bt549.2.1 bt549.2.2 bt554.1 bt554.2 bt562.1 bt562.2 bt564.1 bt564.2 bt572.1 bt572.2 t576 bt577.1 bt577.2 true)))) else (Qb.j8 k bt541.1 bt549.1 bt549.2.1 bt549.2.2 bt554.1 bt554.2 bt562.1 bt562.2 bt564.1 bt564.2 bt572.1 bt572.2 t576 bt577.1 bt577.2 true))) else (Qb.j8 k bt541.1 bt549.1 bt549.2.1 bt549.2.2 bt554.1 bt554.2 bt562.1 bt562.2 bt564.1 bt564.2 bt572.1 bt572.2 t576 bt577.1 bt577.2 true))) else (Qb.j8 k bt541.1 bt549.1 bt549.2.1 bt549.2.2 bt554.1 bt554.2 bt562.1 bt562.2 bt564.1 bt564.2 bt572.1 bt572.2 t576 bt577.1 bt577.2 true))) else (Qb.j8 k bt541.1 bt549.1 bt549.2.1 bt549.2.2 bt554.1 bt554.2 bt562.1 bt562.2 bt564.1 bt564.2 bt572.1 bt572.2 t576 bt577.1 bt577.2 true)))) else (Qb.j8 k bt541.1 bt549.1 bt549.2.1 bt549.2.2 bt554.1 bt554.2 bt562.1 bt562.2 bt564.1 bt564.2 bt572.1 bt572.2 t576 bt577.1 bt577.2 true))))))))))))))))))
def Qb.j8 : Nat → List (List Int) → List (List Int) → Int → Int → List (List Int) → Bool → Int → Int → Int → Bool → ByteArray → Bool → ByteArray → List (List Int) → Bool → Bool → Option (Bool)
 | 0, _, _, _, _, _, _, _, _, _, _, _, _, _, _, _, _ => none
 | k + 1, x29, x35, x36, x37, x38, x39, x42, x43, x44, x45, x52, x53, x56, x57, x58, x439 => if x439 = true then (some false) else (if x39 = true then ((Qt1.f k x38 x36 x37).bind fun bt588 => (if bt588.2 = true then ((Qr1.f k bt588.1 x35).bind fun t592 => (if t592 = true then (if 0 ≤ x36 then (if x36 < (x38.length : Int) then (if 0 ≤ x37 then (if x37 < (x35.length : Int) then ((Qf2.f k (rd_L2 x38 x36) (rd_L2 x35 x37)).bind fun t595 => (if t595 = true then (Qb.j9 k x29 x42 x43 x44 x45 x52 x53 x56 x57 x58) else (some false))) else (none)) else (none)) else (none)) else (none)) else (some false))) else (some false))) else (Qb.j9 k x29 x42 x43 x44 x45 x52 x53 x56 x57 x58))
def Qb.j9 : Nat → List (List Int) → Int → Int → Int → Bool → ByteArray → Bool → ByteArray → List (List Int) → Bool → Option (Bool)
 | 0, _, _, _, _, _, _, _, _, _, _ => none
 | k + 1, x29, x42, x43, x44, x45, x52, x53, x56, x57, x58 => if x45 = true then (if x44 < 1 then (Qb.j10 k x29 x42 x43 x44 x52 x53 x56 x57 x58 true) else (if x42 = 1 then (Qb.j10 k x29 x42 x43 x44 x52 x53 x56 x57 x58 (true != (x44 == 1))) else (Qb.j10 k x29 x42 x43 x44 x52 x53 x56 x57 x58 ((x43 == 1) != (x44 == 1))))) else (Qb.j11 k x29 x52 x53 x56 x57 x58)
def Qb.j11 : Nat → List (List Int) → ByteArray → Bool → ByteArray → List (List Int) → Bool → Option (Bool)
 | 0, _, _, _, _, _, _ => none
 | k + 1, x29, x52, x53, x56, x57, x58 => if x53 = true then (Qb.j12 k x29 x52 x56 x57 x58 (decide ((x52.size : Int) ≤ 300))) else (Qb.j12 k x29 x52 x56 x57 x58 false)
def Qb.j12 : Nat → List (List Int) → ByteArray → ByteArray → List (List Int) → Bool → Bool → Option (Bool)
 | 0, _, _, _, _, _, _ => none
 | k + 1, x29, x52, x56, x57, x58, x502 => if x502 = true then ((Qu.f k x52).bind fun bt598 => (if bt598.2 = true then ((Qr1.f k bt598.1 x29).bind fun t602 => (Qb.j13 k x56 x57 x58 (!t602))) else (Qb.j13 k x56 x57 x58 true))) else (if x58 = true then ((Qk2.f k x57).bind fun bt605 => (if bt605.2 = true then (some (bt605.1.toList == x56.toList)) else (some false))) else (some true))
def Qb.j13 : Nat → ByteArray → List (List Int) → Bool → Bool → Option (Bool)
 | 0, _, _, _, _ => none
 | k + 1, x56, x57, x58, x515 => if x515 = true then (some false) else (if x58 = true then ((Qk2.f k x57).bind fun bt603 => (if bt603.2 = true then (some (bt603.1.toList == x56.toList)) else (some false))) else (some true))
def Qb.j10 : Nat → List (List Int) → Int → Int → Int → ByteArray → Bool → ByteArray → List (List Int) → Bool → Bool → Option (Bool)
 | 0, _, _, _, _, _, _, _, _, _, _ => none
 | k + 1, x29, x42, x43, x44, x52, x53, x56, x57, x58, x481 => if x481 = true then (some false) else (if x43 ≤ 4 then ((Qi1.f x43 x42).bind fun bt596 => (if bt596.2 = true then (if bt596.1 = x44 then (Qb.j11 k x29 x52 x53 x56 x57 x58) else (some false)) else (some false))) else (Qb.j11 k x29 x52 x53 x56 x57 x58))
def Qb.j5 : Nat → List Int → List (List Int) → Int → Int → Int → Bool → Option (Bool)
 | 0, _, _, _, _, _, _ => none
 | k + 1, x1, x5, x6, x11, x24, x250 => if x250 = true then (some false) else (if x11 > 0 then ((Qz1.f k x5 (wrap64 (x11 - 1))).bind fun bt537 => (if bt537.2 = true then (if bt537.1 > x6 then (some false) else (Qb.j6 k x1 x5 x6 x11 x24)) else (some false))) else (Qb.j6 k x1 x5 x6 x11 x24))
def Qb.j6 : Nat → List Int → List (List Int) → Int → Int → Int → Option (Bool)
 | 0, _, _, _, _, _ => none
 | k + 1, x1, x5, x6, x11, x24 => if x11 < x24 then ((Qz1.f k x5 x11).bind fun bt539 => (if bt539.2 = true then (if bt539.1 ≤ x6 then (some false) else (Qb.j7 k x1)) else (some false))) else (Qb.j7 k x1)
def Qb.j1 : Nat → List Int → List (List Int) → Int → List (List Int) → Int → Bool → Bool → Option (Bool)
 | 0, _, _, _, _, _, _, _ => none
 | k + 1, x1, x5, x6, x7, x11, x12, x155 => if x155 = true then (some false) else (Qb.l0 k x1 x5 x6 x7 x11 x12 1)
def Qb.l0 : Nat → List Int → List (List Int) → Int → List (List Int) → Int → Bool → Int → Option (Bool)
 | 0, _, _, _, _, _, _, _ => none
 | k + 1, x1, x5, x6, x7, x11, x12, x17 => if x17 < (x7.length : Int) then (if 0 ≤ x17 then (if 0 < ((rd_L2 x7 x17).length : Int) then (if 0 ≤ (wrap64 (x17 - 1)) then (if (wrap64 (x17 - 1)) < (x7.length : Int) then (if 0 < ((rd_L2 x7 (wrap64 (x17 - 1))).length : Int) then (if 1 < ((rd_L2 x7 (wrap64 (x17 - 1))).length : Int) then (if 1 < ((rd_L2 x7 x17).length : Int) then (if (wrap64 ((rd (rd_L2 x7 x17) 0) - (rd (rd_L2 x7 (wrap64 (x17 - 1))) 0))) < 0 then (some false) else (if (wrap64 ((rd (rd_L2 x7 (wrap64 (x17 - 1))) 1) - (rd (rd_L2 x7 x17) 1))) < 0 then (some false) else (if (wrap64 ((wrap64 ((rd (rd_L2 x7 x17) 0) - (rd (rd_L2 x7 (wrap64 (x17 - 1))) 0))) + (wrap64 ((rd (rd_L2 x7 (wrap64 (x17 - 1))) 1) - (rd (rd_L2 x7 x17) 1))))) = 1 then (Qb.l0 k x1 x5 x6 x7 x11 x12 (wrap64 (x17 + 1))) else (some false)))) else (none)) else (none)) else (none)) else (none)) else (none)) else (none)) else (none)) else (if 0 ≤ (wrap64 ((x7.length : Int) - 1)) then (if (wrap64 ((x7.length : Int) - 1)) < (x7.length : Int) then (Qb.l1 k x1 x5 x6 x11 x12 (rd_L2 x7 (wrap64 ((x7.length : Int) - 1))) false x5 (x5.length : Int) 0) else (none)) else (none))
def Qb.l1 : Nat → List Int → List (List Int) → Int → Int → Bool → List Int → Bool → List (List Int) → Int → Int → Option (Bool)
 | 0, _, _, _, _, _, _, _, _, _, _ => none
 | k + 1, x1, x5, x6, x11, x12, x20, x21, x208, x209, x210 => if x210 < x209 then (if 0 ≤ x210 then (if x210 < (x208.length : Int) then (if x21 = true then (Qb.l1 k x1 x5 x6 x11 x12 x20 true x208 x209 (wrap64 (x210 + 1))) else ((Qo2.f k (rd_L2 x208 x210) x6).bind fun t531 => (Qb.l1 k x1 x5 x6 x11 x12 x20 t531 x208 x209 (wrap64 (x210 + 1))))) else (none)) else (none)) else (if 0 < (x20.length : Int) then (if 0 ≤ (rd x20 0) then (if (rd x20 0) < (x5.length : Int) then (if 1 < (x20.length : Int) then (if 0 ≤ (rd x20 1) then (if (rd x20 1) < ((rd_L2 x5 (rd x20 0)).length : Int) then (if (x21 != ((rd (rd_L2 x5 (rd x20 0)) (rd x20 1)) == x6)) = true then (some false) else (Qb.j4 k x1 x5 x6 x11 x12)) else (none)) else (none)) else (none)) else (none)) else (none)) else (none))
end
def Qb.f (k : Nat) (l0 : List Int) (l1 : List Int) : Option (Bool) := (Qx2.f l0 l1).bind fun t497 => (if t497 = true then (some true) else ((Qv1.f k l0).bind fun bt498 => ((Qf.f k bt498.1 bt498.2).bind fun bt502 => ((Qd.f k bt498.1 bt498.2).bind fun bt506 => ((Qe1.f k bt498.1 bt498.2).bind fun bt510 => ((Qb1.f k bt498.1 bt498.2).bind fun bt512 => (if (bt502.2 != bt506.2) = true then (Qb.j0 k l1 bt498.1 bt498.2 bt502.1 bt502.2 bt510.1 bt510.2 true) else ((Qr1.f k bt502.1 bt506.1).bind fun t514 => (if t514 = true then (if (bt510.2 != bt512.2) = true then (Qb.j0 k l1 bt498.1 bt498.2 bt502.1 bt502.2 bt510.1 bt510.2 true) else (if bt510.1 = bt512.1 then (if bt502.2 = true then (Qb.j0 k l1 bt498.1 bt498.2 bt502.1 bt502.2 bt510.1 bt510.2 (!bt510.2)) else (Qb.j0 k l1 bt498.1 bt498.2 bt502.1 bt502.2 bt510.1 bt510.2 false)) else (Qb.j0 k l1 bt498.1 bt498.2 bt502.1 bt502.2 bt510.1 bt510.2 true))) else (Qb.j0 k l1 bt498.1 bt498.2 bt502.1 bt502.2 bt510.1 bt510.2 true))))))))))
theorem Qb.j0_false {k : Nat} {x0 x1 x2 x3 x4 x5 x6} {r : Bool} (h : Qb.j0 k x0 x1 x2 x3 x4 x5 x6 true = some r) : r = false := by
 cases k with
 | zero => simp [Qb.j0] at h
 | succ k => simp only [Qb.j0, if_true, Option.some.injEq] at h; exact h.symm
theorem Qb.j8_false {k : Nat} {x0 x1 x2 x3 x4 x5 x6 x7 x8 x9 x10 x11 x12 x13 x14} {r : Bool} (h : Qb.j8 k x0 x1 x2 x3 x4 x5 x6 x7 x8 x9 x10 x11 x12 x13 x14 true = some r) : r = false := by
 cases k with
 | zero => simp [Qb.j8] at h
 | succ k => simp only [Qb.j8, if_true, Option.some.injEq] at h; exact h.symm
theorem Qb.j13_false {k : Nat} {x0 x1 x2} {r : Bool} (h : Qb.j13 k x0 x1 x2 true = some r) : r = false := by
 cases k with
 | zero => simp [Qb.j13] at h
 | succ k => simp only [Qb.j13, if_true, Option.some.injEq] at h; exact h.symm
theorem Qb.j10_false {k : Nat} {x0 x1 x2 x3 x4 x5 x6 x7 x8} {r : Bool} (h : Qb.j10 k x0 x1 x2 x3 x4 x5 x6 x7 x8 true = some r) : r = false := by
 cases k with
 | zero => simp [Qb.j10] at h
 | succ k => simp only [Qb.j10, if_true, Option.some.injEq] at h; exact h.symm
theorem Qb.j5_false {k : Nat} {x0 x1 x2 x3 x4} {r : Bool} (h : Qb.j5 k x0 x1 x2 x3 x4 true = some r) : r = false := by
 cases k with
 | zero => simp [Qb.j5] at h
 | succ k => simp only [Qb.j5, if_true, Option.some.injEq] at h; exact h.symm
theorem Qb.j1_false {k : Nat} {x0 x1 x2 x3 x4 x5} {r : Bool} (h : Qb.j1 k x0 x1 x2 x3 x4 x5 true = some r) : r = false := by
 cases k with
 | zero => simp [Qb.j1] at h
 | succ k => simp only [Qb.j1, if_true, Option.some.injEq] at h; exact h.symm
set_option maxHeartbeats 80000000 in
set_option maxRecDepth 100000 in
theorem Qb.calls (k : Nat) (A0 : Option Addr) (c0 : Nat) (l0 : List Int) (A1 : Option Addr) (c1 : Nat) (l1 : List Int) (r : Bool) (w : World) (hU : TabOK w) (hr0 : Kd.C (Kd.int .u8) w A0 l0.length l0) (hc0 : l0.length ≤ c0) (hr1 : Kd.C (Kd.int .u8) w A1 l1.length l1) (hc1 : l1.length ≤ c1) (h : r = true ∧ Qb.f k l0 l1 = some r) :
  Calls Tryz.prog 3 #[.slice A0 l0.length c0, .slice A1 l1.length c1] w fun e w' => e = .returned (.bool r) ∧ Below w.heap.size w w' := by
 have HU := Qa.mk hU
 clear hU
 obtain ⟨hrt, h⟩ := h
 have HR0 := Qa.mk hr0
 have HC0 := Qa.mk hc0
 clear hr0 hc0
 have HR1 := Qa.mk hr1
 have HC1 := Qa.mk hc1
 clear hr1 hc1
 have HB := Qa.mk (Below.refl w.heap.size w)
 have H : ((Qx2.f l0 l1).bind fun t497 => (if t497 = true then (some true) else ((Qv1.f k l0).bind fun bt498 => ((Qf.f k bt498.1 bt498.2).bind fun bt502 => ((Qd.f k bt498.1 bt498.2).bind fun bt506 => ((Qe1.f k bt498.1 bt498.2).bind fun bt510 => ((Qb1.f k bt498.1 bt498.2).bind fun bt512 => (if (bt502.2 != bt506.2) = true then (Qb.j0 k l1 bt498.1 bt498.2 bt502.1 bt502.2 bt510.1 bt510.2 true) else ((Qr1.f k bt502.1 bt506.1).bind fun t514 => (if t514 = true then (if (bt510.2 != bt512.2) = true then (Qb.j0 k l1 bt498.1 bt498.2 bt502.1 bt502.2 bt510.1 bt510.2 true) else (if bt510.1 = bt512.1 then (if bt502.2 = true then (Qb.j0 k l1 bt498.1 bt498.2 bt502.1 bt502.2 bt510.1 bt510.2 (!bt510.2)) else (Qb.j0 k l1 bt498.1 bt498.2 bt502.1 bt502.2 bt510.1 bt510.2 false)) else (Qb.j0 k l1 bt498.1 bt498.2 bt502.1 bt502.2 bt510.1 bt510.2 true))) else (Qb.j0 k l1 bt498.1 bt498.2 bt502.1 bt502.2 bt510.1 bt510.2 true))))))))))) = some r := h
 clear h
 replace H := Option.bind_eq_some_iff.mp H
 obtain ⟨t497, A30, H⟩ := H
 (try dsimp only at H)
 have A3 := Qa.mk A30
 clear A30
 by_cases c4 : t497 = true
 ·subst c4
  rw [if_pos rfl] at H
  obtain rfl := Option.some.inj H
  clear hrt
  go_enter Tryz.func3, Tryz.ntmps3
  go_wp2_with ((go_at_call 4; (with_reducible refine (Qx2.calls _ _ l0 _ _ l1 true _ ?side1 ?side2 ?side3 ?side4 A3.out).mono ?_); (case side1 => repeat ((exact HR0.out))); (case side2 => exact HC0.out); (case side3 => repeat ((exact HR1.out))); (case side4 => exact HC1.out); rintro e w' ⟨rfl, ⟨nd, rfl⟩⟩; (try fail)))
  repeat (go_quiet (fail); try go_wp2_with (fail))
  go_ret
  exact ⟨by rfl, by repeat ((with_reducible first | exact HB.out | apply Qi))⟩
 replace c4 := Bool.eq_false_iff.mpr c4
 subst c4
 rw [if_neg (show ¬ (false = true) by decide)] at H
 replace H := Option.bind_eq_some_iff.mp H
 obtain ⟨⟨t498, t501⟩, A50, H⟩ := H
 (try dsimp only at H)
 have A5 := Qa.mk A50
 clear A50
 replace H := Option.bind_eq_some_iff.mp H
 obtain ⟨⟨t502, t503⟩, A60, H⟩ := H
 (try dsimp only at H)
 have A6 := Qa.mk A60
 clear A60
 replace H := Option.bind_eq_some_iff.mp H
 obtain ⟨⟨t506, t507⟩, A70, H⟩ := H
 (try dsimp only at H)
 have A7 := Qa.mk A70
 clear A70
 replace H := Option.bind_eq_some_iff.mp H
 obtain ⟨⟨t510, t511⟩, A80, H⟩ := H
 (try dsimp only at H)
 have A8 := Qa.mk A80
 clear A80
 replace H := Option.bind_eq_some_iff.mp H
 obtain ⟨⟨t512, t513⟩, A90, H⟩ := H
 (try dsimp only at H)
 have A9 := Qa.mk A90
 clear A90
 have HC10 := Qa.mk H
 clear H
 go_enter Tryz.func3, Tryz.ntmps3
 go_upto_region 8 with (first | (go_at_call 4; (with_reducible refine (Qx2.calls _ _ l0 _ _ l1 false _ ?side1 ?side2 ?side3 ?side4 A3.out).mono ?_); (case side1 => repeat ((exact HR0.out))); (case side2 => exact HC0.out); (case side3 => repeat ((exact HR1.out))); (case side4 => exact HC1.out); rintro e w' ⟨rfl, ⟨nd, rfl⟩⟩; (try fail)) | (go_at_call 5; (with_reducible refine (Qv1.calls k _ _ l0 t498 t501 _ ?side1 ?side2 A5.out).mono ?_); (case side1 => repeat ((exact HR0.out))); (case side2 => exact HC0.out); rintro e w11 ⟨v499, rfl, ho0, hb⟩; have n0_ := Qa.mk (Kd.N_lower (Kd.N_mono (ok' := fun k_ => True) ho0 (fun k_ hk_ => trivial)) (Qq (by repeat ((with_reducible first | exact HB.out | apply Qi))))); have n1_ := Qa.mk (Qh (by repeat ((with_reducible first | exact HB.out | apply Qi))) hb); clear HB; have HO500 := n0_; have HB := n1_; clear n0_ n1_; (try clear hb); (try clear hb2); (try clear hk); (try clear hi); (try clear ho0); obtain ⟨Ao12, co12, eo12⟩ := Kd.N_slice HO500.out; subst eo12) | (go_at_call 6; (with_reducible refine (Qf.calls k _ _ t498 t501 t502 t503 _ ?side1 ?side2 A6.out).mono ?_); (case side1 => repeat ((exact (Kd.N_reads' HO500.out).2.2))); (case side2 => exact (Kd.N_reads' HO500.out).2.1); rintro e w13 ⟨v504, rfl, ho0, hb⟩; have n0_ := Qa.mk (Kd.N_elder' (by (with_reducible repeat (fail)); exact HO500.out) (by (exact Kd.S_base ho0)) hb); have n1_ := Qa.mk (Kd.N_lower (Kd.N_mono (ok' := fun k_ => some k_ ≠ (.slice Ao12 t498.length co12 : Value).ownBlock) (Kd.S_N (Kd.S_bound ho0)) (fun k_ hk_ => (Kd.fresh' (Kd.N_lt (by (with_reducible repeat (fail)); exact HO500.out)) k_ hk_.2.1))) (Qq (by repeat ((with_reducible (exact HB.out)))))); have n2_ := Qa.mk (Qh (by repeat ((with_reducible (exact HB.out)))) hb); clear HO500; clear HB; have HO500 := n0_; have HO505 := n1_; have HB := n2_; clear n0_ n1_ n2_; (try clear hb); (try clear hb2); (try clear hk); (try clear hi); (try clear ho0)) | (go_at_call 7; (with_reducible refine (Qd.calls k _ _ t498 t501 t506 t507 _ ?side1 ?side2 A7.out).mono ?_); (case side1 => repeat ((exact (Kd.N_reads' HO500.out).2.2))); (case side2 => exact (Kd.N_reads' HO500.out).2.1); rintro e w14 ⟨v508, rfl, ho0, hb⟩; have n0_ := Qa.mk (Kd.N_elder' (by (with_reducible repeat (fail)); exact HO500.out) (by (exact Kd.S_base ho0)) hb); have n1_ := Qa.mk (Kd.N_elder' (by (with_reducible repeat (fail)); exact HO505.out) (by (exact Kd.S_base ho0)) hb); have n2_ := Qa.mk (Kd.N_lower (Kd.N_mono (ok' := fun k_ => some k_ ≠ (.slice Ao12 t498.length co12 : Value).ownBlock ∧ some k_ ≠ (v504 : Value).ownBlock) (Kd.S_N (Kd.S_bound ho0)) (fun k_ hk_ => ⟨(Kd.fresh' (Kd.N_lt (by (with_reducible repeat (fail)); exact HO500.out)) k_ hk_.2.1), (Kd.fresh' (Kd.N_lt (by (with_reducible repeat (fail)); exact HO505.out)) k_ hk_.2.1)⟩)) (Qq (by repeat ((with_reducible (exact HB.out)))))); have n3_ := Qa.mk (Qh (by repeat ((with_reducible (exact HB.out)))) hb); clear HO500; clear HO505; clear HB; have HO500 := n0_; have HO505 := n1_; have HO509 := n2_; have HB := n3_; clear n0_ n1_ n2_ n3_; (try clear hb); (try clear hb2); (try clear hk); (try clear hi); (try clear ho0)) | (go_at_call 8; (with_reducible refine (Qe1.calls k _ _ t498 t501 t510 t511 _ ?side1 ?side2 A8.out).mono ?_); (case side1 => repeat ((exact (Kd.N_reads' HO500.out).2.2))); (case side2 => exact (Kd.N_reads' HO500.out).2.1); rintro e w15 ⟨rfl, hb⟩; have n0_ := Qa.mk (Kd.N_below (by (with_reducible repeat (fail)); exact HO500.out) hb); have n1_ := Qa.mk (Kd.N_below (by (with_reducible repeat (fail)); exact HO505.out) hb); have n2_ := Qa.mk (Kd.N_below (by (with_reducible repeat (fail)); exact HO509.out) hb); have n3_ := Qa.mk (Qh (by repeat ((with_reducible (exact HB.out)))) hb); clear HO500; clear HO505; clear HO509; clear HB; have HO500 := n0_; have HO505 := n1_; have HO509 := n2_; have HB := n3_; clear n0_ n1_ n2_ n3_; (try clear hb); (try clear hb2); (try clear hk); (try clear hi)) | (go_at_call 9; (with_reducible refine (Qb1.calls k _ _ t498 t501 t512 t513 _ ?side1 ?side2 A9.out).mono ?_); (case side1 => repeat ((exact (Kd.N_reads' HO500.out).2.2))); (case side2 => exact (Kd.N_reads' HO500.out).2.1); rintro e w16 ⟨rfl, hb⟩; have n0_ := Qa.mk (Kd.N_below (by (with_reducible repeat (fail)); exact HO500.out) hb); have n1_ := Qa.mk (Kd.N_below (by (with_reducible repeat (fail)); exact HO505.out) hb); have n2_ := Qa.mk (Kd.N_below (by (with_reducible repeat (fail)); exact HO509.out) hb); have n3_ := Qa.mk (Qh (by repeat ((with_reducible (exact HB.out)))) hb); clear HO500; clear HO505; clear HO509; clear HB; have HO500 := n0_; have HO505 := n1_; have HO509 := n2_; have HB := n3_; clear n0_ n1_ n2_ n3_; (try clear hb); (try clear hb2); (try clear hk); (try clear hi)))
 (try simp only [Act.put, List.setIfInBounds_toArray, List.set_cons_zero, List.set_cons_succ])
 go_cut [126] from 126 to 126 (fun v126 wc => ∃ (kq : Nat) (x126_9 : Bool), v126 = .bool x126_9 ∧ Qa (Qb.j0 kq l1 t498 t501 t502 t503 t510 t511 x126_9 = some r) ∧ Qa (kq ≤ k) ∧ Qa (Kd.N (Kd.slice 3 (Kd.int .i64)) 32 wc w.heap.size (fun k_ => some k_ ≠ (v504 : Value).ownBlock) (.slice Ao12 t498.length co12) t498) ∧ Qa (Kd.N (Kd.slice 3 (Kd.int .i64)) 32 wc w.heap.size (fun k_ => some k_ ≠ ((.slice Ao12 t498.length co12) : Value).ownBlock) v504 t502) ∧ Qa (Below w.heap.size w wc))
 case first => as_aux_lemma =>
  have H := HC10.out
  clear HC10
  by_cases c17 : (t503 != t507) = true
  ·rw [if_pos c17] at H
   have c17b0 : (t503 != t507) = true := c17
   (try (have c17b1 : decide (t503 = t507) = false := by simpa using c17))
   (try (have c17b2 : (t503 == t507) = false := by simpa using c17))
   (try (have c17b3 : ¬ (t503 = t507) := by simpa using c17))
   clear c17
   (skip)
   exact absurd (hrt.symm.trans (Qb.j0_false H)) (by decide)
  rw [if_neg c17] at H
  have c17b0 : (t503 != t507) = false := by simpa using c17
  (try (have c17b1 : decide (t503 = t507) = true := by simpa using c17))
  (try (have c17b2 : (t503 == t507) = true := by simpa using c17))
  clear c17
  (skip)
  replace H := Option.bind_eq_some_iff.mp H
  obtain ⟨t514, A180, H⟩ := H
  (try dsimp only at H)
  have A18 := Qa.mk A180
  clear A180
  by_cases c19 : t514 = true
  rotate_left
  ·replace c19 := Bool.eq_false_iff.mpr c19
   subst c19
   rw [if_neg (show ¬ (false = true) by decide)] at H
   exact absurd (hrt.symm.trans (Qb.j0_false H)) (by decide)
  subst c19
  rw [if_pos rfl] at H
  by_cases c20 : (t511 != t513) = true
  ·rw [if_pos c20] at H
   have c20b0 : (t511 != t513) = true := c20
   (try (have c20b1 : decide (t511 = t513) = false := by simpa using c20))
   (try (have c20b2 : (t511 == t513) = false := by simpa using c20))
   (try (have c20b3 : ¬ (t511 = t513) := by simpa using c20))
   clear c20
   exact absurd (hrt.symm.trans (Qb.j0_false H)) (by decide)
  rw [if_neg c20] at H
  have c20b0 : (t511 != t513) = false := by simpa using c20
  (try (have c20b1 : decide (t511 = t513) = true := by simpa using c20))
  (try (have c20b2 : (t511 == t513) = true := by simpa using c20))
  clear c20
  by_cases c23 : t510 = t512
  rotate_left
  ·rw [if_neg c23] at H
   have c23b0 : (t510 == t512) = false := beq_eq_false_iff_ne.mpr c23
   have c23b1 : (t510 != t512) = true := bne_iff_ne.mpr c23
   exact absurd (hrt.symm.trans (Qb.j0_false H)) (by decide)
  rw [if_pos c23] at H
  have c23b0 : (t510 == t512) = true := beq_iff_eq.mpr c23
  have c23b1 : (t510 != t512) = false := bne_eq_false_iff_eq.mpr c23
  clear c23
  by_cases c24 : t503 = true
  ·subst c24
   rw [if_pos rfl] at H
   have H' := Qa.mk H
   clear H
   obtain ⟨Ao25, co25, eo25⟩ := Kd.N_slice HO505.out
   subst eo25
   obtain ⟨Ao26, co26, eo26⟩ := Kd.N_slice HO509.out
   subst eo26
   go_wp2_with ((go_at_call 10; (with_reducible refine (Qr1.calls k _ _ t502 _ _ t506 true _ ?side1 ?side2 ?side3 ?side4 A18.out).mono ?_); (case side1 => repeat ((exact (Kd.N_reads' HO505.out).2.2))); (case side2 => exact (Kd.N_reads' HO505.out).2.1); (case side3 => repeat ((exact (Kd.N_reads' HO509.out).2.2))); (case side4 => exact (Kd.N_reads' HO509.out).2.1); rintro e w' ⟨rfl, ⟨nd, rfl⟩⟩; (try fail)))
   repeat (go_quiet (fail); try go_wp2_with (fail))
   go_meet
   case rel => exact ⟨_, (!t511), (by rfl), H', ⟨by (exact Nat.le_refl _)⟩, ⟨by (with_reducible repeat ((apply Kd.N_drewN))); exact Kd.N_mono HO500.out (fun _ hk => hk.1.2)⟩, ⟨by (with_reducible repeat ((apply Kd.N_drewN))); exact Kd.N_mono HO505.out (fun _ hk => hk.1)⟩, ⟨by repeat ((with_reducible first | exact HB.out | apply Qi))⟩⟩
  replace c24 := Bool.eq_false_iff.mpr c24
  subst c24
  rw [if_neg (show ¬ (false = true) by decide)] at H
  have H' := Qa.mk H
  clear H
  obtain ⟨Ao27, co27, eo27⟩ := Kd.N_slice HO505.out
  subst eo27
  obtain ⟨Ao28, co28, eo28⟩ := Kd.N_slice HO509.out
  subst eo28
  go_wp2_with ((go_at_call 10; (with_reducible refine (Qr1.calls k _ _ t502 _ _ t506 true _ ?side1 ?side2 ?side3 ?side4 A18.out).mono ?_); (case side1 => repeat ((exact (Kd.N_reads' HO505.out).2.2))); (case side2 => exact (Kd.N_reads' HO505.out).2.1); (case side3 => repeat ((exact (Kd.N_reads' HO509.out).2.2))); (case side4 => exact (Kd.N_reads' HO509.out).2.1); rintro e w' ⟨rfl, ⟨nd, rfl⟩⟩; (try fail)))
  repeat (go_quiet (fail); try go_wp2_with (fail))
  go_meet
  case rel => exact ⟨_, (false), (by rfl), H', ⟨by (exact Nat.le_refl _)⟩, ⟨by (with_reducible repeat ((apply Kd.N_drewN))); exact Kd.N_mono HO500.out (fun _ hk => hk.1.2)⟩, ⟨by (with_reducible repeat ((apply Kd.N_drewN))); exact Kd.N_mono HO505.out (fun _ hk => hk.1)⟩, ⟨by repeat ((with_reducible first | exact HB.out | apply Qi))⟩⟩
 case rest => as_aux_lemma =>
  clear HC10
  obtain ⟨kq, x126_9, rfl, HA, HJ9, HO_5, HO_7, HB⟩ := hcut
  cases kq with
  | zero => exact absurd HA.out (by simp [Qb.j0])
  | succ kj9 =>
   have H := HA.out
   clear HA
   simp only [Qb.j0] at H
   by_cases c33 : x126_9 = true
   ·subst c33
    rw [if_pos rfl] at H
    exact absurd (hrt.symm.trans (Option.some.inj H).symm) (by decide)
   replace c33 := Bool.eq_false_iff.mpr c33
   subst c33
   rw [if_neg (show ¬ (false = true) by decide)] at H
   have HC34 := Qa.mk H
   clear H
   go_upto_if 127 with (fail)
   repeat (go_quiet (fail); go_upto_if 127 with (fail))
   go_cut [] from 127 to 127 (fun wc => ∃ (kq : Nat), Qa (Qb.j4 kq l1 t498 t501 t510 t511 = some r) ∧ Qa (kq ≤ kj9) ∧ Qa (Kd.N (Kd.slice 3 (Kd.int .i64)) 32 wc w.heap.size (fun _ => True) (.slice Ao12 t498.length co12) t498) ∧ Qa (Below w.heap.size w wc))
   case first => as_aux_lemma =>
    have H := HC34.out
    clear HC34
    by_cases c35 : t503 = true
    rotate_left
    ·replace c35 := Bool.eq_false_iff.mpr c35
     subst c35
     rw [if_neg (show ¬ (false = true) by decide)] at H
     have H' := Qa.mk H
     clear H
     go_wp2
     repeat (go_quiet (fail); try go_wp2)
     go_meet
     case rel => exact ⟨_, H', ⟨by (exact Nat.le_refl _)⟩, ⟨by (with_reducible repeat (fail)); exact Kd.N_mono HO_5.out (fun _ hk => trivial)⟩, ⟨by repeat ((with_reducible (exact HB.out)))⟩⟩
    subst c35
    rw [if_pos rfl] at H
    by_cases c36 : 0 < (t498.length : Int)
    rotate_left
    ·rw [if_neg c36] at H
     exact absurd H (by simp)
    rw [if_pos c36] at H
    have c36b0 : decide (0 < (t498.length : Int)) = true := decide_eq_true c36
    have c36b1 : decide (0 < t498.length) = true := decide_eq_true (by omega)
    clear c36
    (skip)
    have HC37 := Qa.mk H
    clear H
    have p515 : 0 ≤ (0 : Int) := (by omega)
    have q515 : 0 < (t498.length : Int) := of_decide_eq_true (by (with_reducible assumption))
    obtain ⟨ad515, A515_0, c515_0, e515, hx515_0, hl515_0, hi515_0⟩ := at_L2 (Kd.N_reads' HO_5.out).2.2 0 p515 q515
    cases e515
    obtain ⟨ce515, hce515, hMe515, hcc515⟩ := Kd.N_get HO_5.out [] 0 p515 (by (exact q515))
    obtain ⟨ua515_0, uc515_0, rfl, ul515_0, ge515_0⟩ := Kd.FK_slice_open hMe515
    have hv515_0 := hcc515 0 _ rfl
    rw [Nat.add_zero, show ((Kd.slice 3 (Kd.int .i64))).sz = 1 from rfl, Nat.mul_one] at hv515_0
    replace hv515_0 := Option.some.inj (hv515_0.symm.trans hx515_0)
    injection hv515_0 with hva_ hvn_ hvc_
    rw [hva_] at ge515_0
    rw [hvc_] at ul515_0
    have HL515_0 := Qa.mk (show Kd.V (Kd.int .i64) 3 _ w.heap.size _ _ (rd_L2 t498 0) from Kd.V_mk ul515_0 ge515_0)
    clear hva_ hvn_ hvc_ ge515_0 ul515_0 hcc515 hce515
    have qi515 : (0 < t498.length) = True := eq_true (by omega)
    (try rw [show ((0 : Int)).toNat = 0 from rfl] at hx515_0)
    (try rw [Addr.add_zero'] at hx515_0)
    have HR515_0 := Qa.mk hi515_0
    have HC515_0 := Qa.mk hl515_0
    clear hi515_0 hl515_0
    replace p515 := eq_true p515
    replace q515 := eq_true q515
    go_upto_region 12 with (fail)
    repeat (go_quiet (fail); go_upto_region 12 with (fail))
    go_cut [155] from 155 to 155 (fun v155 wc => ∃ (kq : Nat) (x155_36 : Bool), v155 = .bool x155_36 ∧ Qa (Qb.j1 kq l1 t498 t501 t502 t510 t511 x155_36 = some r) ∧ Qa (kq ≤ kj9) ∧ Qa (Kd.N (Kd.slice 3 (Kd.int .i64)) 32 wc w.heap.size (fun k_ => some k_ ≠ (v504 : Value).ownBlock) (.slice (some ad515) t498.length co12) t498) ∧ Qa (Kd.N (Kd.slice 3 (Kd.int .i64)) 32 wc w.heap.size (fun k_ => some k_ ≠ ((.slice (some ad515) t498.length co12) : Value).ownBlock) v504 t502) ∧ Qa (Kd.C (Kd.int .i64) wc A515_0 (rd_L2 t498 0).length (rd_L2 t498 0)) ∧ Qa (Below w.heap.size w wc))
    case first => as_aux_lemma =>
     have H := HC37.out
     clear HC37
     by_cases c38 : (t502.length : Int) < 1
     ·rw [if_pos c38] at H
      have c38b0 : decide ((t502.length : Int) < 1) = true := decide_eq_true c38
      have c38b1 : decide (t502.length < 1) = true := decide_eq_true (by omega)
      clear c38
      (skip)
      exact absurd (hrt.symm.trans (Qb.j1_false H)) (by decide)
     rw [if_neg c38] at H
     have c38b0 : decide ((t502.length : Int) < 1) = false := decide_eq_false c38
     have c38b1 : decide (t502.length < 1) = false := decide_eq_false (by omega)
     clear c38
     (skip)
     by_cases c40 : (t502.length : Int) > (wrap64 ((wrap64 ((t498.length : Int) + ((rd_L2 t498 0).length : Int))) - 1))
     ·rw [if_pos c40] at H
      have c40b0 : decide ((wrap64 ((wrap64 ((t498.length : Int) + ((rd_L2 t498 0).length : Int))) - 1)) < (t502.length : Int)) = true := decide_eq_true c40
      clear c40
      exact absurd (hrt.symm.trans (Qb.j1_false H)) (by decide)
     rw [if_neg c40] at H
     have c40b0 : decide ((wrap64 ((wrap64 ((t498.length : Int) + ((rd_L2 t498 0).length : Int))) - 1)) < (t502.length : Int)) = false := decide_eq_false c40
     clear c40
     by_cases c42 : 0 < (t502.length : Int)
     rotate_left
     ·rw [if_neg c42] at H
      exact absurd H (by simp)
     rw [if_pos c42] at H
     have c42b0 : decide (0 < (t502.length : Int)) = true := decide_eq_true c42
     have c42b1 : decide (0 < t502.length) = true := decide_eq_true (by omega)
     clear c42
     obtain ⟨y517, hy517⟩ : ∃ y_ : List Int, y_ = (([0, wrap64 (((rd_L2 t498 0).length : Int) - 1)] : List Int)) := ⟨_, rfl⟩
     replace H : ((Qf2.f kj9 (rd_L2 t502 0) y517).bind fun t520 => (Qb.j1 kj9 l1 t498 t501 t502 t510 t511 (!t520))) = some r := by (rw [hy517]; with_reducible exact H)
     have Ny517 := Qa.mk hy517
     clear hy517
     replace H := Option.bind_eq_some_iff.mp H
     obtain ⟨t520, A430, H⟩ := H
     (try dsimp only at H)
     have A43 := Qa.mk A430
     clear A430
     have H' := Qa.mk H
     clear H
     obtain ⟨Ao44, co44, eo44⟩ := Kd.N_slice HO_7.out
     subst eo44
     have p516 : 0 ≤ (0 : Int) := (by omega)
     have q516 : 0 < (t502.length : Int) := of_decide_eq_true (by (with_reducible assumption))
     obtain ⟨ad516, A516_0, c516_0, e516, hx516_0, hl516_0, hi516_0⟩ := at_L2 (Kd.N_reads' HO_7.out).2.2 0 p516 q516
     cases e516
     obtain ⟨ce516, hce516, hMe516, hcc516⟩ := Kd.N_get HO_7.out [] 0 p516 (by (exact q516))
     obtain ⟨ua516_0, uc516_0, rfl, ul516_0, ge516_0⟩ := Kd.FK_slice_open hMe516
     have hv516_0 := hcc516 0 _ rfl
     rw [Nat.add_zero, show ((Kd.slice 3 (Kd.int .i64))).sz = 1 from rfl, Nat.mul_one] at hv516_0
     replace hv516_0 := Option.some.inj (hv516_0.symm.trans hx516_0)
     injection hv516_0 with hva_ hvn_ hvc_
     rw [hva_] at ge516_0
     rw [hvc_] at ul516_0
     have HL516_0 := Qa.mk (show Kd.V (Kd.int .i64) 3 _ w.heap.size _ _ (rd_L2 t502 0) from Kd.V_mk ul516_0 ge516_0)
     clear hva_ hvn_ hvc_ ge516_0 ul516_0 hcc516 hce516
     have qi516 : (0 < t502.length) = True := eq_true (by omega)
     (try rw [show ((0 : Int)).toNat = 0 from rfl] at hx516_0)
     (try rw [Addr.add_zero'] at hx516_0)
     have HR516_0 := Qa.mk hi516_0
     have HC516_0 := Qa.mk hl516_0
     clear hi516_0 hl516_0
     replace p516 := eq_true p516
     replace q516 := eq_true q516
     go_wp2_with (first | ((with_reducible refine gate_dst (N := 152) rfl ?_); (try (refine gate_guard (by rfl) ?_; dsimp only)); refine Kd.R_lit (Kd.int .i64) _ 3 ?hg (N := 152) ?hd (xs := ([0, wrap64 (((rd_L2 t498 0).length : Int) - 1)] : List Int)) (inner := [.int .i64 0, .int .i64 (wrap64 (((rd_L2 t498 0).length : Int) - 1))]) (ok := fun _ => True) (okp := fun _ => True) ?hr ?hp (fun _ hk => hk) trivial (Below.refl _ _) (Nat.le_refl _) (by simp) ?_; (case hd => rfl); (case hg => rfl); (case hr => (go_simp; done)); (case hp => exact (Reps.one (show Kd.M (Kd.int .i64) _ _ _ 0 [.int .i64 0] from rfl) (Reps.one (show Kd.M (Kd.int .i64) _ _ _ (wrap64 (((rd_L2 t498 0).length : Int) - 1)) [.int .i64 (wrap64 (((rd_L2 t498 0).length : Int) - 1))] from rfl) (Reps.none _ _)))); intro v518 w45 ho46 hb hg_ hnew_; clear hg_ hnew_; ((rw [← Ny517.out] at ho46)); have n0_ := Qa.mk (Kd.N_elder' (by (with_reducible repeat ((apply Kd.N_drewN))); exact HO_5.out) (Kd.R_base ho46) hb); have n1_ := Qa.mk (Kd.N_elder' (by (with_reducible repeat ((apply Kd.N_drewN))); exact HO_7.out) (Kd.R_base ho46) hb); have n2_ := Qa.mk (Kd.V_elder' (by (with_reducible repeat ((apply Kd.V_drewN))); exact HL515_0.out) (Kd.R_base ho46) hb); have n3_ := Qa.mk (Kd.V_elder' (by (with_reducible repeat ((apply Kd.V_drewN))); exact HL516_0.out) (Kd.R_base ho46) hb); have n4_ := Qa.mk (Kd.R_lower ho46 (Qq (by repeat ((with_reducible first | exact HB.out | apply Qi))))); have n5_ := Qa.mk (Kd.C_below (by repeat ((exact HR515_0.out))) hb); have n6_ := Qa.mk (Kd.C_below (by repeat ((exact HR516_0.out))) hb); have n7_ := Qa.mk (Qh (by repeat ((with_reducible first | exact HB.out | apply Qi))) hb); clear HO_5; clear HO_7; clear HL515_0; clear HL516_0; clear HR515_0; clear HR516_0; clear HB; have HO_5 := n0_; have HO_7 := n1_; have HL515_0 := n2_; have HL516_0 := n3_; have HO519 := n4_; have HR515_0 := n5_; have HR516_0 := n6_; have HB := n7_; clear n0_ n1_ n2_ n3_ n4_ n5_ n6_ n7_; clear hb ho46; obtain ⟨Ao47, co47, eo47⟩ := Kd.R_slice HO519.out; subst eo47) | (go_at_call 11; (with_reducible refine (Qf2.calls kj9 _ _ (rd_L2 t502 0) _ _ y517 t520 _ ?side1 ?side2 ?side3 ?side4 A43.out).mono ?_); (case side1 => repeat ((exact (by repeat ((with_reducible exact HR516_0.out)))))); (case side2 => exact HC516_0.out); (case side3 => repeat ((exact (Kd.R_reads' HO519.out).2.2))); (case side4 => exact (Kd.R_reads' HO519.out).2.1); rintro e w' ⟨rfl, ⟨nd, rfl⟩⟩; (try fail)))
     repeat (go_quiet (fail); try go_wp2_with (fail))
     go_meet
     case rel => exact ⟨_, (!t520), (by rfl), H', ⟨by (exact Nat.le_refl _)⟩, ⟨by (with_reducible repeat ((apply Kd.N_drewN))); exact Kd.N_mono HO_5.out (fun _ hk => hk.1)⟩, ⟨by (with_reducible repeat ((apply Kd.N_drewN))); exact Kd.N_mono HO_7.out (fun _ hk => hk.1)⟩, ⟨by repeat (first | (with_reducible exact HR515_0.out) | (with_reducible refine Kd.C_drewN ?_ _))⟩, ⟨by repeat ((with_reducible first | exact HB.out | apply Qi))⟩⟩
    case rest => as_aux_lemma =>
     clear HC37 c36b0 c36b1 hx515_0 p515 q515
     obtain ⟨kq, x155_36, rfl, HA, HJ36, HO_5, HO_7, HR515_0, HB⟩ := hcut
     cases kq with
     | zero => exact absurd HA.out (by simp [Qb.j1])
     | succ kj36 =>
      have H := HA.out
      clear HA
      simp only [Qb.j1] at H
      by_cases c48 : x155_36 = true
      ·subst c48
       rw [if_pos rfl] at H
       exact absurd (hrt.symm.trans (Option.some.inj H).symm) (by decide)
      replace c48 := Bool.eq_false_iff.mpr c48
      subst c48
      rw [if_neg (show ¬ (false = true) by decide)] at H
      have H' := Qa.mk H
      clear H
      go_wp2
      repeat (go_quiet (fail); try go_wp2)
      go_loopg [17] kj36 (fun kq v17 w' => ∃ (x17_3 : Int), v17 = .int .i64 x17_3 ∧ Qa (Qb.l0 kq l1 t498 t501 t502 t510 t511 x17_3 = some r) ∧ Qa (kq ≤ kj36) ∧ Qa (Kd.N (Kd.slice 3 (Kd.int .i64)) 32 w' w.heap.size (fun k_ => some k_ ≠ (v504 : Value).ownBlock) (.slice (some ad515) t498.length co12) t498) ∧ Qa (Kd.N (Kd.slice 3 (Kd.int .i64)) 32 w' w.heap.size (fun k_ => some k_ ≠ ((.slice (some ad515) t498.length co12) : Value).ownBlock) v504 t502) ∧ Qa (Kd.C (Kd.int .i64) w' A515_0 (rd_L2 t498 0).length (rd_L2 t498 0)) ∧ Qa (Below w.heap.size w w'))
      case atStart => exact ⟨(1), (by rfl), H', ⟨Nat.le_refl _⟩, ⟨by (with_reducible repeat (fail)); exact HO_5.out⟩, ⟨by (with_reducible repeat (fail)); exact HO_7.out⟩, ⟨by repeat ((with_reducible exact HR515_0.out))⟩, ⟨by repeat ((with_reducible (exact HB.out)))⟩⟩
      case round =>
       clear H'
       obtain ⟨x17_3, rfl, HA, HK3, HO_5, HO_7, HR515_0, HB⟩ := hrel
       cases gk with
       | zero => exact absurd HA.out (by simp [Qb.l0])
       | succ k3 =>
        have H := HA.out
        clear HA
        simp only [Qb.l0] at H
        by_cases c49 : x17_3 < (t502.length : Int)
        ·rw [if_pos c49] at H
         have c49b0 : decide (x17_3 < (t502.length : Int)) = true := decide_eq_true c49
         clear c49
         by_cases c50 : 0 ≤ x17_3
         rotate_left
         ·rw [if_neg c50] at H
          exact absurd H (by simp)
         rw [if_pos c50] at H
         have c50b0 : decide (0 ≤ x17_3) = true := decide_eq_true c50
         clear c50
         by_cases c51 : 0 < ((rd_L2 t502 x17_3).length : Int)
         rotate_left
         ·rw [if_neg c51] at H
          exact absurd H (by simp)
         rw [if_pos c51] at H
         have c51b0 : decide (0 < ((rd_L2 t502 x17_3).length : Int)) = true := decide_eq_true c51
         have c51b1 : decide (0 < (rd_L2 t502 x17_3).length) = true := decide_eq_true (by omega)
         clear c51
         obtain ⟨ji52, hji52⟩ : ∃ j_ : Int, (wrap64 (x17_3 - 1)) = j_ := ⟨_, rfl⟩
         replace H : (if 0 ≤ (ji52) then (if (ji52) < (t502.length : Int) then (if 0 < ((rd_L2 t502 (ji52)).length : Int) then (if 1 < ((rd_L2 t502 (ji52)).length : Int) then (if 1 < ((rd_L2 t502 x17_3).length : Int) then (if (wrap64 ((rd (rd_L2 t502 x17_3) 0) - (rd (rd_L2 t502 (ji52)) 0))) < 0 then (some false) else (if (wrap64 ((rd (rd_L2 t502 (ji52)) 1) - (rd (rd_L2 t502 x17_3) 1))) < 0 then (some false) else (if (wrap64 ((wrap64 ((rd (rd_L2 t502 x17_3) 0) - (rd (rd_L2 t502 (ji52)) 0))) + (wrap64 ((rd (rd_L2 t502 (ji52)) 1) - (rd (rd_L2 t502 x17_3) 1))))) = 1 then (Qb.l0 k3 l1 t498 t501 t502 t510 t511 (wrap64 (x17_3 + 1))) else (some false)))) else (none)) else (none)) else (none)) else (none)) else (none)) = some r := by (rw [hji52] at H; exact H)
         have hji52w : (IntKind.i64.wrap (x17_3 - 1)) = ji52 := (i64_w _).trans hji52
         by_cases c53 : 0 ≤ (ji52)
         rotate_left
         ·rw [if_neg c53] at H
          exact absurd H (by simp)
         rw [if_pos c53] at H
         have c53b0 : decide (0 ≤ (ji52)) = true := decide_eq_true c53
         clear c53
         by_cases c54 : (ji52) < (t502.length : Int)
         rotate_left
         ·rw [if_neg c54] at H
          exact absurd H (by simp)
         rw [if_pos c54] at H
         have c54b0 : decide ((ji52) < (t502.length : Int)) = true := decide_eq_true c54
         clear c54
         by_cases c55 : 0 < ((rd_L2 t502 (ji52)).length : Int)
         rotate_left
         ·rw [if_neg c55] at H
          exact absurd H (by simp)
         rw [if_pos c55] at H
         have c55b0 : decide (0 < ((rd_L2 t502 (ji52)).length : Int)) = true := decide_eq_true c55
         have c55b1 : decide (0 < (rd_L2 t502 (ji52)).length) = true := decide_eq_true (by omega)
         clear c55
         by_cases c56 : 1 < ((rd_L2 t502 (ji52)).length : Int)
         rotate_left
         ·rw [if_neg c56] at H
          exact absurd H (by simp)
         rw [if_pos c56] at H
         have c56b0 : decide (1 < ((rd_L2 t502 (ji52)).length : Int)) = true := decide_eq_true c56
         have c56b1 : decide (1 < (rd_L2 t502 (ji52)).length) = true := decide_eq_true (by omega)
         clear c56
         by_cases c57 : 1 < ((rd_L2 t502 x17_3).length : Int)
         rotate_left
         ·rw [if_neg c57] at H
          exact absurd H (by simp)
         rw [if_pos c57] at H
         have c57b0 : decide (1 < ((rd_L2 t502 x17_3).length : Int)) = true := decide_eq_true c57
         have c57b1 : decide (1 < (rd_L2 t502 x17_3).length) = true := decide_eq_true (by omega)
         clear c57
         by_cases c58 : (wrap64 ((rd (rd_L2 t502 x17_3) 0) - (rd (rd_L2 t502 (ji52)) 0))) < 0
         ·rw [if_pos c58] at H
          have c58b0 : decide ((wrap64 ((rd (rd_L2 t502 x17_3) 0) - (rd (rd_L2 t502 (ji52)) 0))) < 0) = true := decide_eq_true c58
          clear c58
          exact absurd (hrt.symm.trans (Option.some.inj H).symm) (by decide)
         rw [if_neg c58] at H
         have c58b0 : decide ((wrap64 ((rd (rd_L2 t502 x17_3) 0) - (rd (rd_L2 t502 (ji52)) 0))) < 0) = false := decide_eq_false c58
         clear c58
         by_cases c60 : (wrap64 ((rd (rd_L2 t502 (ji52)) 1) - (rd (rd_L2 t502 x17_3) 1))) < 0
         ·rw [if_pos c60] at H
          have c60b0 : decide ((wrap64 ((rd (rd_L2 t502 (ji52)) 1) - (rd (rd_L2 t502 x17_3) 1))) < 0) = true := decide_eq_true c60
          clear c60
          exact absurd (hrt.symm.trans (Option.some.inj H).symm) (by decide)
         rw [if_neg c60] at H
         have c60b0 : decide ((wrap64 ((rd (rd_L2 t502 (ji52)) 1) - (rd (rd_L2 t502 x17_3) 1))) < 0) = false := decide_eq_false c60
         clear c60
         by_cases c62 : (wrap64 ((wrap64 ((rd (rd_L2 t502 x17_3) 0) - (rd (rd_L2 t502 (ji52)) 0))) + (wrap64 ((rd (rd_L2 t502 (ji52)) 1) - (rd (rd_L2 t502 x17_3) 1))))) = 1
         rotate_left
         ·rw [if_neg c62] at H
          have c62b0 : ((wrap64 ((wrap64 ((rd (rd_L2 t502 x17_3) 0) - (rd (rd_L2 t502 (ji52)) 0))) + (wrap64 ((rd (rd_L2 t502 (ji52)) 1) - (rd (rd_L2 t502 x17_3) 1))))) == 1) = false := beq_eq_false_iff_ne.mpr c62
          have c62b1 : ((wrap64 ((wrap64 ((rd (rd_L2 t502 x17_3) 0) - (rd (rd_L2 t502 (ji52)) 0))) + (wrap64 ((rd (rd_L2 t502 (ji52)) 1) - (rd (rd_L2 t502 x17_3) 1))))) != 1) = true := bne_iff_ne.mpr c62
          exact absurd (hrt.symm.trans (Option.some.inj H).symm) (by decide)
         rw [if_pos c62] at H
         have c62b0 : ((wrap64 ((wrap64 ((rd (rd_L2 t502 x17_3) 0) - (rd (rd_L2 t502 (ji52)) 0))) + (wrap64 ((rd (rd_L2 t502 (ji52)) 1) - (rd (rd_L2 t502 x17_3) 1))))) == 1) = true := beq_iff_eq.mpr c62
         have c62b1 : ((wrap64 ((wrap64 ((rd (rd_L2 t502 x17_3) 0) - (rd (rd_L2 t502 (ji52)) 0))) + (wrap64 ((rd (rd_L2 t502 (ji52)) 1) - (rd (rd_L2 t502 x17_3) 1))))) != 1) = false := bne_eq_false_iff_eq.mpr c62
         clear c62
         have H' := Qa.mk H
         clear H
         obtain ⟨Ao63, co63, eo63⟩ := Kd.N_slice HO_7.out
         subst eo63
         have p521 : 0 ≤ (x17_3 : Int) := of_decide_eq_true (by (with_reducible assumption))
         have q521 : x17_3 < (t502.length : Int) := of_decide_eq_true (by (with_reducible assumption))
         obtain ⟨ad521, A521_0, c521_0, e521, hx521_0, hl521_0, hi521_0⟩ := at_L2 (Kd.N_reads' HO_7.out).2.2 x17_3 p521 q521
         cases e521
         obtain ⟨ce521, hce521, hMe521, hcc521⟩ := Kd.N_get HO_7.out [] x17_3 p521 (by (exact q521))
         obtain ⟨ua521_0, uc521_0, rfl, ul521_0, ge521_0⟩ := Kd.FK_slice_open hMe521
         have hv521_0 := hcc521 0 _ rfl
         rw [Nat.add_zero, show ((Kd.slice 3 (Kd.int .i64))).sz = 1 from rfl, Nat.mul_one] at hv521_0
         replace hv521_0 := Option.some.inj (hv521_0.symm.trans hx521_0)
         injection hv521_0 with hva_ hvn_ hvc_
         rw [hva_] at ge521_0
         rw [hvc_] at ul521_0
         have HL521_0 := Qa.mk (show Kd.V (Kd.int .i64) 3 _ w.heap.size _ _ (rd_L2 t502 x17_3) from Kd.V_mk ul521_0 ge521_0)
         clear hva_ hvn_ hvc_ ge521_0 ul521_0 hcc521 hce521
         have HR521_0 := Qa.mk hi521_0
         have HC521_0 := Qa.mk hl521_0
         clear hi521_0 hl521_0
         replace p521 := eq_true p521
         replace q521 := eq_true q521
         have p522 : 0 ≤ (0 : Int) := (by omega)
         have q522 : 0 < ((rd_L2 t502 x17_3).length : Int) := of_decide_eq_true (by (with_reducible assumption))
         obtain ⟨ad522, e522, hx522_0⟩ := Kd.at_int (by repeat ((with_reducible exact HR521_0.out))) 0 p522 q522
         cases e522
         have qi522 : (0 < (rd_L2 t502 x17_3).length) = True := eq_true (by omega)
         (try rw [show ((0 : Int)).toNat = 0 from rfl] at hx522_0)
         (try rw [Addr.add_zero'] at hx522_0)
         replace p522 := eq_true p522
         replace q522 := eq_true q522
         have p523 : 0 ≤ ((ji52) : Int) := of_decide_eq_true (by (with_reducible assumption))
         have q523 : (ji52) < (t502.length : Int) := of_decide_eq_true (by (with_reducible assumption))
         obtain ⟨ad523, A523_0, c523_0, e523, hx523_0, hl523_0, hi523_0⟩ := at_L2 (Kd.N_reads' HO_7.out).2.2 (ji52) p523 q523
         obtain rfl : ad521 = ad523 := (by injection e523)
         obtain ⟨ce523, hce523, hMe523, hcc523⟩ := Kd.N_get HO_7.out [] (ji52) p523 (by (exact q523))
         obtain ⟨ua523_0, uc523_0, rfl, ul523_0, ge523_0⟩ := Kd.FK_slice_open hMe523
         have hv523_0 := hcc523 0 _ rfl
         rw [Nat.add_zero, show ((Kd.slice 3 (Kd.int .i64))).sz = 1 from rfl, Nat.mul_one] at hv523_0
         replace hv523_0 := Option.some.inj (hv523_0.symm.trans hx523_0)
         injection hv523_0 with hva_ hvn_ hvc_
         rw [hva_] at ge523_0
         rw [hvc_] at ul523_0
         have HL523_0 := Qa.mk (show Kd.V (Kd.int .i64) 3 _ w.heap.size _ _ (rd_L2 t502 (ji52)) from Kd.V_mk ul523_0 ge523_0)
         clear hva_ hvn_ hvc_ ge523_0 ul523_0 hcc523 hce523
         have HR523_0 := Qa.mk hi523_0
         have HC523_0 := Qa.mk hl523_0
         clear hi523_0 hl523_0
         replace p523 := eq_true p523
         replace q523 := eq_true q523
         have p524 : 0 ≤ (0 : Int) := (by omega)
         have q524 : 0 < ((rd_L2 t502 (ji52)).length : Int) := of_decide_eq_true (by (with_reducible assumption))
         obtain ⟨ad524, e524, hx524_0⟩ := Kd.at_int (by repeat ((with_reducible exact HR523_0.out))) 0 p524 q524
         cases e524
         have qi524 : (0 < (rd_L2 t502 (ji52)).length) = True := eq_true (by omega)
         (try rw [show ((0 : Int)).toNat = 0 from rfl] at hx524_0)
         (try rw [Addr.add_zero'] at hx524_0)
         replace p524 := eq_true p524
         replace q524 := eq_true q524
         have p525 : 0 ≤ ((ji52) : Int) := of_decide_eq_true (by (with_reducible assumption))
         have q525 : (ji52) < (t502.length : Int) := of_decide_eq_true (by (with_reducible assumption))
         obtain ⟨ad525, A525_0, c525_0, e525, hx525_0, hl525_0, hi525_0⟩ := at_L2 (Kd.N_reads' HO_7.out).2.2 (ji52) p525 q525
         obtain rfl : ad521 = ad525 := (by injection e525)
         obtain ⟨ce525, hce525, hMe525, hcc525⟩ := Kd.N_get HO_7.out [] (ji52) p525 (by (exact q525))
         obtain ⟨ua525_0, uc525_0, rfl, ul525_0, ge525_0⟩ := Kd.FK_slice_open hMe525
         have hv525_0 := hcc525 0 _ rfl
         rw [Nat.add_zero, show ((Kd.slice 3 (Kd.int .i64))).sz = 1 from rfl, Nat.mul_one] at hv525_0
         replace hv525_0 := Option.some.inj (hv525_0.symm.trans hx525_0)
         injection hv525_0 with hva_ hvn_ hvc_
         rw [hva_] at ge525_0
         rw [hvc_] at ul525_0
         have HL525_0 := Qa.mk (show Kd.V (Kd.int .i64) 3 _ w.heap.size _ _ (rd_L2 t502 (ji52)) from Kd.V_mk ul525_0 ge525_0)
         clear hva_ hvn_ hvc_ ge525_0 ul525_0 hcc525 hce525
         have HR525_0 := Qa.mk hi525_0
         have HC525_0 := Qa.mk hl525_0
         clear hi525_0 hl525_0
         replace p525 := eq_true p525
         replace q525 := eq_true q525
         have ea_ := Option.some.inj (hx523_0.symm.trans hx525_0)
         injection ea_ with ea_ en_ ec_
         subst ea_
         subst ec_
         clear en_
         have p526 : 0 ≤ (1 : Int) := (by omega)
         have q526 : 1 < ((rd_L2 t502 (ji52)).length : Int) := of_decide_eq_true (by (with_reducible assumption))
         obtain ⟨ad526, e526, hx526_0⟩ := Kd.at_int (by repeat ((with_reducible exact HR525_0.out))) 1 p526 q526
         cases e526
         (try simp only [show (1 : Int).toNat = 1 from rfl, Nat.reduceMul, Nat.reduceEqDiff, Go.Addr.add, ↓reduceIte] at hx526_0)
         have qi526 : (1 < (rd_L2 t502 (ji52)).length) = True := eq_true (by omega)
         (try rw [show ((1 : Int)).toNat = 1 from rfl] at hx526_0)
         replace p526 := eq_true p526
         replace q526 := eq_true q526
         have p527 : 0 ≤ (x17_3 : Int) := of_decide_eq_true (by (with_reducible assumption))
         have q527 : x17_3 < (t502.length : Int) := of_decide_eq_true (by (with_reducible assumption))
         obtain ⟨ad527, A527_0, c527_0, e527, hx527_0, hl527_0, hi527_0⟩ := at_L2 (Kd.N_reads' HO_7.out).2.2 x17_3 p527 q527
         obtain rfl : ad521 = ad527 := (by injection e527)
         obtain ⟨ce527, hce527, hMe527, hcc527⟩ := Kd.N_get HO_7.out [] x17_3 p527 (by (exact q527))
         obtain ⟨ua527_0, uc527_0, rfl, ul527_0, ge527_0⟩ := Kd.FK_slice_open hMe527
         have hv527_0 := hcc527 0 _ rfl
         rw [Nat.add_zero, show ((Kd.slice 3 (Kd.int .i64))).sz = 1 from rfl, Nat.mul_one] at hv527_0
         replace hv527_0 := Option.some.inj (hv527_0.symm.trans hx527_0)
         injection hv527_0 with hva_ hvn_ hvc_
         rw [hva_] at ge527_0
         rw [hvc_] at ul527_0
         have HL527_0 := Qa.mk (show Kd.V (Kd.int .i64) 3 _ w.heap.size _ _ (rd_L2 t502 x17_3) from Kd.V_mk ul527_0 ge527_0)
         clear hva_ hvn_ hvc_ ge527_0 ul527_0 hcc527 hce527
         have HR527_0 := Qa.mk hi527_0
         have HC527_0 := Qa.mk hl527_0
         clear hi527_0 hl527_0
         replace p527 := eq_true p527
         replace q527 := eq_true q527
         have ea_ := Option.some.inj (hx521_0.symm.trans hx527_0)
         injection ea_ with ea_ en_ ec_
         subst ea_
         subst ec_
         clear en_
         have p528 : 0 ≤ (1 : Int) := (by omega)
         have q528 : 1 < ((rd_L2 t502 x17_3).length : Int) := of_decide_eq_true (by (with_reducible assumption))
         obtain ⟨ad528, e528, hx528_0⟩ := Kd.at_int (by repeat ((with_reducible exact HR527_0.out))) 1 p528 q528
         cases e528
         (try simp only [show (1 : Int).toNat = 1 from rfl, Nat.reduceMul, Nat.reduceEqDiff, Go.Addr.add, ↓reduceIte] at hx528_0)
         have qi528 : (1 < (rd_L2 t502 x17_3).length) = True := eq_true (by omega)
         (try rw [show ((1 : Int)).toNat = 1 from rfl] at hx528_0)
         replace p528 := eq_true p528
         replace q528 := eq_true q528
         go_wp2
         repeat (go_quiet (fail); try go_wp2)
         (go_roundg k3)
         case measure => (exact Nat.lt_succ_self _)
         case rel => exact ⟨(wrap64 (x17_3 + 1)), (by rfl), H', ⟨by (exact Nat.le_of_lt HK3.out)⟩, ⟨by (with_reducible repeat ((apply Kd.N_drewN))); exact HO_5.out⟩, ⟨by (with_reducible repeat ((apply Kd.N_drewN))); exact HO_7.out⟩, ⟨by repeat (first | (with_reducible exact HR515_0.out) | (with_reducible refine Kd.C_drewN ?_ _))⟩, ⟨by repeat ((with_reducible first | exact HB.out | apply Qi))⟩⟩
        rw [if_neg c49] at H
        have c49b0 : decide (x17_3 < (t502.length : Int)) = false := decide_eq_false c49
        clear c49
        obtain ⟨ji65, hji65⟩ : ∃ j_ : Int, (wrap64 ((t502.length : Int) - 1)) = j_ := ⟨_, rfl⟩
        replace H : (if 0 ≤ (ji65) then (if (ji65) < (t502.length : Int) then (Qb.l1 k3 l1 t498 t501 t510 t511 (rd_L2 t502 (ji65)) false t498 (t498.length : Int) 0) else (none)) else (none)) = some r := by (rw [hji65] at H; exact H)
        have hji65w : (IntKind.i64.wrap ((t502.length : Int) - 1)) = ji65 := (i64_w _).trans hji65
        by_cases c66 : 0 ≤ (ji65)
        rotate_left
        ·rw [if_neg c66] at H
         exact absurd H (by simp)
        rw [if_pos c66] at H
        have c66b0 : decide (0 ≤ (ji65)) = true := decide_eq_true c66
        clear c66
        by_cases c67 : (ji65) < (t502.length : Int)
        rotate_left
        ·rw [if_neg c67] at H
         exact absurd H (by simp)
        rw [if_pos c67] at H
        have c67b0 : decide ((ji65) < (t502.length : Int)) = true := decide_eq_true c67
        clear c67
        have H' := Qa.mk H
        clear H
        obtain ⟨Ao68, co68, eo68⟩ := Kd.N_slice HO_7.out
        subst eo68
        have p529 : 0 ≤ ((ji65) : Int) := of_decide_eq_true (by (with_reducible assumption))
        have q529 : (ji65) < (t502.length : Int) := of_decide_eq_true (by (with_reducible assumption))
        obtain ⟨ad529, A529_0, c529_0, e529, hx529_0, hl529_0, hi529_0⟩ := at_L2 (Kd.N_reads' HO_7.out).2.2 (ji65) p529 q529
        cases e529
        obtain ⟨ce529, hce529, hMe529, hcc529⟩ := Kd.N_get HO_7.out [] (ji65) p529 (by (exact q529))
        obtain ⟨ua529_0, uc529_0, rfl, ul529_0, ge529_0⟩ := Kd.FK_slice_open hMe529
        have hv529_0 := hcc529 0 _ rfl
        rw [Nat.add_zero, show ((Kd.slice 3 (Kd.int .i64))).sz = 1 from rfl, Nat.mul_one] at hv529_0
        replace hv529_0 := Option.some.inj (hv529_0.symm.trans hx529_0)
        injection hv529_0 with hva_ hvn_ hvc_
        rw [hva_] at ge529_0
        rw [hvc_] at ul529_0
        have HL529_0 := Qa.mk (show Kd.V (Kd.int .i64) 3 _ w.heap.size _ _ (rd_L2 t502 (ji65)) from Kd.V_mk ul529_0 ge529_0)
        clear hva_ hvn_ hvc_ ge529_0 ul529_0 hcc529 hce529
        have HR529_0 := Qa.mk hi529_0
        have HC529_0 := Qa.mk hl529_0
        clear hi529_0 hl529_0
        replace p529 := eq_true p529
        replace q529 := eq_true q529
        go_wp2
        repeat (go_quiet (fail); try go_wp2)
        go_loopg [21, 210] k3 (fun kq v21 v210 w' => ∃ (x21_4 : Bool) (x210_4 : Int), v21 = .bool x21_4 ∧ v210 = .int .i64 x210_4 ∧ Qa (Qb.l1 kq l1 t498 t501 t510 t511 (rd_L2 t502 (ji65)) x21_4 t498 (t498.length : Int) x210_4 = some r) ∧ Qa (kq ≤ k3) ∧ Qa (Kd.N (Kd.slice 3 (Kd.int .i64)) 32 w' w.heap.size (fun _ => True) (.slice (some ad515) t498.length co12) t498) ∧ Qa (Kd.N (Kd.slice 3 (Kd.int .i64)) 32 w' w.heap.size (fun _ => True) (.slice (some ad515) t498.length co12) t498) ∧ Qa (Kd.C (Kd.int .i64) w' A515_0 (rd_L2 t498 0).length (rd_L2 t498 0)) ∧ Qa (Kd.C (Kd.int .i64) w' A529_0 (rd_L2 t502 (ji65)).length (rd_L2 t502 (ji65))) ∧ Qa (Below w.heap.size w w'))
        case atStart => exact ⟨(false), (0), (by rfl), (by rfl), H', ⟨Nat.le_refl _⟩, ⟨by (with_reducible repeat (fail)); exact Kd.N_mono HO_5.out (fun _ hk => trivial)⟩, ⟨by (with_reducible repeat (fail)); exact Kd.N_mono HO_5.out (fun _ hk => trivial)⟩, ⟨by repeat ((with_reducible exact HR515_0.out))⟩, ⟨by repeat ((with_reducible exact HR529_0.out))⟩, ⟨by repeat ((with_reducible (exact HB.out)))⟩⟩
        case round =>
         clear H' c49b0 c66b0 c67b0 hx529_0 p529 q529
         obtain ⟨x21_4, x210_4, rfl, rfl, HA, HK4, HO_5, HO_208, HR515_0, HR529_0, HB⟩ := hrel
         cases gk with
         | zero => exact absurd HA.out (by simp [Qb.l1])
         | succ k4 =>
          have H := HA.out
          clear HA
          simp only [Qb.l1] at H
          by_cases c69 : x210_4 < (t498.length : Int)
          ·rw [if_pos c69] at H
           have c69b0 : decide (x210_4 < (t498.length : Int)) = true := decide_eq_true c69
           clear c69
           by_cases c70 : 0 ≤ x210_4
           rotate_left
           ·rw [if_neg c70] at H
            exact absurd H (by simp)
           rw [if_pos c70] at H
           have c70b0 : decide (0 ≤ x210_4) = true := decide_eq_true c70
           clear c70
           by_cases c71 : x210_4 < (t498.length : Int)
           rotate_left
           ·rw [if_neg c71] at H
            exact absurd H (by simp)
           rw [if_pos c71] at H
           have c71b0 : decide (x210_4 < (t498.length : Int)) = true := decide_eq_true c71
           clear c71
           by_cases c72 : x21_4 = true
           ·subst c72
            rw [if_pos rfl] at H
            have H' := Qa.mk H
            clear H
            have p530 : 0 ≤ (x210_4 : Int) := of_decide_eq_true (by (with_reducible assumption))
            have q530 : x210_4 < (t498.length : Int) := of_decide_eq_true (by (with_reducible assumption))
            obtain ⟨ad530, A530_0, c530_0, e530, hx530_0, hl530_0, hi530_0⟩ := at_L2 (Kd.N_reads' HO_208.out).2.2 x210_4 p530 q530
            obtain rfl : ad515 = ad530 := (by injection e530)
            obtain ⟨ce530, hce530, hMe530, hcc530⟩ := Kd.N_get HO_208.out [] x210_4 p530 (by (exact q530))
            obtain ⟨ua530_0, uc530_0, rfl, ul530_0, ge530_0⟩ := Kd.FK_slice_open hMe530
            have hv530_0 := hcc530 0 _ rfl
            rw [Nat.add_zero, show ((Kd.slice 3 (Kd.int .i64))).sz = 1 from rfl, Nat.mul_one] at hv530_0
            replace hv530_0 := Option.some.inj (hv530_0.symm.trans hx530_0)
            injection hv530_0 with hva_ hvn_ hvc_
            rw [hva_] at ge530_0
            rw [hvc_] at ul530_0
            have HL530_0 := Qa.mk (show Kd.V (Kd.int .i64) 3 _ w.heap.size _ _ (rd_L2 t498 x210_4) from Kd.V_mk ul530_0 ge530_0)
            clear hva_ hvn_ hvc_ ge530_0 ul530_0 hcc530 hce530
            have HR530_0 := Qa.mk hi530_0
            have HC530_0 := Qa.mk hl530_0
            clear hi530_0 hl530_0
            replace p530 := eq_true p530
            replace q530 := eq_true q530
            go_wp2
            repeat (go_quiet (fail); try go_wp2)
            (go_roundg k4)
            case measure => (exact Nat.lt_succ_self _)
            case rel => exact ⟨(true), (wrap64 (x210_4 + 1)), (by rfl), (by rfl), H', ⟨by (exact Nat.le_of_lt HK4.out)⟩, ⟨by (with_reducible repeat (fail)); exact HO_5.out⟩, ⟨by (with_reducible repeat (fail)); exact HO_208.out⟩, ⟨by repeat ((with_reducible exact HR515_0.out))⟩, ⟨by repeat ((with_reducible exact HR529_0.out))⟩, ⟨by repeat ((with_reducible (exact HB.out)))⟩⟩
           replace c72 := Bool.eq_false_iff.mpr c72
           subst c72
           rw [if_neg (show ¬ (false = true) by decide)] at H
           replace H := Option.bind_eq_some_iff.mp H
           obtain ⟨t531, A730, H⟩ := H
           (try dsimp only at H)
           have A73 := Qa.mk A730
           clear A730
           have H' := Qa.mk H
           clear H
           have p530 : 0 ≤ (x210_4 : Int) := of_decide_eq_true (by (with_reducible assumption))
           have q530 : x210_4 < (t498.length : Int) := of_decide_eq_true (by (with_reducible assumption))
           obtain ⟨ad530, A530_0, c530_0, e530, hx530_0, hl530_0, hi530_0⟩ := at_L2 (Kd.N_reads' HO_208.out).2.2 x210_4 p530 q530
           obtain rfl : ad515 = ad530 := (by injection e530)
           obtain ⟨ce530, hce530, hMe530, hcc530⟩ := Kd.N_get HO_208.out [] x210_4 p530 (by (exact q530))
           obtain ⟨ua530_0, uc530_0, rfl, ul530_0, ge530_0⟩ := Kd.FK_slice_open hMe530
           have hv530_0 := hcc530 0 _ rfl
           rw [Nat.add_zero, show ((Kd.slice 3 (Kd.int .i64))).sz = 1 from rfl, Nat.mul_one] at hv530_0
           replace hv530_0 := Option.some.inj (hv530_0.symm.trans hx530_0)
           injection hv530_0 with hva_ hvn_ hvc_
           rw [hva_] at ge530_0
           rw [hvc_] at ul530_0
           have HL530_0 := Qa.mk (show Kd.V (Kd.int .i64) 3 _ w.heap.size _ _ (rd_L2 t498 x210_4) from Kd.V_mk ul530_0 ge530_0)
           clear hva_ hvn_ hvc_ ge530_0 ul530_0 hcc530 hce530
           have HR530_0 := Qa.mk hi530_0
           have HC530_0 := Qa.mk hl530_0
           clear hi530_0 hl530_0
           replace p530 := eq_true p530
           replace q530 := eq_true q530
           go_wp2_with ((go_at_call 12; (with_reducible refine (Qo2.calls k4 _ _ (rd_L2 t498 x210_4) t501 t531 _ ?side1 ?side2 A73.out).mono ?_); (case side1 => repeat ((exact (by repeat ((with_reducible exact HR530_0.out)))))); (case side2 => exact HC530_0.out); rintro e w' ⟨rfl, ⟨nd, rfl⟩⟩; (try fail)))
           repeat (go_quiet (fail); try go_wp2_with (fail))
           (go_roundg k4)
           case measure => (exact Nat.lt_succ_self _)
           case rel => exact ⟨(t531), (wrap64 (x210_4 + 1)), (by rfl), (by rfl), H', ⟨by (exact Nat.le_of_lt HK4.out)⟩, ⟨by (with_reducible repeat ((apply Kd.N_drewN))); exact HO_5.out⟩, ⟨by (with_reducible repeat ((apply Kd.N_drewN))); exact HO_208.out⟩, ⟨by repeat (first | (with_reducible exact HR515_0.out) | (with_reducible refine Kd.C_drewN ?_ _))⟩, ⟨by repeat (first | (with_reducible exact HR529_0.out) | (with_reducible refine Kd.C_drewN ?_ _))⟩, ⟨by repeat ((with_reducible first | exact HB.out | apply Qi))⟩⟩
          rw [if_neg c69] at H
          have c69b0 : decide (x210_4 < (t498.length : Int)) = false := decide_eq_false c69
          clear c69
          by_cases c74 : 0 < ((rd_L2 t502 (ji65)).length : Int)
          rotate_left
          ·rw [if_neg c74] at H
           exact absurd H (by simp)
          rw [if_pos c74] at H
          have c74b0 : decide (0 < ((rd_L2 t502 (ji65)).length : Int)) = true := decide_eq_true c74
          have c74b1 : decide (0 < (rd_L2 t502 (ji65)).length) = true := decide_eq_true (by omega)
          clear c74
          by_cases c75 : 0 ≤ (rd (rd_L2 t502 (ji65)) 0)
          rotate_left
          ·rw [if_neg c75] at H
           exact absurd H (by simp)
          rw [if_pos c75] at H
          have c75b0 : decide (0 ≤ (rd (rd_L2 t502 (ji65)) 0)) = true := decide_eq_true c75
          clear c75
          by_cases c76 : (rd (rd_L2 t502 (ji65)) 0) < (t498.length : Int)
          rotate_left
          ·rw [if_neg c76] at H
           exact absurd H (by simp)
          rw [if_pos c76] at H
          have c76b0 : decide ((rd (rd_L2 t502 (ji65)) 0) < (t498.length : Int)) = true := decide_eq_true c76
          clear c76
          by_cases c77 : 1 < ((rd_L2 t502 (ji65)).length : Int)
          rotate_left
          ·rw [if_neg c77] at H
           exact absurd H (by simp)
          rw [if_pos c77] at H
          have c77b0 : decide (1 < ((rd_L2 t502 (ji65)).length : Int)) = true := decide_eq_true c77
          have c77b1 : decide (1 < (rd_L2 t502 (ji65)).length) = true := decide_eq_true (by omega)
          clear c77
          by_cases c78 : 0 ≤ (rd (rd_L2 t502 (ji65)) 1)
          rotate_left
          ·rw [if_neg c78] at H
           exact absurd H (by simp)
          rw [if_pos c78] at H
          have c78b0 : decide (0 ≤ (rd (rd_L2 t502 (ji65)) 1)) = true := decide_eq_true c78
          clear c78
          by_cases c79 : (rd (rd_L2 t502 (ji65)) 1) < ((rd_L2 t498 (rd (rd_L2 t502 (ji65)) 0)).length : Int)
          rotate_left
          ·rw [if_neg c79] at H
           exact absurd H (by simp)
          rw [if_pos c79] at H
          have c79b0 : decide ((rd (rd_L2 t502 (ji65)) 1) < ((rd_L2 t498 (rd (rd_L2 t502 (ji65)) 0)).length : Int)) = true := decide_eq_true c79
          clear c79
          by_cases c80 : (x21_4 != ((rd (rd_L2 t498 (rd (rd_L2 t502 (ji65)) 0)) (rd (rd_L2 t502 (ji65)) 1)) == t501)) = true
          ·rw [if_pos c80] at H
           have c80b0 : (x21_4 != ((rd (rd_L2 t498 (rd (rd_L2 t502 (ji65)) 0)) (rd (rd_L2 t502 (ji65)) 1)) == t501)) = true := c80
           (try (have c80b1 : decide (x21_4 = ((rd (rd_L2 t498 (rd (rd_L2 t502 (ji65)) 0)) (rd (rd_L2 t502 (ji65)) 1)) == t501)) = false := by simpa using c80))
           (try (have c80b2 : (x21_4 == ((rd (rd_L2 t498 (rd (rd_L2 t502 (ji65)) 0)) (rd (rd_L2 t502 (ji65)) 1)) == t501)) = false := by simpa using c80))
           (try (have c80b3 : ¬ (x21_4 = ((rd (rd_L2 t498 (rd (rd_L2 t502 (ji65)) 0)) (rd (rd_L2 t502 (ji65)) 1)) == t501)) := by simpa using c80))
           clear c80
           exact absurd (hrt.symm.trans (Option.some.inj H).symm) (by decide)
          rw [if_neg c80] at H
          have c80b0 : (x21_4 != ((rd (rd_L2 t498 (rd (rd_L2 t502 (ji65)) 0)) (rd (rd_L2 t502 (ji65)) 1)) == t501)) = false := by simpa using c80
          (try (have c80b1 : decide (x21_4 = ((rd (rd_L2 t498 (rd (rd_L2 t502 (ji65)) 0)) (rd (rd_L2 t502 (ji65)) 1)) == t501)) = true := by simpa using c80))
          (try (have c80b2 : (x21_4 == ((rd (rd_L2 t498 (rd (rd_L2 t502 (ji65)) 0)) (rd (rd_L2 t502 (ji65)) 1)) == t501)) = true := by simpa using c80))
          clear c80
          have H' := Qa.mk H
          clear H
          have p532 : 0 ≤ (0 : Int) := (by omega)
          have q532 : 0 < ((rd_L2 t502 (ji65)).length : Int) := of_decide_eq_true (by (with_reducible assumption))
          obtain ⟨ad532, e532, hx532_0⟩ := Kd.at_int HR529_0.out 0 p532 q532
          cases e532
          have qi532 : (0 < (rd_L2 t502 (ji65)).length) = True := eq_true (by omega)
          (try rw [show ((0 : Int)).toNat = 0 from rfl] at hx532_0)
          (try rw [Addr.add_zero'] at hx532_0)
          (try replace hx532_0 := (HB.out.cell (World.block_lt_of_cell? w _ hx532_0)).trans hx532_0)
          replace p532 := eq_true p532
          replace q532 := eq_true q532
          have p533 : 0 ≤ ((rd (rd_L2 t502 (ji65)) 0) : Int) := of_decide_eq_true (by (with_reducible assumption))
          have q533 : (rd (rd_L2 t502 (ji65)) 0) < (t498.length : Int) := of_decide_eq_true (by (with_reducible assumption))
          obtain ⟨ad533, A533_0, c533_0, e533, hx533_0, hl533_0, hi533_0⟩ := at_L2 (Kd.N_reads' HO_5.out).2.2 (rd (rd_L2 t502 (ji65)) 0) p533 q533
          obtain rfl : ad515 = ad533 := (by injection e533)
          obtain ⟨ce533, hce533, hMe533, hcc533⟩ := Kd.N_get HO_5.out [] (rd (rd_L2 t502 (ji65)) 0) p533 (by (exact q533))
          obtain ⟨ua533_0, uc533_0, rfl, ul533_0, ge533_0⟩ := Kd.FK_slice_open hMe533
          have hv533_0 := hcc533 0 _ rfl
          rw [Nat.add_zero, show ((Kd.slice 3 (Kd.int .i64))).sz = 1 from rfl, Nat.mul_one] at hv533_0
          replace hv533_0 := Option.some.inj (hv533_0.symm.trans hx533_0)
          injection hv533_0 with hva_ hvn_ hvc_
          rw [hva_] at ge533_0
          rw [hvc_] at ul533_0
          have HL533_0 := Qa.mk (show Kd.V (Kd.int .i64) 3 _ w.heap.size _ _ (rd_L2 t498 (rd (rd_L2 t502 (ji65)) 0)) from Kd.V_mk ul533_0 ge533_0)
          clear hva_ hvn_ hvc_ ge533_0 ul533_0 hcc533 hce533
          have HR533_0 := Qa.mk hi533_0
          have HC533_0 := Qa.mk hl533_0
          clear hi533_0 hl533_0
          replace p533 := eq_true p533
          replace q533 := eq_true q533
          have p534 : 0 ≤ (1 : Int) := (by omega)
          have q534 : 1 < ((rd_L2 t502 (ji65)).length : Int) := of_decide_eq_true (by (with_reducible assumption))
          obtain ⟨ad534, e534, hx534_0⟩ := Kd.at_int HR529_0.out 1 p534 q534
          obtain rfl : ad532 = ad534 := (by injection e534)
          (try simp only [show (1 : Int).toNat = 1 from rfl, Nat.reduceMul, Nat.reduceEqDiff, Go.Addr.add, ↓reduceIte] at hx534_0)
          have qi534 : (1 < (rd_L2 t502 (ji65)).length) = True := eq_true (by omega)
          (try rw [show ((1 : Int)).toNat = 1 from rfl] at hx534_0)
          (try replace hx534_0 := (HB.out.cell (World.block_lt_of_cell? w _ hx534_0)).trans hx534_0)
          replace p534 := eq_true p534
          replace q534 := eq_true q534
          have p535 : 0 ≤ ((rd (rd_L2 t502 (ji65)) 1) : Int) := of_decide_eq_true (by (with_reducible assumption))
          have q535 : (rd (rd_L2 t502 (ji65)) 1) < ((rd_L2 t498 (rd (rd_L2 t502 (ji65)) 0)).length : Int) := of_decide_eq_true (by (with_reducible assumption))
          obtain ⟨ad535, e535, hx535_0⟩ := Kd.at_int (by repeat ((with_reducible exact HR533_0.out))) (rd (rd_L2 t502 (ji65)) 1) p535 q535
          cases e535
          replace p535 := eq_true p535
          replace q535 := eq_true q535
          go_wp2
          repeat (go_quiet (fail); try go_wp2)
          go_meet
          case rel => exact ⟨_, H', ⟨by (have := HJ9.out; have := HJ36.out; have := HK3.out; have := HK4.out; omega)⟩, ⟨by (with_reducible repeat ((apply Kd.N_drewN))); exact HO_5.out⟩, ⟨by repeat ((with_reducible first | exact HB.out | apply Qi))⟩⟩
   case rest => as_aux_lemma =>
    clear HC34
    obtain ⟨kq, HA, HJ33, HO_5, HB⟩ := hcut
    cases kq with
    | zero => exact absurd HA.out (by simp [Qb.j4])
    | succ kj33 =>
     have H := HA.out
     clear HA
     simp only [Qb.j4] at H
     have HC81 := Qa.mk H
     clear H
     go_upto_if 236 with (fail)
     repeat (go_quiet (fail); go_upto_if 236 with (fail))
     go_cut [] from 236 to 236 (fun wc => ∃ (kq : Nat), Qa (Qb.j7 kq l1 = some r) ∧ Qa (kq ≤ kj33) ∧ Qa (Below w.heap.size w wc))
     case first => as_aux_lemma =>
      have H := HC81.out
      clear HC81
      by_cases c82 : t511 = true
      rotate_left
      ·replace c82 := Bool.eq_false_iff.mpr c82
       subst c82
       rw [if_neg (show ¬ (false = true) by decide)] at H
       have H' := Qa.mk H
       clear H
       go_wp2
       repeat (go_quiet (fail); try go_wp2)
       go_meet
       case rel => exact ⟨_, H', ⟨by (exact Nat.le_refl _)⟩, ⟨by repeat ((with_reducible (exact HB.out)))⟩⟩
      subst c82
      rw [if_pos rfl] at H
      by_cases c83 : 0 < (t498.length : Int)
      rotate_left
      ·rw [if_neg c83] at H
       exact absurd H (by simp)
      rw [if_pos c83] at H
      have c83b0 : decide (0 < (t498.length : Int)) = true := decide_eq_true c83
      have c83b1 : decide (0 < t498.length) = true := decide_eq_true (by omega)
      clear c83
      (skip)
      have HC84 := Qa.mk H
      clear H
      have p536 : 0 ≤ (0 : Int) := (by omega)
      have q536 : 0 < (t498.length : Int) := of_decide_eq_true (by (with_reducible assumption))
      obtain ⟨ad536, A536_0, c536_0, e536, hx536_0, hl536_0, hi536_0⟩ := at_L2 (Kd.N_reads' HO_5.out).2.2 0 p536 q536
      cases e536
      obtain ⟨ce536, hce536, hMe536, hcc536⟩ := Kd.N_get HO_5.out [] 0 p536 (by (exact q536))
      obtain ⟨ua536_0, uc536_0, rfl, ul536_0, ge536_0⟩ := Kd.FK_slice_open hMe536
      have hv536_0 := hcc536 0 _ rfl
      rw [Nat.add_zero, show ((Kd.slice 3 (Kd.int .i64))).sz = 1 from rfl, Nat.mul_one] at hv536_0
      replace hv536_0 := Option.some.inj (hv536_0.symm.trans hx536_0)
      injection hv536_0 with hva_ hvn_ hvc_
      rw [hva_] at ge536_0
      rw [hvc_] at ul536_0
      have HL536_0 := Qa.mk (show Kd.V (Kd.int .i64) 3 _ w.heap.size _ _ (rd_L2 t498 0) from Kd.V_mk ul536_0 ge536_0)
      clear hva_ hvn_ hvc_ ge536_0 ul536_0 hcc536 hce536
      have qi536 : (0 < t498.length) = True := eq_true (by omega)
      (try rw [show ((0 : Int)).toNat = 0 from rfl] at hx536_0)
      (try rw [Addr.add_zero'] at hx536_0)
      have HR536_0 := Qa.mk hi536_0
      have HC536_0 := Qa.mk hl536_0
      clear hi536_0 hl536_0
      replace p536 := eq_true p536
      replace q536 := eq_true q536
      go_upto_region 31 with (fail)
      repeat (go_quiet (fail); go_upto_region 31 with (fail))
      go_cut [250] from 250 to 250 (fun v250 wc => ∃ (kq : Nat) (x250_83 : Bool), v250 = .bool x250_83 ∧ Qa (Qb.j5 kq l1 t498 t501 t510 (wrap64 ((t498.length : Int) * ((rd_L2 t498 0).length : Int))) x250_83 = some r) ∧ Qa (kq ≤ kj33) ∧ Qa (Kd.N (Kd.slice 3 (Kd.int .i64)) 32 wc w.heap.size (fun _ => True) (.slice (some ad536) t498.length co12) t498) ∧ Qa (Kd.C (Kd.int .i64) wc A536_0 (rd_L2 t498 0).length (rd_L2 t498 0)) ∧ Qa (Below w.heap.size w wc))
      case first => as_aux_lemma =>
       have H := HC84.out
       clear HC84
       by_cases c85 : t510 < 0
       ·rw [if_pos c85] at H
        have c85b0 : decide (t510 < 0) = true := decide_eq_true c85
        clear c85
        (skip)
        exact absurd (hrt.symm.trans (Qb.j5_false H)) (by decide)
       rw [if_neg c85] at H
       have c85b0 : decide (t510 < 0) = false := decide_eq_false c85
       clear c85
       (skip)
       have H' := Qa.mk H
       clear H
       go_wp2
       repeat (go_quiet (fail); try go_wp2)
       go_meet
       case rel => exact ⟨_, (decide (t510 > (wrap64 ((t498.length : Int) * ((rd_L2 t498 0).length : Int))))), (by rfl), H', ⟨by (exact Nat.le_refl _)⟩, ⟨by (with_reducible repeat (fail)); exact HO_5.out⟩, ⟨by repeat ((with_reducible exact HR536_0.out))⟩, ⟨by repeat ((with_reducible (exact HB.out)))⟩⟩
      case rest => as_aux_lemma =>
       clear HC84 c83b0 c83b1 hx536_0 p536 q536
       obtain ⟨kq, x250_83, rfl, HA, HJ83, HO_5, HR536_0, HB⟩ := hcut
       cases kq with
       | zero => exact absurd HA.out (by simp [Qb.j5])
       | succ kj83 =>
        have H := HA.out
        clear HA
        simp only [Qb.j5] at H
        by_cases c86 : x250_83 = true
        ·subst c86
         rw [if_pos rfl] at H
         exact absurd (hrt.symm.trans (Option.some.inj H).symm) (by decide)
        replace c86 := Bool.eq_false_iff.mpr c86
        subst c86
        rw [if_neg (show ¬ (false = true) by decide)] at H
        have HC87 := Qa.mk H
        clear H
        go_upto_if 252 with (fail)
        repeat (go_quiet (fail); go_upto_if 252 with (fail))
        go_cut [] from 252 to 252 (fun wc => ∃ (kq : Nat), Qa (Qb.j6 kq l1 t498 t501 t510 (wrap64 ((t498.length : Int) * ((rd_L2 t498 0).length : Int))) = some r) ∧ Qa (kq ≤ kj83) ∧ Qa (Kd.N (Kd.slice 3 (Kd.int .i64)) 32 wc w.heap.size (fun _ => True) (.slice (some ad536) t498.length co12) t498) ∧ Qa (Kd.C (Kd.int .i64) wc A536_0 (rd_L2 t498 0).length (rd_L2 t498 0)) ∧ Qa (Below w.heap.size w wc))
        case first => as_aux_lemma =>
         have H := HC87.out
         clear HC87
         by_cases c88 : t510 > 0
         rotate_left
         ·rw [if_neg c88] at H
          have c88b0 : decide (0 < t510) = false := decide_eq_false c88
          clear c88
          ((rw [c88b0]))
          have H' := Qa.mk H
          clear H
          go_wp2
          repeat (go_quiet (fail); try go_wp2)
          go_meet
          case rel => exact ⟨_, H', ⟨by (exact Nat.le_refl _)⟩, ⟨by (with_reducible repeat (fail)); exact HO_5.out⟩, ⟨by repeat ((with_reducible exact HR536_0.out))⟩, ⟨by repeat ((with_reducible (exact HB.out)))⟩⟩
         rw [if_pos c88] at H
         have c88b0 : decide (0 < t510) = true := decide_eq_true c88
         clear c88
         ((rw [c88b0]))
         replace H := Option.bind_eq_some_iff.mp H
         obtain ⟨⟨t537, t538⟩, A890, H⟩ := H
         (try dsimp only at H)
         have A89 := Qa.mk A890
         clear A890
         by_cases c90 : t538 = true
         rotate_left
         ·replace c90 := Bool.eq_false_iff.mpr c90
          subst c90
          rw [if_neg (show ¬ (false = true) by decide)] at H
          exact absurd (hrt.symm.trans (Option.some.inj H).symm) (by decide)
         subst c90
         rw [if_pos rfl] at H
         by_cases c91 : t537 > t501
         ·rw [if_pos c91] at H
          have c91b0 : decide (t501 < t537) = true := decide_eq_true c91
          clear c91
          exact absurd (hrt.symm.trans (Option.some.inj H).symm) (by decide)
         rw [if_neg c91] at H
         have c91b0 : decide (t501 < t537) = false := decide_eq_false c91
         clear c91
         have H' := Qa.mk H
         clear H
         go_wp2_with ((go_at_call 13; (with_reducible refine (Qz1.calls kj83 _ _ t498 (wrap64 (t510 - 1)) t537 true _ ?side1 ?side2 A89.out).mono ?_); (case side1 => repeat ((exact (Kd.N_reads' HO_5.out).2.2))); (case side2 => exact (Kd.N_reads' HO_5.out).2.1); rintro e w93 ⟨rfl, hb⟩; have n0_ := Qa.mk (Kd.N_below (by (with_reducible repeat (fail)); exact HO_5.out) hb); have n1_ := Qa.mk (Kd.C_below (by repeat ((with_reducible exact HR536_0.out))) hb); have n2_ := Qa.mk (Qh (by repeat ((with_reducible (exact HB.out)))) hb); clear HO_5; clear HR536_0; clear HB; have HO_5 := n0_; have HR536_0 := n1_; have HB := n2_; clear n0_ n1_ n2_; (try clear hb); (try clear hb2); (try clear hk); (try clear hi)))
         repeat (go_quiet (fail); try go_wp2_with (fail))
         go_meet
         case rel => exact ⟨_, H', ⟨by (exact Nat.le_refl _)⟩, ⟨by (with_reducible repeat (fail)); exact HO_5.out⟩, ⟨by repeat ((with_reducible exact HR536_0.out))⟩, ⟨by repeat ((with_reducible (exact HB.out)))⟩⟩
        case rest => as_aux_lemma =>
         clear HC87
         obtain ⟨kq, HA, HJ86, HO_5, HR536_0, HB⟩ := hcut
         cases kq with
         | zero => exact absurd HA.out (by simp [Qb.j6])
         | succ kj86 =>
          have H := HA.out
          clear HA
          simp only [Qb.j6] at H
          by_cases c95 : t510 < (wrap64 ((t498.length : Int) * ((rd_L2 t498 0).length : Int)))
          rotate_left
          ·rw [if_neg c95] at H
           have c95b0 : decide (t510 < (wrap64 ((t498.length : Int) * ((rd_L2 t498 0).length : Int)))) = false := decide_eq_false c95
           clear c95
           have H' := Qa.mk H
           clear H
           go_wp2
           repeat (go_quiet (fail); try go_wp2)
           go_meet
           case rel => exact ⟨_, H', ⟨by (have := HJ9.out; have := HJ33.out; have := HJ83.out; have := HJ86.out; omega)⟩, ⟨by repeat ((with_reducible (exact HB.out)))⟩⟩
          rw [if_pos c95] at H
          have c95b0 : decide (t510 < (wrap64 ((t498.length : Int) * ((rd_L2 t498 0).length : Int)))) = true := decide_eq_true c95
          clear c95
          replace H := Option.bind_eq_some_iff.mp H
          obtain ⟨⟨t539, t540⟩, A960, H⟩ := H
          (try dsimp only at H)
          have A96 := Qa.mk A960
          clear A960
          by_cases c97 : t540 = true
          rotate_left
          ·replace c97 := Bool.eq_false_iff.mpr c97
           subst c97
           rw [if_neg (show ¬ (false = true) by decide)] at H
           exact absurd (hrt.symm.trans (Option.some.inj H).symm) (by decide)
          subst c97
          rw [if_pos rfl] at H
          by_cases c98 : t539 ≤ t501
          ·rw [if_pos c98] at H
           have c98b0 : decide (t539 ≤ t501) = true := decide_eq_true c98
           clear c98
           exact absurd (hrt.symm.trans (Option.some.inj H).symm) (by decide)
          rw [if_neg c98] at H
          have c98b0 : decide (t539 ≤ t501) = false := decide_eq_false c98
          clear c98
          have H' := Qa.mk H
          clear H
          go_wp2_with ((go_at_call 13; (with_reducible refine (Qz1.calls kj86 _ _ t498 t510 t539 true _ ?side1 ?side2 A96.out).mono ?_); (case side1 => repeat ((exact (Kd.N_reads' HO_5.out).2.2))); (case side2 => exact (Kd.N_reads' HO_5.out).2.1); rintro e w100 ⟨rfl, hb⟩; have n0_ := Qa.mk (Kd.N_below (by (with_reducible repeat (fail)); exact HO_5.out) hb); have n1_ := Qa.mk (Kd.C_below (by repeat ((with_reducible exact HR536_0.out))) hb); have n2_ := Qa.mk (Qh (by repeat ((with_reducible (exact HB.out)))) hb); clear HO_5; clear HR536_0; clear HB; have HO_5 := n0_; have HR536_0 := n1_; have HB := n2_; clear n0_ n1_ n2_; (try clear hb); (try clear hb2); (try clear hk); (try clear hi)))
          repeat (go_quiet (fail); try go_wp2_with (fail))
          go_meet
          case rel => exact ⟨_, H', ⟨by (have := HJ9.out; have := HJ33.out; have := HJ83.out; have := HJ86.out; omega)⟩, ⟨by repeat ((with_reducible (exact HB.out)))⟩⟩
     case rest => as_aux_lemma =>
      clear HC81
      obtain ⟨kq, HA, HJ80, HB⟩ := hcut
      cases kq with
      | zero => exact absurd HA.out (by simp [Qb.j7])
      | succ kj80 =>
       have H := HA.out
       clear HA
       simp only [Qb.j7] at H
       replace H := Option.bind_eq_some_iff.mp H
       obtain ⟨⟨t541, t544⟩, A1020, H⟩ := H
       (try dsimp only at H)
       have A102 := Qa.mk A1020
       clear A1020
       replace H := Option.bind_eq_some_iff.mp H
       obtain ⟨⟨t545, t546⟩, A1030, H⟩ := H
       (try dsimp only at H)
       have A103 := Qa.mk A1030
       clear A1030
       replace H := Option.bind_eq_some_iff.mp H
       obtain ⟨⟨t547, t548⟩, A1040, H⟩ := H
       (try dsimp only at H)
       have A104 := Qa.mk A1040
       clear A1040
       replace H := Option.bind_eq_some_iff.mp H
       obtain ⟨⟨t549, t552, t553⟩, A1050, H⟩ := H
       (try dsimp only at H)
       have A105 := Qa.mk A1050
       clear A1050
       replace H := Option.bind_eq_some_iff.mp H
       obtain ⟨⟨t554, t555⟩, A1060, H⟩ := H
       (try dsimp only at H)
       have A106 := Qa.mk A1060
       clear A1060
       replace H := Option.bind_eq_some_iff.mp H
       obtain ⟨⟨t558, t559⟩, A1070, H⟩ := H
       (try dsimp only at H)
       have A107 := Qa.mk A1070
       clear A1070
       replace H := Option.bind_eq_some_iff.mp H
       obtain ⟨⟨t562, t563⟩, A1080, H⟩ := H
       (try dsimp only at H)
       have A108 := Qa.mk A1080
       clear A1080
       replace H := Option.bind_eq_some_iff.mp H
       obtain ⟨⟨t564, t565⟩, A1090, H⟩ := H
       (try dsimp only at H)
       have A109 := Qa.mk A1090
       clear A1090
       replace H := Option.bind_eq_some_iff.mp H
       obtain ⟨⟨t566, t567⟩, A1100, H⟩ := H
       (try dsimp only at H)
       have A110 := Qa.mk A1100
       clear A1100
       replace H := Option.bind_eq_some_iff.mp H
       obtain ⟨⟨t568, t569⟩, A1110, H⟩ := H
       (try dsimp only at H)
       have A111 := Qa.mk A1110
       clear A1110
       replace H := Option.bind_eq_some_iff.mp H
       obtain ⟨⟨t570, t571⟩, A1120, H⟩ := H
       (try dsimp only at H)
       have A112 := Qa.mk A1120
       clear A1120
       replace H := Option.bind_eq_some_iff.mp H
       obtain ⟨⟨t572, t573⟩, A1130, H⟩ := H
       (try dsimp only at H)
       have A113 := Qa.mk A1130
       clear A1130
       replace H := Option.bind_eq_some_iff.mp H
       obtain ⟨⟨t574, t575⟩, A1140, H⟩ := H
       (try dsimp only at H)
       have A114 := Qa.mk A1140
       clear A1140
       replace H := Option.bind_eq_some_iff.mp H
       obtain ⟨t576, A1150, H⟩ := H
       (try dsimp only at H)
       have A115 := Qa.mk A1150
       clear A1150
       replace H := Option.bind_eq_some_iff.mp H
       obtain ⟨⟨t577, t578⟩, A1160, H⟩ := H
       (try dsimp only at H)
       have A116 := Qa.mk A1160
       clear A1160
       replace H := Option.bind_eq_some_iff.mp H
       obtain ⟨⟨t581, t582⟩, A1170, H⟩ := H
       (try dsimp only at H)
       have A117 := Qa.mk A1170
       clear A1170
       have HC118 := Qa.mk H
       clear H
       go_upto_region 57 with (first | (go_at_call 14; (with_reducible refine (Qe2.calls kj80 _ _ l1 t541 t544 _ ?side1 ?side2 A102.out).mono ?_); (case side1 => repeat ((exact (Kd.C_below HR1.out HB.out)))); (case side2 => exact HC1.out); rintro e w119 ⟨v542, rfl, ho0, hb⟩; have n0_ := Qa.mk (Kd.N_lower (Kd.N_mono (ok' := fun k_ => True) ho0 (fun k_ hk_ => trivial)) (Qq (by repeat ((with_reducible (exact HB.out)))))); have n1_ := Qa.mk (Qh (by repeat ((with_reducible (exact HB.out)))) hb); clear HB; have HO543 := n0_; have HB := n1_; clear n0_ n1_; (try clear hb); (try clear hb2); (try clear hk); (try clear hi); (try clear ho0); obtain ⟨Ao120, co120, eo120⟩ := Kd.N_slice HO543.out; subst eo120) | (go_at_call 13; (with_reducible refine (Qz1.calls kj80 _ _ t541 t544 t545 t546 _ ?side1 ?side2 A103.out).mono ?_); (case side1 => repeat ((exact (Kd.N_reads' HO543.out).2.2))); (case side2 => exact (Kd.N_reads' HO543.out).2.1); rintro e w121 ⟨rfl, hb⟩; have n0_ := Qa.mk (Kd.N_below (by (with_reducible repeat (fail)); exact HO543.out) hb); have n1_ := Qa.mk (Qh (by repeat ((with_reducible (exact HB.out)))) hb); clear HO543; clear HB; have HO543 := n0_; have HB := n1_; clear n0_ n1_; (try clear hb); (try clear hb2); (try clear hk); (try clear hi)) | (go_at_call 15; (with_reducible refine (Qp2.calls kj80 _ _ t541 t544 t547 t548 _ ?side1 ?side2 A104.out).mono ?_); (case side1 => repeat ((exact (Kd.N_reads' HO543.out).2.2))); (case side2 => exact (Kd.N_reads' HO543.out).2.1); rintro e w122 ⟨rfl, hb⟩; have n0_ := Qa.mk (Kd.N_below (by (with_reducible repeat (fail)); exact HO543.out) hb); have n1_ := Qa.mk (Qh (by repeat ((with_reducible (exact HB.out)))) hb); clear HO543; clear HB; have HO543 := n0_; have HB := n1_; clear n0_ n1_; (try clear hb); (try clear hb2); (try clear hk); (try clear hi)) | (go_at_call 16; (with_reducible refine (Qa2.calls kj80 _ _ l1 t549 t552 t553 _ ?side1 ?side2 A105.out).mono ?_); (case side1 => repeat ((exact (Kd.C_below HR1.out HB.out)))); (case side2 => exact HC1.out); rintro e w123 ⟨v550, rfl, ho0, hb⟩; have n0_ := Qa.mk (Kd.N_elder' (by (with_reducible repeat (fail)); exact HO543.out) (by (exact Kd.N_base ho0)) hb); have n1_ := Qa.mk (Kd.N_lower (Kd.N_mono (ok' := fun k_ => some k_ ≠ (.slice Ao120 t541.length co120 : Value).ownBlock) ho0 (fun k_ hk_ => (Kd.fresh' (Kd.N_lt (by (with_reducible repeat (fail)); exact HO543.out)) k_ hk_))) (Qq (by repeat ((with_reducible (exact HB.out)))))); have n2_ := Qa.mk (Qh (by repeat ((with_reducible (exact HB.out)))) hb); clear HO543; clear HB; have HO543 := n0_; have HO551 := n1_; have HB := n2_; clear n0_ n1_ n2_; (try clear hb); (try clear hb2); (try clear hk); (try clear hi); (try clear ho0); obtain ⟨Ao124, co124, eo124⟩ := Kd.N_slice HO551.out; subst eo124) | (go_at_call 17; (with_reducible refine (Qt1.calls kj80 _ _ t549 t552 t553 t554 t555 _ ?side1 ?side2 A106.out).mono ?_); (case side1 => repeat ((exact (Kd.N_reads' HO551.out).2.2))); (case side2 => exact (Kd.N_reads' HO551.out).2.1); rintro e w125 ⟨v556, rfl, ho0, hb⟩; have n0_ := Qa.mk (Kd.N_elder' (by (with_reducible repeat (fail)); exact HO543.out) (by (exact Kd.S_base ho0)) hb); have n1_ := Qa.mk (Kd.N_elder' (by (with_reducible repeat (fail)); exact HO551.out) (by (exact Kd.S_base ho0)) hb); have n2_ := Qa.mk (Kd.N_lower (Kd.N_mono (ok' := fun k_ => some k_ ≠ (.slice Ao120 t541.length co120 : Value).ownBlock ∧ some k_ ≠ (.slice Ao124 t549.length co124 : Value).ownBlock) (Kd.S_N (Kd.S_bound ho0)) (fun k_ hk_ => ⟨(Kd.fresh' (Kd.N_lt (by (with_reducible repeat (fail)); exact HO543.out)) k_ hk_.2.1), (Kd.fresh' (Kd.N_lt (by (with_reducible repeat (fail)); exact HO551.out)) k_ hk_.2.1)⟩)) (Qq (by repeat ((with_reducible (exact HB.out)))))); have n3_ := Qa.mk (Qh (by repeat ((with_reducible (exact HB.out)))) hb); clear HO543; clear HO551; clear HB; have HO543 := n0_; have HO551 := n1_; have HO557 := n2_; have HB := n3_; clear n0_ n1_ n2_ n3_; (try clear hb); (try clear hb2); (try clear hk); (try clear hi); (try clear ho0)) | (go_at_call 18; (with_reducible refine (Qj.calls kj80 _ _ t549 t552 t553 t558 t559 _ ?side1 ?side2 A107.out).mono ?_); (case side1 => repeat ((exact (Kd.N_reads' HO551.out).2.2))); (case side2 => exact (Kd.N_reads' HO551.out).2.1); rintro e w126 ⟨v560, rfl, ho0, hb⟩; have n0_ := Qa.mk (Kd.N_elder' (by (with_reducible repeat (fail)); exact HO543.out) (by (exact Kd.S_base ho0)) hb); have n1_ := Qa.mk (Kd.N_elder' (by (with_reducible repeat (fail)); exact HO551.out) (by (exact Kd.S_base ho0)) hb); have n2_ := Qa.mk (Kd.N_elder' (by (with_reducible repeat (fail)); exact HO557.out) (by (exact Kd.S_base ho0)) hb); have n3_ := Qa.mk (Kd.N_lower (Kd.N_mono (ok' := fun k_ => some k_ ≠ (.slice Ao120 t541.length co120 : Value).ownBlock ∧ some k_ ≠ (.slice Ao124 t549.length co124 : Value).ownBlock ∧ some k_ ≠ (v556 : Value).ownBlock) (Kd.S_N (Kd.S_bound ho0)) (fun k_ hk_ => ⟨(Kd.fresh' (Kd.N_lt (by (with_reducible repeat (fail)); exact HO543.out)) k_ hk_.2.1), (Kd.fresh' (Kd.N_lt (by (with_reducible repeat (fail)); exact HO551.out)) k_ hk_.2.1), (Kd.fresh' (Kd.N_lt (by (with_reducible repeat (fail)); exact HO557.out)) k_ hk_.2.1)⟩)) (Qq (by repeat ((with_reducible (exact HB.out)))))); have n4_ := Qa.mk (Qh (by repeat ((with_reducible (exact HB.out)))) hb); clear HO543; clear HO551; clear HO557; clear HB; have HO543 := n0_; have HO551 := n1_; have HO557 := n2_; have HO561 := n3_; have HB := n4_; clear n0_ n1_ n2_ n3_ n4_; (try clear hb); (try clear hb2); (try clear hk); (try clear hi); (try clear ho0)) | (go_at_call 19; (with_reducible refine (Qs1.calls _ _ l1 t562 t563 _ ?side1 ?side2 A108.out).mono ?_); (case side1 => repeat ((exact (Kd.C_below HR1.out HB.out)))); (case side2 => exact HC1.out); rintro e w127 ⟨rfl, hb⟩; have n0_ := Qa.mk (Kd.N_below (by (with_reducible repeat (fail)); exact HO543.out) hb); have n1_ := Qa.mk (Kd.N_below (by (with_reducible repeat (fail)); exact HO551.out) hb); have n2_ := Qa.mk (Kd.N_below (by (with_reducible repeat (fail)); exact HO557.out) hb); have n3_ := Qa.mk (Kd.N_below (by (with_reducible repeat (fail)); exact HO561.out) hb); have n4_ := Qa.mk (Qh (by repeat ((with_reducible (exact HB.out)))) hb); clear HO543; clear HO551; clear HO557; clear HO561; clear HB; have HO543 := n0_; have HO551 := n1_; have HO557 := n2_; have HO561 := n3_; have HB := n4_; clear n0_ n1_ n2_ n3_ n4_; (try clear hb); (try clear hb2); (try clear hk); (try clear hi)) | (go_at_call 20; (with_reducible refine (Qi1.calls t562 t563 t564 t565 _ A109.out).mono ?_); rintro e w128 ⟨rfl, hb⟩; have n0_ := Qa.mk (Kd.N_below (by (with_reducible repeat (fail)); exact HO543.out) hb); have n1_ := Qa.mk (Kd.N_below (by (with_reducible repeat (fail)); exact HO551.out) hb); have n2_ := Qa.mk (Kd.N_below (by (with_reducible repeat (fail)); exact HO557.out) hb); have n3_ := Qa.mk (Kd.N_below (by (with_reducible repeat (fail)); exact HO561.out) hb); have n4_ := Qa.mk (Qh (by repeat ((with_reducible (exact HB.out)))) hb); clear HO543; clear HO551; clear HO557; clear HO561; clear HB; have HO543 := n0_; have HO551 := n1_; have HO557 := n2_; have HO561 := n3_; have HB := n4_; clear n0_ n1_ n2_ n3_ n4_; (try clear hb); (try clear hb2); (try clear hk); (try clear hi)) | (go_at_call 21; (with_reducible refine (Qc.calls kj80 t562 t563 t566 t567 _ A110.out).mono ?_); rintro e w129 ⟨rfl, hb⟩; have n0_ := Qa.mk (Kd.N_below (by (with_reducible repeat (fail)); exact HO543.out) hb); have n1_ := Qa.mk (Kd.N_below (by (with_reducible repeat (fail)); exact HO551.out) hb); have n2_ := Qa.mk (Kd.N_below (by (with_reducible repeat (fail)); exact HO557.out) hb); have n3_ := Qa.mk (Kd.N_below (by (with_reducible repeat (fail)); exact HO561.out) hb); have n4_ := Qa.mk (Qh (by repeat ((with_reducible (exact HB.out)))) hb); clear HO543; clear HO551; clear HO557; clear HO561; clear HB; have HO543 := n0_; have HO551 := n1_; have HO557 := n2_; have HO561 := n3_; have HB := n4_; clear n0_ n1_ n2_ n3_ n4_; (try clear hb); (try clear hb2); (try clear hk); (try clear hi)) | (go_at_call 22; (with_reducible refine (Ql2.calls kj80 _ _ t541 t568 t569 _ ?side1 ?side2 A111.out).mono ?_); (case side1 => repeat ((exact (Kd.N_reads' HO543.out).2.2))); (case side2 => exact (Kd.N_reads' HO543.out).2.1); rintro e w130 ⟨rfl, hb⟩; have n0_ := Qa.mk (Kd.N_below (by (with_reducible repeat (fail)); exact HO543.out) hb); have n1_ := Qa.mk (Kd.N_below (by (with_reducible repeat (fail)); exact HO551.out) hb); have n2_ := Qa.mk (Kd.N_below (by (with_reducible repeat (fail)); exact HO557.out) hb); have n3_ := Qa.mk (Kd.N_below (by (with_reducible repeat (fail)); exact HO561.out) hb); have n4_ := Qa.mk (Qh (by repeat ((with_reducible (exact HB.out)))) hb); clear HO543; clear HO551; clear HO557; clear HO561; clear HB; have HO543 := n0_; have HO551 := n1_; have HO557 := n2_; have HO561 := n3_; have HB := n4_; clear n0_ n1_ n2_ n3_ n4_; (try clear hb); (try clear hb2); (try clear hk); (try clear hi)) | (go_at_call 23; (with_reducible refine (Qm2.calls kj80 _ _ t541 t570 t571 _ ?side1 ?side2 A112.out).mono ?_); (case side1 => repeat ((exact (Kd.N_reads' HO543.out).2.2))); (case side2 => exact (Kd.N_reads' HO543.out).2.1); rintro e w131 ⟨rfl, hb⟩; have n0_ := Qa.mk (Kd.N_below (by (with_reducible repeat (fail)); exact HO543.out) hb); have n1_ := Qa.mk (Kd.N_below (by (with_reducible repeat (fail)); exact HO551.out) hb); have n2_ := Qa.mk (Kd.N_below (by (with_reducible repeat (fail)); exact HO557.out) hb); have n3_ := Qa.mk (Kd.N_below (by (with_reducible repeat (fail)); exact HO561.out) hb); have n4_ := Qa.mk (Qh (by repeat ((with_reducible (exact HB.out)))) hb); clear HO543; clear HO551; clear HO557; clear HO561; clear HB; have HO543 := n0_; have HO551 := n1_; have HO557 := n2_; have HO561 := n3_; have HB := n4_; clear n0_ n1_ n2_ n3_ n4_; (try clear hb); (try clear hb2); (try clear hk); (try clear hi)) | (go_at_call 24; (with_reducible refine (Qk2.calls kj80 _ _ t541 t572 t573 _ (tab_below HU.out (by repeat ((with_reducible (exact HB.out))))) ?side1 ?side2 A113.out).mono ?_); (case side1 => repeat ((exact (Kd.N_reads' HO543.out).2.2))); (case side2 => exact (Kd.N_reads' HO543.out).2.1); rintro e w132 ⟨rfl, hb⟩; have n0_ := Qa.mk (Kd.N_below (by (with_reducible repeat (fail)); exact HO543.out) hb); have n1_ := Qa.mk (Kd.N_below (by (with_reducible repeat (fail)); exact HO551.out) hb); have n2_ := Qa.mk (Kd.N_below (by (with_reducible repeat (fail)); exact HO557.out) hb); have n3_ := Qa.mk (Kd.N_below (by (with_reducible repeat (fail)); exact HO561.out) hb); have n4_ := Qa.mk (Qh (by repeat ((with_reducible (exact HB.out)))) hb); clear HO543; clear HO551; clear HO557; clear HO561; clear HB; have HO543 := n0_; have HO551 := n1_; have HO557 := n2_; have HO561 := n3_; have HB := n4_; clear n0_ n1_ n2_ n3_ n4_; (try clear hb); (try clear hb2); (try clear hk); (try clear hi)) | (go_at_call 25; (with_reducible refine (Qr2.calls kj80 _ _ t541 t574 t575 _ ?side1 ?side2 A114.out).mono ?_); (case side1 => repeat ((exact (Kd.N_reads' HO543.out).2.2))); (case side2 => exact (Kd.N_reads' HO543.out).2.1); rintro e w133 ⟨rfl, hb⟩; have n0_ := Qa.mk (Kd.N_below (by (with_reducible repeat (fail)); exact HO543.out) hb); have n1_ := Qa.mk (Kd.N_below (by (with_reducible repeat (fail)); exact HO551.out) hb); have n2_ := Qa.mk (Kd.N_below (by (with_reducible repeat (fail)); exact HO557.out) hb); have n3_ := Qa.mk (Kd.N_below (by (with_reducible repeat (fail)); exact HO561.out) hb); have n4_ := Qa.mk (Qh (by repeat ((with_reducible (exact HB.out)))) hb); clear HO543; clear HO551; clear HO557; clear HO561; clear HB; have HO543 := n0_; have HO551 := n1_; have HO557 := n2_; have HO561 := n3_; have HB := n4_; clear n0_ n1_ n2_ n3_ n4_; (try clear hb); (try clear hb2); (try clear hk); (try clear hi)) | (go_at_call 26; (with_reducible refine (Qb2.calls kj80 _ _ l1 t576 _ ?side1 ?side2 A115.out).mono ?_); (case side1 => repeat ((exact (Kd.C_below HR1.out HB.out)))); (case side2 => exact HC1.out); rintro e w134 ⟨rfl, hb⟩; have n0_ := Qa.mk (Kd.N_below (by (with_reducible repeat (fail)); exact HO543.out) hb); have n1_ := Qa.mk (Kd.N_below (by (with_reducible repeat (fail)); exact HO551.out) hb); have n2_ := Qa.mk (Kd.N_below (by (with_reducible repeat (fail)); exact HO557.out) hb); have n3_ := Qa.mk (Kd.N_below (by (with_reducible repeat (fail)); exact HO561.out) hb); have n4_ := Qa.mk (Qh (by repeat ((with_reducible (exact HB.out)))) hb); clear HO543; clear HO551; clear HO557; clear HO561; clear HB; have HO543 := n0_; have HO551 := n1_; have HO557 := n2_; have HO561 := n3_; have HB := n4_; clear n0_ n1_ n2_ n3_ n4_; (try clear hb); (try clear hb2); (try clear hk); (try clear hi)) | (go_at_call 27; (with_reducible refine (Qu.calls kj80 t576 t577 t578 _ (tab_below HU.out (by repeat ((with_reducible (exact HB.out))))) A116.out).mono ?_); rintro e w135 ⟨v579, rfl, ho0, hb⟩; have n0_ := Qa.mk (Kd.N_elder' (by (with_reducible repeat (fail)); exact HO543.out) (by (exact Kd.S_base ho0)) hb); have n1_ := Qa.mk (Kd.N_elder' (by (with_reducible repeat (fail)); exact HO551.out) (by (exact Kd.S_base ho0)) hb); have n2_ := Qa.mk (Kd.N_elder' (by (with_reducible repeat (fail)); exact HO557.out) (by (exact Kd.S_base ho0)) hb); have n3_ := Qa.mk (Kd.N_elder' (by (with_reducible repeat (fail)); exact HO561.out) (by (exact Kd.S_base ho0)) hb); have n4_ := Qa.mk (Kd.N_lower (Kd.N_mono (ok' := fun k_ => some k_ ≠ (.slice Ao120 t541.length co120 : Value).ownBlock ∧ some k_ ≠ (.slice Ao124 t549.length co124 : Value).ownBlock ∧ some k_ ≠ (v556 : Value).ownBlock ∧ some k_ ≠ (v560 : Value).ownBlock) (Kd.S_N (Kd.S_bound ho0)) (fun k_ hk_ => ⟨(Kd.fresh' (Kd.N_lt (by (with_reducible repeat (fail)); exact HO543.out)) k_ hk_.2.1), (Kd.fresh' (Kd.N_lt (by (with_reducible repeat (fail)); exact HO551.out)) k_ hk_.2.1), (Kd.fresh' (Kd.N_lt (by (with_reducible repeat (fail)); exact HO557.out)) k_ hk_.2.1), (Kd.fresh' (Kd.N_lt (by (with_reducible repeat (fail)); exact HO561.out)) k_ hk_.2.1)⟩)) (Qq (by repeat ((with_reducible (exact HB.out)))))); have n5_ := Qa.mk (Qh (by repeat ((with_reducible (exact HB.out)))) hb); clear HO543; clear HO551; clear HO557; clear HO561; clear HB; have HO543 := n0_; have HO551 := n1_; have HO557 := n2_; have HO561 := n3_; have HO580 := n4_; have HB := n5_; clear n0_ n1_ n2_ n3_ n4_ n5_; (try clear hb); (try clear hb2); (try clear hk); (try clear hi); (try clear ho0)) | (go_at_call 28; (with_reducible refine (Qd1.calls kj80 t576 t581 t582 _ A117.out).mono ?_); rintro e w136 ⟨v583, rfl, ho0, hb⟩; have n0_ := Qa.mk (Kd.N_elder' (by (with_reducible repeat (fail)); exact HO543.out) (by (exact Kd.S_base ho0)) hb); have n1_ := Qa.mk (Kd.N_elder' (by (with_reducible repeat (fail)); exact HO551.out) (by (exact Kd.S_base ho0)) hb); have n2_ := Qa.mk (Kd.N_elder' (by (with_reducible repeat (fail)); exact HO557.out) (by (exact Kd.S_base ho0)) hb); have n3_ := Qa.mk (Kd.N_elder' (by (with_reducible repeat (fail)); exact HO561.out) (by (exact Kd.S_base ho0)) hb); have n4_ := Qa.mk (Kd.N_elder' (by (with_reducible repeat (fail)); exact HO580.out) (by (exact Kd.S_base ho0)) hb); have n5_ := Qa.mk (Kd.N_lower (Kd.N_mono (ok' := fun k_ => some k_ ≠ (.slice Ao120 t541.length co120 : Value).ownBlock ∧ some k_ ≠ (.slice Ao124 t549.length co124 : Value).ownBlock ∧ some k_ ≠ (v556 : Value).ownBlock ∧ some k_ ≠ (v560 : Value).ownBlock ∧ some k_ ≠ (v579 : Value).ownBlock) (Kd.S_N (Kd.S_bound ho0)) (fun k_ hk_ => ⟨(Kd.fresh' (Kd.N_lt (by (with_reducible repeat (fail)); exact HO543.out)) k_ hk_.2.1), (Kd.fresh' (Kd.N_lt (by (with_reducible repeat (fail)); exact HO551.out)) k_ hk_.2.1), (Kd.fresh' (Kd.N_lt (by (with_reducible repeat (fail)); exact HO557.out)) k_ hk_.2.1), (Kd.fresh' (Kd.N_lt (by (with_reducible repeat (fail)); exact HO561.out)) k_ hk_.2.1), (Kd.fresh' (Kd.N_lt (by (with_reducible repeat (fail)); exact HO580.out)) k_ hk_.2.1)⟩)) (Qq (by repeat ((with_reducible (exact HB.out)))))); have n6_ := Qa.mk (Qh (by repeat ((with_reducible (exact HB.out)))) hb); clear HO543; clear HO551; clear HO557; clear HO561; clear HO580; clear HB; have HO543 := n0_; have HO551 := n1_; have HO557 := n2_; have HO561 := n3_; have HO580 := n4_; have HO584 := n5_; have HB := n6_; clear n0_ n1_ n2_ n3_ n4_ n5_ n6_; (try clear hb); (try clear hb2); (try clear hk); (try clear hi); (try clear ho0)))
       (try simp only [Act.put, List.setIfInBounds_toArray, List.set_cons_zero, List.set_cons_succ])
       go_cut [439] from 439 to 439 (fun v439 wc => ∃ (kq : Nat) (x439_117 : Bool), v439 = .bool x439_117 ∧ Qa (Qb.j8 kq t541 t549 t552 t553 t554 t555 t562 t563 t564 t565 t572 t573 t576 t577 t578 x439_117 = some r) ∧ Qa (kq ≤ kj80) ∧ Qa (Kd.N (Kd.slice 3 (Kd.int .i64)) 32 wc w.heap.size (fun k_ => some k_ ≠ ((.slice Ao124 t549.length co124) : Value).ownBlock ∧ some k_ ≠ (v556 : Value).ownBlock ∧ some k_ ≠ (v579 : Value).ownBlock) (.slice Ao120 t541.length co120) t541) ∧ Qa (Kd.N (Kd.slice 3 (Kd.int .i64)) 32 wc w.heap.size (fun k_ => some k_ ≠ ((.slice Ao120 t541.length co120) : Value).ownBlock ∧ some k_ ≠ (v556 : Value).ownBlock ∧ some k_ ≠ (v579 : Value).ownBlock) (.slice Ao124 t549.length co124) t549) ∧ Qa (Kd.N (Kd.slice 3 (Kd.int .i64)) 32 wc w.heap.size (fun k_ => some k_ ≠ ((.slice Ao120 t541.length co120) : Value).ownBlock ∧ some k_ ≠ ((.slice Ao124 t549.length co124) : Value).ownBlock ∧ some k_ ≠ (v579 : Value).ownBlock) v556 t554) ∧ Qa (Kd.N (Kd.slice 3 (Kd.int .i64)) 32 wc w.heap.size (fun k_ => some k_ ≠ ((.slice Ao120 t541.length co120) : Value).ownBlock ∧ some k_ ≠ ((.slice Ao124 t549.length co124) : Value).ownBlock ∧ some k_ ≠ (v556 : Value).ownBlock) v579 t577) ∧ Qa (Below w.heap.size w wc))
       case first => as_aux_lemma =>
        have H := HC118.out
        clear HC118
        by_cases c137 : (t546 != t548) = true
        ·rw [if_pos c137] at H
         have c137b0 : (t546 != t548) = true := c137
         (try (have c137b1 : decide (t546 = t548) = false := by simpa using c137))
         (try (have c137b2 : (t546 == t548) = false := by simpa using c137))
         (try (have c137b3 : ¬ (t546 = t548) := by simpa using c137))
         clear c137
         (skip)
         exact absurd (hrt.symm.trans (Qb.j8_false H)) (by decide)
        rw [if_neg c137] at H
        have c137b0 : (t546 != t548) = false := by simpa using c137
        (try (have c137b1 : decide (t546 = t548) = true := by simpa using c137))
        (try (have c137b2 : (t546 == t548) = true := by simpa using c137))
        clear c137
        (skip)
        by_cases c138 : t545 = t547
        rotate_left
        ·rw [if_neg c138] at H
         have c138b0 : (t545 == t547) = false := beq_eq_false_iff_ne.mpr c138
         have c138b1 : (t545 != t547) = true := bne_iff_ne.mpr c138
         exact absurd (hrt.symm.trans (Qb.j8_false H)) (by decide)
        rw [if_pos c138] at H
        have c138b0 : (t545 == t547) = true := beq_iff_eq.mpr c138
        have c138b1 : (t545 != t547) = false := bne_eq_false_iff_eq.mpr c138
        clear c138
        by_cases c139 : (t555 != t559) = true
        ·rw [if_pos c139] at H
         have c139b0 : (t555 != t559) = true := c139
         (try (have c139b1 : decide (t555 = t559) = false := by simpa using c139))
         (try (have c139b2 : (t555 == t559) = false := by simpa using c139))
         (try (have c139b3 : ¬ (t555 = t559) := by simpa using c139))
         clear c139
         exact absurd (hrt.symm.trans (Qb.j8_false H)) (by decide)
        rw [if_neg c139] at H
        have c139b0 : (t555 != t559) = false := by simpa using c139
        (try (have c139b1 : decide (t555 = t559) = true := by simpa using c139))
        (try (have c139b2 : (t555 == t559) = true := by simpa using c139))
        clear c139
        replace H := Option.bind_eq_some_iff.mp H
        obtain ⟨t585, A1400, H⟩ := H
        (try dsimp only at H)
        have A140 := Qa.mk A1400
        clear A1400
        by_cases c141 : t585 = true
        rotate_left
        ·replace c141 := Bool.eq_false_iff.mpr c141
         subst c141
         rw [if_neg (show ¬ (false = true) by decide)] at H
         exact absurd (hrt.symm.trans (Qb.j8_false H)) (by decide)
        subst c141
        rw [if_pos rfl] at H
        by_cases c142 : (t565 != t567) = true
        ·rw [if_pos c142] at H
         have c142b0 : (t565 != t567) = true := c142
         (try (have c142b1 : decide (t565 = t567) = false := by simpa using c142))
         (try (have c142b2 : (t565 == t567) = false := by simpa using c142))
         (try (have c142b3 : ¬ (t565 = t567) := by simpa using c142))
         clear c142
         exact absurd (hrt.symm.trans (Qb.j8_false H)) (by decide)
        rw [if_neg c142] at H
        have c142b0 : (t565 != t567) = false := by simpa using c142
        (try (have c142b1 : decide (t565 = t567) = true := by simpa using c142))
        (try (have c142b2 : (t565 == t567) = true := by simpa using c142))
        clear c142
        by_cases c145 : t564 = t566
        rotate_left
        ·rw [if_neg c145] at H
         have c145b0 : (t564 == t566) = false := beq_eq_false_iff_ne.mpr c145
         have c145b1 : (t564 != t566) = true := bne_iff_ne.mpr c145
         exact absurd (hrt.symm.trans (Qb.j8_false H)) (by decide)
        rw [if_pos c145] at H
        have c145b0 : (t564 == t566) = true := beq_iff_eq.mpr c145
        have c145b1 : (t564 != t566) = false := bne_eq_false_iff_eq.mpr c145
        clear c145
        by_cases c146 : (t569 != t571) = true
        ·rw [if_pos c146] at H
         have c146b0 : (t569 != t571) = true := c146
         (try (have c146b1 : decide (t569 = t571) = false := by simpa using c146))
         (try (have c146b2 : (t569 == t571) = false := by simpa using c146))
         (try (have c146b3 : ¬ (t569 = t571) := by simpa using c146))
         clear c146
         exact absurd (hrt.symm.trans (Qb.j8_false H)) (by decide)
        rw [if_neg c146] at H
        have c146b0 : (t569 != t571) = false := by simpa using c146
        (try (have c146b1 : decide (t569 = t571) = true := by simpa using c146))
        (try (have c146b2 : (t569 == t571) = true := by simpa using c146))
        clear c146
        by_cases c149 : t568 = t570
        rotate_left
        ·rw [if_neg c149] at H
         have c149b0 : (t568 == t570) = false := beq_eq_false_iff_ne.mpr c149
         have c149b1 : (t568 != t570) = true := bne_iff_ne.mpr c149
         exact absurd (hrt.symm.trans (Qb.j8_false H)) (by decide)
        rw [if_pos c149] at H
        have c149b0 : (t568 == t570) = true := beq_iff_eq.mpr c149
        have c149b1 : (t568 != t570) = false := bne_eq_false_iff_eq.mpr c149
        clear c149
        by_cases c150 : (t573 != t575) = true
        ·rw [if_pos c150] at H
         have c150b0 : (t573 != t575) = true := c150
         (try (have c150b1 : decide (t573 = t575) = false := by simpa using c150))
         (try (have c150b2 : (t573 == t575) = false := by simpa using c150))
         (try (have c150b3 : ¬ (t573 = t575) := by simpa using c150))
         clear c150
         exact absurd (hrt.symm.trans (Qb.j8_false H)) (by decide)
        rw [if_neg c150] at H
        have c150b0 : (t573 != t575) = false := by simpa using c150
        (try (have c150b1 : decide (t573 = t575) = true := by simpa using c150))
        (try (have c150b2 : (t573 == t575) = true := by simpa using c150))
        clear c150
        by_cases c153 : t572.toList = t574.toList
        rotate_left
        ·rw [if_neg c153] at H
         have c153b0 : (t572.toList == t574.toList) = false := beq_eq_false_iff_ne.mpr c153
         have c153b1 : (t572.toList != t574.toList) = true := bne_iff_ne.mpr c153
         exact absurd (hrt.symm.trans (Qb.j8_false H)) (by decide)
        rw [if_pos c153] at H
        have c153b0 : (t572.toList == t574.toList) = true := beq_iff_eq.mpr c153
        have c153b1 : (t572.toList != t574.toList) = false := bne_eq_false_iff_eq.mpr c153
        clear c153
        by_cases c154 : (t578 != t582) = true
        ·rw [if_pos c154] at H
         have c154b0 : (t578 != t582) = true := c154
         (try (have c154b1 : decide (t578 = t582) = false := by simpa using c154))
         (try (have c154b2 : (t578 == t582) = false := by simpa using c154))
         (try (have c154b3 : ¬ (t578 = t582) := by simpa using c154))
         clear c154
         exact absurd (hrt.symm.trans (Qb.j8_false H)) (by decide)
        rw [if_neg c154] at H
        have c154b0 : (t578 != t582) = false := by simpa using c154
        (try (have c154b1 : decide (t578 = t582) = true := by simpa using c154))
        (try (have c154b2 : (t578 == t582) = true := by simpa using c154))
        clear c154
        replace H := Option.bind_eq_some_iff.mp H
        obtain ⟨t586, A1570, H⟩ := H
        (try dsimp only at H)
        have A157 := Qa.mk A1570
        clear A1570
        by_cases c158 : t586 = true
        rotate_left
        ·replace c158 := Bool.eq_false_iff.mpr c158
         subst c158
         rw [if_neg (show ¬ (false = true) by decide)] at H
         exact absurd (hrt.symm.trans (Qb.j8_false H)) (by decide)
        subst c158
        rw [if_pos rfl] at H
        replace H := Option.bind_eq_some_iff.mp H
        obtain ⟨t587, A1590, H⟩ := H
        (try dsimp only at H)
        have A159 := Qa.mk A1590
        clear A1590
        by_cases c160 : (t573 != t587) = true
        ·rw [if_pos c160] at H
         have c160b0 : (t573 != t587) = true := c160
         (try (have c160b1 : decide (t573 = t587) = false := by simpa using c160))
         (try (have c160b2 : (t573 == t587) = false := by simpa using c160))
         (try (have c160b3 : ¬ (t573 = t587) := by simpa using c160))
         clear c160
         exact absurd (hrt.symm.trans (Qb.j8_false H)) (by decide)
        rw [if_neg c160] at H
        have c160b0 : (t573 != t587) = false := by simpa using c160
        (try (have c160b1 : decide (t573 = t587) = true := by simpa using c160))
        (try (have c160b2 : (t573 == t587) = true := by simpa using c160))
        clear c160
        cases cq_ : (t569 != t573) with
        | true =>
         rw [cq_] at H
         exact absurd (hrt.symm.trans (Qb.j8_false H)) (by decide)
        | false =>
         rw [cq_] at H
         (try (have cq1_ : decide (t569 = t573) = true := by simpa using cq_))
         (try (have cq2_ : (t569 == t573) = true := by simpa using cq_))
         have H' := Qa.mk H
         clear H
         obtain ⟨Ao166, co166, eo166⟩ := Kd.N_slice HO557.out
         subst eo166
         obtain ⟨Ao167, co167, eo167⟩ := Kd.N_slice HO561.out
         subst eo167
         go_wp2_with (first | (go_at_call 10; (with_reducible refine (Qr1.calls kj80 _ _ t554 _ _ t558 true _ ?side1 ?side2 ?side3 ?side4 A140.out).mono ?_); (case side1 => repeat ((exact (Kd.N_reads' HO557.out).2.2))); (case side2 => exact (Kd.N_reads' HO557.out).2.1); (case side3 => repeat ((exact (Kd.N_reads' HO561.out).2.2))); (case side4 => exact (Kd.N_reads' HO561.out).2.1); rintro e w' ⟨rfl, ⟨nd, rfl⟩⟩; (try fail); obtain ⟨Ao168, co168, eo168⟩ := Kd.N_slice HO580.out; subst eo168; obtain ⟨Ao169, co169, eo169⟩ := Kd.N_slice HO584.out; subst eo169) | (go_at_call 10; (with_reducible refine (Qr1.calls kj80 _ _ t577 _ _ t581 true _ ?side1 ?side2 ?side3 ?side4 A157.out).mono ?_); (case side1 => repeat ((exact (Kd.N_reads' HO580.out).2.2))); (case side2 => exact (Kd.N_reads' HO580.out).2.1); (case side3 => repeat ((exact (Kd.N_reads' HO584.out).2.2))); (case side4 => exact (Kd.N_reads' HO584.out).2.1); rintro e w' ⟨rfl, ⟨nd, rfl⟩⟩; (try fail)) | (go_at_call 29; (with_reducible refine (Qs2.calls _ _ t541 t587 _ ?side1 ?side2 A159.out).mono ?_); (case side1 => repeat ((exact (Kd.N_reads' HO543.out).2.2))); (case side2 => exact (Kd.N_reads' HO543.out).2.1); rintro e w170 ⟨rfl, hb⟩; have n0_ := Qa.mk (Kd.N_below (by (with_reducible repeat ((apply Kd.N_drewN))); exact HO543.out) hb); have n1_ := Qa.mk (Kd.N_below (by (with_reducible repeat ((apply Kd.N_drewN))); exact HO551.out) hb); have n2_ := Qa.mk (Kd.N_below (by (with_reducible repeat ((apply Kd.N_drewN))); exact HO557.out) hb); have n3_ := Qa.mk (Kd.N_below (by (with_reducible repeat ((apply Kd.N_drewN))); exact HO561.out) hb); have n4_ := Qa.mk (Kd.N_below (by (with_reducible repeat ((apply Kd.N_drewN))); exact HO580.out) hb); have n5_ := Qa.mk (Kd.N_below (by (with_reducible repeat ((apply Kd.N_drewN))); exact HO584.out) hb); have n6_ := Qa.mk (Qh (by repeat ((with_reducible first | exact HB.out | apply Qi))) hb); clear HO543; clear HO551; clear HO557; clear HO561; clear HO580; clear HO584; clear HB; have HO543 := n0_; have HO551 := n1_; have HO557 := n2_; have HO561 := n3_; have HO580 := n4_; have HO584 := n5_; have HB := n6_; clear n0_ n1_ n2_ n3_ n4_ n5_ n6_; (try clear hb); (try clear hb2); (try clear hk); (try clear hi)))
         repeat (go_quiet (fail); try go_wp2_with (fail))
         go_meet
         case rel => exact ⟨_, (false), (by rfl), H', ⟨by (exact Nat.le_refl _)⟩, ⟨by (with_reducible repeat (fail)); exact Kd.N_mono HO543.out (fun _ hk => ⟨hk.1.1.1.1.2, ⟨hk.1.1.1.2, hk.1.2⟩⟩)⟩, ⟨by (with_reducible repeat (fail)); exact Kd.N_mono HO551.out (fun _ hk => ⟨hk.1.1.1.1, ⟨hk.1.1.1.2, hk.1.2⟩⟩)⟩, ⟨by (with_reducible repeat (fail)); exact Kd.N_mono HO557.out (fun _ hk => ⟨hk.1.1.1.1, ⟨hk.1.1.1.2, hk.1.2⟩⟩)⟩, ⟨by (with_reducible repeat (fail)); exact Kd.N_mono HO580.out (fun _ hk => ⟨hk.1.1, ⟨hk.1.2.1, hk.1.2.2.1⟩⟩)⟩, ⟨by repeat ((with_reducible (exact HB.out)))⟩⟩
       case rest => as_aux_lemma =>
        clear HC118
        obtain ⟨kq, x439_117, rfl, HA, HJ117, HO_29, HO_35, HO_38, HO_57, HB⟩ := hcut
        cases kq with
        | zero => exact absurd HA.out (by simp [Qb.j8])
        | succ kj117 =>
         have H := HA.out
         clear HA
         simp only [Qb.j8] at H
         by_cases c183 : x439_117 = true
         ·subst c183
          rw [if_pos rfl] at H
          exact absurd (hrt.symm.trans (Option.some.inj H).symm) (by decide)
         replace c183 := Bool.eq_false_iff.mpr c183
         subst c183
         rw [if_neg (show ¬ (false = true) by decide)] at H
         have HC184 := Qa.mk H
         clear H
         go_upto_if 440 with (fail)
         repeat (go_quiet (fail); go_upto_if 440 with (fail))
         go_cut [] from 440 to 440 (fun wc => ∃ (kq : Nat), Qa (Qb.j9 kq t541 t562 t563 t564 t565 t572 t573 t576 t577 t578 = some r) ∧ Qa (kq ≤ kj117) ∧ Qa (Kd.N (Kd.slice 3 (Kd.int .i64)) 32 wc w.heap.size (fun k_ => some k_ ≠ (v579 : Value).ownBlock) (.slice Ao120 t541.length co120) t541) ∧ Qa (Kd.N (Kd.slice 3 (Kd.int .i64)) 32 wc w.heap.size (fun k_ => some k_ ≠ ((.slice Ao120 t541.length co120) : Value).ownBlock) v579 t577) ∧ Qa (Below w.heap.size w wc))
         case first => as_aux_lemma =>
          have H := HC184.out
          clear HC184
          by_cases c185 : t555 = true
          rotate_left
          ·replace c185 := Bool.eq_false_iff.mpr c185
           subst c185
           rw [if_neg (show ¬ (false = true) by decide)] at H
           have H' := Qa.mk H
           clear H
           go_wp2
           repeat (go_quiet (fail); try go_wp2)
           go_meet
           case rel => exact ⟨_, H', ⟨by (exact Nat.le_refl _)⟩, ⟨by (with_reducible repeat (fail)); exact Kd.N_mono HO_29.out (fun _ hk => hk.2.2)⟩, ⟨by (with_reducible repeat (fail)); exact Kd.N_mono HO_57.out (fun _ hk => hk.1)⟩, ⟨by repeat ((with_reducible (exact HB.out)))⟩⟩
          subst c185
          rw [if_pos rfl] at H
          replace H := Option.bind_eq_some_iff.mp H
          obtain ⟨⟨t588, t589⟩, A1860, H⟩ := H
          (try dsimp only at H)
          have A186 := Qa.mk A1860
          clear A1860
          by_cases c187 : t589 = true
          rotate_left
          ·replace c187 := Bool.eq_false_iff.mpr c187
           subst c187
           rw [if_neg (show ¬ (false = true) by decide)] at H
           exact absurd (hrt.symm.trans (Option.some.inj H).symm) (by decide)
          subst c187
          rw [if_pos rfl] at H
          replace H := Option.bind_eq_some_iff.mp H
          obtain ⟨t592, A1880, H⟩ := H
          (try dsimp only at H)
          have A188 := Qa.mk A1880
          clear A1880
          by_cases c189 : t592 = true
          rotate_left
          ·replace c189 := Bool.eq_false_iff.mpr c189
           subst c189
           rw [if_neg (show ¬ (false = true) by decide)] at H
           exact absurd (hrt.symm.trans (Option.some.inj H).symm) (by decide)
          subst c189
          rw [if_pos rfl] at H
          by_cases c190 : 0 ≤ t552
          rotate_left
          ·rw [if_neg c190] at H
           exact absurd H (by simp)
          rw [if_pos c190] at H
          have c190b0 : decide (0 ≤ t552) = true := decide_eq_true c190
          clear c190
          (skip)
          by_cases c191 : t552 < (t554.length : Int)
          rotate_left
          ·rw [if_neg c191] at H
           exact absurd H (by simp)
          rw [if_pos c191] at H
          have c191b0 : decide (t552 < (t554.length : Int)) = true := decide_eq_true c191
          clear c191
          by_cases c192 : 0 ≤ t553
          rotate_left
          ·rw [if_neg c192] at H
           exact absurd H (by simp)
          rw [if_pos c192] at H
          have c192b0 : decide (0 ≤ t553) = true := decide_eq_true c192
          clear c192
          by_cases c193 : t553 < (t549.length : Int)
          rotate_left
          ·rw [if_neg c193] at H
           exact absurd H (by simp)
          rw [if_pos c193] at H
          have c193b0 : decide (t553 < (t549.length : Int)) = true := decide_eq_true c193
          clear c193
          replace H := Option.bind_eq_some_iff.mp H
          obtain ⟨t595, A1940, H⟩ := H
          (try dsimp only at H)
          have A194 := Qa.mk A1940
          clear A1940
          by_cases c195 : t595 = true
          rotate_left
          ·replace c195 := Bool.eq_false_iff.mpr c195
           subst c195
           rw [if_neg (show ¬ (false = true) by decide)] at H
           exact absurd (hrt.symm.trans (Option.some.inj H).symm) (by decide)
          subst c195
          rw [if_pos rfl] at H
          have H' := Qa.mk H
          clear H
          obtain ⟨Ao196, co196, eo196⟩ := Kd.N_slice HO_38.out
          subst eo196
          go_wp2_with ((go_at_call 17; (with_reducible refine (Qt1.calls kj117 _ _ t554 t552 t553 t588 true _ ?side1 ?side2 A186.out).mono ?_); (case side1 => repeat ((exact (Kd.N_reads' HO_38.out).2.2))); (case side2 => exact (Kd.N_reads' HO_38.out).2.1); rintro e w197 ⟨v590, rfl, ho0, hb⟩; have n0_ := Qa.mk (Kd.N_elder' (by (with_reducible repeat (fail)); exact HO_29.out) (by (exact Kd.S_base ho0)) hb); have n1_ := Qa.mk (Kd.N_elder' (by (with_reducible repeat (fail)); exact HO_35.out) (by (exact Kd.S_base ho0)) hb); have n2_ := Qa.mk (Kd.N_elder' (by (with_reducible repeat (fail)); exact HO_38.out) (by (exact Kd.S_base ho0)) hb); have n3_ := Qa.mk (Kd.N_elder' (by (with_reducible repeat (fail)); exact HO_57.out) (by (exact Kd.S_base ho0)) hb); have n4_ := Qa.mk (Kd.N_lower (Kd.N_mono (ok' := fun k_ => some k_ ≠ (.slice Ao120 t541.length co120 : Value).ownBlock ∧ some k_ ≠ (.slice Ao124 t549.length co124 : Value).ownBlock ∧ some k_ ≠ (.slice Ao196 t554.length co196 : Value).ownBlock ∧ some k_ ≠ (v579 : Value).ownBlock) (Kd.S_N (Kd.S_bound ho0)) (fun k_ hk_ => ⟨(Kd.fresh' (Kd.N_lt (by (with_reducible repeat (fail)); exact HO_29.out)) k_ hk_.2.1), (Kd.fresh' (Kd.N_lt (by (with_reducible repeat (fail)); exact HO_35.out)) k_ hk_.2.1), (Kd.fresh' (Kd.N_lt (by (with_reducible repeat (fail)); exact HO_38.out)) k_ hk_.2.1), (Kd.fresh' (Kd.N_lt (by (with_reducible repeat (fail)); exact HO_57.out)) k_ hk_.2.1)⟩)) (Qq (by repeat ((with_reducible (exact HB.out)))))); have n5_ := Qa.mk (Qh (by repeat ((with_reducible (exact HB.out)))) hb); clear HO_29; clear HO_35; clear HO_38; clear HO_57; clear HB; have HO_29 := n0_; have HO_35 := n1_; have HO_38 := n2_; have HO_57 := n3_; have HO591 := n4_; have HB := n5_; clear n0_ n1_ n2_ n3_ n4_ n5_; (try clear hb); (try clear hb2); (try clear hk); (try clear hi); (try clear ho0); obtain ⟨Ao198, co198, eo198⟩ := Kd.N_slice HO591.out; subst eo198))
          repeat (go_quiet (first | (go_at_call 10; (with_reducible refine (Qr1.calls kj117 _ _ t588 _ _ t549 true _ ?side1 ?side2 ?side3 ?side4 A188.out).mono ?_); (case side1 => repeat ((exact (Kd.N_reads' HO591.out).2.2))); (case side2 => exact (Kd.N_reads' HO591.out).2.1); (case side3 => repeat ((exact (Kd.N_reads' HO_35.out).2.2))); (case side4 => exact (Kd.N_reads' HO_35.out).2.1); rintro e w' ⟨rfl, ⟨nd, rfl⟩⟩; (try (exact ⟨rfl, _, World.drewN_drewN _ _ _⟩)); have p593 : 0 ≤ (t552 : Int) := of_decide_eq_true (by (with_reducible assumption)); have q593 : t552 < (t554.length : Int) := of_decide_eq_true (by (with_reducible assumption)); obtain ⟨ad593, A593_0, c593_0, e593, hx593_0, hl593_0, hi593_0⟩ := at_L2 (Kd.N_reads' HO_38.out).2.2 t552 p593 q593; cases e593; obtain ⟨ce593, hce593, hMe593, hcc593⟩ := Kd.N_get HO_38.out [] t552 p593 (by (exact q593)); obtain ⟨ua593_0, uc593_0, rfl, ul593_0, ge593_0⟩ := Kd.FK_slice_open hMe593; have hv593_0 := hcc593 0 _ rfl; rw [Nat.add_zero, show ((Kd.slice 3 (Kd.int .i64))).sz = 1 from rfl, Nat.mul_one] at hv593_0; replace hv593_0 := Option.some.inj (hv593_0.symm.trans hx593_0); injection hv593_0 with hva_ hvn_ hvc_; rw [hva_] at ge593_0; rw [hvc_] at ul593_0; have HL593_0 := Qa.mk (show Kd.V (Kd.int .i64) 3 _ w.heap.size _ _ (rd_L2 t554 t552) from Kd.V_mk ul593_0 ge593_0); clear hva_ hvn_ hvc_ ge593_0 ul593_0; clear hcc593 hce593; have HR593_0 := Qa.mk hi593_0; have HC593_0 := Qa.mk hl593_0; clear hi593_0 hl593_0; replace p593 := eq_true p593; replace q593 := eq_true q593; have p594 : 0 ≤ (t553 : Int) := of_decide_eq_true (by (with_reducible assumption)); have q594 : t553 < (t549.length : Int) := of_decide_eq_true (by (with_reducible assumption)); obtain ⟨ad594, A594_0, c594_0, e594, hx594_0, hl594_0, hi594_0⟩ := at_L2 (Kd.N_reads' HO_35.out).2.2 t553 p594 q594; cases e594; obtain ⟨ce594, hce594, hMe594, hcc594⟩ := Kd.N_get HO_35.out [] t553 p594 (by (exact q594)); obtain ⟨ua594_0, uc594_0, rfl, ul594_0, ge594_0⟩ := Kd.FK_slice_open hMe594; have hv594_0 := hcc594 0 _ rfl; rw [Nat.add_zero, show ((Kd.slice 3 (Kd.int .i64))).sz = 1 from rfl, Nat.mul_one] at hv594_0; replace hv594_0 := Option.some.inj (hv594_0.symm.trans hx594_0); injection hv594_0 with hva_ hvn_ hvc_; rw [hva_] at ge594_0; rw [hvc_] at ul594_0; have HL594_0 := Qa.mk (show Kd.V (Kd.int .i64) 3 _ w.heap.size _ _ (rd_L2 t549 t553) from Kd.V_mk ul594_0 ge594_0); clear hva_ hvn_ hvc_ ge594_0 ul594_0; clear hcc594 hce594; have HR594_0 := Qa.mk hi594_0; have HC594_0 := Qa.mk hl594_0; clear hi594_0 hl594_0; replace p594 := eq_true p594; replace q594 := eq_true q594) | (go_at_call 11; (with_reducible refine (Qf2.calls kj117 _ _ (rd_L2 t554 t552) _ _ (rd_L2 t549 t553) true _ ?side1 ?side2 ?side3 ?side4 A194.out).mono ?_); (case side1 => repeat ((exact (by repeat (first | (with_reducible exact HR593_0.out) | (with_reducible refine Kd.C_drewN ?_ _)))))); (case side2 => exact HC593_0.out); (case side3 => repeat ((exact (by repeat (first | (with_reducible exact HR594_0.out) | (with_reducible refine Kd.C_drewN ?_ _)))))); (case side4 => exact HC594_0.out); rintro e w' ⟨rfl, ⟨nd, rfl⟩⟩; (try (exact ⟨rfl, _, World.drewN_drewN _ _ _⟩)))); try go_wp2_with (fail))
          go_meet
          case rel => exact ⟨_, H', ⟨by (exact Nat.le_refl _)⟩, ⟨by (with_reducible repeat ((apply Kd.N_drewN))); exact Kd.N_mono HO_29.out (fun _ hk => hk.1.2.2)⟩, ⟨by (with_reducible repeat ((apply Kd.N_drewN))); exact Kd.N_mono HO_57.out (fun _ hk => hk.1.1)⟩, ⟨by repeat ((with_reducible first | exact HB.out | apply Qi))⟩⟩
         case rest => as_aux_lemma =>
          clear HC184
          obtain ⟨kq, HA, HJ183, HO_29, HO_57, HB⟩ := hcut
          cases kq with
          | zero => exact absurd HA.out (by simp [Qb.j9])
          | succ kj183 =>
           have H := HA.out
           clear HA
           simp only [Qb.j9] at H
           have HC207 := Qa.mk H
           clear H
           go_upto_if 468 with (fail)
           repeat (go_quiet (fail); go_upto_if 468 with (fail))
           go_cut [] from 468 to 468 (fun wc => ∃ (kq : Nat), Qa (Qb.j11 kq t541 t572 t573 t576 t577 t578 = some r) ∧ Qa (kq ≤ kj183) ∧ Qa (Kd.N (Kd.slice 3 (Kd.int .i64)) 32 wc w.heap.size (fun k_ => some k_ ≠ (v579 : Value).ownBlock) (.slice Ao120 t541.length co120) t541) ∧ Qa (Kd.N (Kd.slice 3 (Kd.int .i64)) 32 wc w.heap.size (fun k_ => some k_ ≠ ((.slice Ao120 t541.length co120) : Value).ownBlock) v579 t577) ∧ Qa (Below w.heap.size w wc))
           case first => as_aux_lemma =>
            have H := HC207.out
            clear HC207
            by_cases c208 : t565 = true
            rotate_left
            ·replace c208 := Bool.eq_false_iff.mpr c208
             subst c208
             rw [if_neg (show ¬ (false = true) by decide)] at H
             have H' := Qa.mk H
             clear H
             go_wp2
             repeat (go_quiet (fail); try go_wp2)
             go_meet
             case rel => exact ⟨_, H', ⟨by (exact Nat.le_refl _)⟩, ⟨by (with_reducible repeat (fail)); exact HO_29.out⟩, ⟨by (with_reducible repeat (fail)); exact HO_57.out⟩, ⟨by repeat ((with_reducible (exact HB.out)))⟩⟩
            subst c208
            rw [if_pos rfl] at H
            have HC209 := Qa.mk H
            clear H
            go_upto_region 64 with (fail)
            repeat (go_quiet (fail); go_upto_region 64 with (fail))
            go_cut [481] from 481 to 481 (fun v481 wc => ∃ (kq : Nat) (x481_208 : Bool), v481 = .bool x481_208 ∧ Qa (Qb.j10 kq t541 t562 t563 t564 t572 t573 t576 t577 t578 x481_208 = some r) ∧ Qa (kq ≤ kj183) ∧ Qa (Kd.N (Kd.slice 3 (Kd.int .i64)) 32 wc w.heap.size (fun k_ => some k_ ≠ (v579 : Value).ownBlock) (.slice Ao120 t541.length co120) t541) ∧ Qa (Kd.N (Kd.slice 3 (Kd.int .i64)) 32 wc w.heap.size (fun k_ => some k_ ≠ ((.slice Ao120 t541.length co120) : Value).ownBlock) v579 t577) ∧ Qa (Below w.heap.size w wc))
            case first => as_aux_lemma =>
             have H := HC209.out
             clear HC209
             by_cases c210 : t564 < 1
             ·rw [if_pos c210] at H
              have c210b0 : decide (t564 < 1) = true := decide_eq_true c210
              clear c210
              (skip)
              exact absurd (hrt.symm.trans (Qb.j10_false H)) (by decide)
             rw [if_neg c210] at H
             have c210b0 : decide (t564 < 1) = false := decide_eq_false c210
             clear c210
             (skip)
             by_cases c211 : t562 = 1
             rotate_left
             ·rw [if_neg c211] at H
              have c211b0 : (t562 == 1) = false := beq_eq_false_iff_ne.mpr c211
              have c211b1 : (t562 != 1) = true := bne_iff_ne.mpr c211
              have H' := Qa.mk H
              clear H
              go_wp2
              repeat (go_quiet (fail); try go_wp2)
              go_meet
              case rel => exact ⟨_, (((t563 == 1) != (t564 == 1))), (by rfl), H', ⟨by (exact Nat.le_refl _)⟩, ⟨by (with_reducible repeat (fail)); exact HO_29.out⟩, ⟨by (with_reducible repeat (fail)); exact HO_57.out⟩, ⟨by repeat ((with_reducible (exact HB.out)))⟩⟩
             rw [if_pos c211] at H
             have c211b0 : (t562 == 1) = true := beq_iff_eq.mpr c211
             have c211b1 : (t562 != 1) = false := bne_eq_false_iff_eq.mpr c211
             clear c211
             have H' := Qa.mk H
             clear H
             go_wp2
             repeat (go_quiet (fail); try go_wp2)
             go_meet
             case rel => exact ⟨_, ((true != (t564 == 1))), (by (simp; done)), H', ⟨by (exact Nat.le_refl _)⟩, ⟨by (with_reducible repeat (fail)); exact HO_29.out⟩, ⟨by (with_reducible repeat (fail)); exact HO_57.out⟩, ⟨by repeat ((with_reducible (exact HB.out)))⟩⟩
            case rest => as_aux_lemma =>
             clear HC209
             obtain ⟨kq, x481_208, rfl, HA, HJ208, HO_29, HO_57, HB⟩ := hcut
             cases kq with
             | zero => exact absurd HA.out (by simp [Qb.j10])
             | succ kj208 =>
              have H := HA.out
              clear HA
              simp only [Qb.j10] at H
              by_cases c212 : x481_208 = true
              ·subst c212
               rw [if_pos rfl] at H
               exact absurd (hrt.symm.trans (Option.some.inj H).symm) (by decide)
              replace c212 := Bool.eq_false_iff.mpr c212
              subst c212
              rw [if_neg (show ¬ (false = true) by decide)] at H
              by_cases c213 : t563 ≤ 4
              rotate_left
              ·rw [if_neg c213] at H
               have c213b0 : decide (t563 ≤ 4) = false := decide_eq_false c213
               clear c213
               have H' := Qa.mk H
               clear H
               go_wp2
               repeat (go_quiet (fail); try go_wp2)
               go_meet
               case rel => exact ⟨_, H', ⟨by (have := HJ9.out; have := HJ33.out; have := HJ80.out; have := HJ117.out; have := HJ183.out; have := HJ208.out; omega)⟩, ⟨by (with_reducible repeat (fail)); exact HO_29.out⟩, ⟨by (with_reducible repeat (fail)); exact HO_57.out⟩, ⟨by repeat ((with_reducible (exact HB.out)))⟩⟩
              rw [if_pos c213] at H
              have c213b0 : decide (t563 ≤ 4) = true := decide_eq_true c213
              clear c213
              replace H := Option.bind_eq_some_iff.mp H
              obtain ⟨⟨t596, t597⟩, A2140, H⟩ := H
              (try dsimp only at H)
              have A214 := Qa.mk A2140
              clear A2140
              by_cases c215 : t597 = true
              rotate_left
              ·replace c215 := Bool.eq_false_iff.mpr c215
               subst c215
               rw [if_neg (show ¬ (false = true) by decide)] at H
               exact absurd (hrt.symm.trans (Option.some.inj H).symm) (by decide)
              subst c215
              rw [if_pos rfl] at H
              by_cases c216 : t596 = t564
              rotate_left
              ·rw [if_neg c216] at H
               have c216b0 : (t596 == t564) = false := beq_eq_false_iff_ne.mpr c216
               have c216b1 : (t596 != t564) = true := bne_iff_ne.mpr c216
               exact absurd (hrt.symm.trans (Option.some.inj H).symm) (by decide)
              rw [if_pos c216] at H
              have c216b0 : (t596 == t564) = true := beq_iff_eq.mpr c216
              have c216b1 : (t596 != t564) = false := bne_eq_false_iff_eq.mpr c216
              clear c216
              have H' := Qa.mk H
              clear H
              go_wp2_with ((go_at_call 20; (with_reducible refine (Qi1.calls t563 t562 t596 true _ A214.out).mono ?_); rintro e w217 ⟨rfl, hb⟩; have n0_ := Qa.mk (Kd.N_below (by (with_reducible repeat (fail)); exact HO_29.out) hb); have n1_ := Qa.mk (Kd.N_below (by (with_reducible repeat (fail)); exact HO_57.out) hb); have n2_ := Qa.mk (Qh (by repeat ((with_reducible (exact HB.out)))) hb); clear HO_29; clear HO_57; clear HB; have HO_29 := n0_; have HO_57 := n1_; have HB := n2_; clear n0_ n1_ n2_; (try clear hb); (try clear hb2); (try clear hk); (try clear hi)))
              repeat (go_quiet (fail); try go_wp2_with (fail))
              go_meet
              case rel => exact ⟨_, H', ⟨by (have := HJ9.out; have := HJ33.out; have := HJ80.out; have := HJ117.out; have := HJ183.out; have := HJ208.out; omega)⟩, ⟨by (with_reducible repeat (fail)); exact HO_29.out⟩, ⟨by (with_reducible repeat (fail)); exact HO_57.out⟩, ⟨by repeat ((with_reducible (exact HB.out)))⟩⟩
           case rest => as_aux_lemma =>
            clear HC207
            obtain ⟨kq, HA, HJ206, HO_29, HO_57, HB⟩ := hcut
            cases kq with
            | zero => exact absurd HA.out (by simp [Qb.j11])
            | succ kj206 =>
             have H := HA.out
             clear HA
             simp only [Qb.j11] at H
             have HC220 := Qa.mk H
             clear H
             go_upto_region 70 with (fail)
             repeat (go_quiet (fail); go_upto_region 70 with (fail))
             go_cut [502] from 502 to 502 (fun v502 wc => ∃ (kq : Nat) (x502_219 : Bool), v502 = .bool x502_219 ∧ Qa (Qb.j12 kq t541 t572 t576 t577 t578 x502_219 = some r) ∧ Qa (kq ≤ kj206) ∧ Qa (Kd.N (Kd.slice 3 (Kd.int .i64)) 32 wc w.heap.size (fun k_ => some k_ ≠ (v579 : Value).ownBlock) (.slice Ao120 t541.length co120) t541) ∧ Qa (Kd.N (Kd.slice 3 (Kd.int .i64)) 32 wc w.heap.size (fun k_ => some k_ ≠ ((.slice Ao120 t541.length co120) : Value).ownBlock) v579 t577) ∧ Qa (Below w.heap.size w wc))
             case first => as_aux_lemma =>
              have H := HC220.out
              clear HC220
              by_cases c221 : t573 = true
              ·subst c221
               rw [if_pos rfl] at H
               have H' := Qa.mk H
               clear H
               go_wp2
               repeat (go_quiet (fail); try go_wp2)
               go_meet
               case rel => exact ⟨_, (decide ((t572.size : Int) ≤ 300)), (by rfl), H', ⟨by (exact Nat.le_refl _)⟩, ⟨by (with_reducible repeat (fail)); exact HO_29.out⟩, ⟨by (with_reducible repeat (fail)); exact HO_57.out⟩, ⟨by repeat ((with_reducible (exact HB.out)))⟩⟩
              replace c221 := Bool.eq_false_iff.mpr c221
              subst c221
              rw [if_neg (show ¬ (false = true) by decide)] at H
              have H' := Qa.mk H
              clear H
              go_wp2
              repeat (go_quiet (fail); try go_wp2)
              go_meet
              case rel => exact ⟨_, (false), (by rfl), H', ⟨by (exact Nat.le_refl _)⟩, ⟨by (with_reducible repeat (fail)); exact HO_29.out⟩, ⟨by (with_reducible repeat (fail)); exact HO_57.out⟩, ⟨by repeat ((with_reducible (exact HB.out)))⟩⟩
             case rest => as_aux_lemma =>
              clear HC220
              obtain ⟨kq, x502_219, rfl, HA, HJ219, HO_29, HO_57, HB⟩ := hcut
              cases kq with
              | zero => exact absurd HA.out (by simp [Qb.j12])
              | succ kj219 =>
               have H := HA.out
               clear HA
               simp only [Qb.j12] at H
               by_cases c222 : x502_219 = true
               rotate_left
               ·replace c222 := Bool.eq_false_iff.mpr c222
                subst c222
                rw [if_neg (show ¬ (false = true) by decide)] at H
                by_cases c237 : t578 = true
                rotate_left
                ·replace c237 := Bool.eq_false_iff.mpr c237
                 subst c237
                 rw [if_neg (show ¬ (false = true) by decide)] at H
                 obtain rfl := Option.some.inj H
                 clear hrt
                 go_wp2
                 repeat (go_quiet (fail); try go_wp2)
                 go_ret
                 exact ⟨by rfl, by repeat ((with_reducible (exact HB.out)))⟩
                subst c237
                rw [if_pos rfl] at H
                replace H := Option.bind_eq_some_iff.mp H
                obtain ⟨⟨t605, t606⟩, A2380, H⟩ := H
                (try dsimp only at H)
                have A238 := Qa.mk A2380
                clear A2380
                by_cases c239 : t606 = true
                rotate_left
                ·replace c239 := Bool.eq_false_iff.mpr c239
                 subst c239
                 rw [if_neg (show ¬ (false = true) by decide)] at H
                 exact absurd (hrt.symm.trans (Option.some.inj H).symm) (by decide)
                subst c239
                rw [if_pos rfl] at H
                obtain rfl := Option.some.inj H
                clear hrt
                obtain ⟨Ao240, co240, eo240⟩ := Kd.N_slice HO_57.out
                subst eo240
                go_wp2_with ((go_at_call 24; (with_reducible refine (Qk2.calls kj219 _ _ t577 t605 true _ (tab_below HU.out (by repeat ((with_reducible (exact HB.out))))) ?side1 ?side2 A238.out).mono ?_); (case side1 => repeat ((exact (Kd.N_reads' HO_57.out).2.2))); (case side2 => exact (Kd.N_reads' HO_57.out).2.1); rintro e w241 ⟨rfl, hb⟩; have n0_ := Qa.mk (Kd.N_below (by (with_reducible repeat (fail)); exact HO_29.out) hb); have n1_ := Qa.mk (Kd.N_below (by (with_reducible repeat (fail)); exact HO_57.out) hb); have n2_ := Qa.mk (Qh (by repeat ((with_reducible (exact HB.out)))) hb); clear HO_29; clear HO_57; clear HB; have HO_29 := n0_; have HO_57 := n1_; have HB := n2_; clear n0_ n1_ n2_; (try clear hb); (try clear hb2); (try clear hk); (try clear hi)))
                repeat (go_quiet (fail); try go_wp2_with (fail))
                go_ret
                exact ⟨by rfl, by repeat ((with_reducible (exact HB.out)))⟩
               subst c222
               rw [if_pos rfl] at H
               replace H := Option.bind_eq_some_iff.mp H
               obtain ⟨⟨t598, t599⟩, A2230, H⟩ := H
               (try dsimp only at H)
               have A223 := Qa.mk A2230
               clear A2230
               have HC224 := Qa.mk H
               clear H
               go_upto_region 72 with ((go_at_call 27; (with_reducible refine (Qu.calls kj219 t572 t598 t599 _ (tab_below HU.out (by repeat ((with_reducible (exact HB.out))))) A223.out).mono ?_); rintro e w225 ⟨v600, rfl, ho0, hb⟩; have n0_ := Qa.mk (Kd.N_elder' (by (with_reducible repeat (fail)); exact HO_29.out) (by (exact Kd.S_base ho0)) hb); have n1_ := Qa.mk (Kd.N_elder' (by (with_reducible repeat (fail)); exact HO_57.out) (by (exact Kd.S_base ho0)) hb); have n2_ := Qa.mk (Kd.N_lower (Kd.N_mono (ok' := fun k_ => some k_ ≠ (.slice Ao120 t541.length co120 : Value).ownBlock ∧ some k_ ≠ (v579 : Value).ownBlock) (Kd.S_N (Kd.S_bound ho0)) (fun k_ hk_ => ⟨(Kd.fresh' (Kd.N_lt (by (with_reducible repeat (fail)); exact HO_29.out)) k_ hk_.2.1), (Kd.fresh' (Kd.N_lt (by (with_reducible repeat (fail)); exact HO_57.out)) k_ hk_.2.1)⟩)) (Qq (by repeat ((with_reducible (exact HB.out)))))); have n3_ := Qa.mk (Qh (by repeat ((with_reducible (exact HB.out)))) hb); clear HO_29; clear HO_57; clear HB; have HO_29 := n0_; have HO_57 := n1_; have HO601 := n2_; have HB := n3_; clear n0_ n1_ n2_ n3_; (try clear hb); (try clear hb2); (try clear hk); (try clear hi); (try clear ho0)))
               (try simp only [Act.put, List.setIfInBounds_toArray, List.set_cons_zero, List.set_cons_succ])
               go_cut [515] from 515 to 515 (fun v515 wc => ∃ (kq : Nat) (x515_223 : Bool), v515 = .bool x515_223 ∧ Qa (Qb.j13 kq t576 t577 t578 x515_223 = some r) ∧ Qa (kq ≤ kj219) ∧ Qa (Kd.N (Kd.slice 3 (Kd.int .i64)) 32 wc w.heap.size (fun _ => True) v579 t577) ∧ Qa (Below w.heap.size w wc))
               case first => as_aux_lemma =>
                have H := HC224.out
                clear HC224
                by_cases c226 : t599 = true
                rotate_left
                ·replace c226 := Bool.eq_false_iff.mpr c226
                 subst c226
                 rw [if_neg (show ¬ (false = true) by decide)] at H
                 exact absurd (hrt.symm.trans (Qb.j13_false H)) (by decide)
                subst c226
                rw [if_pos rfl] at H
                replace H := Option.bind_eq_some_iff.mp H
                obtain ⟨t602, A2270, H⟩ := H
                (try dsimp only at H)
                have A227 := Qa.mk A2270
                clear A2270
                have H' := Qa.mk H
                clear H
                obtain ⟨Ao228, co228, eo228⟩ := Kd.N_slice HO601.out
                subst eo228
                go_wp2_with ((go_at_call 10; (with_reducible refine (Qr1.calls kj219 _ _ t598 _ _ t541 t602 _ ?side1 ?side2 ?side3 ?side4 A227.out).mono ?_); (case side1 => repeat ((exact (Kd.N_reads' HO601.out).2.2))); (case side2 => exact (Kd.N_reads' HO601.out).2.1); (case side3 => repeat ((exact (Kd.N_reads' HO_29.out).2.2))); (case side4 => exact (Kd.N_reads' HO_29.out).2.1); rintro e w' ⟨rfl, ⟨nd, rfl⟩⟩; (try fail)))
                repeat (go_quiet (fail); try go_wp2_with (fail))
                go_meet
                case rel => exact ⟨_, (!t602), (by rfl), H', ⟨by (exact Nat.le_refl _)⟩, ⟨by (with_reducible repeat ((apply Kd.N_drewN))); exact Kd.N_mono HO_57.out (fun _ hk => trivial)⟩, ⟨by repeat ((with_reducible first | exact HB.out | apply Qi))⟩⟩
               case rest => as_aux_lemma =>
                clear HC224
                obtain ⟨kq, x515_223, rfl, HA, HJ223, HO_57, HB⟩ := hcut
                cases kq with
                | zero => exact absurd HA.out (by simp [Qb.j13])
                | succ kj223 =>
                 have H := HA.out
                 clear HA
                 simp only [Qb.j13] at H
                 by_cases c229 : x515_223 = true
                 ·subst c229
                  rw [if_pos rfl] at H
                  exact absurd (hrt.symm.trans (Option.some.inj H).symm) (by decide)
                 replace c229 := Bool.eq_false_iff.mpr c229
                 subst c229
                 rw [if_neg (show ¬ (false = true) by decide)] at H
                 by_cases c230 : t578 = true
                 rotate_left
                 ·replace c230 := Bool.eq_false_iff.mpr c230
                  subst c230
                  rw [if_neg (show ¬ (false = true) by decide)] at H
                  obtain rfl := Option.some.inj H
                  clear hrt
                  go_wp2
                  repeat (go_quiet (fail); try go_wp2)
                  go_ret
                  exact ⟨by rfl, by repeat ((with_reducible (exact HB.out)))⟩
                 subst c230
                 rw [if_pos rfl] at H
                 replace H := Option.bind_eq_some_iff.mp H
                 obtain ⟨⟨t603, t604⟩, A2310, H⟩ := H
                 (try dsimp only at H)
                 have A231 := Qa.mk A2310
                 clear A2310
                 by_cases c232 : t604 = true
                 rotate_left
                 ·replace c232 := Bool.eq_false_iff.mpr c232
                  subst c232
                  rw [if_neg (show ¬ (false = true) by decide)] at H
                  exact absurd (hrt.symm.trans (Option.some.inj H).symm) (by decide)
                 subst c232
                 rw [if_pos rfl] at H
                 obtain rfl := Option.some.inj H
                 clear hrt
                 obtain ⟨Ao233, co233, eo233⟩ := Kd.N_slice HO_57.out
                 subst eo233
                 go_wp2_with ((go_at_call 24; (with_reducible refine (Qk2.calls kj223 _ _ t577 t603 true _ (tab_below HU.out (by repeat ((with_reducible (exact HB.out))))) ?side1 ?side2 A231.out).mono ?_); (case side1 => repeat ((exact (Kd.N_reads' HO_57.out).2.2))); (case side2 => exact (Kd.N_reads' HO_57.out).2.1); rintro e w234 ⟨rfl, hb⟩; have n0_ := Qa.mk (Kd.N_below (by (with_reducible repeat (fail)); exact HO_57.out) hb); have n1_ := Qa.mk (Qh (by repeat ((with_reducible (exact HB.out)))) hb); clear HO_57; clear HB; have HO_57 := n0_; have HB := n1_; clear n0_ n1_; (try clear hb); (try clear hb2); (try clear hk); (try clear hi)))
                 repeat (go_quiet (fail); try go_wp2_with (fail))
                 go_ret
                 exact ⟨by rfl, by repeat ((with_reducible (exact HB.out)))⟩
end Go.Proofs.YtohhlkehglahhaaGreatDoor.A
