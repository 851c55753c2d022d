/-
  DERIVED. GIVEN WITH THE SEED: THE CARDS: each row of YtkhlnhnpaijhjaaDoorRows.lean that lists a variable, with what it lists TIED to the program's text (the seventh form; the later family's looks); each row that meets fmt, with fmt's text TOLD by the authors' own Lean function (tested against real Go, not proved from fmt's source: count such statements apart). THE CARD IS WHAT COUNTS. Prove the row's statement (the work); the ties are given (YtkhlnhnpaijhjaaDoorTie.lean); close each card by the builder's one call (the guide's Derived/Test/ToyasCard.lean, 'card_holds'). Laid BY PROGRAM, IN A SANDBOX (cutbox-door.mjs). By AI agents, Wed Nov 11 2026. No macro, syntax, notation, axiom, sorry.
-/
import Derived.Test.YtkhlnhnpaijhjaaDoorRows
import GoSem.ClaimSeven
namespace Go.Proofs.YtkhlnhnpaijhjaaDoor
namespace Rows

/-- THE TIED CARD OF 'laws.FnExactCanByNeighbours'. -/
def fnExactCanByNeighboursCard : Claim7 := { stood := { row := fnExactCanByNeighboursRow, standIns := [], harness := (true, "e040031671242820eed036dc58de6c9999fc8c7d0e9faf3274115dc854640268"), looks := false }, kinds := [], alts := [], laidByText := true, laidKinds := [.data, .pinned], laidTests := true, laidLooks := .later }
def FnExactCanByNeighboursCardSaid : Prop := Claim7.holds Tryd.pinned (.plain (OpenSpec.ofChange fnExactCanByNeighboursSpec)) fnExactCanByNeighboursCard

/-- THE TIED CARD OF 'laws.FnExactNeighboursTo'. -/
def fnExactNeighboursToCard : Claim7 := { stood := { row := fnExactNeighboursToRow, standIns := [], harness := (true, "e040031671242820eed036dc58de6c9999fc8c7d0e9faf3274115dc854640268"), looks := false }, kinds := [], alts := [], laidByText := true, laidKinds := [.data, .pinned], laidTests := true, laidLooks := .later }
def FnExactNeighboursToCardSaid : Prop := Claim7.holds Tryd.pinned (.plain (OpenSpec.ofChange fnExactNeighboursToSpec)) fnExactNeighboursToCard

/-- THE TIED CARD OF 'laws.FnExactTurnFirst'. -/
def fnExactTurnFirstCard : Claim7 := { stood := { row := fnExactTurnFirstRow, standIns := [], harness := (true, "e040031671242820eed036dc58de6c9999fc8c7d0e9faf3274115dc854640268"), looks := false }, kinds := [], alts := [], laidByText := true, laidKinds := [.data, .pinned], laidTests := true, laidLooks := .later }
def FnExactTurnFirstCardSaid : Prop := Claim7.holds Tryd.pinned (.plain (OpenSpec.ofChange fnExactTurnFirstSpec)) fnExactTurnFirstCard

/-- THE TIED CARD OF 'laws.FnExactTurnRun'. -/
def fnExactTurnRunCard : Claim7 := { stood := { row := fnExactTurnRunRow, standIns := [], harness := (true, "e040031671242820eed036dc58de6c9999fc8c7d0e9faf3274115dc854640268"), looks := false }, kinds := [], alts := [], laidByText := true, laidKinds := [.data, .pinned], laidTests := true, laidLooks := .later }
def FnExactTurnRunCardSaid : Prop := Claim7.holds Tryd.pinned (.plain (OpenSpec.ofChange fnExactTurnRunSpec)) fnExactTurnRunCard

/-- THE TIED CARD OF 'laws.FnExactTurnAround'. -/
def fnExactTurnAroundCard : Claim7 := { stood := { row := fnExactTurnAroundRow, standIns := [], harness := (true, "e040031671242820eed036dc58de6c9999fc8c7d0e9faf3274115dc854640268"), looks := false }, kinds := [], alts := [], laidByText := true, laidKinds := [.data, .pinned], laidTests := true, laidLooks := .later }
def FnExactTurnAroundCardSaid : Prop := Claim7.holds Tryd.pinned (.plain (OpenSpec.ofChange fnExactTurnAroundSpec)) fnExactTurnAroundCard

/-- THE TIED CARD OF 'laws.FnExactPlayWindows'. -/
def fnExactPlayWindowsCard : Claim7 := { stood := { row := fnExactPlayWindowsRow, standIns := [], harness := (true, "e040031671242820eed036dc58de6c9999fc8c7d0e9faf3274115dc854640268"), looks := false }, kinds := [], alts := [], laidByText := true, laidKinds := [.data, .pinned], laidTests := true, laidLooks := .later }
def FnExactPlayWindowsCardSaid : Prop := Claim7.holds Tryd.pinned (.plain (OpenSpec.ofChange fnExactPlayWindowsSpec)) fnExactPlayWindowsCard

/-- THE SECOND FORM's CARD OF 'laws.FnExactCanByNeighbours'. -/
def fnExactCanByNeighboursUptoCard : Claim7 := { stood := { row := fnExactCanByNeighboursUptoRow, standIns := [], harness := (true, "e040031671242820eed036dc58de6c9999fc8c7d0e9faf3274115dc854640268"), looks := false }, kinds := [], alts := [], laidByText := true, laidKinds := [.data, .pinned], laidTests := true, laidLooks := .later }
def FnExactCanByNeighboursUptoCardSaid : Prop := Claim7.holds Tryd.pinned (.plain (OpenSpec.upto fnExactCanByNeighboursSpec)) fnExactCanByNeighboursUptoCard

/-- THE SECOND FORM's CARD OF 'laws.FnExactNeighboursTo'. -/
def fnExactNeighboursToUptoCard : Claim7 := { stood := { row := fnExactNeighboursToUptoRow, standIns := [], harness := (true, "e040031671242820eed036dc58de6c9999fc8c7d0e9faf3274115dc854640268"), looks := false }, kinds := [], alts := [], laidByText := true, laidKinds := [.data, .pinned], laidTests := true, laidLooks := .later }
def FnExactNeighboursToUptoCardSaid : Prop := Claim7.holds Tryd.pinned (.plain (OpenSpec.upto fnExactNeighboursToSpec)) fnExactNeighboursToUptoCard

/-- THE SECOND FORM's CARD OF 'laws.FnExactTurnFirst'. -/
def fnExactTurnFirstUptoCard : Claim7 := { stood := { row := fnExactTurnFirstUptoRow, standIns := [], harness := (true, "e040031671242820eed036dc58de6c9999fc8c7d0e9faf3274115dc854640268"), looks := false }, kinds := [], alts := [], laidByText := true, laidKinds := [.data, .pinned], laidTests := true, laidLooks := .later }
def FnExactTurnFirstUptoCardSaid : Prop := Claim7.holds Tryd.pinned (.plain (OpenSpec.upto fnExactTurnFirstSpec)) fnExactTurnFirstUptoCard

/-- THE SECOND FORM's CARD OF 'laws.FnExactTurnRun'. -/
def fnExactTurnRunUptoCard : Claim7 := { stood := { row := fnExactTurnRunUptoRow, standIns := [], harness := (true, "e040031671242820eed036dc58de6c9999fc8c7d0e9faf3274115dc854640268"), looks := false }, kinds := [], alts := [], laidByText := true, laidKinds := [.data, .pinned], laidTests := true, laidLooks := .later }
def FnExactTurnRunUptoCardSaid : Prop := Claim7.holds Tryd.pinned (.plain (OpenSpec.upto fnExactTurnRunSpec)) fnExactTurnRunUptoCard

/-- THE SECOND FORM's CARD OF 'laws.FnExactTurnAround'. -/
def fnExactTurnAroundUptoCard : Claim7 := { stood := { row := fnExactTurnAroundUptoRow, standIns := [], harness := (true, "e040031671242820eed036dc58de6c9999fc8c7d0e9faf3274115dc854640268"), looks := false }, kinds := [], alts := [], laidByText := true, laidKinds := [.data, .pinned], laidTests := true, laidLooks := .later }
def FnExactTurnAroundUptoCardSaid : Prop := Claim7.holds Tryd.pinned (.plain (OpenSpec.upto fnExactTurnAroundSpec)) fnExactTurnAroundUptoCard

/-- THE SECOND FORM's CARD OF 'laws.FnExactPlayWindows'. -/
def fnExactPlayWindowsUptoCard : Claim7 := { stood := { row := fnExactPlayWindowsUptoRow, standIns := [], harness := (true, "e040031671242820eed036dc58de6c9999fc8c7d0e9faf3274115dc854640268"), looks := false }, kinds := [], alts := [], laidByText := true, laidKinds := [.data, .pinned], laidTests := true, laidLooks := .later }
def FnExactPlayWindowsUptoCardSaid : Prop := Claim7.holds Tryd.pinned (.plain (OpenSpec.upto fnExactPlayWindowsSpec)) fnExactPlayWindowsUptoCard
end Rows
end Go.Proofs.YtkhlnhnpaijhjaaDoor
