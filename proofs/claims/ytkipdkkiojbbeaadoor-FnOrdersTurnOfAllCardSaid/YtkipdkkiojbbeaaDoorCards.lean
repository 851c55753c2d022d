/-
  DERIVED. GIVEN WITH THE SEED: THE CARDS: each row of YtkipdkkiojbbeaaDoorRows.lean that lists a variable, with what it lists TIED to the program's text (the seventh form; the later family's looks); each row that meets fmt, with fmt's text TOLD by the authors' own Lean function (tested against real Go, not proved from fmt's source: count such statements apart). THE CARD IS WHAT COUNTS. Prove the row's statement (the work); the ties are given (YtkipdkkiojbbeaaDoorTie.lean); close each card by the builder's one call (the guide's Derived/Test/ToyasCard.lean, 'card_holds'). Laid BY PROGRAM, IN A SANDBOX (cutbox-door.mjs). By AI agents, Wed Nov 11 2026. No macro, syntax, notation, axiom, sorry.
-/
import Derived.Test.YtkipdkkiojbbeaaDoorRows
import GoSem.ClaimSeven
namespace Go.Proofs.YtkipdkkiojbbeaaDoor
namespace Rows

/-- THE TIED CARD OF 'laws.FnOrdersTurnOfAll'. -/
def fnOrdersTurnOfAllCard : Claim7 := { stood := { row := fnOrdersTurnOfAllRow, standIns := [], harness := (true, "c1b458a98ef8f21430ab1b5f8db19c6014daa36647fd27b74a1f382682460522"), looks := false }, kinds := [], alts := [], laidByText := true, laidKinds := [.data, .pinned], laidTests := true, laidLooks := .later }
def FnOrdersTurnOfAllCardSaid : Prop := Claim7.holds Tryd.pinned (.plain (OpenSpec.ofChange fnOrdersTurnOfAllSpec)) fnOrdersTurnOfAllCard

/-- THE SECOND FORM's CARD OF 'laws.FnOrdersTurnOfAll'. -/
def fnOrdersTurnOfAllUptoCard : Claim7 := { stood := { row := fnOrdersTurnOfAllUptoRow, standIns := [], harness := (true, "c1b458a98ef8f21430ab1b5f8db19c6014daa36647fd27b74a1f382682460522"), looks := false }, kinds := [], alts := [], laidByText := true, laidKinds := [.data, .pinned], laidTests := true, laidLooks := .later }
def FnOrdersTurnOfAllUptoCardSaid : Prop := Claim7.holds Tryd.pinned (.plain (OpenSpec.upto fnOrdersTurnOfAllSpec)) fnOrdersTurnOfAllUptoCard
end Rows
end Go.Proofs.YtkipdkkiojbbeaaDoor
