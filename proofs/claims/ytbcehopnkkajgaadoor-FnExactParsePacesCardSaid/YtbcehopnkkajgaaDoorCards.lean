/-
  DERIVED. GIVEN WITH THE SEED: THE CARDS: each row of YtbcehopnkkajgaaDoorRows.lean that lists a variable, with what it lists TIED to the program's text (the seventh form; the later family's looks); each row that meets fmt, with fmt's text TOLD by the authors' own Lean function (tested against real Go, not proved from fmt's source: count such statements apart). THE CARD IS WHAT COUNTS. Prove the row's statement (the work); the ties are given (YtbcehopnkkajgaaDoorTie.lean); close each card by the builder's one call (the guide's Derived/Test/ToyasCard.lean, 'card_holds'). Laid BY PROGRAM, IN A SANDBOX (cutbox-door.mjs). By AI agents, Wed Nov 11 2026. No macro, syntax, notation, axiom, sorry.
-/
import Derived.Test.YtbcehopnkkajgaaDoorRows
import GoSem.ClaimSeven
namespace Go.Proofs.YtbcehopnkkajgaaDoor
namespace Rows

/-- THE TIED CARD OF 'laws.FnExactPacesText'. -/
def fnExactPacesTextCard : Claim7 := { stood := { row := fnExactPacesTextRow, standIns := [], harness := (true, "0e639b5843d5d4fdb97babf078bda43611c02b7f0144b32b8eece90a6df55c4e"), looks := true }, kinds := [], alts := [], laidByText := true, laidKinds := [.data, .data, .data], laidTests := true, laidLooks := .later }
def FnExactPacesTextCardSaid : Prop := Claim7.holds Tryd.pinned (.plain (OpenSpec.ofChange fnExactPacesTextSpec)) fnExactPacesTextCard

/-- THE TIED CARD OF 'laws.FnExactParsePaces'. -/
def fnExactParsePacesCard : Claim7 := { stood := { row := fnExactParsePacesRow, standIns := [], harness := (true, "0e639b5843d5d4fdb97babf078bda43611c02b7f0144b32b8eece90a6df55c4e"), looks := true }, kinds := [], alts := [], laidByText := true, laidKinds := [.data, .data, .data, .data, .sentinel, .sentinel, .pinned], laidTests := true, laidLooks := .later }
def FnExactParsePacesCardSaid : Prop := Claim7.holds Tryd.pinned (.plain (OpenSpec.ofChange fnExactParsePacesSpec)) fnExactParsePacesCard

/-- THE SECOND FORM's CARD OF 'laws.FnExactPacesText'. -/
def fnExactPacesTextUptoCard : Claim7 := { stood := { row := fnExactPacesTextUptoRow, standIns := [], harness := (true, "0e639b5843d5d4fdb97babf078bda43611c02b7f0144b32b8eece90a6df55c4e"), looks := true }, kinds := [], alts := [], laidByText := true, laidKinds := [.data, .data, .data], laidTests := true, laidLooks := .later }
def FnExactPacesTextUptoCardSaid : Prop := Claim7.holds Tryd.pinned (.plain (OpenSpec.upto fnExactPacesTextSpec)) fnExactPacesTextUptoCard

/-- THE SECOND FORM's CARD OF 'laws.FnExactParsePaces'. -/
def fnExactParsePacesUptoCard : Claim7 := { stood := { row := fnExactParsePacesUptoRow, standIns := [], harness := (true, "0e639b5843d5d4fdb97babf078bda43611c02b7f0144b32b8eece90a6df55c4e"), looks := true }, kinds := [], alts := [], laidByText := true, laidKinds := [.data, .data, .data, .data, .sentinel, .sentinel, .pinned], laidTests := true, laidLooks := .later }
def FnExactParsePacesUptoCardSaid : Prop := Claim7.holds Tryd.pinned (.plain (OpenSpec.upto fnExactParsePacesSpec)) fnExactParsePacesUptoCard
end Rows
end Go.Proofs.YtbcehopnkkajgaaDoor
