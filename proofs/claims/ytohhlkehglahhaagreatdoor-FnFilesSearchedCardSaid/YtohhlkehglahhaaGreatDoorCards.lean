/-
  DERIVED. GIVEN WITH THE SEED: THE CARDS: each row of YtohhlkehglahhaaGreatDoorRows.lean that lists a variable, with what it lists TIED to the program's text (the seventh form; the later family's looks); each row that meets fmt, with fmt's text TOLD by the authors' own Lean function (tested against real Go, not proved from fmt's source: count such statements apart). THE CARD IS WHAT COUNTS. Prove the row's statement (the work); the ties are given (YtohhlkehglahhaaGreatDoorTie.lean); close each card by the builder's one call (the guide's Derived/Test/ToyasCard.lean, 'card_holds'). Laid BY PROGRAM, IN A SANDBOX (cutbox-door.mjs). By AI agents, Wed Nov 11 2026. No macro, syntax, notation, axiom, sorry.
-/
import Derived.Test.YtohhlkehglahhaaGreatDoorRows
import GoSem.ClaimSeven
namespace Go.Proofs.YtohhlkehglahhaaGreatDoor
namespace Rows

/-- THE TIED CARD OF 'laws.FnFilesSearched'. -/
def fnFilesSearchedCard : Claim7 := { stood := { row := fnFilesSearchedRow, standIns := [], harness := (true, "6f7637ce26ca970422d63ae91019b9274a6f9787982e9bb58cfd486229d10cff"), looks := true }, kinds := [], alts := [], laidByText := true, laidKinds := [.data, .data, .data, .data, .sentinel, .sentinel, .pinned], laidTests := true, laidLooks := .later }
def FnFilesSearchedCardSaid : Prop := Claim7.holds Tryz.pinned (.plain (OpenSpec.ofChange fnFilesSearchedSpec)) fnFilesSearchedCard

/-- THE SECOND FORM's CARD OF 'laws.FnFilesSearched'. -/
def fnFilesSearchedUptoCard : Claim7 := { stood := { row := fnFilesSearchedUptoRow, standIns := [], harness := (true, "6f7637ce26ca970422d63ae91019b9274a6f9787982e9bb58cfd486229d10cff"), looks := true }, kinds := [], alts := [], laidByText := true, laidKinds := [.data, .data, .data, .data, .sentinel, .sentinel, .pinned], laidTests := true, laidLooks := .later }
def FnFilesSearchedUptoCardSaid : Prop := Claim7.holds Tryz.pinned (.plain (OpenSpec.upto fnFilesSearchedSpec)) fnFilesSearchedUptoCard
end Rows
end Go.Proofs.YtohhlkehglahhaaGreatDoor
