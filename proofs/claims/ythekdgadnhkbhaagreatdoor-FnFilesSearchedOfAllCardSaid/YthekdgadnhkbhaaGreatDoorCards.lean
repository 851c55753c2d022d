/-
  DERIVED. GIVEN WITH THE SEED: THE CARDS: each row of YthekdgadnhkbhaaGreatDoorRows.lean that lists a variable, with what it lists TIED to the program's text (the seventh form; the later family's looks); each row that meets fmt, with fmt's text TOLD by the authors' own Lean function (tested against real Go, not proved from fmt's source: count such statements apart). THE CARD IS WHAT COUNTS. Prove the row's statement (the work); the ties are given (YthekdgadnhkbhaaGreatDoorTie.lean); close each card by the builder's one call (the guide's Derived/Test/ToyasCard.lean, 'card_holds'). Laid BY PROGRAM, IN A SANDBOX (cutbox-door.mjs). By AI agents, Wed Nov 11 2026. No macro, syntax, notation, axiom, sorry.
-/
import Derived.Test.YthekdgadnhkbhaaGreatDoorRows
import GoSem.ClaimSeven
namespace Go.Proofs.YthekdgadnhkbhaaGreatDoor
namespace Rows

/-- THE TIED CARD OF 'laws.FnFilesSearchedOfAll'. -/
def fnFilesSearchedOfAllCard : Claim7 := { stood := { row := fnFilesSearchedOfAllRow, standIns := [], harness := (true, "d07d9e34c7d198ec5aea52c8ee3d79f163b1ce2d1f2f3e60205206a0b8f82e3d"), looks := true }, kinds := [], alts := [], laidByText := true, laidKinds := [.data, .data, .data, .data, .sentinel, .sentinel, .pinned], laidTests := true, laidLooks := .later }
def FnFilesSearchedOfAllCardSaid : Prop := Claim7.holds Tryz.pinned (.plain (OpenSpec.ofChange fnFilesSearchedOfAllSpec)) fnFilesSearchedOfAllCard

/-- THE SECOND FORM's CARD OF 'laws.FnFilesSearchedOfAll'. -/
def fnFilesSearchedOfAllUptoCard : Claim7 := { stood := { row := fnFilesSearchedOfAllUptoRow, standIns := [], harness := (true, "d07d9e34c7d198ec5aea52c8ee3d79f163b1ce2d1f2f3e60205206a0b8f82e3d"), looks := true }, kinds := [], alts := [], laidByText := true, laidKinds := [.data, .data, .data, .data, .sentinel, .sentinel, .pinned], laidTests := true, laidLooks := .later }
def FnFilesSearchedOfAllUptoCardSaid : Prop := Claim7.holds Tryz.pinned (.plain (OpenSpec.upto fnFilesSearchedOfAllSpec)) fnFilesSearchedOfAllUptoCard
end Rows
end Go.Proofs.YthekdgadnhkbhaaGreatDoor
