/-
  DERIVED. GIVEN WITH THE SEED: THE CARDS: each row of YteohjnmiifmldaaGreatDoorRows.lean that lists a variable, with what it lists TIED to the program's text (the seventh form; the later family's looks); each row that meets fmt, with fmt's text TOLD by the authors' own Lean function (tested against real Go, not proved from fmt's source: count such statements apart). THE CARD IS WHAT COUNTS. Prove the row's statement (the work); the ties are given (YteohjnmiifmldaaGreatDoorTie.lean); close each card by the builder's one call (the guide's Derived/Test/ToyasCard.lean, 'card_holds'). Laid BY PROGRAM, IN A SANDBOX (cutbox-door.mjs). By AI agents, Wed Nov 11 2026. No macro, syntax, notation, axiom, sorry.
-/
import Derived.Test.YteohjnmiifmldaaGreatDoorRows
import GoSem.ClaimSeven
namespace Go.Proofs.YteohjnmiifmldaaGreatDoor
namespace Rows

/-- THE TIED CARD OF 'laws.FnPacesMeetOfAll'. -/
def fnPacesMeetOfAllCard : Claim7 := { stood := { row := fnPacesMeetOfAllRow, standIns := [], harness := (true, "67191fc61957c931539b5af2b107b0bed6392f56a7d701302a5e7386a5e45db2"), looks := true }, kinds := [], alts := [], laidByText := true, laidKinds := [.data, .data, .data, .data, .sentinel, .sentinel, .pinned], laidTests := true, laidLooks := .later }
def FnPacesMeetOfAllCardSaid : Prop := Claim7.holds Tryz.pinned (.plain (OpenSpec.ofChange fnPacesMeetOfAllSpec)) fnPacesMeetOfAllCard

/-- THE SECOND FORM's CARD OF 'laws.FnPacesMeetOfAll'. -/
def fnPacesMeetOfAllUptoCard : Claim7 := { stood := { row := fnPacesMeetOfAllUptoRow, standIns := [], harness := (true, "67191fc61957c931539b5af2b107b0bed6392f56a7d701302a5e7386a5e45db2"), looks := true }, kinds := [], alts := [], laidByText := true, laidKinds := [.data, .data, .data, .data, .sentinel, .sentinel, .pinned], laidTests := true, laidLooks := .later }
def FnPacesMeetOfAllUptoCardSaid : Prop := Claim7.holds Tryz.pinned (.plain (OpenSpec.upto fnPacesMeetOfAllSpec)) fnPacesMeetOfAllUptoCard
end Rows
end Go.Proofs.YteohjnmiifmldaaGreatDoor
