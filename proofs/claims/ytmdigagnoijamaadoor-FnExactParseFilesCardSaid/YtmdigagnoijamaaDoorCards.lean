/-
  DERIVED. GIVEN WITH THE SEED: THE CARDS: each row of YtmdigagnoijamaaDoorRows.lean that lists a variable, with what it lists TIED to the program's text (the seventh form; the later family's looks); each row that meets fmt, with fmt's text TOLD by the authors' own Lean function (tested against real Go, not proved from fmt's source: count such statements apart). THE CARD IS WHAT COUNTS. Prove the row's statement (the work); the ties are given (YtmdigagnoijamaaDoorTie.lean); close each card by the builder's one call (the guide's Derived/Test/ToyasCard.lean, 'card_holds'). Laid BY PROGRAM, IN A SANDBOX (cutbox-door.mjs). By AI agents, Wed Nov 11 2026. No macro, syntax, notation, axiom, sorry.
-/
import Derived.Test.YtmdigagnoijamaaDoorRows
import GoSem.ClaimSeven
namespace Go.Proofs.YtmdigagnoijamaaDoor
namespace Rows

/-- THE TIED CARD OF 'laws.FnExactFilesText'. -/
def fnExactFilesTextCard : Claim7 := { stood := { row := fnExactFilesTextRow, standIns := [], harness := (true, "8f25e25dd7cc653569c5e95f18dbcd38b95529385d6c86529de6df23a991e1e6"), looks := true }, kinds := [], alts := [], laidByText := true, laidKinds := [.data, .data, .data], laidTests := true, laidLooks := .later }
def FnExactFilesTextCardSaid : Prop := Claim7.holds Tryd.pinned (.plain (OpenSpec.ofChange fnExactFilesTextSpec)) fnExactFilesTextCard

/-- THE TIED CARD OF 'laws.FnExactParseFiles'. -/
def fnExactParseFilesCard : Claim7 := { stood := { row := fnExactParseFilesRow, standIns := [], harness := (true, "8f25e25dd7cc653569c5e95f18dbcd38b95529385d6c86529de6df23a991e1e6"), looks := true }, kinds := [], alts := [], laidByText := true, laidKinds := [.data, .data, .data, .data, .sentinel, .sentinel, .pinned], laidTests := true, laidLooks := .later }
def FnExactParseFilesCardSaid : Prop := Claim7.holds Tryd.pinned (.plain (OpenSpec.ofChange fnExactParseFilesSpec)) fnExactParseFilesCard

/-- THE SECOND FORM's CARD OF 'laws.FnExactFilesText'. -/
def fnExactFilesTextUptoCard : Claim7 := { stood := { row := fnExactFilesTextUptoRow, standIns := [], harness := (true, "8f25e25dd7cc653569c5e95f18dbcd38b95529385d6c86529de6df23a991e1e6"), looks := true }, kinds := [], alts := [], laidByText := true, laidKinds := [.data, .data, .data], laidTests := true, laidLooks := .later }
def FnExactFilesTextUptoCardSaid : Prop := Claim7.holds Tryd.pinned (.plain (OpenSpec.upto fnExactFilesTextSpec)) fnExactFilesTextUptoCard

/-- THE SECOND FORM's CARD OF 'laws.FnExactParseFiles'. -/
def fnExactParseFilesUptoCard : Claim7 := { stood := { row := fnExactParseFilesUptoRow, standIns := [], harness := (true, "8f25e25dd7cc653569c5e95f18dbcd38b95529385d6c86529de6df23a991e1e6"), looks := true }, kinds := [], alts := [], laidByText := true, laidKinds := [.data, .data, .data, .data, .sentinel, .sentinel, .pinned], laidTests := true, laidLooks := .later }
def FnExactParseFilesUptoCardSaid : Prop := Claim7.holds Tryd.pinned (.plain (OpenSpec.upto fnExactParseFilesSpec)) fnExactParseFilesUptoCard
end Rows
end Go.Proofs.YtmdigagnoijamaaDoor
