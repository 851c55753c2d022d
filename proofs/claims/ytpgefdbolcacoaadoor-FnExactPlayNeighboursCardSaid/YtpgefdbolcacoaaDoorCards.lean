/-
  DERIVED. GIVEN WITH THE SEED: THE CARDS: each row of YtpgefdbolcacoaaDoorRows.lean that lists a variable, with what it lists TIED to the program's text (the seventh form; the later family's looks); each row that meets fmt, with fmt's text TOLD by the authors' own Lean function (tested against real Go, not proved from fmt's source: count such statements apart). THE CARD IS WHAT COUNTS. Prove the row's statement (the work); the ties are given (YtpgefdbolcacoaaDoorTie.lean); close each card by the builder's one call (the guide's Derived/Test/ToyasCard.lean, 'card_holds'). Laid BY PROGRAM, IN A SANDBOX (cutbox-door.mjs). By AI agents, Wed Nov 11 2026. No macro, syntax, notation, axiom, sorry.
-/
import Derived.Test.YtpgefdbolcacoaaDoorRows
import GoSem.ClaimSeven
namespace Go.Proofs.YtpgefdbolcacoaaDoor
namespace Rows

/-- THE TIED CARD OF 'laws.FnExactPlayNeighbours'. -/
def fnExactPlayNeighboursCard : Claim7 := { stood := { row := fnExactPlayNeighboursRow, standIns := [], harness := (true, "5faa7b8bbbf2586756f5bbd752c64127fb1a79c01ab87cca3956c73e5541a330"), looks := false }, kinds := [], alts := [], laidByText := true, laidKinds := [.data, .pinned], laidTests := true, laidLooks := .later }
def FnExactPlayNeighboursCardSaid : Prop := Claim7.holds Tryd.pinned (.plain (OpenSpec.ofChange fnExactPlayNeighboursSpec)) fnExactPlayNeighboursCard

/-- THE TIED CARD OF 'laws.FnExactPlayRuns'. -/
def fnExactPlayRunsCard : Claim7 := { stood := { row := fnExactPlayRunsRow, standIns := [], harness := (true, "5faa7b8bbbf2586756f5bbd752c64127fb1a79c01ab87cca3956c73e5541a330"), looks := false }, kinds := [], alts := [], laidByText := true, laidKinds := [.data, .pinned], laidTests := true, laidLooks := .later }
def FnExactPlayRunsCardSaid : Prop := Claim7.holds Tryd.pinned (.plain (OpenSpec.ofChange fnExactPlayRunsSpec)) fnExactPlayRunsCard

/-- THE SECOND FORM's CARD OF 'laws.FnExactPlayNeighbours'. -/
def fnExactPlayNeighboursUptoCard : Claim7 := { stood := { row := fnExactPlayNeighboursUptoRow, standIns := [], harness := (true, "5faa7b8bbbf2586756f5bbd752c64127fb1a79c01ab87cca3956c73e5541a330"), looks := false }, kinds := [], alts := [], laidByText := true, laidKinds := [.data, .pinned], laidTests := true, laidLooks := .later }
def FnExactPlayNeighboursUptoCardSaid : Prop := Claim7.holds Tryd.pinned (.plain (OpenSpec.upto fnExactPlayNeighboursSpec)) fnExactPlayNeighboursUptoCard

/-- THE SECOND FORM's CARD OF 'laws.FnExactPlayRuns'. -/
def fnExactPlayRunsUptoCard : Claim7 := { stood := { row := fnExactPlayRunsUptoRow, standIns := [], harness := (true, "5faa7b8bbbf2586756f5bbd752c64127fb1a79c01ab87cca3956c73e5541a330"), looks := false }, kinds := [], alts := [], laidByText := true, laidKinds := [.data, .pinned], laidTests := true, laidLooks := .later }
def FnExactPlayRunsUptoCardSaid : Prop := Claim7.holds Tryd.pinned (.plain (OpenSpec.upto fnExactPlayRunsSpec)) fnExactPlayRunsUptoCard
end Rows
end Go.Proofs.YtpgefdbolcacoaaDoor
