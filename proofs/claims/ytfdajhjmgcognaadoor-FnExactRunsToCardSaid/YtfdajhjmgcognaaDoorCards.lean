/-
  DERIVED. GIVEN WITH THE SEED: THE CARDS: each row of YtfdajhjmgcognaaDoorRows.lean that lists a variable, with what it lists TIED to the program's text (the seventh form; the later family's looks); each row that meets fmt, with fmt's text TOLD by the authors' own Lean function (tested against real Go, not proved from fmt's source: count such statements apart). THE CARD IS WHAT COUNTS. Prove the row's statement (the work); the ties are given (YtfdajhjmgcognaaDoorTie.lean); close each card by the builder's one call (the guide's Derived/Test/ToyasCard.lean, 'card_holds'). Laid BY PROGRAM, IN A SANDBOX (cutbox-door.mjs). By AI agents, Wed Nov 11 2026. No macro, syntax, notation, axiom, sorry.
-/
import Derived.Test.YtfdajhjmgcognaaDoorRows
import GoSem.ClaimSeven
namespace Go.Proofs.YtfdajhjmgcognaaDoor
namespace Rows

/-- THE TIED CARD OF 'laws.FnExactFewestFirst'. -/
def fnExactFewestFirstCard : Claim7 := { stood := { row := fnExactFewestFirstRow, standIns := [], harness := (true, "60af66c3dd9ec67fa34e3c8a83d620c4c2199e0dc89c29a6913b1808f2bf2262"), looks := false }, kinds := [], alts := [], laidByText := true, laidKinds := [.data, .pinned], laidTests := true, laidLooks := .later }
def FnExactFewestFirstCardSaid : Prop := Claim7.holds Tryd.pinned (.plain (OpenSpec.ofChange fnExactFewestFirstSpec)) fnExactFewestFirstCard

/-- THE TIED CARD OF 'laws.FnExactFewestRuns'. -/
def fnExactFewestRunsCard : Claim7 := { stood := { row := fnExactFewestRunsRow, standIns := [], harness := (true, "60af66c3dd9ec67fa34e3c8a83d620c4c2199e0dc89c29a6913b1808f2bf2262"), looks := false }, kinds := [], alts := [], laidByText := true, laidKinds := [.data, .pinned], laidTests := true, laidLooks := .later }
def FnExactFewestRunsCardSaid : Prop := Claim7.holds Tryd.pinned (.plain (OpenSpec.ofChange fnExactFewestRunsSpec)) fnExactFewestRunsCard

/-- THE TIED CARD OF 'laws.FnExactCanByWindows'. -/
def fnExactCanByWindowsCard : Claim7 := { stood := { row := fnExactCanByWindowsRow, standIns := [], harness := (true, "60af66c3dd9ec67fa34e3c8a83d620c4c2199e0dc89c29a6913b1808f2bf2262"), looks := false }, kinds := [], alts := [], laidByText := true, laidKinds := [.data, .pinned], laidTests := true, laidLooks := .later }
def FnExactCanByWindowsCardSaid : Prop := Claim7.holds Tryd.pinned (.plain (OpenSpec.ofChange fnExactCanByWindowsSpec)) fnExactCanByWindowsCard

/-- THE TIED CARD OF 'laws.FnExactFirstsTo'. -/
def fnExactFirstsToCard : Claim7 := { stood := { row := fnExactFirstsToRow, standIns := [], harness := (true, "60af66c3dd9ec67fa34e3c8a83d620c4c2199e0dc89c29a6913b1808f2bf2262"), looks := false }, kinds := [], alts := [], laidByText := true, laidKinds := [.data, .pinned], laidTests := true, laidLooks := .later }
def FnExactFirstsToCardSaid : Prop := Claim7.holds Tryd.pinned (.plain (OpenSpec.ofChange fnExactFirstsToSpec)) fnExactFirstsToCard

/-- THE TIED CARD OF 'laws.FnExactWindowsTo'. -/
def fnExactWindowsToCard : Claim7 := { stood := { row := fnExactWindowsToRow, standIns := [], harness := (true, "60af66c3dd9ec67fa34e3c8a83d620c4c2199e0dc89c29a6913b1808f2bf2262"), looks := false }, kinds := [], alts := [], laidByText := true, laidKinds := [.data, .pinned], laidTests := true, laidLooks := .later }
def FnExactWindowsToCardSaid : Prop := Claim7.holds Tryd.pinned (.plain (OpenSpec.ofChange fnExactWindowsToSpec)) fnExactWindowsToCard

/-- THE TIED CARD OF 'laws.FnExactRunsTo'. -/
def fnExactRunsToCard : Claim7 := { stood := { row := fnExactRunsToRow, standIns := [], harness := (true, "60af66c3dd9ec67fa34e3c8a83d620c4c2199e0dc89c29a6913b1808f2bf2262"), looks := false }, kinds := [], alts := [], laidByText := true, laidKinds := [.data, .pinned], laidTests := true, laidLooks := .later }
def FnExactRunsToCardSaid : Prop := Claim7.holds Tryd.pinned (.plain (OpenSpec.ofChange fnExactRunsToSpec)) fnExactRunsToCard

/-- THE SECOND FORM's CARD OF 'laws.FnExactFewestFirst'. -/
def fnExactFewestFirstUptoCard : Claim7 := { stood := { row := fnExactFewestFirstUptoRow, standIns := [], harness := (true, "60af66c3dd9ec67fa34e3c8a83d620c4c2199e0dc89c29a6913b1808f2bf2262"), looks := false }, kinds := [], alts := [], laidByText := true, laidKinds := [.data, .pinned], laidTests := true, laidLooks := .later }
def FnExactFewestFirstUptoCardSaid : Prop := Claim7.holds Tryd.pinned (.plain (OpenSpec.upto fnExactFewestFirstSpec)) fnExactFewestFirstUptoCard

/-- THE SECOND FORM's CARD OF 'laws.FnExactFewestRuns'. -/
def fnExactFewestRunsUptoCard : Claim7 := { stood := { row := fnExactFewestRunsUptoRow, standIns := [], harness := (true, "60af66c3dd9ec67fa34e3c8a83d620c4c2199e0dc89c29a6913b1808f2bf2262"), looks := false }, kinds := [], alts := [], laidByText := true, laidKinds := [.data, .pinned], laidTests := true, laidLooks := .later }
def FnExactFewestRunsUptoCardSaid : Prop := Claim7.holds Tryd.pinned (.plain (OpenSpec.upto fnExactFewestRunsSpec)) fnExactFewestRunsUptoCard

/-- THE SECOND FORM's CARD OF 'laws.FnExactCanByWindows'. -/
def fnExactCanByWindowsUptoCard : Claim7 := { stood := { row := fnExactCanByWindowsUptoRow, standIns := [], harness := (true, "60af66c3dd9ec67fa34e3c8a83d620c4c2199e0dc89c29a6913b1808f2bf2262"), looks := false }, kinds := [], alts := [], laidByText := true, laidKinds := [.data, .pinned], laidTests := true, laidLooks := .later }
def FnExactCanByWindowsUptoCardSaid : Prop := Claim7.holds Tryd.pinned (.plain (OpenSpec.upto fnExactCanByWindowsSpec)) fnExactCanByWindowsUptoCard

/-- THE SECOND FORM's CARD OF 'laws.FnExactFirstsTo'. -/
def fnExactFirstsToUptoCard : Claim7 := { stood := { row := fnExactFirstsToUptoRow, standIns := [], harness := (true, "60af66c3dd9ec67fa34e3c8a83d620c4c2199e0dc89c29a6913b1808f2bf2262"), looks := false }, kinds := [], alts := [], laidByText := true, laidKinds := [.data, .pinned], laidTests := true, laidLooks := .later }
def FnExactFirstsToUptoCardSaid : Prop := Claim7.holds Tryd.pinned (.plain (OpenSpec.upto fnExactFirstsToSpec)) fnExactFirstsToUptoCard

/-- THE SECOND FORM's CARD OF 'laws.FnExactWindowsTo'. -/
def fnExactWindowsToUptoCard : Claim7 := { stood := { row := fnExactWindowsToUptoRow, standIns := [], harness := (true, "60af66c3dd9ec67fa34e3c8a83d620c4c2199e0dc89c29a6913b1808f2bf2262"), looks := false }, kinds := [], alts := [], laidByText := true, laidKinds := [.data, .pinned], laidTests := true, laidLooks := .later }
def FnExactWindowsToUptoCardSaid : Prop := Claim7.holds Tryd.pinned (.plain (OpenSpec.upto fnExactWindowsToSpec)) fnExactWindowsToUptoCard

/-- THE SECOND FORM's CARD OF 'laws.FnExactRunsTo'. -/
def fnExactRunsToUptoCard : Claim7 := { stood := { row := fnExactRunsToUptoRow, standIns := [], harness := (true, "60af66c3dd9ec67fa34e3c8a83d620c4c2199e0dc89c29a6913b1808f2bf2262"), looks := false }, kinds := [], alts := [], laidByText := true, laidKinds := [.data, .pinned], laidTests := true, laidLooks := .later }
def FnExactRunsToUptoCardSaid : Prop := Claim7.holds Tryd.pinned (.plain (OpenSpec.upto fnExactRunsToSpec)) fnExactRunsToUptoCard
end Rows
end Go.Proofs.YtfdajhjmgcognaaDoor
