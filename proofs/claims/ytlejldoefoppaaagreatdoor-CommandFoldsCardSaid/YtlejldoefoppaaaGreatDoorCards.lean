/-
  DERIVED. GIVEN WITH THE SEED: THE CARDS: each row of YtlejldoefoppaaaGreatDoorRows.lean that lists a variable, with what it lists TIED to the program's text (the seventh form; the later family's looks); each row that meets fmt, with fmt's text TOLD by the authors' own Lean function (tested against real Go, not proved from fmt's source: count such statements apart). THE CARD IS WHAT COUNTS. Prove the row's statement (the work); the ties are given (YtlejldoefoppaaaGreatDoorTie.lean); close each card by the builder's one call (the guide's Derived/Test/ToyasCard.lean, 'card_holds'). Laid BY PROGRAM, IN A SANDBOX (cutbox-door.mjs). By AI agents, Wed Nov 11 2026. No macro, syntax, notation, axiom, sorry.
-/
import Derived.Test.YtlejldoefoppaaaGreatDoorRows
import GoSem.ClaimSeven
namespace Go.Proofs.YtlejldoefoppaaaGreatDoor
namespace Rows

/-- THE TIED CARD OF 'midrangelaw37.CommandChecks'. -/
def commandChecksCard : Claim7 := { stood := { row := commandChecksRow, standIns := [], harness := (true, "dcfb97216f6d2b121fcd51b0ae432803ef8c406ea5637533c15eaa5ea3d49895"), looks := true }, kinds := [], alts := [], laidByText := true, laidKinds := [.data, .data, .data, .data, .sentinel, .sentinel, .pinned, .pinned], laidTests := true, laidLooks := .later }
def CommandChecksCardSaid : Prop := Claim7.holds Tryz.pinned (.plain (OpenSpec.ofChange commandChecksSpec)) commandChecksCard

/-- THE TIED CARD OF 'midrangelaw37.CommandParses'. -/
def commandParsesCard : Claim7 := { stood := { row := commandParsesRow, standIns := [], harness := (true, "dcfb97216f6d2b121fcd51b0ae432803ef8c406ea5637533c15eaa5ea3d49895"), looks := true }, kinds := [], alts := [], laidByText := true, laidKinds := [.data, .data, .data, .data, .sentinel, .sentinel, .pinned, .pinned], laidTests := true, laidLooks := .later }
def CommandParsesCardSaid : Prop := Claim7.holds Tryz.pinned (.plain (OpenSpec.ofChange commandParsesSpec)) commandParsesCard

/-- THE TIED CARD OF 'midrangelaw37.CommandBinds'. -/
def commandBindsCard : Claim7 := { stood := { row := commandBindsRow, standIns := [], harness := (true, "dcfb97216f6d2b121fcd51b0ae432803ef8c406ea5637533c15eaa5ea3d49895"), looks := true }, kinds := [], alts := [], laidByText := true, laidKinds := [.data, .data, .data, .data, .sentinel, .sentinel, .pinned, .pinned], laidTests := true, laidLooks := .later }
def CommandBindsCardSaid : Prop := Claim7.holds Tryz.pinned (.plain (OpenSpec.ofChange commandBindsSpec)) commandBindsCard

/-- THE TIED CARD OF 'midrangelaw37.CommandCalls'. -/
def commandCallsCard : Claim7 := { stood := { row := commandCallsRow, standIns := [], harness := (true, "dcfb97216f6d2b121fcd51b0ae432803ef8c406ea5637533c15eaa5ea3d49895"), looks := true }, kinds := [], alts := [], laidByText := true, laidKinds := [.data, .data, .data, .data, .sentinel, .sentinel, .pinned, .pinned], laidTests := true, laidLooks := .later }
def CommandCallsCardSaid : Prop := Claim7.holds Tryz.pinned (.plain (OpenSpec.ofChange commandCallsSpec)) commandCallsCard

/-- THE TIED CARD OF 'midrangelaw37.CommandCanonical'. -/
def commandCanonicalCard : Claim7 := { stood := { row := commandCanonicalRow, standIns := [], harness := (true, "dcfb97216f6d2b121fcd51b0ae432803ef8c406ea5637533c15eaa5ea3d49895"), looks := true }, kinds := [], alts := [], laidByText := true, laidKinds := [.data, .data, .data, .data, .sentinel, .sentinel, .pinned, .pinned], laidTests := true, laidLooks := .later }
def CommandCanonicalCardSaid : Prop := Claim7.holds Tryz.pinned (.plain (OpenSpec.ofChange commandCanonicalSpec)) commandCanonicalCard

/-- THE TIED CARD OF 'midrangelaw37.CommandPositions'. -/
def commandPositionsCard : Claim7 := { stood := { row := commandPositionsRow, standIns := [], harness := (true, "dcfb97216f6d2b121fcd51b0ae432803ef8c406ea5637533c15eaa5ea3d49895"), looks := true }, kinds := [], alts := [], laidByText := true, laidKinds := [.data, .data, .data, .data, .sentinel, .sentinel, .pinned, .pinned], laidTests := true, laidLooks := .later }
def CommandPositionsCardSaid : Prop := Claim7.holds Tryz.pinned (.plain (OpenSpec.ofChange commandPositionsSpec)) commandPositionsCard

/-- THE TIED CARD OF 'midrangelaw37.CommandTexts'. -/
def commandTextsCard : Claim7 := { stood := { row := commandTextsRow, standIns := [], harness := (true, "dcfb97216f6d2b121fcd51b0ae432803ef8c406ea5637533c15eaa5ea3d49895"), looks := true }, kinds := [], alts := [], laidByText := true, laidKinds := [.data, .data, .data, .data, .sentinel, .sentinel, .pinned, .pinned], laidTests := true, laidLooks := .later }
def CommandTextsCardSaid : Prop := Claim7.holds Tryz.pinned (.plain (OpenSpec.ofChange commandTextsSpec)) commandTextsCard

/-- THE TIED CARD OF 'midrangelaw37.CommandValues'. -/
def commandValuesCard : Claim7 := { stood := { row := commandValuesRow, standIns := [], harness := (true, "dcfb97216f6d2b121fcd51b0ae432803ef8c406ea5637533c15eaa5ea3d49895"), looks := true }, kinds := [], alts := [], laidByText := true, laidKinds := [.data, .data, .data, .data, .sentinel, .sentinel, .pinned, .pinned], laidTests := true, laidLooks := .later }
def CommandValuesCardSaid : Prop := Claim7.holds Tryz.pinned (.plain (OpenSpec.ofChange commandValuesSpec)) commandValuesCard

/-- THE TIED CARD OF 'midrangelaw37.CommandBack'. -/
def commandBackCard : Claim7 := { stood := { row := commandBackRow, standIns := [], harness := (true, "dcfb97216f6d2b121fcd51b0ae432803ef8c406ea5637533c15eaa5ea3d49895"), looks := true }, kinds := [], alts := [], laidByText := true, laidKinds := [.data, .data, .data, .data, .sentinel, .sentinel, .pinned, .pinned], laidTests := true, laidLooks := .later }
def CommandBackCardSaid : Prop := Claim7.holds Tryz.pinned (.plain (OpenSpec.ofChange commandBackSpec)) commandBackCard

/-- THE TIED CARD OF 'midrangelaw37.CommandFolds'. -/
def commandFoldsCard : Claim7 := { stood := { row := commandFoldsRow, standIns := [], harness := (true, "dcfb97216f6d2b121fcd51b0ae432803ef8c406ea5637533c15eaa5ea3d49895"), looks := true }, kinds := [], alts := [], laidByText := true, laidKinds := [.data, .data, .data, .data, .sentinel, .sentinel, .pinned, .pinned], laidTests := true, laidLooks := .later }
def CommandFoldsCardSaid : Prop := Claim7.holds Tryz.pinned (.plain (OpenSpec.ofChange commandFoldsSpec)) commandFoldsCard

/-- THE SECOND FORM's CARD OF 'midrangelaw37.CommandChecks'. -/
def commandChecksUptoCard : Claim7 := { stood := { row := commandChecksUptoRow, standIns := [], harness := (true, "dcfb97216f6d2b121fcd51b0ae432803ef8c406ea5637533c15eaa5ea3d49895"), looks := true }, kinds := [], alts := [], laidByText := true, laidKinds := [.data, .data, .data, .data, .sentinel, .sentinel, .pinned, .pinned], laidTests := true, laidLooks := .later }
def CommandChecksUptoCardSaid : Prop := Claim7.holds Tryz.pinned (.plain (OpenSpec.upto commandChecksSpec)) commandChecksUptoCard

/-- THE SECOND FORM's CARD OF 'midrangelaw37.CommandParses'. -/
def commandParsesUptoCard : Claim7 := { stood := { row := commandParsesUptoRow, standIns := [], harness := (true, "dcfb97216f6d2b121fcd51b0ae432803ef8c406ea5637533c15eaa5ea3d49895"), looks := true }, kinds := [], alts := [], laidByText := true, laidKinds := [.data, .data, .data, .data, .sentinel, .sentinel, .pinned, .pinned], laidTests := true, laidLooks := .later }
def CommandParsesUptoCardSaid : Prop := Claim7.holds Tryz.pinned (.plain (OpenSpec.upto commandParsesSpec)) commandParsesUptoCard

/-- THE SECOND FORM's CARD OF 'midrangelaw37.CommandBinds'. -/
def commandBindsUptoCard : Claim7 := { stood := { row := commandBindsUptoRow, standIns := [], harness := (true, "dcfb97216f6d2b121fcd51b0ae432803ef8c406ea5637533c15eaa5ea3d49895"), looks := true }, kinds := [], alts := [], laidByText := true, laidKinds := [.data, .data, .data, .data, .sentinel, .sentinel, .pinned, .pinned], laidTests := true, laidLooks := .later }
def CommandBindsUptoCardSaid : Prop := Claim7.holds Tryz.pinned (.plain (OpenSpec.upto commandBindsSpec)) commandBindsUptoCard

/-- THE SECOND FORM's CARD OF 'midrangelaw37.CommandCalls'. -/
def commandCallsUptoCard : Claim7 := { stood := { row := commandCallsUptoRow, standIns := [], harness := (true, "dcfb97216f6d2b121fcd51b0ae432803ef8c406ea5637533c15eaa5ea3d49895"), looks := true }, kinds := [], alts := [], laidByText := true, laidKinds := [.data, .data, .data, .data, .sentinel, .sentinel, .pinned, .pinned], laidTests := true, laidLooks := .later }
def CommandCallsUptoCardSaid : Prop := Claim7.holds Tryz.pinned (.plain (OpenSpec.upto commandCallsSpec)) commandCallsUptoCard

/-- THE SECOND FORM's CARD OF 'midrangelaw37.CommandCanonical'. -/
def commandCanonicalUptoCard : Claim7 := { stood := { row := commandCanonicalUptoRow, standIns := [], harness := (true, "dcfb97216f6d2b121fcd51b0ae432803ef8c406ea5637533c15eaa5ea3d49895"), looks := true }, kinds := [], alts := [], laidByText := true, laidKinds := [.data, .data, .data, .data, .sentinel, .sentinel, .pinned, .pinned], laidTests := true, laidLooks := .later }
def CommandCanonicalUptoCardSaid : Prop := Claim7.holds Tryz.pinned (.plain (OpenSpec.upto commandCanonicalSpec)) commandCanonicalUptoCard

/-- THE SECOND FORM's CARD OF 'midrangelaw37.CommandPositions'. -/
def commandPositionsUptoCard : Claim7 := { stood := { row := commandPositionsUptoRow, standIns := [], harness := (true, "dcfb97216f6d2b121fcd51b0ae432803ef8c406ea5637533c15eaa5ea3d49895"), looks := true }, kinds := [], alts := [], laidByText := true, laidKinds := [.data, .data, .data, .data, .sentinel, .sentinel, .pinned, .pinned], laidTests := true, laidLooks := .later }
def CommandPositionsUptoCardSaid : Prop := Claim7.holds Tryz.pinned (.plain (OpenSpec.upto commandPositionsSpec)) commandPositionsUptoCard

/-- THE SECOND FORM's CARD OF 'midrangelaw37.CommandTexts'. -/
def commandTextsUptoCard : Claim7 := { stood := { row := commandTextsUptoRow, standIns := [], harness := (true, "dcfb97216f6d2b121fcd51b0ae432803ef8c406ea5637533c15eaa5ea3d49895"), looks := true }, kinds := [], alts := [], laidByText := true, laidKinds := [.data, .data, .data, .data, .sentinel, .sentinel, .pinned, .pinned], laidTests := true, laidLooks := .later }
def CommandTextsUptoCardSaid : Prop := Claim7.holds Tryz.pinned (.plain (OpenSpec.upto commandTextsSpec)) commandTextsUptoCard

/-- THE SECOND FORM's CARD OF 'midrangelaw37.CommandValues'. -/
def commandValuesUptoCard : Claim7 := { stood := { row := commandValuesUptoRow, standIns := [], harness := (true, "dcfb97216f6d2b121fcd51b0ae432803ef8c406ea5637533c15eaa5ea3d49895"), looks := true }, kinds := [], alts := [], laidByText := true, laidKinds := [.data, .data, .data, .data, .sentinel, .sentinel, .pinned, .pinned], laidTests := true, laidLooks := .later }
def CommandValuesUptoCardSaid : Prop := Claim7.holds Tryz.pinned (.plain (OpenSpec.upto commandValuesSpec)) commandValuesUptoCard

/-- THE SECOND FORM's CARD OF 'midrangelaw37.CommandBack'. -/
def commandBackUptoCard : Claim7 := { stood := { row := commandBackUptoRow, standIns := [], harness := (true, "dcfb97216f6d2b121fcd51b0ae432803ef8c406ea5637533c15eaa5ea3d49895"), looks := true }, kinds := [], alts := [], laidByText := true, laidKinds := [.data, .data, .data, .data, .sentinel, .sentinel, .pinned, .pinned], laidTests := true, laidLooks := .later }
def CommandBackUptoCardSaid : Prop := Claim7.holds Tryz.pinned (.plain (OpenSpec.upto commandBackSpec)) commandBackUptoCard

/-- THE SECOND FORM's CARD OF 'midrangelaw37.CommandFolds'. -/
def commandFoldsUptoCard : Claim7 := { stood := { row := commandFoldsUptoRow, standIns := [], harness := (true, "dcfb97216f6d2b121fcd51b0ae432803ef8c406ea5637533c15eaa5ea3d49895"), looks := true }, kinds := [], alts := [], laidByText := true, laidKinds := [.data, .data, .data, .data, .sentinel, .sentinel, .pinned, .pinned], laidTests := true, laidLooks := .later }
def CommandFoldsUptoCardSaid : Prop := Claim7.holds Tryz.pinned (.plain (OpenSpec.upto commandFoldsSpec)) commandFoldsUptoCard
end Rows
end Go.Proofs.YtlejldoefoppaaaGreatDoor
