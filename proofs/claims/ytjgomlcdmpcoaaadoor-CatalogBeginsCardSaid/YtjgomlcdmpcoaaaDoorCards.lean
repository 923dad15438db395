/-
  DERIVED. GIVEN WITH THE SEED: THE CARDS: each row of YtjgomlcdmpcoaaaDoorRows.lean that lists a variable, with what it lists TIED to the program's text (the seventh form; the later family's looks); each row that meets fmt, with fmt's text TOLD by the authors' own Lean function (tested against real Go, not proved from fmt's source: count such statements apart). THE CARD IS WHAT COUNTS. Prove the row's statement (the work); the ties are given (YtjgomlcdmpcoaaaDoorTie.lean); close each card by the builder's one call (the guide's Derived/Test/ToyasCard.lean, 'card_holds'). Laid BY PROGRAM, IN A SANDBOX (cutbox-door.mjs). By AI agents, Wed Nov 11 2026. No macro, syntax, notation, axiom, sorry.
-/
import Derived.Test.YtjgomlcdmpcoaaaDoorRows
import GoSem.ClaimSeven
namespace Go.Proofs.YtjgomlcdmpcoaaaDoor
namespace Rows

/-- THE TIED CARD OF 'falseworklaw24.JobMays'. -/
def jobMaysCard : Claim7 := { stood := { row := jobMaysRow, standIns := [], harness := (true, "44aa4cead2070c6042881a16e479f7546cb75e2fd489318d091ed7aa3b0da758"), looks := false }, kinds := [], alts := [], laidByText := true, laidKinds := [.listed, .data], laidTests := true, laidLooks := .later }
def JobMaysCardSaid : Prop := Claim7.holds Tryd.pinned (.plain (OpenSpec.ofChange jobMaysSpec)) jobMaysCard

/-- THE TIED CARD OF 'falseworklaw24.JobNexts'. -/
def jobNextsCard : Claim7 := { stood := { row := jobNextsRow, standIns := [], harness := (true, "44aa4cead2070c6042881a16e479f7546cb75e2fd489318d091ed7aa3b0da758"), looks := false }, kinds := [], alts := [], laidByText := true, laidKinds := [.listed, .data], laidTests := true, laidLooks := .later }
def JobNextsCardSaid : Prop := Claim7.holds Tryd.pinned (.plain (OpenSpec.ofChange jobNextsSpec)) jobNextsCard

/-- THE TIED CARD OF 'falseworklaw24.JobEnds'. -/
def jobEndsCard : Claim7 := { stood := { row := jobEndsRow, standIns := [], harness := (true, "44aa4cead2070c6042881a16e479f7546cb75e2fd489318d091ed7aa3b0da758"), looks := false }, kinds := [], alts := [], laidByText := true, laidKinds := [.listed, .data], laidTests := true, laidLooks := .later }
def JobEndsCardSaid : Prop := Claim7.holds Tryd.pinned (.plain (OpenSpec.ofChange jobEndsSpec)) jobEndsCard

/-- THE TIED CARD OF 'falseworklaw6.DescNames'. -/
def descNamesCard : Claim7 := { stood := { row := descNamesRow, standIns := [], harness := (true, "44aa4cead2070c6042881a16e479f7546cb75e2fd489318d091ed7aa3b0da758"), looks := false }, kinds := [], alts := [], laidByText := true, laidKinds := [.listed, .data], laidTests := true, laidLooks := .later }
def DescNamesCardSaid : Prop := Claim7.holds Tryd.pinned (.plain (OpenSpec.ofChange descNamesSpec)) descNamesCard

/-- THE TIED CARD OF 'falseworklaw6.DescMays'. -/
def descMaysCard : Claim7 := { stood := { row := descMaysRow, standIns := [], harness := (true, "44aa4cead2070c6042881a16e479f7546cb75e2fd489318d091ed7aa3b0da758"), looks := false }, kinds := [], alts := [], laidByText := true, laidKinds := [.listed, .data], laidTests := true, laidLooks := .later }
def DescMaysCardSaid : Prop := Claim7.holds Tryd.pinned (.plain (OpenSpec.ofChange descMaysSpec)) descMaysCard

/-- THE TIED CARD OF 'falseworklaw6.DescPuts'. -/
def descPutsCard : Claim7 := { stood := { row := descPutsRow, standIns := [], harness := (true, "44aa4cead2070c6042881a16e479f7546cb75e2fd489318d091ed7aa3b0da758"), looks := false }, kinds := [], alts := [], laidByText := true, laidKinds := [.listed, .data], laidTests := true, laidLooks := .later }
def DescPutsCardSaid : Prop := Claim7.holds Tryd.pinned (.plain (OpenSpec.ofChange descPutsSpec)) descPutsCard

/-- THE TIED CARD OF 'falseworklaw24.JobPuts'. -/
def jobPutsCard : Claim7 := { stood := { row := jobPutsRow, standIns := [], harness := (true, "44aa4cead2070c6042881a16e479f7546cb75e2fd489318d091ed7aa3b0da758"), looks := false }, kinds := [], alts := [], laidByText := true, laidKinds := [.listed, .data], laidTests := true, laidLooks := .later }
def JobPutsCardSaid : Prop := Claim7.holds Tryd.pinned (.plain (OpenSpec.ofChange jobPutsSpec)) jobPutsCard

/-- THE TIED CARD OF 'falseworklaw24.JobGets'. -/
def jobGetsCard : Claim7 := { stood := { row := jobGetsRow, standIns := [], harness := (true, "44aa4cead2070c6042881a16e479f7546cb75e2fd489318d091ed7aa3b0da758"), looks := false }, kinds := [], alts := [], laidByText := true, laidKinds := [.listed, .data], laidTests := true, laidLooks := .later }
def JobGetsCardSaid : Prop := Claim7.holds Tryd.pinned (.plain (OpenSpec.ofChange jobGetsSpec)) jobGetsCard

/-- THE TIED CARD OF 'falseworklaw24.JobBack'. -/
def jobBackCard : Claim7 := { stood := { row := jobBackRow, standIns := [], harness := (true, "44aa4cead2070c6042881a16e479f7546cb75e2fd489318d091ed7aa3b0da758"), looks := false }, kinds := [], alts := [], laidByText := true, laidKinds := [.listed, .data], laidTests := true, laidLooks := .later }
def JobBackCardSaid : Prop := Claim7.holds Tryd.pinned (.plain (OpenSpec.ofChange jobBackSpec)) jobBackCard

/-- THE TIED CARD OF 'falseworklaw6.DescGets'. -/
def descGetsCard : Claim7 := { stood := { row := descGetsRow, standIns := [], harness := (true, "44aa4cead2070c6042881a16e479f7546cb75e2fd489318d091ed7aa3b0da758"), looks := false }, kinds := [], alts := [], laidByText := true, laidKinds := [.listed, .data], laidTests := true, laidLooks := .later }
def DescGetsCardSaid : Prop := Claim7.holds Tryd.pinned (.plain (OpenSpec.ofChange descGetsSpec)) descGetsCard

/-- THE TIED CARD OF 'falseworklaw6.DescBack'. -/
def descBackCard : Claim7 := { stood := { row := descBackRow, standIns := [], harness := (true, "44aa4cead2070c6042881a16e479f7546cb75e2fd489318d091ed7aa3b0da758"), looks := false }, kinds := [], alts := [], laidByText := true, laidKinds := [.listed, .data], laidTests := true, laidLooks := .later }
def DescBackCardSaid : Prop := Claim7.holds Tryd.pinned (.plain (OpenSpec.ofChange descBackSpec)) descBackCard

/-- THE TIED CARD OF 'falseworklaw6.DescTurned'. -/
def descTurnedCard : Claim7 := { stood := { row := descTurnedRow, standIns := [], harness := (true, "44aa4cead2070c6042881a16e479f7546cb75e2fd489318d091ed7aa3b0da758"), looks := false }, kinds := [], alts := [], laidByText := true, laidKinds := [.listed, .data], laidTests := true, laidLooks := .later }
def DescTurnedCardSaid : Prop := Claim7.holds Tryd.pinned (.plain (OpenSpec.ofChange descTurnedSpec)) descTurnedCard

/-- THE TIED CARD OF 'falseworklaw19.CatalogCreates'. -/
def catalogCreatesCard : Claim7 := { stood := { row := catalogCreatesRow, standIns := [], harness := (true, "44aa4cead2070c6042881a16e479f7546cb75e2fd489318d091ed7aa3b0da758"), looks := false }, kinds := [], alts := [], laidByText := true, laidKinds := [.listed, .data], laidTests := true, laidLooks := .later }
def CatalogCreatesCardSaid : Prop := Claim7.holds Tryd.pinned (.plain (OpenSpec.ofChange catalogCreatesSpec)) catalogCreatesCard

/-- THE TIED CARD OF 'falseworklaw19.CatalogBegins'. -/
def catalogBeginsCard : Claim7 := { stood := { row := catalogBeginsRow, standIns := [], harness := (true, "44aa4cead2070c6042881a16e479f7546cb75e2fd489318d091ed7aa3b0da758"), looks := false }, kinds := [], alts := [], laidByText := true, laidKinds := [.listed, .data], laidTests := true, laidLooks := .later }
def CatalogBeginsCardSaid : Prop := Claim7.holds Tryd.pinned (.plain (OpenSpec.ofChange catalogBeginsSpec)) catalogBeginsCard

/-- THE TIED CARD OF 'falseworklaw19.CatalogSteps'. -/
def catalogStepsCard : Claim7 := { stood := { row := catalogStepsRow, standIns := [], harness := (true, "44aa4cead2070c6042881a16e479f7546cb75e2fd489318d091ed7aa3b0da758"), looks := false }, kinds := [], alts := [], laidByText := true, laidKinds := [.listed, .data], laidTests := true, laidLooks := .later }
def CatalogStepsCardSaid : Prop := Claim7.holds Tryd.pinned (.plain (OpenSpec.ofChange catalogStepsSpec)) catalogStepsCard

/-- THE TIED CARD OF 'falseworklaw19.CatalogRight'. -/
def catalogRightCard : Claim7 := { stood := { row := catalogRightRow, standIns := [], harness := (true, "44aa4cead2070c6042881a16e479f7546cb75e2fd489318d091ed7aa3b0da758"), looks := false }, kinds := [], alts := [], laidByText := true, laidKinds := [.listed, .data], laidTests := true, laidLooks := .later }
def CatalogRightCardSaid : Prop := Claim7.holds Tryd.pinned (.plain (OpenSpec.ofChange catalogRightSpec)) catalogRightCard

/-- THE TIED CARD OF 'falseworklaw19.CatalogRound'. -/
def catalogRoundCard : Claim7 := { stood := { row := catalogRoundRow, standIns := [], harness := (true, "44aa4cead2070c6042881a16e479f7546cb75e2fd489318d091ed7aa3b0da758"), looks := false }, kinds := [], alts := [], laidByText := true, laidKinds := [.listed, .data], laidTests := true, laidLooks := .later }
def CatalogRoundCardSaid : Prop := Claim7.holds Tryd.pinned (.plain (OpenSpec.ofChange catalogRoundSpec)) catalogRoundCard

/-- THE TIED CARD OF 'falseworklaw19.CatalogTables'. -/
def catalogTablesCard : Claim7 := { stood := { row := catalogTablesRow, standIns := [], harness := (true, "44aa4cead2070c6042881a16e479f7546cb75e2fd489318d091ed7aa3b0da758"), looks := false }, kinds := [], alts := [], laidByText := true, laidKinds := [.listed, .data], laidTests := true, laidLooks := .later }
def CatalogTablesCardSaid : Prop := Claim7.holds Tryd.pinned (.plain (OpenSpec.ofChange catalogTablesSpec)) catalogTablesCard

/-- THE TIED CARD OF 'falseworklaw19.CatalogWays'. -/
def catalogWaysCard : Claim7 := { stood := { row := catalogWaysRow, standIns := [], harness := (true, "44aa4cead2070c6042881a16e479f7546cb75e2fd489318d091ed7aa3b0da758"), looks := false }, kinds := [], alts := [], laidByText := true, laidKinds := [.listed, .data], laidTests := true, laidLooks := .later }
def CatalogWaysCardSaid : Prop := Claim7.holds Tryd.pinned (.plain (OpenSpec.ofChange catalogWaysSpec)) catalogWaysCard

/-- THE SECOND FORM's CARD OF 'falseworklaw24.JobMays'. -/
def jobMaysUptoCard : Claim7 := { stood := { row := jobMaysUptoRow, standIns := [], harness := (true, "44aa4cead2070c6042881a16e479f7546cb75e2fd489318d091ed7aa3b0da758"), looks := false }, kinds := [], alts := [], laidByText := true, laidKinds := [.listed, .data], laidTests := true, laidLooks := .later }
def JobMaysUptoCardSaid : Prop := Claim7.holds Tryd.pinned (.plain (OpenSpec.upto jobMaysSpec)) jobMaysUptoCard

/-- THE SECOND FORM's CARD OF 'falseworklaw24.JobNexts'. -/
def jobNextsUptoCard : Claim7 := { stood := { row := jobNextsUptoRow, standIns := [], harness := (true, "44aa4cead2070c6042881a16e479f7546cb75e2fd489318d091ed7aa3b0da758"), looks := false }, kinds := [], alts := [], laidByText := true, laidKinds := [.listed, .data], laidTests := true, laidLooks := .later }
def JobNextsUptoCardSaid : Prop := Claim7.holds Tryd.pinned (.plain (OpenSpec.upto jobNextsSpec)) jobNextsUptoCard

/-- THE SECOND FORM's CARD OF 'falseworklaw24.JobEnds'. -/
def jobEndsUptoCard : Claim7 := { stood := { row := jobEndsUptoRow, standIns := [], harness := (true, "44aa4cead2070c6042881a16e479f7546cb75e2fd489318d091ed7aa3b0da758"), looks := false }, kinds := [], alts := [], laidByText := true, laidKinds := [.listed, .data], laidTests := true, laidLooks := .later }
def JobEndsUptoCardSaid : Prop := Claim7.holds Tryd.pinned (.plain (OpenSpec.upto jobEndsSpec)) jobEndsUptoCard

/-- THE SECOND FORM's CARD OF 'falseworklaw6.DescNames'. -/
def descNamesUptoCard : Claim7 := { stood := { row := descNamesUptoRow, standIns := [], harness := (true, "44aa4cead2070c6042881a16e479f7546cb75e2fd489318d091ed7aa3b0da758"), looks := false }, kinds := [], alts := [], laidByText := true, laidKinds := [.listed, .data], laidTests := true, laidLooks := .later }
def DescNamesUptoCardSaid : Prop := Claim7.holds Tryd.pinned (.plain (OpenSpec.upto descNamesSpec)) descNamesUptoCard

/-- THE SECOND FORM's CARD OF 'falseworklaw6.DescMays'. -/
def descMaysUptoCard : Claim7 := { stood := { row := descMaysUptoRow, standIns := [], harness := (true, "44aa4cead2070c6042881a16e479f7546cb75e2fd489318d091ed7aa3b0da758"), looks := false }, kinds := [], alts := [], laidByText := true, laidKinds := [.listed, .data], laidTests := true, laidLooks := .later }
def DescMaysUptoCardSaid : Prop := Claim7.holds Tryd.pinned (.plain (OpenSpec.upto descMaysSpec)) descMaysUptoCard

/-- THE SECOND FORM's CARD OF 'falseworklaw6.DescPuts'. -/
def descPutsUptoCard : Claim7 := { stood := { row := descPutsUptoRow, standIns := [], harness := (true, "44aa4cead2070c6042881a16e479f7546cb75e2fd489318d091ed7aa3b0da758"), looks := false }, kinds := [], alts := [], laidByText := true, laidKinds := [.listed, .data], laidTests := true, laidLooks := .later }
def DescPutsUptoCardSaid : Prop := Claim7.holds Tryd.pinned (.plain (OpenSpec.upto descPutsSpec)) descPutsUptoCard

/-- THE SECOND FORM's CARD OF 'falseworklaw24.JobPuts'. -/
def jobPutsUptoCard : Claim7 := { stood := { row := jobPutsUptoRow, standIns := [], harness := (true, "44aa4cead2070c6042881a16e479f7546cb75e2fd489318d091ed7aa3b0da758"), looks := false }, kinds := [], alts := [], laidByText := true, laidKinds := [.listed, .data], laidTests := true, laidLooks := .later }
def JobPutsUptoCardSaid : Prop := Claim7.holds Tryd.pinned (.plain (OpenSpec.upto jobPutsSpec)) jobPutsUptoCard

/-- THE SECOND FORM's CARD OF 'falseworklaw24.JobGets'. -/
def jobGetsUptoCard : Claim7 := { stood := { row := jobGetsUptoRow, standIns := [], harness := (true, "44aa4cead2070c6042881a16e479f7546cb75e2fd489318d091ed7aa3b0da758"), looks := false }, kinds := [], alts := [], laidByText := true, laidKinds := [.listed, .data], laidTests := true, laidLooks := .later }
def JobGetsUptoCardSaid : Prop := Claim7.holds Tryd.pinned (.plain (OpenSpec.upto jobGetsSpec)) jobGetsUptoCard

/-- THE SECOND FORM's CARD OF 'falseworklaw24.JobBack'. -/
def jobBackUptoCard : Claim7 := { stood := { row := jobBackUptoRow, standIns := [], harness := (true, "44aa4cead2070c6042881a16e479f7546cb75e2fd489318d091ed7aa3b0da758"), looks := false }, kinds := [], alts := [], laidByText := true, laidKinds := [.listed, .data], laidTests := true, laidLooks := .later }
def JobBackUptoCardSaid : Prop := Claim7.holds Tryd.pinned (.plain (OpenSpec.upto jobBackSpec)) jobBackUptoCard

/-- THE SECOND FORM's CARD OF 'falseworklaw6.DescGets'. -/
def descGetsUptoCard : Claim7 := { stood := { row := descGetsUptoRow, standIns := [], harness := (true, "44aa4cead2070c6042881a16e479f7546cb75e2fd489318d091ed7aa3b0da758"), looks := false }, kinds := [], alts := [], laidByText := true, laidKinds := [.listed, .data], laidTests := true, laidLooks := .later }
def DescGetsUptoCardSaid : Prop := Claim7.holds Tryd.pinned (.plain (OpenSpec.upto descGetsSpec)) descGetsUptoCard

/-- THE SECOND FORM's CARD OF 'falseworklaw6.DescBack'. -/
def descBackUptoCard : Claim7 := { stood := { row := descBackUptoRow, standIns := [], harness := (true, "44aa4cead2070c6042881a16e479f7546cb75e2fd489318d091ed7aa3b0da758"), looks := false }, kinds := [], alts := [], laidByText := true, laidKinds := [.listed, .data], laidTests := true, laidLooks := .later }
def DescBackUptoCardSaid : Prop := Claim7.holds Tryd.pinned (.plain (OpenSpec.upto descBackSpec)) descBackUptoCard

/-- THE SECOND FORM's CARD OF 'falseworklaw6.DescTurned'. -/
def descTurnedUptoCard : Claim7 := { stood := { row := descTurnedUptoRow, standIns := [], harness := (true, "44aa4cead2070c6042881a16e479f7546cb75e2fd489318d091ed7aa3b0da758"), looks := false }, kinds := [], alts := [], laidByText := true, laidKinds := [.listed, .data], laidTests := true, laidLooks := .later }
def DescTurnedUptoCardSaid : Prop := Claim7.holds Tryd.pinned (.plain (OpenSpec.upto descTurnedSpec)) descTurnedUptoCard

/-- THE SECOND FORM's CARD OF 'falseworklaw19.CatalogCreates'. -/
def catalogCreatesUptoCard : Claim7 := { stood := { row := catalogCreatesUptoRow, standIns := [], harness := (true, "44aa4cead2070c6042881a16e479f7546cb75e2fd489318d091ed7aa3b0da758"), looks := false }, kinds := [], alts := [], laidByText := true, laidKinds := [.listed, .data], laidTests := true, laidLooks := .later }
def CatalogCreatesUptoCardSaid : Prop := Claim7.holds Tryd.pinned (.plain (OpenSpec.upto catalogCreatesSpec)) catalogCreatesUptoCard

/-- THE SECOND FORM's CARD OF 'falseworklaw19.CatalogBegins'. -/
def catalogBeginsUptoCard : Claim7 := { stood := { row := catalogBeginsUptoRow, standIns := [], harness := (true, "44aa4cead2070c6042881a16e479f7546cb75e2fd489318d091ed7aa3b0da758"), looks := false }, kinds := [], alts := [], laidByText := true, laidKinds := [.listed, .data], laidTests := true, laidLooks := .later }
def CatalogBeginsUptoCardSaid : Prop := Claim7.holds Tryd.pinned (.plain (OpenSpec.upto catalogBeginsSpec)) catalogBeginsUptoCard

/-- THE SECOND FORM's CARD OF 'falseworklaw19.CatalogSteps'. -/
def catalogStepsUptoCard : Claim7 := { stood := { row := catalogStepsUptoRow, standIns := [], harness := (true, "44aa4cead2070c6042881a16e479f7546cb75e2fd489318d091ed7aa3b0da758"), looks := false }, kinds := [], alts := [], laidByText := true, laidKinds := [.listed, .data], laidTests := true, laidLooks := .later }
def CatalogStepsUptoCardSaid : Prop := Claim7.holds Tryd.pinned (.plain (OpenSpec.upto catalogStepsSpec)) catalogStepsUptoCard

/-- THE SECOND FORM's CARD OF 'falseworklaw19.CatalogRight'. -/
def catalogRightUptoCard : Claim7 := { stood := { row := catalogRightUptoRow, standIns := [], harness := (true, "44aa4cead2070c6042881a16e479f7546cb75e2fd489318d091ed7aa3b0da758"), looks := false }, kinds := [], alts := [], laidByText := true, laidKinds := [.listed, .data], laidTests := true, laidLooks := .later }
def CatalogRightUptoCardSaid : Prop := Claim7.holds Tryd.pinned (.plain (OpenSpec.upto catalogRightSpec)) catalogRightUptoCard

/-- THE SECOND FORM's CARD OF 'falseworklaw19.CatalogRound'. -/
def catalogRoundUptoCard : Claim7 := { stood := { row := catalogRoundUptoRow, standIns := [], harness := (true, "44aa4cead2070c6042881a16e479f7546cb75e2fd489318d091ed7aa3b0da758"), looks := false }, kinds := [], alts := [], laidByText := true, laidKinds := [.listed, .data], laidTests := true, laidLooks := .later }
def CatalogRoundUptoCardSaid : Prop := Claim7.holds Tryd.pinned (.plain (OpenSpec.upto catalogRoundSpec)) catalogRoundUptoCard

/-- THE SECOND FORM's CARD OF 'falseworklaw19.CatalogTables'. -/
def catalogTablesUptoCard : Claim7 := { stood := { row := catalogTablesUptoRow, standIns := [], harness := (true, "44aa4cead2070c6042881a16e479f7546cb75e2fd489318d091ed7aa3b0da758"), looks := false }, kinds := [], alts := [], laidByText := true, laidKinds := [.listed, .data], laidTests := true, laidLooks := .later }
def CatalogTablesUptoCardSaid : Prop := Claim7.holds Tryd.pinned (.plain (OpenSpec.upto catalogTablesSpec)) catalogTablesUptoCard

/-- THE SECOND FORM's CARD OF 'falseworklaw19.CatalogWays'. -/
def catalogWaysUptoCard : Claim7 := { stood := { row := catalogWaysUptoRow, standIns := [], harness := (true, "44aa4cead2070c6042881a16e479f7546cb75e2fd489318d091ed7aa3b0da758"), looks := false }, kinds := [], alts := [], laidByText := true, laidKinds := [.listed, .data], laidTests := true, laidLooks := .later }
def CatalogWaysUptoCardSaid : Prop := Claim7.holds Tryd.pinned (.plain (OpenSpec.upto catalogWaysSpec)) catalogWaysUptoCard
end Rows
end Go.Proofs.YtjgomlcdmpcoaaaDoor
