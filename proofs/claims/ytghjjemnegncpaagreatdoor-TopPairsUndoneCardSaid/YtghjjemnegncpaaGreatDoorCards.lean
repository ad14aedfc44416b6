/-
  DERIVED. GIVEN WITH THE SEED: THE CARDS: each row of YtghjjemnegncpaaGreatDoorRows.lean that lists a variable, with what it lists TIED to the program's text (the seventh form; the later family's looks); each row that meets fmt, with fmt's text TOLD by the authors' own Lean function (tested against real Go, not proved from fmt's source: count such statements apart). THE CARD IS WHAT COUNTS. Prove the row's statement (the work); the ties are given (YtghjjemnegncpaaGreatDoorTie.lean); close each card by the builder's one call (the guide's Derived/Test/ToyasCard.lean, 'card_holds'). Laid BY PROGRAM, IN A SANDBOX (cutbox-door.mjs). By AI agents, Wed Nov 11 2026. No macro, syntax, notation, axiom, sorry.
-/
import Derived.Test.YtghjjemnegncpaaGreatDoorRows
import GoSem.ClaimSeven
namespace Go.Proofs.YtghjjemnegncpaaGreatDoor
namespace Rows

/-- THE TIED CARD OF 'ringtop.TopLinesSwapped'. -/
def topLinesSwappedCard : Claim7 := { stood := { row := topLinesSwappedRow, standIns := [], harness := (true, "f866dc7034a5f5ff489dfbcbbcce66eaa87dbfb339e97dd42036271537d6b057"), looks := true }, kinds := [], alts := [], laidByText := true, laidKinds := [.data, .data, .data, .data, .sentinel, .sentinel, .listed, .data, .pinned], laidTests := true, laidLooks := .later }
def TopLinesSwappedCardSaid : Prop := Claim7.holds Tryz.pinned (.plain (OpenSpec.ofChange topLinesSwappedSpec)) topLinesSwappedCard

/-- THE TIED CARD OF 'ringtop.TopMovesWritten'. -/
def topMovesWrittenCard : Claim7 := { stood := { row := topMovesWrittenRow, standIns := [], harness := (true, "f866dc7034a5f5ff489dfbcbbcce66eaa87dbfb339e97dd42036271537d6b057"), looks := true }, kinds := [], alts := [], laidByText := true, laidKinds := [.data, .data, .data, .data, .sentinel, .sentinel, .listed, .data, .pinned], laidTests := true, laidLooks := .later }
def TopMovesWrittenCardSaid : Prop := Claim7.holds Tryz.pinned (.plain (OpenSpec.ofChange topMovesWrittenSpec)) topMovesWrittenCard

/-- THE TIED CARD OF 'ringtop.TopSetsWritten'. -/
def topSetsWrittenCard : Claim7 := { stood := { row := topSetsWrittenRow, standIns := [], harness := (true, "f866dc7034a5f5ff489dfbcbbcce66eaa87dbfb339e97dd42036271537d6b057"), looks := true }, kinds := [], alts := [], laidByText := true, laidKinds := [.data, .data, .data, .data, .sentinel, .sentinel, .listed, .data, .pinned], laidTests := true, laidLooks := .later }
def TopSetsWrittenCardSaid : Prop := Claim7.holds Tryz.pinned (.plain (OpenSpec.ofChange topSetsWrittenSpec)) topSetsWrittenCard

/-- THE TIED CARD OF 'ringtop.TopSumsParted'. -/
def topSumsPartedCard : Claim7 := { stood := { row := topSumsPartedRow, standIns := [], harness := (true, "f866dc7034a5f5ff489dfbcbbcce66eaa87dbfb339e97dd42036271537d6b057"), looks := true }, kinds := [], alts := [], laidByText := true, laidKinds := [.data, .data, .data, .data, .sentinel, .sentinel, .listed, .data, .pinned], laidTests := true, laidLooks := .later }
def TopSumsPartedCardSaid : Prop := Claim7.holds Tryz.pinned (.plain (OpenSpec.ofChange topSumsPartedSpec)) topSumsPartedCard

/-- THE TIED CARD OF 'ringtop.TopMemoryTwice'. -/
def topMemoryTwiceCard : Claim7 := { stood := { row := topMemoryTwiceRow, standIns := [], harness := (true, "f866dc7034a5f5ff489dfbcbbcce66eaa87dbfb339e97dd42036271537d6b057"), looks := true }, kinds := [], alts := [], laidByText := true, laidKinds := [.data, .data, .data, .data, .sentinel, .sentinel, .listed, .data, .pinned], laidTests := true, laidLooks := .later }
def TopMemoryTwiceCardSaid : Prop := Claim7.holds Tryz.pinned (.plain (OpenSpec.ofChange topMemoryTwiceSpec)) topMemoryTwiceCard

/-- THE TIED CARD OF 'ringtop.TopJunkSkipped'. -/
def topJunkSkippedCard : Claim7 := { stood := { row := topJunkSkippedRow, standIns := [], harness := (true, "f866dc7034a5f5ff489dfbcbbcce66eaa87dbfb339e97dd42036271537d6b057"), looks := true }, kinds := [], alts := [], laidByText := true, laidKinds := [.data, .data, .data, .data, .sentinel, .sentinel, .listed, .data, .pinned], laidTests := true, laidLooks := .later }
def TopJunkSkippedCardSaid : Prop := Claim7.holds Tryz.pinned (.plain (OpenSpec.ofChange topJunkSkippedSpec)) topJunkSkippedCard

/-- THE TIED CARD OF 'ringtop.TopHalvesTurned'. -/
def topHalvesTurnedCard : Claim7 := { stood := { row := topHalvesTurnedRow, standIns := [], harness := (true, "f866dc7034a5f5ff489dfbcbbcce66eaa87dbfb339e97dd42036271537d6b057"), looks := true }, kinds := [], alts := [], laidByText := true, laidKinds := [.data, .data, .data, .data, .sentinel, .sentinel, .listed, .data, .pinned], laidTests := true, laidLooks := .later }
def TopHalvesTurnedCardSaid : Prop := Claim7.holds Tryz.pinned (.plain (OpenSpec.ofChange topHalvesTurnedSpec)) topHalvesTurnedCard

/-- THE TIED CARD OF 'ringtop.TopCodesNothing'. -/
def topCodesNothingCard : Claim7 := { stood := { row := topCodesNothingRow, standIns := [], harness := (true, "f866dc7034a5f5ff489dfbcbbcce66eaa87dbfb339e97dd42036271537d6b057"), looks := true }, kinds := [], alts := [], laidByText := true, laidKinds := [.data, .data, .data, .data, .sentinel, .sentinel, .listed, .data, .pinned], laidTests := true, laidLooks := .later }
def TopCodesNothingCardSaid : Prop := Claim7.holds Tryz.pinned (.plain (OpenSpec.ofChange topCodesNothingSpec)) topCodesNothingCard

/-- THE TIED CARD OF 'ringtop.TopPairsUndone'. -/
def topPairsUndoneCard : Claim7 := { stood := { row := topPairsUndoneRow, standIns := [], harness := (true, "f866dc7034a5f5ff489dfbcbbcce66eaa87dbfb339e97dd42036271537d6b057"), looks := true }, kinds := [], alts := [], laidByText := true, laidKinds := [.data, .data, .data, .data, .sentinel, .sentinel, .listed, .data, .pinned], laidTests := true, laidLooks := .later }
def TopPairsUndoneCardSaid : Prop := Claim7.holds Tryz.pinned (.plain (OpenSpec.ofChange topPairsUndoneSpec)) topPairsUndoneCard

/-- THE TIED CARD OF 'ringtop.TopCodesSpaced'. -/
def topCodesSpacedCard : Claim7 := { stood := { row := topCodesSpacedRow, standIns := [], harness := (true, "f866dc7034a5f5ff489dfbcbbcce66eaa87dbfb339e97dd42036271537d6b057"), looks := true }, kinds := [], alts := [], laidByText := true, laidKinds := [.data, .data, .data, .data, .sentinel, .sentinel, .listed, .data, .pinned], laidTests := true, laidLooks := .later }
def TopCodesSpacedCardSaid : Prop := Claim7.holds Tryz.pinned (.plain (OpenSpec.ofChange topCodesSpacedSpec)) topCodesSpacedCard

/-- THE SECOND FORM's CARD OF 'ringtop.TopLinesSwapped'. -/
def topLinesSwappedUptoCard : Claim7 := { stood := { row := topLinesSwappedUptoRow, standIns := [], harness := (true, "f866dc7034a5f5ff489dfbcbbcce66eaa87dbfb339e97dd42036271537d6b057"), looks := true }, kinds := [], alts := [], laidByText := true, laidKinds := [.data, .data, .data, .data, .sentinel, .sentinel, .listed, .data, .pinned], laidTests := true, laidLooks := .later }
def TopLinesSwappedUptoCardSaid : Prop := Claim7.holds Tryz.pinned (.plain (OpenSpec.upto topLinesSwappedSpec)) topLinesSwappedUptoCard

/-- THE SECOND FORM's CARD OF 'ringtop.TopMovesWritten'. -/
def topMovesWrittenUptoCard : Claim7 := { stood := { row := topMovesWrittenUptoRow, standIns := [], harness := (true, "f866dc7034a5f5ff489dfbcbbcce66eaa87dbfb339e97dd42036271537d6b057"), looks := true }, kinds := [], alts := [], laidByText := true, laidKinds := [.data, .data, .data, .data, .sentinel, .sentinel, .listed, .data, .pinned], laidTests := true, laidLooks := .later }
def TopMovesWrittenUptoCardSaid : Prop := Claim7.holds Tryz.pinned (.plain (OpenSpec.upto topMovesWrittenSpec)) topMovesWrittenUptoCard

/-- THE SECOND FORM's CARD OF 'ringtop.TopSetsWritten'. -/
def topSetsWrittenUptoCard : Claim7 := { stood := { row := topSetsWrittenUptoRow, standIns := [], harness := (true, "f866dc7034a5f5ff489dfbcbbcce66eaa87dbfb339e97dd42036271537d6b057"), looks := true }, kinds := [], alts := [], laidByText := true, laidKinds := [.data, .data, .data, .data, .sentinel, .sentinel, .listed, .data, .pinned], laidTests := true, laidLooks := .later }
def TopSetsWrittenUptoCardSaid : Prop := Claim7.holds Tryz.pinned (.plain (OpenSpec.upto topSetsWrittenSpec)) topSetsWrittenUptoCard

/-- THE SECOND FORM's CARD OF 'ringtop.TopSumsParted'. -/
def topSumsPartedUptoCard : Claim7 := { stood := { row := topSumsPartedUptoRow, standIns := [], harness := (true, "f866dc7034a5f5ff489dfbcbbcce66eaa87dbfb339e97dd42036271537d6b057"), looks := true }, kinds := [], alts := [], laidByText := true, laidKinds := [.data, .data, .data, .data, .sentinel, .sentinel, .listed, .data, .pinned], laidTests := true, laidLooks := .later }
def TopSumsPartedUptoCardSaid : Prop := Claim7.holds Tryz.pinned (.plain (OpenSpec.upto topSumsPartedSpec)) topSumsPartedUptoCard

/-- THE SECOND FORM's CARD OF 'ringtop.TopMemoryTwice'. -/
def topMemoryTwiceUptoCard : Claim7 := { stood := { row := topMemoryTwiceUptoRow, standIns := [], harness := (true, "f866dc7034a5f5ff489dfbcbbcce66eaa87dbfb339e97dd42036271537d6b057"), looks := true }, kinds := [], alts := [], laidByText := true, laidKinds := [.data, .data, .data, .data, .sentinel, .sentinel, .listed, .data, .pinned], laidTests := true, laidLooks := .later }
def TopMemoryTwiceUptoCardSaid : Prop := Claim7.holds Tryz.pinned (.plain (OpenSpec.upto topMemoryTwiceSpec)) topMemoryTwiceUptoCard

/-- THE SECOND FORM's CARD OF 'ringtop.TopJunkSkipped'. -/
def topJunkSkippedUptoCard : Claim7 := { stood := { row := topJunkSkippedUptoRow, standIns := [], harness := (true, "f866dc7034a5f5ff489dfbcbbcce66eaa87dbfb339e97dd42036271537d6b057"), looks := true }, kinds := [], alts := [], laidByText := true, laidKinds := [.data, .data, .data, .data, .sentinel, .sentinel, .listed, .data, .pinned], laidTests := true, laidLooks := .later }
def TopJunkSkippedUptoCardSaid : Prop := Claim7.holds Tryz.pinned (.plain (OpenSpec.upto topJunkSkippedSpec)) topJunkSkippedUptoCard

/-- THE SECOND FORM's CARD OF 'ringtop.TopHalvesTurned'. -/
def topHalvesTurnedUptoCard : Claim7 := { stood := { row := topHalvesTurnedUptoRow, standIns := [], harness := (true, "f866dc7034a5f5ff489dfbcbbcce66eaa87dbfb339e97dd42036271537d6b057"), looks := true }, kinds := [], alts := [], laidByText := true, laidKinds := [.data, .data, .data, .data, .sentinel, .sentinel, .listed, .data, .pinned], laidTests := true, laidLooks := .later }
def TopHalvesTurnedUptoCardSaid : Prop := Claim7.holds Tryz.pinned (.plain (OpenSpec.upto topHalvesTurnedSpec)) topHalvesTurnedUptoCard

/-- THE SECOND FORM's CARD OF 'ringtop.TopCodesNothing'. -/
def topCodesNothingUptoCard : Claim7 := { stood := { row := topCodesNothingUptoRow, standIns := [], harness := (true, "f866dc7034a5f5ff489dfbcbbcce66eaa87dbfb339e97dd42036271537d6b057"), looks := true }, kinds := [], alts := [], laidByText := true, laidKinds := [.data, .data, .data, .data, .sentinel, .sentinel, .listed, .data, .pinned], laidTests := true, laidLooks := .later }
def TopCodesNothingUptoCardSaid : Prop := Claim7.holds Tryz.pinned (.plain (OpenSpec.upto topCodesNothingSpec)) topCodesNothingUptoCard

/-- THE SECOND FORM's CARD OF 'ringtop.TopPairsUndone'. -/
def topPairsUndoneUptoCard : Claim7 := { stood := { row := topPairsUndoneUptoRow, standIns := [], harness := (true, "f866dc7034a5f5ff489dfbcbbcce66eaa87dbfb339e97dd42036271537d6b057"), looks := true }, kinds := [], alts := [], laidByText := true, laidKinds := [.data, .data, .data, .data, .sentinel, .sentinel, .listed, .data, .pinned], laidTests := true, laidLooks := .later }
def TopPairsUndoneUptoCardSaid : Prop := Claim7.holds Tryz.pinned (.plain (OpenSpec.upto topPairsUndoneSpec)) topPairsUndoneUptoCard

/-- THE SECOND FORM's CARD OF 'ringtop.TopCodesSpaced'. -/
def topCodesSpacedUptoCard : Claim7 := { stood := { row := topCodesSpacedUptoRow, standIns := [], harness := (true, "f866dc7034a5f5ff489dfbcbbcce66eaa87dbfb339e97dd42036271537d6b057"), looks := true }, kinds := [], alts := [], laidByText := true, laidKinds := [.data, .data, .data, .data, .sentinel, .sentinel, .listed, .data, .pinned], laidTests := true, laidLooks := .later }
def TopCodesSpacedUptoCardSaid : Prop := Claim7.holds Tryz.pinned (.plain (OpenSpec.upto topCodesSpacedSpec)) topCodesSpacedUptoCard
end Rows
end Go.Proofs.YtghjjemnegncpaaGreatDoor
