/-
  DERIVED. GIVEN WITH THE SEED: THE CARDS: each row of YtghjjemnegncpaaDoorRows.lean that lists a variable, with what it lists TIED to the program's text (the seventh form; the later family's looks); each row that meets fmt, with fmt's text TOLD by the authors' own Lean function (tested against real Go, not proved from fmt's source: count such statements apart). THE CARD IS WHAT COUNTS. Prove the row's statement (the work); the ties are given (YtghjjemnegncpaaDoorTie.lean); close each card by the builder's one call (the guide's Derived/Test/ToyasCard.lean, 'card_holds'). Laid BY PROGRAM, IN A SANDBOX (cutbox-door.mjs). By AI agents, Wed Nov 11 2026. No macro, syntax, notation, axiom, sorry.
-/
import Derived.Test.YtghjjemnegncpaaDoorRows
import GoSem.ClaimSeven
namespace Go.Proofs.YtghjjemnegncpaaDoor
namespace Rows

/-- THE TIED CARD OF 'ringtop.TopCodesJoined'. -/
def topCodesJoinedCard : Claim7 := { stood := { row := topCodesJoinedRow, standIns := [], harness := (true, "dfeaa30cfa03968360ee47e0cf098686c80be6fe9d8e9dfff753dc3b19dffa6b"), looks := true }, kinds := [], alts := [], laidByText := true, laidKinds := [.data, .data, .data, .data, .sentinel, .sentinel, .listed, .data, .pinned], laidTests := true, laidLooks := .later }
def TopCodesJoinedCardSaid : Prop := Claim7.holds Tryd.pinned (.plain (OpenSpec.ofChange topCodesJoinedSpec)) topCodesJoinedCard

/-- THE TIED CARD OF 'ringtop.TopRegistersTurned'. -/
def topRegistersTurnedCard : Claim7 := { stood := { row := topRegistersTurnedRow, standIns := [], harness := (true, "dfeaa30cfa03968360ee47e0cf098686c80be6fe9d8e9dfff753dc3b19dffa6b"), looks := true }, kinds := [], alts := [], laidByText := true, laidKinds := [.data, .data, .data, .data, .sentinel, .sentinel, .listed, .data, .pinned], laidTests := true, laidLooks := .later }
def TopRegistersTurnedCardSaid : Prop := Claim7.holds Tryd.pinned (.plain (OpenSpec.ofChange topRegistersTurnedSpec)) topRegistersTurnedCard

/-- THE SECOND FORM's CARD OF 'ringtop.TopCodesJoined'. -/
def topCodesJoinedUptoCard : Claim7 := { stood := { row := topCodesJoinedUptoRow, standIns := [], harness := (true, "dfeaa30cfa03968360ee47e0cf098686c80be6fe9d8e9dfff753dc3b19dffa6b"), looks := true }, kinds := [], alts := [], laidByText := true, laidKinds := [.data, .data, .data, .data, .sentinel, .sentinel, .listed, .data, .pinned], laidTests := true, laidLooks := .later }
def TopCodesJoinedUptoCardSaid : Prop := Claim7.holds Tryd.pinned (.plain (OpenSpec.upto topCodesJoinedSpec)) topCodesJoinedUptoCard

/-- THE SECOND FORM's CARD OF 'ringtop.TopRegistersTurned'. -/
def topRegistersTurnedUptoCard : Claim7 := { stood := { row := topRegistersTurnedUptoRow, standIns := [], harness := (true, "dfeaa30cfa03968360ee47e0cf098686c80be6fe9d8e9dfff753dc3b19dffa6b"), looks := true }, kinds := [], alts := [], laidByText := true, laidKinds := [.data, .data, .data, .data, .sentinel, .sentinel, .listed, .data, .pinned], laidTests := true, laidLooks := .later }
def TopRegistersTurnedUptoCardSaid : Prop := Claim7.holds Tryd.pinned (.plain (OpenSpec.upto topRegistersTurnedSpec)) topRegistersTurnedUptoCard
end Rows
end Go.Proofs.YtghjjemnegncpaaDoor
