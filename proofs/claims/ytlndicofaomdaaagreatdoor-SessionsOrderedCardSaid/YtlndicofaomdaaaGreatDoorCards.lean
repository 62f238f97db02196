/-
  DERIVED. GIVEN WITH THE SEED: THE CARDS: each row of YtlndicofaomdaaaGreatDoorRows.lean that lists a variable, with what it lists TIED to the program's text (the seventh form; the later family's looks); each row that meets fmt, with fmt's text TOLD by the authors' own Lean function (tested against real Go, not proved from fmt's source: count such statements apart). THE CARD IS WHAT COUNTS. Prove the row's statement (the work); the ties are given (YtlndicofaomdaaaGreatDoorTie.lean); close each card by the builder's one call (the guide's Derived/Test/ToyasCard.lean, 'card_holds'). Laid BY PROGRAM, IN A SANDBOX (cutbox-door.mjs). By AI agents, Wed Nov 11 2026. No macro, syntax, notation, axiom, sorry.
-/
import Derived.Test.YtlndicofaomdaaaGreatDoorRows
import GoSem.ClaimSeven
namespace Go.Proofs.YtlndicofaomdaaaGreatDoor
namespace Rows

/-- THE TIED CARD OF 'tumblaw2.SessionsOrdered'. -/
def sessionsOrderedCard : Claim7 := { stood := { row := sessionsOrderedRow, standIns := [], harness := (true, "314fd5a99b9d8799a74c04f48a0318140e768431245dd05ae18456f780bd62a5"), looks := false }, kinds := [], alts := [], laidByText := true, laidKinds := [.data, .pinned], laidTests := true, laidLooks := .later }
def SessionsOrderedCardSaid : Prop := Claim7.holds Tryz.pinned (.plain (OpenSpec.ofChange sessionsOrderedSpec)) sessionsOrderedCard

/-- THE SECOND FORM's CARD OF 'tumblaw2.SessionsOrdered'. -/
def sessionsOrderedUptoCard : Claim7 := { stood := { row := sessionsOrderedUptoRow, standIns := [], harness := (true, "314fd5a99b9d8799a74c04f48a0318140e768431245dd05ae18456f780bd62a5"), looks := false }, kinds := [], alts := [], laidByText := true, laidKinds := [.data, .pinned], laidTests := true, laidLooks := .later }
def SessionsOrderedUptoCardSaid : Prop := Claim7.holds Tryz.pinned (.plain (OpenSpec.upto sessionsOrderedSpec)) sessionsOrderedUptoCard
end Rows
end Go.Proofs.YtlndicofaomdaaaGreatDoor
