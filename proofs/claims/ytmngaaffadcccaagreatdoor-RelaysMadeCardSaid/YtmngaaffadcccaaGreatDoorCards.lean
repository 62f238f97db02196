/-
  DERIVED. GIVEN WITH THE SEED: THE CARDS: each row of YtmngaaffadcccaaGreatDoorRows.lean that lists a variable, with what it lists TIED to the program's text (the seventh form; the later family's looks); each row that meets fmt, with fmt's text TOLD by the authors' own Lean function (tested against real Go, not proved from fmt's source: count such statements apart). THE CARD IS WHAT COUNTS. Prove the row's statement (the work); the ties are given (YtmngaaffadcccaaGreatDoorTie.lean); close each card by the builder's one call (the guide's Derived/Test/ToyasCard.lean, 'card_holds'). Laid BY PROGRAM, IN A SANDBOX (cutbox-door.mjs). By AI agents, Wed Nov 11 2026. No macro, syntax, notation, axiom, sorry.
-/
import Derived.Test.YtmngaaffadcccaaGreatDoorRows
import GoSem.ClaimSeven
namespace Go.Proofs.YtmngaaffadcccaaGreatDoor
namespace Rows

/-- THE TIED CARD OF 'tumblaw2.RelaysMade'. -/
def relaysMadeCard : Claim7 := { stood := { row := relaysMadeRow, standIns := [], harness := (true, "2c61550afcd96548bc9386882f2acd83537d89c82cceba80a4a0402c8e8781e9"), looks := false }, kinds := [], alts := [], laidByText := true, laidKinds := [.data, .pinned], laidTests := true, laidLooks := .later }
def RelaysMadeCardSaid : Prop := Claim7.holds Tryz.pinned (.plain (OpenSpec.ofChange relaysMadeSpec)) relaysMadeCard

/-- THE SECOND FORM's CARD OF 'tumblaw2.RelaysMade'. -/
def relaysMadeUptoCard : Claim7 := { stood := { row := relaysMadeUptoRow, standIns := [], harness := (true, "2c61550afcd96548bc9386882f2acd83537d89c82cceba80a4a0402c8e8781e9"), looks := false }, kinds := [], alts := [], laidByText := true, laidKinds := [.data, .pinned], laidTests := true, laidLooks := .later }
def RelaysMadeUptoCardSaid : Prop := Claim7.holds Tryz.pinned (.plain (OpenSpec.upto relaysMadeSpec)) relaysMadeUptoCard
end Rows
end Go.Proofs.YtmngaaffadcccaaGreatDoor
