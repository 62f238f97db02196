/-
  DERIVED. GIVEN WITH THE SEED: THE CARDS: each row of YtikobclhcfiadaaGreatDoorRows.lean that lists a variable, with what it lists TIED to the program's text (the seventh form; the later family's looks); each row that meets fmt, with fmt's text TOLD by the authors' own Lean function (tested against real Go, not proved from fmt's source: count such statements apart). THE CARD IS WHAT COUNTS. Prove the row's statement (the work); the ties are given (YtikobclhcfiadaaGreatDoorTie.lean); close each card by the builder's one call (the guide's Derived/Test/ToyasCard.lean, 'card_holds'). Laid BY PROGRAM, IN A SANDBOX (cutbox-door.mjs). By AI agents, Wed Nov 11 2026. No macro, syntax, notation, axiom, sorry.
-/
import Derived.Test.YtikobclhcfiadaaGreatDoorRows
import GoSem.ClaimSeven
namespace Go.Proofs.YtikobclhcfiadaaGreatDoor
namespace Rows

/-- THE TIED CARD OF 'tumbkeep2.RecordsNeverSlower'. -/
def recordsNeverSlowerCard : Claim7 := { stood := { row := recordsNeverSlowerRow, standIns := [], harness := (true, "d61e3c47ab84f228ee0923c195df80b78ecf27ed76fa2add53fdcabf03f66cd5"), looks := false }, kinds := [], alts := [], laidByText := true, laidKinds := [.data, .pinned], laidTests := true, laidLooks := .later }
def RecordsNeverSlowerCardSaid : Prop := Claim7.holds Tryz.pinned (.plain (OpenSpec.ofChange recordsNeverSlowerSpec)) recordsNeverSlowerCard

/-- THE SECOND FORM's CARD OF 'tumbkeep2.RecordsNeverSlower'. -/
def recordsNeverSlowerUptoCard : Claim7 := { stood := { row := recordsNeverSlowerUptoRow, standIns := [], harness := (true, "d61e3c47ab84f228ee0923c195df80b78ecf27ed76fa2add53fdcabf03f66cd5"), looks := false }, kinds := [], alts := [], laidByText := true, laidKinds := [.data, .pinned], laidTests := true, laidLooks := .later }
def RecordsNeverSlowerUptoCardSaid : Prop := Claim7.holds Tryz.pinned (.plain (OpenSpec.upto recordsNeverSlowerSpec)) recordsNeverSlowerUptoCard
end Rows
end Go.Proofs.YtikobclhcfiadaaGreatDoor
