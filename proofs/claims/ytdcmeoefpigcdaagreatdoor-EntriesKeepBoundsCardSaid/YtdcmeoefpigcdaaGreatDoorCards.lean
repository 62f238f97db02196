/-
  DERIVED. GIVEN WITH THE SEED: THE CARDS: each row of YtdcmeoefpigcdaaGreatDoorRows.lean that lists a variable, with what it lists TIED to the program's text (the seventh form; the later family's looks); each row that meets fmt, with fmt's text TOLD by the authors' own Lean function (tested against real Go, not proved from fmt's source: count such statements apart). THE CARD IS WHAT COUNTS. Prove the row's statement (the work); the ties are given (YtdcmeoefpigcdaaGreatDoorTie.lean); close each card by the builder's one call (the guide's Derived/Test/ToyasCard.lean, 'card_holds'). Laid BY PROGRAM, IN A SANDBOX (cutbox-door.mjs). By AI agents, Wed Nov 11 2026. No macro, syntax, notation, axiom, sorry.
-/
import Derived.Test.YtdcmeoefpigcdaaGreatDoorRows
import GoSem.ClaimSeven
namespace Go.Proofs.YtdcmeoefpigcdaaGreatDoor
namespace Rows

/-- THE TIED CARD OF 'tumbkeep2.EntriesKeepBounds'. -/
def entriesKeepBoundsCard : Claim7 := { stood := { row := entriesKeepBoundsRow, standIns := [], harness := (true, "785907f02aad3f08328505cc726767692d9a3e39ee8951e8b71e239503445a56"), looks := false }, kinds := [], alts := [], laidByText := true, laidKinds := [.data, .pinned], laidTests := true, laidLooks := .later }
def EntriesKeepBoundsCardSaid : Prop := Claim7.holds Tryz.pinned (.plain (OpenSpec.ofChange entriesKeepBoundsSpec)) entriesKeepBoundsCard

/-- THE SECOND FORM's CARD OF 'tumbkeep2.EntriesKeepBounds'. -/
def entriesKeepBoundsUptoCard : Claim7 := { stood := { row := entriesKeepBoundsUptoRow, standIns := [], harness := (true, "785907f02aad3f08328505cc726767692d9a3e39ee8951e8b71e239503445a56"), looks := false }, kinds := [], alts := [], laidByText := true, laidKinds := [.data, .pinned], laidTests := true, laidLooks := .later }
def EntriesKeepBoundsUptoCardSaid : Prop := Claim7.holds Tryz.pinned (.plain (OpenSpec.upto entriesKeepBoundsSpec)) entriesKeepBoundsUptoCard
end Rows
end Go.Proofs.YtdcmeoefpigcdaaGreatDoor
