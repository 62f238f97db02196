/-
  DERIVED. GIVEN WITH THE SEED: THE CARDS: each row of YtjofndbcioknfaaGreatDoorRows.lean that lists a variable, with what it lists TIED to the program's text (the seventh form; the later family's looks); each row that meets fmt, with fmt's text TOLD by the authors' own Lean function (tested against real Go, not proved from fmt's source: count such statements apart). THE CARD IS WHAT COUNTS. Prove the row's statement (the work); the ties are given (YtjofndbcioknfaaGreatDoorTie.lean); close each card by the builder's one call (the guide's Derived/Test/ToyasCard.lean, 'card_holds'). Laid BY PROGRAM, IN A SANDBOX (cutbox-door.mjs). By AI agents, Wed Nov 11 2026. No macro, syntax, notation, axiom, sorry.
-/
import Derived.Test.YtjofndbcioknfaaGreatDoorRows
import GoSem.ClaimSeven
namespace Go.Proofs.YtjofndbcioknfaaGreatDoor
namespace Rows

/-- THE TIED CARD OF 'tumbtop.TopResultsAreRecords'. -/
def topResultsAreRecordsCard : Claim7 := { stood := { row := topResultsAreRecordsRow, standIns := [], harness := (true, "7718573e3db1bbbaeafbc3f6894e413b46fe750c6bb06f5f7ad32e14ec2b2fc0"), looks := false }, kinds := [], alts := [], laidByText := true, laidKinds := [.data, .pinned], laidTests := true, laidLooks := .later }
def TopResultsAreRecordsCardSaid : Prop := Claim7.holds Tryz.pinned (.plain (OpenSpec.ofChange topResultsAreRecordsSpec)) topResultsAreRecordsCard

/-- THE SECOND FORM's CARD OF 'tumbtop.TopResultsAreRecords'. -/
def topResultsAreRecordsUptoCard : Claim7 := { stood := { row := topResultsAreRecordsUptoRow, standIns := [], harness := (true, "7718573e3db1bbbaeafbc3f6894e413b46fe750c6bb06f5f7ad32e14ec2b2fc0"), looks := false }, kinds := [], alts := [], laidByText := true, laidKinds := [.data, .pinned], laidTests := true, laidLooks := .later }
def TopResultsAreRecordsUptoCardSaid : Prop := Claim7.holds Tryz.pinned (.plain (OpenSpec.upto topResultsAreRecordsSpec)) topResultsAreRecordsUptoCard
end Rows
end Go.Proofs.YtjofndbcioknfaaGreatDoor
