/-
  DERIVED. GIVEN WITH THE SEED: THE CARDS: each row of YtmlmcmdccgcbmaaDoorRows.lean that lists a variable, with what it lists TIED to the program's text (the seventh form; the later family's looks); each row that meets fmt, with fmt's text TOLD by the authors' own Lean function (tested against real Go, not proved from fmt's source: count such statements apart). THE CARD IS WHAT COUNTS. Prove the row's statement (the work); the ties are given (YtmlmcmdccgcbmaaDoorTie.lean); close each card by the builder's one call (the guide's Derived/Test/ToyasCard.lean, 'card_holds'). Laid BY PROGRAM, IN A SANDBOX (cutbox-door.mjs). By AI agents, Wed Nov 11 2026. No macro, syntax, notation, axiom, sorry.
-/
import Derived.Test.YtmlmcmdccgcbmaaDoorRows
import GoSem.ClaimSeven
namespace Go.Proofs.YtmlmcmdccgcbmaaDoor
namespace Rows

/-- THE TIED CARD OF 'tumbkeep2.MembersAreOfOneClub'. -/
def membersAreOfOneClubCard : Claim7 := { stood := { row := membersAreOfOneClubRow, standIns := [], harness := (true, "9b2425ca0e22f1ebcd6d35efb55cc0ec9b8a96fba278b6a918cdc15b32f0b9f1"), looks := false }, kinds := [], alts := [], laidByText := true, laidKinds := [.data, .pinned], laidTests := true, laidLooks := .later }
def MembersAreOfOneClubCardSaid : Prop := Claim7.holds Tryd.pinned (.plain (OpenSpec.ofChange membersAreOfOneClubSpec)) membersAreOfOneClubCard

/-- THE SECOND FORM's CARD OF 'tumbkeep2.MembersAreOfOneClub'. -/
def membersAreOfOneClubUptoCard : Claim7 := { stood := { row := membersAreOfOneClubUptoRow, standIns := [], harness := (true, "9b2425ca0e22f1ebcd6d35efb55cc0ec9b8a96fba278b6a918cdc15b32f0b9f1"), looks := false }, kinds := [], alts := [], laidByText := true, laidKinds := [.data, .pinned], laidTests := true, laidLooks := .later }
def MembersAreOfOneClubUptoCardSaid : Prop := Claim7.holds Tryd.pinned (.plain (OpenSpec.upto membersAreOfOneClubSpec)) membersAreOfOneClubUptoCard
end Rows
end Go.Proofs.YtmlmcmdccgcbmaaDoor
