/- Right deeds of the stream, equal lists of deeds, deeds in the order of their moments. No program stands here but its twins. -/
import Derived.Test.YtpfommakhgkmeaaGreatDoorPDeedStream
namespace Go.Proofs.YtpfommakhgkmeaaGreatDoor
open Go
theorem rightDeeds_dr {L : List Int} (hL : LongL L) (many : Int) (h0 : 0 ≤ many) (hm : many ≤ 16) {a : Int} (ha : 0 ≤ a) (ha' : a ≤ 1000000) : ∃ l b, Stream_RightDeeds L a many = some (l, b) ∧ a ≤ b ∧ b ≤ a + 2800 ∧ (l.length : Int) ≤ many ∧ DsG l := by
  unfold Stream_RightDeeds
  rw [joinR]
  obtain ⟨l, b, e, g1, g2, g3, g4⟩ := rightD_l hL many h0 hm 7 a 0 (by omega) (by omega) ha (by omega)
  exact ⟨l, b, e, g1, by omega, g3, g4⟩
theorem eqDeed_is (l : List GDeed) : slices_Equal_Deed l l = some true := by
  unfold slices_Equal_Deed
  rw [if_neg (by simp), joinR]
  exact eq_l l (slices_Equal_Deed_l1 l (some true)) (fun _ => rfl) (fun _ _ _ => rfl) l [] rfl
end Go.Proofs.YtpfommakhgkmeaaGreatDoor
