/- The timetable's beginning, its ends; pauses and fits. No program stands here but its twins. -/
import Derived.Test.YtoffbgomfcmfmaaGreatDoorPEnds
namespace Go.Proofs.YtoffbgomfcmfmaaGreatDoor
open Go

theorem moment_eq (t : Int) : words_IsMoment t = tumbref2_Moment t := by
  unfold words_IsMoment tumbref2_Moment tumbref2_in
  rw [Bool.eq_iff_iff]
  simp
  omega
end Go.Proofs.YtoffbgomfcmfmaaGreatDoor
