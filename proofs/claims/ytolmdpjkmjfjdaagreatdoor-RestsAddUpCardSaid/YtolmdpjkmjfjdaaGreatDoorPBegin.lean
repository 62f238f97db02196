/- The timetable's beginning, its ends; pauses and fits. No program stands here but its twins. -/
import Derived.Test.YtolmdpjkmjfjdaaGreatDoorPEnds
namespace Go.Proofs.YtolmdpjkmjfjdaaGreatDoor
open Go

end Go.Proofs.YtolmdpjkmjfjdaaGreatDoor
