/- Timetable and Ends, as the law asks. No program stands here but its twins. -/
import Derived.Test.YtolmdpjkmjfjdaaGreatDoorPBegin
import Derived.Test.YtolmdpjkmjfjdaaGreatDoorPEqW
namespace Go.Proofs.YtolmdpjkmjfjdaaGreatDoor
open Go
end Go.Proofs.YtolmdpjkmjfjdaaGreatDoor
