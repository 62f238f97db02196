/- What is asked of records: the program's answers are the reference's. No program stands here but its twins. -/
import Derived.Test.YtamfhhmfioghgaaGreatDoorPRecH
import Derived.Test.YtamfhhmfioghgaaGreatDoorPErrs
namespace Go.Proofs.YtamfhhmfioghgaaGreatDoor
open Go
end Go.Proofs.YtamfhhmfioghgaaGreatDoor
