/- What the steps make: the program follows them with marks on what was swum, the reference by the state of each Id; both come to the same. No program stands here but its twins. -/
import Derived.Test.YtamfhhmfioghgaaGreatDoorPRecF
namespace Go.Proofs.YtamfhhmfioghgaaGreatDoor
open Go
end Go.Proofs.YtamfhhmfioghgaaGreatDoor
