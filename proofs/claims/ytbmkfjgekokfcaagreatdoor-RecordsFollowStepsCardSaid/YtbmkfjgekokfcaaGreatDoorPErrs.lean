/- The first error of some. No program stands here but its twins. -/
import Derived.Test.YtbmkfjgekokfcaaGreatDoorPRefX
import Derived.Test.YtbmkfjgekokfcaaGreatDoorPStream
namespace Go.Proofs.YtbmkfjgekokfcaaGreatDoor
open Go
end Go.Proofs.YtbmkfjgekokfcaaGreatDoor
