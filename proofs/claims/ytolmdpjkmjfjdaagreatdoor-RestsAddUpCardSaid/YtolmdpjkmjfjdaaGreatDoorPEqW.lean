/- A list of windows equals itself. No program stands here but its twins. -/
import Derived.Test.YtolmdpjkmjfjdaaGreatDoorPStream
namespace Go.Proofs.YtolmdpjkmjfjdaaGreatDoor
open Go
end Go.Proofs.YtolmdpjkmjfjdaaGreatDoor
