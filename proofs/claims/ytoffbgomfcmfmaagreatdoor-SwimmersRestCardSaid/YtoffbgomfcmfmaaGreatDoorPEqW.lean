/- A list of windows equals itself. No program stands here but its twins. -/
import Derived.Test.YtoffbgomfcmfmaaGreatDoorPStream
namespace Go.Proofs.YtoffbgomfcmfmaaGreatDoor
open Go
end Go.Proofs.YtoffbgomfcmfmaaGreatDoor
