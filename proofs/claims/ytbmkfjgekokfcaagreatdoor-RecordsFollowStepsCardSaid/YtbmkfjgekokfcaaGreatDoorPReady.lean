/- What the program does at a few given inputs. No program stands here but its twins. -/
import Derived.Test.YtbmkfjgekokfcaaGreatDoorPStream
namespace Go.Proofs.YtbmkfjgekokfcaaGreatDoor
open Go
theorem ready_ok : tumbkeep2_ready = some true := by decide +kernel
end Go.Proofs.YtbmkfjgekokfcaaGreatDoor
