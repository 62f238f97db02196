/- What the program does at a few given inputs. No program stands here but its twins. -/
import Derived.Test.YtnmojfimananjaaGreatDoorPStream
namespace Go.Proofs.YtnmojfimananjaaGreatDoor
open Go
theorem ready_ok : tumbkeep2_ready = some true := by decide +kernel
end Go.Proofs.YtnmojfimananjaaGreatDoor
