/- What the program does at a few given inputs. No program stands here but its twins. -/
import Derived.Test.YtdfmfioglndohaaGreatDoorPStream
namespace Go.Proofs.YtdfmfioglndohaaGreatDoor
open Go
theorem ready_ok : tumbkeep2_ready = some true := by decide +kernel
end Go.Proofs.YtdfmfioglndohaaGreatDoor
