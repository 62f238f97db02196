/- What the program does at a few given inputs. No program stands here but its twins. -/
import Derived.Test.YteppmbaanjlmmaaGreatDoorPStream
namespace Go.Proofs.YteppmbaanjlmmaaGreatDoor
open Go
theorem ready_ok : tumbkeep2_ready = some true := by decide +kernel
end Go.Proofs.YteppmbaanjlmmaaGreatDoor
