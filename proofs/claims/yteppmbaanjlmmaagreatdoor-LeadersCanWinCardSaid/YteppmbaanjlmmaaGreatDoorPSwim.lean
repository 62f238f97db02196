/- The program's check of swimmers is the reference's. Conditions: the twins of package swimmer and of the reference. -/
import Derived.Test.YteppmbaanjlmmaaGreatDoorPKey2
namespace Go.Proofs.YteppmbaanjlmmaaGreatDoor
open Go
theorem sless_empty (s : ByteArray) : Sless s k_empty = false := by
  unfold Sless
  rw [show k_empty.toList = [] by decide +kernel]
  cases s.toList <;> rfl
theorem not_empty {s : ByteArray} (h : 1 ≤ s.size) : s ≠ k_empty := by rintro rfl; exact absurd h (by decide)
end Go.Proofs.YteppmbaanjlmmaaGreatDoor
