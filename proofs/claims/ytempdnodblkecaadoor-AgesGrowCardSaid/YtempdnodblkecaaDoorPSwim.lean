/- The program's check of swimmers is the reference's. Conditions: the twins of package swimmer and of the reference. -/
import Derived.Test.YtempdnodblkecaaDoorPKey2
namespace Go.Proofs.YtempdnodblkecaaDoor
open Go
theorem sless_empty (s : ByteArray) : Sless s k_empty = false := by
  unfold Sless
  rw [show k_empty.toList = [] by decide +kernel]
  cases s.toList <;> rfl
theorem not_empty {s : ByteArray} (h : 1 ≤ s.size) : s ≠ k_empty := by rintro rfl; exact absurd h (by decide)
/-- A swimmer whose numbers are as they must be. -/
def SGood (x : GSwimmer) : Prop := (x.Sex = 1 ∨ x.Sex = 2) ∧ -40000 ≤ x.Born ∧ x.Born ≤ 4000
end Go.Proofs.YtempdnodblkecaaDoor
