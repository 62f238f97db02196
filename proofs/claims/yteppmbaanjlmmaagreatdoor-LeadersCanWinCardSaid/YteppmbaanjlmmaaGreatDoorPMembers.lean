/- Members, by both. No program stands here but its twins. -/
import Derived.Test.YteppmbaanjlmmaaGreatDoorPMoves
namespace Go.Proofs.YteppmbaanjlmmaaGreatDoor
open Go
theorem index_str (v : ByteArray) : ∀ (l : List ByteArray) (i : Nat), decide (0 ≤ slices_Index_string_l1 v (-1) l i) = l.any fun x => decide (v = x)
  | [], i => rfl
  | y :: l, i => by
    rw [slices_Index_string_l1, List.any_cons]
    by_cases h : v = y
    · simp [h]
    · rw [if_neg (by simpa using h), index_str v l (i + 1)]
      simp [h]
theorem contains_str (l : List ByteArray) (v : ByteArray) : slices_Contains_string l v = l.any fun x => decide (v = x) := index_str v l 0
end Go.Proofs.YteppmbaanjlmmaaGreatDoor
