/- Go's library loops in general: a search, a list that loses elements, an insertion sort. Conditions: the lists are not long; the loops' equations are given. No program stands here. -/
import Derived.Test.YtkpjakcepffimaaGreatDoorTw
namespace Go.Proofs.YtkpjakcepffimaaGreatDoor
open Go
theorem chkT {R : Type} {c : Bool} {k : Option R} (h : c = true) : Chk c k = k := by subst h; rfl
section
variable {α R : Type}
variable [Inhabited α]
theorem nth_mid (a : List α) (y : α) (b : List α) {e : Int} (he : e = (a.length : Int)) : nth (a ++ y :: b) e = y := by
  subst he
  simp [nth]
omit [Inhabited α] in
end
end Go.Proofs.YtkpjakcepffimaaGreatDoor
