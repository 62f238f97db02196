/- Loops over lists in general: what is picked and appended, what is contained, lists that are equal, neighbours that are struck. Conditions: the lists are not long; the loops' equations are given. No program stands here. -/
import Derived.Test.YtmngaaffadcccaaGreatDoorPSort
namespace Go.Proofs.YtmngaaffadcccaaGreatDoor
open Go
section
variable {α β R : Type}
/-- What is contained. -/
theorem any_l (p : α → Bool) (F : List α → Nat → Int) (h0 : ∀ i, F [] i = -1) (h1 : ∀ y ys i, F (y :: ys) i = if p y then (i : Int) else F ys (i + 1)) (l : List α) : decide (0 ≤ F l 0) = l.any p := by
  rcases find_l (fun y k => k (p y)) p (-1) id F h0 h1 l 0 (fun _ _ _ => rfl) with ⟨pre, y, post, e, g1, g2, g3⟩ | ⟨g1, g2⟩
  · rw [g3, e]
    have : (pre ++ y :: post).any p = true := by simp [g2]
    rw [this]
    exact decide_eq_true (by show (0 : Int) ≤ ((0 + pre.length : Nat) : Int); omega)
  · rw [g2]
    have : l.any p = false := List.any_eq_false.2 fun x hx => by simp [g1 x hx]
    rw [this]
    rfl
variable [DecidableEq α] [Inhabited α]
end
section
variable {α R : Type} [Inhabited α]
end
end Go.Proofs.YtmngaaffadcccaaGreatDoor
