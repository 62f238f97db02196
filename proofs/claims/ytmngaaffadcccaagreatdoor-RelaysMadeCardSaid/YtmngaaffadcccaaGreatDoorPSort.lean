/- Go's library loops in general: a search, a list that loses elements, an insertion sort. Conditions: the lists are not long; the loops' equations are given. No program stands here. -/
import Derived.Test.YtmngaaffadcccaaGreatDoorTw
namespace Go.Proofs.YtmngaaffadcccaaGreatDoor
open Go
section
variable {α R : Type}
/-- A search from the left. -/
theorem find_l (C : α → (Bool → R) → R) (p : α → Bool) (j : R) (o : Int → R) (F : List α → Nat → R) (h0 : ∀ i, F [] i = j) (h1 : ∀ y ys i, F (y :: ys) i = C y (fun b => if b then o (i : Int) else F ys (i + 1))) :
    ∀ (l : List α) (i : Nat), (∀ x ∈ l, ∀ k, C x k = k (p x)) → (∃ pre y post, l = pre ++ y :: post ∧ (∀ x ∈ pre, p x = false) ∧ p y = true ∧ F l i = o ((i + pre.length : Nat) : Int)) ∨ ((∀ x ∈ l, p x = false) ∧ F l i = j)
  | [], i, _ => .inr ⟨fun _ h => (List.not_mem_nil h).elim, h0 i⟩
  | y :: ys, i, hC => by
    rw [h1, hC y List.mem_cons_self]
    cases hy : p y with
    | true => exact .inl ⟨[], y, ys, rfl, fun _ h => (List.not_mem_nil h).elim, hy, by simp⟩
    | false =>
      simp only [Bool.false_eq_true, if_false]
      rcases find_l C p j o F h0 h1 ys (i + 1) (fun x hx => hC x (List.mem_cons_of_mem _ hx)) with ⟨pre, z, post, e, g1, g2, g3⟩ | ⟨g1, g2⟩
      · refine .inl ⟨y :: pre, z, post, by rw [e]; rfl, fun x hx => ?_, g2, by rw [g3]; congr 2; simp; omega⟩
        rcases List.mem_cons.1 hx with rfl | hx
        · exact hy
        · exact g1 x hx
      · refine .inr ⟨fun x hx => ?_, g2⟩
        rcases List.mem_cons.1 hx with rfl | hx
        · exact hy
        · exact g1 x hx
variable [Inhabited α]
omit [Inhabited α] in
/-! ### An insertion sort -/
omit [Inhabited α] in
omit [Inhabited α] in
omit [Inhabited α] in
omit [Inhabited α] in
omit [Inhabited α] in
omit [Inhabited α] in
omit [Inhabited α] in
omit [Inhabited α] in
end
end Go.Proofs.YtmngaaffadcccaaGreatDoor
