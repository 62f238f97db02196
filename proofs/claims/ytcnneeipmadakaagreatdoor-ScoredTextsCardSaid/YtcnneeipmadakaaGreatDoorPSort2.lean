/- Sorting, striking and thinning out, to the element. No program stands here. -/
import Derived.Test.YtcnneeipmadakaaGreatDoorPSort
namespace Go.Proofs.YtcnneeipmadakaaGreatDoor
open Go
section
variable {α : Type}
theorem insR_desc {lt : α → α → Bool} (ht : ∀ x y z, lt x y = true → lt y z = true → lt x z = true) (x : α) : ∀ rp : List α, rp.Pairwise (fun a b => lt b a = true) → (∀ y ∈ rp, lt x y = false → lt y x = true) → (insR lt x rp).Pairwise fun a b => lt b a = true
  | [], _, _ => by simp [insR]
  | y :: r, h, hx => by
    rw [List.pairwise_cons] at h
    unfold insR
    cases hxy : lt x y with
    | true =>
      rw [if_pos rfl]
      refine List.pairwise_cons.2 ⟨fun z hz => ?_, insR_desc ht x r h.2 fun z hz => hx z (List.mem_cons_of_mem _ hz)⟩
      rcases (insR_mem lt x z r).1 hz with rfl | hz
      · exact hxy
      · exact h.1 z hz
    | false =>
      rw [if_neg (by simp)]
      have h1 := hx y (by simp) hxy
      refine List.pairwise_cons.2 ⟨fun z hz => ?_, List.pairwise_cons.2 h⟩
      rcases List.mem_cons.1 hz with rfl | hz
      · exact h1
      · exact ht z y x (h.1 z hz) h1
theorem sortR_desc {lt : α → α → Bool} (ht : ∀ x y z, lt x y = true → lt y z = true → lt x z = true) : ∀ l rp : List α, rp.Pairwise (fun a b => lt b a = true) → (∀ x ∈ l, ∀ y ∈ rp, lt x y = false → lt y x = true) → l.Pairwise (fun a b => lt b a = false → lt a b = true) →
    (sortR lt l rp).Pairwise fun a b => lt b a = true
  | [], rp, h, _, _ => h
  | x :: l, rp, h, h1, h2 => by
    rw [List.pairwise_cons] at h2
    show (sortR lt l (insR lt x rp)).Pairwise _
    refine sortR_desc ht l _ (insR_desc ht x rp h (h1 x (by simp))) (fun z hz y hy => ?_) h2.2
    rcases (insR_mem lt x y rp).1 hy with rfl | hy
    · exact h2.1 z hz
    · exact h1 z (List.mem_cons_of_mem _ hz) y hy
theorem isort_asc {lt : α → α → Bool} (ht : ∀ x y z, lt x y = true → lt y z = true → lt x z = true) (l : List α) (h : l.Pairwise fun a b => lt b a = false → lt a b = true) : (isort lt l).Pairwise fun a b => lt a b = true := by
  unfold isort
  rw [List.pairwise_reverse]
  exact sortR_desc ht l [] List.Pairwise.nil (fun _ _ _ h => by cases h) h
theorem sortR_len' (lt : α → α → Bool) : ∀ l rp : List α, (sortR lt l rp).length = l.length + rp.length
  | [], rp => by simp [sortR]
  | x :: l, rp => by
    show (sortR lt l (insR lt x rp)).length = _
    rw [sortR_len' lt l, insR_len]
    simp only [List.length_cons]
    omega
theorem isort_len' (lt : α → α → Bool) (l : List α) : (isort lt l).length = l.length := by
  unfold isort
  rw [List.length_reverse, sortR_len']
  simp
theorem insR_congr {lt lt' : α → α → Bool} (x : α) : ∀ rp : List α, (∀ y ∈ rp, lt x y = lt' x y) → insR lt x rp = insR lt' x rp
  | [], _ => rfl
  | y :: r, h => by
    unfold insR
    rw [h y (by simp), insR_congr x r fun z hz => h z (List.mem_cons_of_mem _ hz)]
theorem sortR_congr {lt lt' : α → α → Bool} : ∀ l rp : List α, (∀ x ∈ l, ∀ y, y ∈ l ∨ y ∈ rp → lt x y = lt' x y) → sortR lt l rp = sortR lt' l rp
  | [], _, _ => rfl
  | x :: l, rp, h => by
    show sortR lt l (insR lt x rp) = sortR lt' l (insR lt' x rp)
    rw [insR_congr x rp fun y hy => h x (by simp) y (.inr hy)]
    refine sortR_congr l _ fun z hz y hy => h z (List.mem_cons_of_mem _ hz) y ?_
    rcases hy with hy | hy
    · exact .inl (List.mem_cons_of_mem _ hy)
    · rcases (insR_mem lt' x y rp).1 hy with rfl | hy
      · exact .inl (by simp)
      · exact .inr hy
theorem isort_congr {lt lt' : α → α → Bool} (l : List α) (h : ∀ x ∈ l, ∀ y ∈ l, lt x y = lt' x y) : isort lt l = isort lt' l := by
  unfold isort
  rw [sortR_congr l [] fun x hx y hy => h x hx y (by rcases hy with hy | hy; exact hy; cases hy)]
theorem insR_perm (lt : α → α → Bool) (x : α) : ∀ rp : List α, (insR lt x rp).Perm (x :: rp)
  | [] => List.Perm.refl _
  | y :: r => by
    unfold insR
    split
    · exact ((insR_perm lt x r).cons y).trans (List.Perm.swap x y r)
    · exact List.Perm.refl _
theorem sortR_perm (lt : α → α → Bool) : ∀ l rp : List α, (sortR lt l rp).Perm (l ++ rp)
  | [], _ => List.Perm.refl _
  | x :: l, rp => (sortR_perm lt l (insR lt x rp)).trans (((insR_perm lt x rp).append_left l).trans List.perm_middle)
theorem isort_perm (lt : α → α → Bool) (l : List α) : (isort lt l).Perm l := by
  have h := sortR_perm lt l []
  rw [List.append_nil] at h
  exact (List.reverse_perm _).trans h
variable {R : Type} [Inhabited α]
end
end Go.Proofs.YtcnneeipmadakaaGreatDoor
