/- Sorting, striking and thinning out, to the element. No program stands here. -/
import Derived.Test.YtpfommakhgkmeaaGreatDoorPSort
namespace Go.Proofs.YtpfommakhgkmeaaGreatDoor
open Go
section
variable {α : Type}
theorem insR_desc {lt : α → α → Bool} (ht : ∀ x y z, lt x y = true → lt y z = true → lt x z = true) (x : α) : ∀ rp : List α, rp.Pairwise (fun a b => lt b a = true) → (∀ y ∈ rp, lt x y = false → lt y x = true) → (insR lt x rp).Pairwise fun a b => lt b a = true
  | [], _, _ => by simp [insR]
  | y :: r, h, hx => by
    rw [List.pairwise_cons] at h
    unfold insR
    cases hxy : lt x y with
    | true =>
      rw [if_pos rfl]
      refine List.pairwise_cons.2 ⟨fun z hz => ?_, insR_desc ht x r h.2 fun z hz => hx z (List.mem_cons_of_mem _ hz)⟩
      rcases (insR_mem lt x z r).1 hz with rfl | hz
      · exact hxy
      · exact h.1 z hz
    | false =>
      rw [if_neg (by simp)]
      have h1 := hx y (by simp) hxy
      refine List.pairwise_cons.2 ⟨fun z hz => ?_, List.pairwise_cons.2 h⟩
      rcases List.mem_cons.1 hz with rfl | hz
      · exact h1
      · exact ht z y x (h.1 z hz) h1
theorem sortR_desc {lt : α → α → Bool} (ht : ∀ x y z, lt x y = true → lt y z = true → lt x z = true) : ∀ l rp : List α, rp.Pairwise (fun a b => lt b a = true) → (∀ x ∈ l, ∀ y ∈ rp, lt x y = false → lt y x = true) → l.Pairwise (fun a b => lt b a = false → lt a b = true) →
    (sortR lt l rp).Pairwise fun a b => lt b a = true
  | [], rp, h, _, _ => h
  | x :: l, rp, h, h1, h2 => by
    rw [List.pairwise_cons] at h2
    show (sortR lt l (insR lt x rp)).Pairwise _
    refine sortR_desc ht l _ (insR_desc ht x rp h (h1 x (by simp))) (fun z hz y hy => ?_) h2.2
    rcases (insR_mem lt x y rp).1 hy with rfl | hy
    · exact h2.1 z hz
    · exact h1 z (List.mem_cons_of_mem _ hz) y hy
theorem isort_asc {lt : α → α → Bool} (ht : ∀ x y z, lt x y = true → lt y z = true → lt x z = true) (l : List α) (h : l.Pairwise fun a b => lt b a = false → lt a b = true) : (isort lt l).Pairwise fun a b => lt a b = true := by
  unfold isort
  rw [List.pairwise_reverse]
  exact sortR_desc ht l [] List.Pairwise.nil (fun _ _ _ h => by cases h) h
theorem isort_mem (lt : α → α → Bool) (l : List α) (z : α) : z ∈ isort lt l ↔ z ∈ l := by
  unfold isort
  rw [List.mem_reverse, sortR_mem]
  simp
theorem asc_ext {lt : α → α → Bool} (hi : ∀ x, lt x x = false) (ht : ∀ x y z, lt x y = true → lt y z = true → lt x z = true) : ∀ A B : List α, A.Pairwise (fun a b => lt a b = true) → B.Pairwise (fun a b => lt a b = true) → (∀ x, x ∈ A ↔ x ∈ B) → A = B
  | [], [], _, _, _ => rfl
  | [], b :: B, _, _, h => by have := (h b).2 (by simp); cases this
  | a :: A, [], _, _, h => by have := (h a).1 (by simp); cases this
  | a :: A, b :: B, hA, hB, h => by
    rw [List.pairwise_cons] at hA hB
    have hab : a = b := by
      rcases List.mem_cons.1 ((h a).1 (by simp)) with e | h1
      · exact e
      · rcases List.mem_cons.1 ((h b).2 (by simp)) with e | h2
        · exact e.symm
        · have := ht a b a (hA.1 b h2) (hB.1 a h1)
          rw [hi] at this
          cases this
    subst hab
    have : A = B := asc_ext hi ht A B hA.2 hB.2 fun x => by
      have hx := h x
      constructor
      · intro hm
        rcases List.mem_cons.1 (hx.1 (List.mem_cons_of_mem _ hm)) with rfl | h3
        · have := hA.1 x hm; rw [hi] at this; cases this
        · exact h3
      · intro hm
        rcases List.mem_cons.1 (hx.2 (List.mem_cons_of_mem _ hm)) with rfl | h3
        · have := hB.1 x hm; rw [hi] at this; cases this
        · exact h3
    rw [this]
theorem sortR_len' (lt : α → α → Bool) : ∀ l rp : List α, (sortR lt l rp).length = l.length + rp.length
  | [], rp => by simp [sortR]
  | x :: l, rp => by
    show (sortR lt l (insR lt x rp)).length = _
    rw [sortR_len' lt l, insR_len]
    simp only [List.length_cons]
    omega
theorem isort_len' (lt : α → α → Bool) (l : List α) : (isort lt l).length = l.length := by
  unfold isort
  rw [List.length_reverse, sortR_len']
  simp
theorem isort_is {lt : α → α → Bool} (hi : ∀ x, lt x x = false) (ht : ∀ x y z, lt x y = true → lt y z = true → lt x z = true) (A B : List α) (h : A.Pairwise fun a b => lt b a = false → lt a b = true) (hB : B.Pairwise fun a b => lt a b = true) (hm : ∀ x, x ∈ A ↔ x ∈ B) : isort lt A = B :=
  asc_ext hi ht _ _ (isort_asc ht A h) hB fun x => by rw [isort_mem, hm]
variable {R : Type} [Inhabited α]
end
end Go.Proofs.YtpfommakhgkmeaaGreatDoor
