/- Steps in their order, the steps that are not refused, and two lists of steps that become one. Conditions stand in each theorem. No program stands here but its twins. -/
import Derived.Test.YtamfhhmfioghgaaGreatDoorPRecQ
namespace Go.Proofs.YtamfhhmfioghgaaGreatDoor
open Go
theorem cmp_lt (p q : GStep) : record_compare p q < 0 ↔ p.At < q.At ∨ (p.At = q.At ∧ (cB p.Id q.Id < 0 ∨ (p.Id = q.Id ∧ p.Kind < q.Kind))) := by
  rw [compare_is]
  rcases cB_rng p.Id q.Id with h | h | h
  · have hne : p.Id ≠ q.Id := fun e => by rw [e, cB_refl] at h; omega
    simp only [h, hne, false_and, or_false]
    split <;> (try split) <;> (try split) <;> omega
  · have he : p.Id = q.Id := cB_zero h
    simp only [he, cB_refl, true_and, ne_eq, not_true_eq_false, if_false, Int.lt_irrefl, false_or]
    split <;> (try split) <;> (try split) <;> (try split) <;> (try split) <;> omega
  · have hne : p.Id ≠ q.Id := fun e => by rw [e, cB_refl] at h; omega
    simp only [h, hne, false_and, or_false]
    split <;> (try split) <;> (try split) <;> omega
theorem cmp_trans {p q r : GStep} (h1 : record_compare p q < 0) (h2 : record_compare q r < 0) : record_compare p r < 0 := by
  rw [cmp_lt] at *
  rcases h1 with h1 | ⟨a1, h1⟩ <;> rcases h2 with h2 | ⟨a2, h2⟩
  · exact .inl (by omega)
  · exact .inl (by omega)
  · exact .inl (by omega)
  · refine .inr ⟨by omega, ?_⟩
    rcases h1 with h1 | ⟨b1, h1⟩ <;> rcases h2 with h2 | ⟨b2, h2⟩
    · exact .inl (cB_trans h1 h2)
    · exact .inl (by rw [← b2]; exact h1)
    · exact .inl (by rw [b1]; exact h2)
    · exact .inr ⟨b1.trans b2, by omega⟩
abbrev StUp (l : List GStep) : Prop := l.Pairwise fun p q => record_compare p q < 0
theorem adj_up : ∀ l : List GStep, StAdj l → StUp l
  | [], _ => List.Pairwise.nil
  | [x], _ => List.pairwise_singleton _ _
  | x :: y :: l, h => by
    have h1 := adj_up (y :: l) (fun d p q r e => h (x :: d) p q r (by rw [e]; rfl))
    have h2 := h [] x y l rfl
    refine List.pairwise_cons.2 ⟨fun z hz => ?_, h1⟩
    rcases List.mem_cons.1 hz with rfl | hz
    · exact h2
    · exact cmp_trans h2 ((List.pairwise_cons.1 h1).1 z hz)
theorem steps0_each (l : List GStep) : ∀ (ys : List GStep) (i : Nat), record_CheckSteps_l1 l (some 0) ys i = some 0 → ∀ x ∈ ys, record_checkStep x = some 0
  | [], _, _, x, hx => by cases hx
  | y :: ys, i, h, x, hx => by
    obtain ⟨e, e1, _, _⟩ := step_both y
    rw [record_CheckSteps_l1, e1] at h
    simp only [Option.bind_some, joinR] at h
    by_cases he : e = 0
    · subst he
      simp only [decide_true, Bool.not_true, Bool.false_eq_true, if_false] at h
      have h2 : record_CheckSteps_l1 l (some 0) ys (i + 1) = some 0 := by
        by_cases hi : 0 < (i : Int)
        · simp only [hi, decide_true, if_true] at h
          unfold Chk at h
          split at h
          · split at h
            · cases h
            · exact h
          · cases h
        · simp only [hi, decide_false, Bool.false_eq_true, if_false] at h
          exact h
      rcases List.mem_cons.1 hx with rfl | hx
      · exact e1
      · exact steps0_each l ys (i + 1) h2 x hx
    · simp only [he, decide_false, Bool.not_false, if_true] at h
      exact absurd (Option.some.inj h) he
theorem check_up {l : List GStep} (h : record_CheckSteps l = some 0) : l.length ≤ 1000 ∧ (∀ x ∈ l, StG x) ∧ StUp l ∧ ∀ x ∈ l, record_checkStep x = some 0 := by
  obtain ⟨e, e1, _, e3⟩ := steps_both l
  have he : e = 0 := by rw [h] at e1; exact (Option.some.inj e1).symm
  obtain ⟨h1, h2, h3⟩ := e3 he
  refine ⟨h1, h2, adj_up l h3, ?_⟩
  unfold record_CheckSteps at h
  rw [if_neg (by simp; omega)] at h
  exact steps0_each l l 0 h
end Go.Proofs.YtamfhhmfioghgaaGreatDoor
