/- What fits, as the law asks. No program stands here but its twins. -/
import Derived.Test.YtfejddpblajggaaDoorPFits
namespace Go.Proofs.YtfejddpblajggaaDoor
open Go

theorem errs2 (a b : Int) : tumblaw2_errs [a, b] = if a = 0 then b else a := by
  unfold tumblaw2_errs
  rw [join_eq]
  by_cases ha : a = 0
  · by_cases hb : b = 0 <;> simp [tumblaw2_errs_l1, ha, hb]
  · simp [tumblaw2_errs_l1, ha]
theorem fits_law (l : List GItem) (w : GWindow) : ∃ e n f, tumbref2_ItemsFault l = some e ∧ session_Fits l w = some (n, f) ∧ f = tumblaw2_errs [e, tumbref2_WindowFault w] ∧ (f = 0 → tumbref2_FitsOf l w = some n) ∧ (f ≠ 0 → n = 0) := by
  obtain ⟨e, h1, h2, h3⟩ := check_eq l
  simp only [errs2]
  by_cases he : e = 0
  · subst he
    obtain ⟨hl, hg⟩ := h3 rfl
    unfold session_Fits
    rw [h1]
    simp only [Option.bind_some, decide_true, Bool.not_true, Bool.false_eq_true, if_false, join_eq]
    have hwf : tumbref2_WindowFault w = if ((decide (w.From < 0) || decide (w.To < w.From)) || decide (345686400000 < w.To)) then 1 else 0 := by
      unfold tumbref2_WindowFault tumbref2_in
      congr 1
      rw [Bool.eq_iff_iff]
      simp
      try omega
    cases hc : ((decide (w.From < 0) || decide (w.To < w.From)) || decide (345686400000 < w.To)) with
    | true =>
      refine ⟨0, 0, 1, h2, by simp, by rw [hwf, hc]; rfl, fun h => absurd h (by decide), fun _ => rfl⟩
    | false =>
      have hr : 0 ≤ w.From ∧ w.From ≤ 345686400000 := by simp at hc; omega
      refine ⟨0, (fitN l w.From w.To l 0 : Nat), 0, h2, ?_, by rw [hwf, hc]; rfl, fun _ => ?_, fun h => absurd rfl h⟩
      · have h := fits_prog l w (fun x => some (x, 0)) hg hl hr.1 hr.2 l [] (((l.length : Int) - 0).toNat + 2) rfl (by omega)
        simpa using h
      · unfold tumbref2_FitsOf
        rw [join_eq]
        exact fits_doc l w hg hl hr.1 hr.2 l [] rfl
  · refine ⟨e, 0, e, h2, ?_, by simp [he], fun h => absurd h he, fun _ => rfl⟩
    unfold session_Fits
    rw [h1]
    simp [he]
end Go.Proofs.YtfejddpblajggaaDoor
