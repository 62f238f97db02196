/- The plain law of RecordsHeld. No program stands here but its twins. -/
import Derived.Test.YtdfcgiddcibhfaaGreatDoorPRecQ
import Derived.Test.YtdfcgiddcibhfaaGreatDoorPRecS
namespace Go.Proofs.YtdfcgiddcibhfaaGreatDoor
open Go
theorem recorded_is : tumblaw2_recorded = some true := by decide +kernel
theorem plain_RecordsHeld (l : List Int) (hl : l.length ≤ 9223372036854775807) : tumblaw2_RecordsHeld l = some true := by
  have hL : LongL l := by unfold LongL; omega
  obtain ⟨k, a1, e1, p1, q1, hk⟩ := kinds_dr hL (a := 0) (by omega) (by omega)
  obtain ⟨n, a2, e2, p2, q2, n1, n2⟩ := range_dr hL (a := a1) (by omega) (by omega) 0 16 (by omega) (by omega) (by omega)
  obtain ⟨x, a3, e3, p3, q3, hx⟩ := steps_dr hL n (by omega) (by omega) (a := a2) (by omega) (by omega)
  obtain ⟨kind, a4, e4, p4, q4, _⟩ := some_dr hL (a := a3) (by omega) (by omega) [k_ka, k_kb, k_kc, k_zz] (by simp) (by simp)
  obtain ⟨t, a5, e5, p5, q5, _⟩ := pick_dr hL (a := a4) (by omega) (by omega) [0, 3, 10, 20, 60, (-1)] (by simp) (by simp)
  obtain ⟨y, a6, e6, p6, q6, _⟩ := swumStep_dr hL 70 (a := a5) (by omega) (by omega)
  obtain ⟨b, a7, e7, p7, q7, _⟩ := flip_dr hL (a := a6) (by omega) (by omega) 6 (by omega)
  unfold tumblaw2_RecordsHeld
  rw [e1]; simp only [Option.bind_some]
  rw [e2]; simp only [Option.bind_some]
  rw [e3]; simp only [Option.bind_some]
  rw [e4]; simp only [Option.bind_some]
  rw [e5]; simp only [Option.bind_some]
  rw [e6]; simp only [Option.bind_some]
  rw [e7]; simp only [Option.bind_some]
  obtain ⟨e, k1, k2, _⟩ := kinds_both k
  obtain ⟨f, s1, s2, _⟩ := steps_both x
  obtain ⟨R, r1, r2, r3⟩ := Record_is k x kind t k1 s1
  obtain ⟨H, h1, h2, h3⟩ := History_is k x kind t k1 s1
  obtain ⟨A, c1, c2, c3⟩ := All_is k x t k1 s1
  refine join_via (fun K => ∀ x1 x2 : Int, K x1 x2 = some true) ?_ ?_
  · intro x1 x2
    obtain ⟨g, g1, g2, _⟩ := step_both (GStep.mk y.At x1 y.Id y.Who y.Club y.Race x2 y.Time)
    have hfor := for_is k (by omega) (GStep.mk y.At x1 y.Id y.Who y.Club y.Race x2 y.Time) k1 g1
    have hfo := forOf_is k (by omega) (GStep.mk y.At x1 y.Id y.Who y.Club y.Race x2 y.Time)
    rw [hfor, r1, c1, h1, k2, s2, g2, hfo]
    simp only [Option.bind_some, joinR, recorded_is]
    have hD : (tumblaw2_errs [e, f] = 0 → twoF e f k kind t = tumblaw2_errs [tumblaw2_kindFault k kind, tumblaw2_momentFault t]) ∧ (tumblaw2_errs [e, f] ≠ 0 → twoF e f k kind t = tumblaw2_errs [e, f]) := by
      unfold twoF
      exact ⟨fun h => if_pos h, fun h => if_neg h⟩
    generalize tumblaw2_errs [e, g, tumblaw2_when (!decide (x1 = 1)) 4] = F
    generalize tumblaw2_errs [tumblaw2_errs [e, f], tumblaw2_momentFault t] = T at c2 c3 ⊢
    by_cases hef : tumblaw2_errs [e, f] = 0
    · rw [if_pos (decide_eq_true hef), ← hD.1 hef]
      generalize twoF e f k kind t = D at r2 r3 h2 h3 ⊢
      by_cases hD0 : D = 0
      · obtain ⟨hin, hxl, hR⟩ := r3 hD0
        obtain ⟨_, _, hH⟩ := h3 hD0
        by_cases hT0 : T = 0
        · obtain ⟨_, hA, _⟩ := c3 hT0
          by_cases hF0 : F = 0 <;> simp [hD0, hT0, hF0, chkT hin, recordOf_is _ x (show x.length ≤ 100000 by omega), historyOf_is _ x (show x.length ≤ 100000 by omega), eqBest_is, eqStr_is, hA, hR, hH]
        · have hA := c2 hT0
          by_cases hF0 : F = 0 <;> simp [hD0, hT0, hF0, chkT hin, recordOf_is _ x (show x.length ≤ 100000 by omega), historyOf_is _ x (show x.length ≤ 100000 by omega), eqBest_is, eqStr_is, hA, hR, hH]
      · have hR := r2 hD0
        have hH := h2 hD0
        by_cases hT0 : T = 0
        · obtain ⟨_, hA, _⟩ := c3 hT0
          by_cases hF0 : F = 0 <;> simp [hD0, hT0, hF0, eqBest_is, eqStr_is, hA, hR, hH]
        · have hA := c2 hT0
          by_cases hF0 : F = 0 <;> simp [hD0, hT0, hF0, eqBest_is, eqStr_is, hA, hR, hH]
    · rw [if_neg (by simpa using hef), ← hD.2 hef]
      generalize twoF e f k kind t = D at r2 r3 h2 h3 ⊢
      by_cases hD0 : D = 0
      · obtain ⟨hin, hxl, hR⟩ := r3 hD0
        obtain ⟨_, _, hH⟩ := h3 hD0
        by_cases hT0 : T = 0
        · obtain ⟨_, hA, _⟩ := c3 hT0
          by_cases hF0 : F = 0 <;> simp [hD0, hT0, hF0, chkT hin, recordOf_is _ x (show x.length ≤ 100000 by omega), historyOf_is _ x (show x.length ≤ 100000 by omega), eqBest_is, eqStr_is, hA, hR, hH]
        · have hA := c2 hT0
          by_cases hF0 : F = 0 <;> simp [hD0, hT0, hF0, chkT hin, recordOf_is _ x (show x.length ≤ 100000 by omega), historyOf_is _ x (show x.length ≤ 100000 by omega), eqBest_is, eqStr_is, hA, hR, hH]
      · have hR := r2 hD0
        have hH := h2 hD0
        by_cases hT0 : T = 0
        · obtain ⟨_, hA, _⟩ := c3 hT0
          by_cases hF0 : F = 0 <;> simp [hD0, hT0, hF0, eqBest_is, eqStr_is, hA, hR, hH]
        · have hA := c2 hT0
          by_cases hF0 : F = 0 <;> simp [hD0, hT0, hF0, eqBest_is, eqStr_is, hA, hR, hH]
  intro K hK
  cases b with
  | true =>
    rw [if_pos rfl]
    obtain ⟨u1, b1, o1, v1, v2, _⟩ := pick_dr hL (a := a7) (by omega) (by omega) [1, 2, 4] (by simp) (by simp)
    rw [o1]; simp only [Option.bind_some]
    obtain ⟨u2, b2, o2, v3, v4, _⟩ := odd_dr hL (a := b1) (by omega) (by omega) 0 150 (by omega) (by omega) (by omega)
    rw [o2]; simp only [Option.bind_some]
    exact hK u1 u2
  | false =>
    rw [if_neg (by simp)]
    exact hK y.Kind y.Age
end Go.Proofs.YtdfcgiddcibhfaaGreatDoor
