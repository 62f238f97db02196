/- The plain law of RecordsLast. No program stands here but its twins. -/
import Derived.Test.YtdkpfiinkodbfaaGreatDoorPRecL
import Derived.Test.YtdkpfiinkodbfaaGreatDoorPRecS
namespace Go.Proofs.YtdkpfiinkodbfaaGreatDoor
open Go
theorem recorded_is' : tumblaw2_recorded = some true := by decide +kernel
theorem plain_RecordsLast (l : List Int) (hl : l.length ≤ 9223372036854775807) : tumblaw2_RecordsLast l = some true := by
  have hL : LongL l := by unfold LongL; omega
  obtain ⟨k, a1, e1, p1, q1, hk⟩ := kinds_dr hL (a := 0) (by omega) (by omega)
  obtain ⟨n, a2, e2, p2, q2, n1, n2⟩ := range_dr hL (a := a1) (by omega) (by omega) 0 16 (by omega) (by omega) (by omega)
  obtain ⟨x, a3, e3, p3, q3, hx⟩ := steps_dr hL n (by omega) (by omega) (a := a2) (by omega) (by omega)
  obtain ⟨kind, a4, e4, p4, q4, _⟩ := some_dr hL (a := a3) (by omega) (by omega) [k_ka, k_kb, k_kc, k_zz] (by simp) (by simp)
  obtain ⟨id, a5, e5, p5, q5, _⟩ := some_dr hL (a := a4) (by omega) (by omega) [k_ia, k_ib, k_ic, k_zz] (by simp) (by simp)
  obtain ⟨t, a6, e6, p6, q6, _⟩ := pick_dr hL (a := a5) (by omega) (by omega) [0, 5, 10, 20, 60, (-1)] (by simp) (by simp)
  obtain ⟨y, a7, e7, p7, q7, _⟩ := swumStep_dr hL 70 (a := a6) (by omega) (by omega)
  obtain ⟨b, a8, e8, p8, q8, _⟩ := flip_dr hL (a := a7) (by omega) (by omega) 2 (by omega)
  unfold tumblaw2_RecordsLast
  rw [e1]; simp only [Option.bind_some]
  rw [e2]; simp only [Option.bind_some]
  rw [e3]; simp only [Option.bind_some]
  rw [e4]; simp only [Option.bind_some]
  rw [e5]; simp only [Option.bind_some]
  rw [e6]; simp only [Option.bind_some]
  rw [e7]; simp only [Option.bind_some]
  rw [e8]; simp only [Option.bind_some]
  obtain ⟨e, k1, k2, _⟩ := kinds_both k
  obtain ⟨f, s1, s2, _⟩ := steps_both x
  obtain ⟨S4, r1, r2, r3⟩ := Held_is k (by omega) x id t k1 s1
  obtain ⟨n5, h1, h2, h3⟩ := Long_is k x id kind t k1 s1
  obtain ⟨n7, b7, c1, c2, c3⟩ := Needed_is k x kind t k1 s1
  have hHeldBy := heldBy_is k (by omega) x (by omega) id t
  have hId := idFault_is x (by omega) id t
  refine join_via (fun K => ∀ x1 : ByteArray, K x1 = some true) ?_ ?_
  · intro x1
    obtain ⟨b9, a9, e9, p9, q9, _⟩ := flip_dr hL (a := a8) (by omega) (by omega) 10 (by omega)
    rw [e9]; simp only [Option.bind_some]
    refine join_via (fun K => ∀ x2 x3 : Int, K x2 x3 = some true) ?_ ?_
    · intro x2 x3
      obtain ⟨g, g1, g2, _⟩ := step_both (GStep.mk y.At x2 x1 y.Who y.Club y.Race y.Age x3)
      obtain ⟨S6, w1, w2, w3⟩ := Would_is k (by omega) x (GStep.mk y.At x2 x1 y.Who y.Club y.Race y.Age x3) k1 s1 g1
      have hWO := wouldOf_is k (by omega) x (by omega) (GStep.mk y.At x2 x1 y.Who y.Club y.Race y.Age x3)
      have hId2 := idFault_is x (by omega) x1 345686400000
      rw [r1, h1, w1, c1, k2, s2, g2, hId, hId2, hHeldBy, hWO]
      simp only [Option.bind_some, joinR, recorded_is']
      have hX4 : baseF e f (tumblaw2_errs [tumblaw2_momentFault t, idF (upS x t) id]) = if tumblaw2_errs [e, f] = 0 then tumblaw2_errs [tumblaw2_momentFault t, idF (upS x t) id] else tumblaw2_errs [e, f] := rfl
      have hX5 : baseF e f (tumblaw2_errs [tumblaw2_momentFault t, tumblaw2_kindFault k kind, idF (upS x t) id]) = if tumblaw2_errs [e, f] = 0 then tumblaw2_errs [tumblaw2_momentFault t, tumblaw2_kindFault k kind, idF (upS x t) id] else tumblaw2_errs [e, f] := rfl
      have hX6 : baseF e f (tumblaw2_errs [g, tumblaw2_when (!decide (x2 = 1)) 4, tumblaw2_when (decide (idF (upS x 345686400000) x1 = 0)) 6]) = if tumblaw2_errs [e, f] = 0 then tumblaw2_errs [g, tumblaw2_when (!decide (x2 = 1)) 4, tumblaw2_when (decide (idF (upS x 345686400000) x1 = 0)) 6] else tumblaw2_errs [e, f] := rfl
      have hX7 : twoF e f k kind t = if tumblaw2_errs [e, f] = 0 then tumblaw2_errs [tumblaw2_kindFault k kind, tumblaw2_momentFault t] else tumblaw2_errs [e, f] := rfl
      have fin : ∀ X4 X5 X6 X7 : Int, baseF e f (tumblaw2_errs [tumblaw2_momentFault t, idF (upS x t) id]) = X4 → baseF e f (tumblaw2_errs [tumblaw2_momentFault t, tumblaw2_kindFault k kind, idF (upS x t) id]) = X5 →
          baseF e f (tumblaw2_errs [g, tumblaw2_when (!decide (x2 = 1)) 4, tumblaw2_when (decide (idF (upS x 345686400000) x1 = 0)) 6]) = X6 → twoF e f k kind t = X7 →
          (X4 ≠ 0 → S4 = []) ∧ (X4 = 0 → S4 = heldS k (upS x t) id) ∧ (X5 ≠ 0 → n5 = 0) ∧ (X5 = 0 → inB (tumbref2_KindAt k kind) k.length = true ∧ tumbref2_LongOf (nth k (tumbref2_KindAt k kind)) x id t = some n5) ∧
          (X6 ≠ 0 → S6 = []) ∧ (X6 = 0 → S6 = (k.filter fun z => wouldB z (upS x 345686400000) (GStep.mk y.At x2 x1 y.Who y.Club y.Race y.Age x3)).map (·.Key)) ∧
          (X7 ≠ 0 → n7 = 0 ∧ b7 = false) ∧ (X7 = 0 → inB (tumbref2_KindAt k kind) k.length = true ∧ tumbref2_NeededOf (nth k (tumbref2_KindAt k kind)) x t = some (n7, b7)) := by
        rintro X4 X5 X6 X7 rfl rfl rfl rfl
        exact ⟨r2, r3, h2, h3, w2, w3, c2, fun h => ⟨(c3 h).1, (c3 h).2.1⟩⟩
      by_cases hef : tumblaw2_errs [e, f] = 0
      · rw [if_pos (decide_eq_true hef)]
        rw [if_pos hef] at hX4 hX5 hX6 hX7
        rw [hX4, hX5, hX6, hX7]
        obtain ⟨f1, f2, f3, f4, f5, f6, f7, f8⟩ := fin _ _ _ _ hX4 hX5 hX6 hX7
        generalize tumblaw2_errs [tumblaw2_momentFault t, idF (upS x t) id] = X4 at f1 f2 ⊢
        generalize tumblaw2_errs [tumblaw2_momentFault t, tumblaw2_kindFault k kind, idF (upS x t) id] = X5 at f3 f4 ⊢
        generalize tumblaw2_errs [g, tumblaw2_when (!decide (x2 = 1)) 4, tumblaw2_when (decide (idF (upS x 345686400000) x1 = 0)) 6] = X6 at f5 f6 ⊢
        generalize tumblaw2_errs [tumblaw2_kindFault k kind, tumblaw2_momentFault t] = X7 at f7 f8 ⊢
        by_cases z4 : X4 = 0
        · have f2 := f2 z4
          by_cases z5 : X5 = 0
          · obtain ⟨f4, f4'⟩ := f4 z5
            by_cases z6 : X6 = 0
            · have f6 := f6 z6
              by_cases z7 : X7 = 0
              · obtain ⟨f8, f8'⟩ := f8 z7
                simp [z4, z5, z6, z7, f2, f4', f6, f8', chkT f8, eqStr_is]
              · obtain ⟨f7, f7'⟩ := f7 z7
                simp [z4, z5, z6, z7, f2, f4', f6, f7, f7', chkT f4, eqStr_is]
            · have f5 := f5 z6
              by_cases z7 : X7 = 0
              · obtain ⟨f8, f8'⟩ := f8 z7
                simp [z4, z5, z6, z7, f2, f4', f5, f8', chkT f8, eqStr_is]
              · obtain ⟨f7, f7'⟩ := f7 z7
                simp [z4, z5, z6, z7, f2, f4', f5, f7, f7', chkT f4, eqStr_is]
          · have f3 := f3 z5
            by_cases z6 : X6 = 0
            · have f6 := f6 z6
              by_cases z7 : X7 = 0
              · obtain ⟨f8, f8'⟩ := f8 z7
                simp [z4, z5, z6, z7, f2, f3, f6, f8', chkT f8, eqStr_is]
              · obtain ⟨f7, f7'⟩ := f7 z7
                simp [z4, z5, z6, z7, f2, f3, f6, f7, f7', eqStr_is]
            · have f5 := f5 z6
              by_cases z7 : X7 = 0
              · obtain ⟨f8, f8'⟩ := f8 z7
                simp [z4, z5, z6, z7, f2, f3, f5, f8', chkT f8, eqStr_is]
              · obtain ⟨f7, f7'⟩ := f7 z7
                simp [z4, z5, z6, z7, f2, f3, f5, f7, f7', eqStr_is]
        · have f1 := f1 z4
          by_cases z5 : X5 = 0
          · obtain ⟨f4, f4'⟩ := f4 z5
            by_cases z6 : X6 = 0
            · have f6 := f6 z6
              by_cases z7 : X7 = 0
              · obtain ⟨f8, f8'⟩ := f8 z7
                simp [z4, z5, z6, z7, f1, f4', f6, f8', chkT f8, eqStr_is]
              · obtain ⟨f7, f7'⟩ := f7 z7
                simp [z4, z5, z6, z7, f1, f4', f6, f7, f7', chkT f4, eqStr_is]
            · have f5 := f5 z6
              by_cases z7 : X7 = 0
              · obtain ⟨f8, f8'⟩ := f8 z7
                simp [z4, z5, z6, z7, f1, f4', f5, f8', chkT f8, eqStr_is]
              · obtain ⟨f7, f7'⟩ := f7 z7
                simp [z4, z5, z6, z7, f1, f4', f5, f7, f7', chkT f4, eqStr_is]
          · have f3 := f3 z5
            by_cases z6 : X6 = 0
            · have f6 := f6 z6
              by_cases z7 : X7 = 0
              · obtain ⟨f8, f8'⟩ := f8 z7
                simp [z4, z5, z6, z7, f1, f3, f6, f8', chkT f8, eqStr_is]
              · obtain ⟨f7, f7'⟩ := f7 z7
                simp [z4, z5, z6, z7, f1, f3, f6, f7, f7', eqStr_is]
            · have f5 := f5 z6
              by_cases z7 : X7 = 0
              · obtain ⟨f8, f8'⟩ := f8 z7
                simp [z4, z5, z6, z7, f1, f3, f5, f8', chkT f8, eqStr_is]
              · obtain ⟨f7, f7'⟩ := f7 z7
                simp [z4, z5, z6, z7, f1, f3, f5, f7, f7', eqStr_is]
      · rw [if_neg (by simpa using hef)]
        rw [if_neg hef] at hX4 hX5 hX6 hX7
        rw [hX4, hX5, hX6, hX7]
        obtain ⟨f1, f2, f3, f4, f5, f6, f7, f8⟩ := fin _ _ _ _ hX4 hX5 hX6 hX7
        obtain ⟨f7, f7'⟩ := f7 hef
        simp [hef, f1 hef, f3 hef, f5 hef, f7, f7', eqStr_is]
    · intro K hK
      cases b9 with
      | true =>
        rw [if_pos rfl]
        obtain ⟨u1, b1, o1, v1, v2, _⟩ := pick_dr hL (a := a9) (by omega) (by omega) [1, 2] (by simp) (by simp)
        rw [o1]; simp only [Option.bind_some]
        obtain ⟨u2, b2, o2, v3, v4, _⟩ := odd_dr hL (a := b1) (by omega) (by omega) 1 100 (by omega) (by omega) (by omega)
        rw [o2]; simp only [Option.bind_some]
        exact hK u1 u2
      | false =>
        rw [if_neg (by simp)]
        exact hK y.Kind y.Time
  · intro K hK
    cases b with
    | true => rw [if_pos rfl]; exact hK _
    | false => rw [if_neg (by simp)]; exact hK _
end Go.Proofs.YtdkpfiinkodbfaaGreatDoor
