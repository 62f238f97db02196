/- The plain law of SessionsLate. No program stands here but its twins. -/
import Derived.Test.YthckagkkjdabeaaDoorPLiveL
import Derived.Test.YthckagkkjdabeaaDoorPItemS
import Derived.Test.YthckagkkjdabeaaDoorPHeldS
namespace Go.Proofs.YthckagkkjdabeaaDoor
open Go
theorem timed_ok : tumblaw2_timed = some true := by decide +kernel
theorem slot_eta (s : GSlot) : GSlot.mk s.Item s.Heat (GWindow.mk s.Time.From s.Time.To) = s := rfl
theorem plain_SessionsLate (l : List Int) (hl : l.length ≤ 9223372036854775807) : tumblaw2_SessionsLate l = some true := by
  have hL : LongL l := by unfold LongL; omega
  obtain ⟨x, a1, e1, p1, q1, hx⟩ := items_dr hL (a := 0) (by omega) (by omega) 4 (by omega) (by omega)
  obtain ⟨t, a2, e2, p2, q2, _⟩ : Dr a1 1 (fun _ => True) (Stream_SessionStart l a1) := by
    obtain ⟨v, b, h, g1, g2, _⟩ := pick_dr hL (a := a1) (by omega) (by omega) [0, 0, 30, 1000, (-1), 345686399999, 345686399700, 345686400000] (by simp) (by simp)
    unfold Stream_SessionStart
    rw [h]
    exact ⟨v, b, rfl, g1, g2, trivial⟩
  obtain ⟨m, a3, e3, p3, q3, _⟩ := pick_dr hL (a := a2) (by omega) (by omega) [0, 50, 150, 400, 2000, (-1)] (by simp) (by simp)
  obtain ⟨h, a4, e4, p4, q4, _⟩ := helds_dr hL (a := a3) (by omega) (by omega) x (by omega)
  obtain ⟨f, z, r, c1, c2, c3, c4⟩ := live_law x t h
  obtain ⟨ef, d1, d2, _⟩ := held_eq x h
  unfold tumblaw2_SessionsLate session_Live session_Behind session_Now
  rw [e1]; simp only [Option.bind_some]
  rw [e2]; simp only [Option.bind_some]
  rw [e3]; simp only [Option.bind_some]
  rw [e4]; simp only [Option.bind_some]
  rw [c1, c2, d1, d2]
  simp only [Option.bind_some, join_eq, timed_ok, decide_true, Bool.true_and, moment_eq]
  by_cases hf : f = 0
  · subst hf
    obtain ⟨g1, g2, g3, g4, g5⟩ := c3 rfl
    have hb : tumbref2_BehindOf x t h = some (W (lastTo z t - lastTo r t)) := by
      unfold tumbref2_BehindOf
      rw [g1]
      simp only [Option.bind_some, join_eq]
      rw [behind_l x t _ g5]
      congr 1
      unfold lastTo
      cases hz : z.getLast? with
      | some s =>
        simp only
      | none =>
        have : z = [] := List.getLast?_eq_none_iff.1 hz
        subst this
        have : r = [] := List.eq_nil_of_length_eq_zero (by simpa using g2.symm)
        subst this
        simp; rfl
    rw [end_eq z t g3, g4, hb, g1]
    simp only [decide_true, Bool.not_true, Bool.false_eq_true, if_false, if_true, Option.bind_some, equal_slot, Bool.true_and, Bool.and_true]
    unfold tumblaw2_momentFault tumblaw2_when tumbref2_NowOf
    rw [g1]
    simp only [Option.bind_some, join_eq, errs2]
    cases hm : tumbref2_Moment m with
    | true =>
      obtain ⟨s, b, n1, n2⟩ := now_l m z 0
      simp [n1, n2]
    | false =>
      simp
  · obtain ⟨rfl, rfl⟩ := c4 hf
    simp only [hf, decide_false, Bool.not_false, Bool.false_eq_true, if_false, if_true, Option.bind_some, errs2, ne_eq, not_false_eq_true, equal_slot]
    simp
end Go.Proofs.YthckagkkjdabeaaDoor
