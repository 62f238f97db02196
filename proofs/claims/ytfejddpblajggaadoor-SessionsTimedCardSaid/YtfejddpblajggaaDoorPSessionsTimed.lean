/- The plain law of SessionsTimed. No program stands here but its twins. -/
import Derived.Test.YtfejddpblajggaaDoorPGen
namespace Go.Proofs.YtfejddpblajggaaDoor
open Go

theorem timed_ok : tumblaw2_timed = some true := by decide +kernel
theorem plain_SessionsTimed (l : List Int) (hl : l.length ≤ 9223372036854775807) : tumblaw2_SessionsTimed l = some true := by
  have hL : (l.length : Int) ≤ 9223372036854775807 := by omega
  obtain ⟨x, a, e1, g1, g2⟩ := items_ok l hL 0 (by omega) (by omega)
  have e2 : ∃ v, Stream_SessionStart l a = some (v, a + 1) := by
    obtain ⟨v, h, _⟩ := pick_ok l a [0, 0, 30, 1000, (-1), 345686399999, 345686399700, 345686400000] (by omega) (by omega) hL (by simp) (by simp)
    unfold Stream_SessionStart
    rw [h]
    exact ⟨v, rfl⟩
  obtain ⟨t, e2⟩ := e2
  obtain ⟨least, e3, _⟩ := pick_ok l (a + 1) [1, 10, 50, 100, 0, 3600001] (by omega) (by omega) hL (by simp) (by simp)
  obtain ⟨wf, e4, _⟩ := pick_ok l (a + 1 + 1) [0, 100, 500, (-1)] (by omega) (by omega) hL (by simp) (by simp)
  obtain ⟨wt, e5, _⟩ := pick_ok l (a + 1 + 1 + 1) [0, 300, 700, 2000, 345686400000, 345686400001] (by omega) (by omega) hL (by simp) (by simp)
  obtain ⟨e, f, s, t1, t2, t3, t4, t5, t6, t7, t8⟩ := timetable_law x t
  obtain ⟨e', n, ff, f1, f2, f3, f4, f5⟩ := fits_law x (GWindow.mk wf wt)
  obtain rfl : e' = e := Option.some.inj (f1.symm.trans t1)
  obtain ⟨e'', f', s', q, p1, p2, p3, p4, p5, p6⟩ := pauses_law x t least
  have hps := Option.some.inj (p2.symm.trans t3)
  obtain ⟨rfl, rfl⟩ : s' = s ∧ f' = f := by
    simp only [Prod.mk.injEq] at hps
    exact hps
  unfold tumblaw2_SessionsTimed
  rw [e1]; simp only [Option.bind_some]
  rw [e2]; simp only [Option.bind_some]
  rw [e3]; simp only [Option.bind_some]
  rw [e4]; simp only [Option.bind_some]
  rw [e5]; simp only [Option.bind_some]
  rw [t3, t4, f2, p3, t1]
  simp only [Option.bind_some, join_eq, t2]
  -- the faults, one by one
  have hx1 : ∀ (k : Int → Option Bool), (if decide (e' = 0) = true then Option.bind (tumbref2_FromFault x t) (fun r11 => k r11) else k e') = k f' := by
    intro k
    by_cases he : e' = 0
    · rw [if_pos (decide_eq_true he), (t6 he).1]; rfl
    · rw [if_neg (by simpa using he), (t5 he).1]
  rw [hx1]
  have hx2 : ∀ (k : Int → List GSlot → Option Bool), (if decide (f' = 0) = true then Option.bind (tumbref2_SlotsOf x t) (fun r12 => Option.bind (tumbref2_EndOf x t) (fun r13 => k r13 r12)) else k 0 ([] : List GSlot)) = k (if f' = 0 then lastTo s' t else 0) s' := by
    intro k
    by_cases hf : f' = 0
    · obtain ⟨he, g3, g4, hs⟩ := t7 hf
      obtain ⟨_, hl2, hg⟩ := t6 he
      rw [if_pos (decide_eq_true hf), if_pos hf, slots_eq x t hg hl2 g3 g4, endOf_eq x t hg hl2 g3 g4, ← hs]
      rfl
    · rw [if_neg (by simpa using hf), if_neg hf, t8 hf]
  rw [hx2]
  have hx3 : ∀ (k : Int → Option Bool), (if decide (tumblaw2_errs [e', tumbref2_WindowFault (GWindow.mk wf wt)] = 0) = true then Option.bind (tumbref2_FitsOf x (GWindow.mk wf wt)) (fun r14 => k r14) else k 0) = k n := by
    intro k
    rw [← f3]
    by_cases hf : ff = 0
    · rw [if_pos (decide_eq_true hf), f4 hf]; rfl
    · rw [if_neg (by simpa using hf), f5 hf]
  rw [hx3]
  have hx4 : ∀ (k : List GWindow → Option Bool), (if decide (tumblaw2_errs [f', tumblaw2_when (decide (least < 1) || decide (3600000 < least)) 1] = 0) = true then Option.bind (tumbref2_PausesOf x t least) (fun r15 => k r15) else k ([] : List GWindow)) = k q.1 := by
    intro k
    rw [← p4]
    by_cases hf : q.2 = 0
    · rw [if_pos (decide_eq_true hf), p5 hf]; rfl
    · rw [if_neg (by simpa using hf), p6 hf]
  rw [hx4]
  simp only [← f3, ← p4, equal_slot, equal_window, timed_ok, decide_true, Bool.and_true, if_true, Option.bind_some]
end Go.Proofs.YtfejddpblajggaaDoor
