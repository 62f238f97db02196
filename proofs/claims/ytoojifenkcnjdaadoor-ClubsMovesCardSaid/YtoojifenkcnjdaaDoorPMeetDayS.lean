/- What the stream gives of days of a meet. No program stands here but its twins. -/
import Derived.Test.YtoojifenkcnjdaaDoorPStr
namespace Go.Proofs.YtoojifenkcnjdaaDoor
open Go
section
variable {L : List Int} (hL : LongL L) {a : Int} (h0 : 0 ≤ a) (h1 : a ≤ 100000000)
include hL h0 h1
theorem meetDay_dr : Dr a 3 (fun _ => True) (Stream_MeetDay L a) := by
  unfold Stream_MeetDay
  obtain ⟨f, b, e, g1, g2, _⟩ := flip_dr hL h0 (by omega) 15 (by omega)
  rw [e]; simp only [Option.bind_some]
  cases f with
  | true =>
    rw [if_pos rfl]
    obtain ⟨u, b5, e5, g13, g14, _⟩ := odd_dr hL (a := b) (by omega) (by omega) (-40000) 4000 (by omega) (by omega) (by omega)
    rw [e5]; exact ⟨_, _, rfl, by omega, by omega, trivial⟩
  | false =>
    rw [if_neg (by simp)]
    obtain ⟨t, b3, e3, g5, g6, _⟩ := pick_dr hL (a := b) (by omega) (by omega) [0, 58, 59, 60, 365, 366, 424, 425, 789, 1519, 1520, 1521, 3000, 4000] (by simp) (by simp)
    rw [e3]; simp only [Option.bind_some]
    obtain ⟨t', b4, e4, g7, g8, _⟩ := pick_dr hL (a := b3) (by omega) (by omega) [(-1), 0, 0, 1] (by simp) (by simp)
    rw [e4]; exact ⟨_, _, rfl, by omega, by omega, trivial⟩
end
end Go.Proofs.YtoojifenkcnjdaaDoor
