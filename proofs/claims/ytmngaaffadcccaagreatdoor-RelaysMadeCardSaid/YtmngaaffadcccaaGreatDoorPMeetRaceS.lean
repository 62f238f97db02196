/- What the stream gives of a race. No program stands here but its twins. -/
import Derived.Test.YtmngaaffadcccaaGreatDoorPStr
namespace Go.Proofs.YtmngaaffadcccaaGreatDoor
open Go
theorem meetRace_dr {L : List Int} (hL : LongL L) {a : Int} (h0 : 0 ≤ a) (h1 : a ≤ 100000000) (key : ByteArray) : Dr a 7 (fun _ => True) (Stream_MeetRace L a key) := by
  unfold Stream_MeetRace
  obtain ⟨v1, b1, e1, g1, g2, _⟩ := pick_dr hL h0 (by omega) [50, 100, 200] (by simp) (by simp)
  rw [e1]; simp only [Option.bind_some]
  obtain ⟨v2, b2, e2, g3, g4, _⟩ := pick_dr hL (a := b1) (by omega) (by omega) [1, 2, 3, 4] (by simp) (by simp)
  rw [e2]; simp only [Option.bind_some]
  obtain ⟨v3, b3, e3, g5, g6, _⟩ := pick_dr hL (a := b2) (by omega) (by omega) [25, 50] (by simp) (by simp)
  rw [e3]; simp only [Option.bind_some]
  obtain ⟨v4, b4, e4, g7, g8, _⟩ := pick_dr hL (a := b3) (by omega) (by omega) [1, 1, 1, 4] (by simp) (by simp)
  rw [e4]; simp only [Option.bind_some]
  obtain ⟨v5, b5, e5, g9, g10, _⟩ := pick_dr hL (a := b4) (by omega) (by omega) [0, 1, 2] (by simp) (by simp)
  rw [e5]; simp only [Option.bind_some]
  obtain ⟨v6, b6, e6, g11, g12, _⟩ := pick_dr hL (a := b5) (by omega) (by omega) [0, 0, 5, 10] (by simp) (by simp)
  rw [e6]; simp only [Option.bind_some]
  obtain ⟨v7, b7, e7, g13, g14, _⟩ := pick_dr hL (a := b6) (by omega) (by omega) [0, 5, 90] (by simp) (by simp)
  rw [e7]; simp only [Option.bind_some]
  exact ⟨_, _, rfl, by omega, by omega, trivial⟩
end Go.Proofs.YtmngaaffadcccaaGreatDoor
