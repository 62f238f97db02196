/- What the stream gives of moves, spoilt ones too. No program stands here but its twins. -/
import Derived.Test.YtmngaaffadcccaaGreatDoorPMoveS
namespace Go.Proofs.YtmngaaffadcccaaGreatDoor
open Go
theorem moves_dr {L : List Int} (hL : LongL L) {a : Int} (h0 : 0 ≤ a) (h1 : a ≤ 10000000) : Dr a 50 (fun x => x.length ≤ 15) (Stream_Moves L a) := by
  unfold Stream_Moves
  obtain ⟨x, b, e, g1, g2, g3⟩ := rightMoves_dr hL h0 h1
  rw [e]; simp only [Option.bind_some, join_eq]
  by_cases hx : 0 < (x.length : Int)
  · rw [if_pos (decide_eq_true hx)]
    obtain ⟨f, b1, e1, g4, g5, _⟩ := flip_dr hL (a := b) (by omega) (by omega) 12 (by omega)
    rw [e1]; simp only [Option.bind_some]
    cases f with
    | false => rw [if_neg (by simp)]; exact ⟨x, b1, rfl, by omega, by omega, g3⟩
    | true =>
      rw [if_pos rfl]
      obtain ⟨i, b2, e2, g6, g7, g8⟩ := next_dr hL (a := b1) (by omega) (by omega) (x.length : Int) (by omega)
      rw [e2]; simp only [Option.bind_some]
      rw [chk_pos (inB_iff.2 ⟨g8.1, by omega⟩)]
      obtain ⟨s, b3, e3, g9, g10, _⟩ := some_dr hL (a := b2) (by omega) (by omega) [(nth x i).Who, k_empty, k_ann] (by simp) (by simp)
      rw [e3]; simp only [Option.bind_some]
      obtain ⟨t, b4, e4, g11, g12, _⟩ := some_dr hL (a := b3) (by omega) (by omega) [(nth x i).Club, k_A, k_blue, k_empty] (by simp) (by simp)
      rw [e4]; simp only [Option.bind_some]
      obtain ⟨u, b5, e5, g13, g14, _⟩ := odd_dr hL (a := b4) (by omega) (by omega) (-100) 400 (by omega) (by omega) (by omega)
      rw [e5]; simp only [Option.bind_some]
      exact ⟨_, _, rfl, by omega, by omega, by simpa using g3⟩
  · rw [if_neg (by simpa using hx), if_neg (by simp)]
    exact ⟨x, b, rfl, by omega, by omega, g3⟩
end Go.Proofs.YtmngaaffadcccaaGreatDoor
