/- What the stream gives of races, bounds and entries. No program stands here but its twins. -/
import Derived.Test.YtmngaaffadcccaaGreatDoorPMeetRaceS
namespace Go.Proofs.YtmngaaffadcccaaGreatDoor
open Go
section
variable {L : List Int} (hL : LongL L)
include hL
theorem meetRaces_l : ∀ (ys : List ByteArray) (i : Nat) (x1 : List GRace) (a : Int), 0 ≤ a → a + 8 * ys.length ≤ 10000000 → x1.length + ys.length ≤ 1000 →
    ∃ x b, Stream_MeetRaces_l1 L (fun x a => some (x, a)) ys i x1 a = some (x, b) ∧ a ≤ b ∧ b ≤ a + 8 * ys.length ∧ x.length ≤ x1.length + ys.length
  | [], i, x1, a, _, _, _ => ⟨x1, a, rfl, Int.le_refl _, by simp, by simp⟩
  | y :: ys, i, x1, a, h0, h1, h2 => by
    rw [Stream_MeetRaces_l1]
    simp only [List.length_cons] at h1 h2 ⊢
    obtain ⟨f, b, e, g1, g2, _⟩ := flip_dr hL h0 (by omega) 6 (by omega)
    rw [e]; simp only [Option.bind_some, join_eq]
    cases f with
    | true =>
      rw [if_neg (by simp)]
      obtain ⟨x, c, e', g3, g4, g5⟩ := meetRaces_l ys (i + 1) x1 b (by omega) (by omega) (by omega)
      exact ⟨x, c, e', by omega, by omega, by omega⟩
    | false =>
      rw [if_pos (by simp)]
      obtain ⟨s, b2, e2, g3, g4, _⟩ := meetRace_dr hL (a := b) (by omega) (by omega) y
      rw [e2]; simp only [Option.bind_some]
      rw [chk_pos (by unfold room; simp; omega)]
      obtain ⟨x, c, e', g7, g8, g9⟩ := meetRaces_l ys (i + 1) (x1 ++ [s]) b2 (by omega) (by omega) (by simp; omega)
      simp only [List.length_append, List.length_singleton] at g9
      exact ⟨x, c, e', by omega, by omega, by omega⟩
variable {a : Int} (h0 : 0 ≤ a) (h1 : a ≤ 1000000)
include h0 h1
theorem meetRaces_dr : Dr a 24 (fun x => x.length ≤ 3) (Stream_MeetRaces L a) := by
  unfold Stream_MeetRaces
  simp only [join_eq]
  obtain ⟨x, c, e', g7, g8, g9⟩ := meetRaces_l hL [k_ra, k_rb, k_rc] 0 [] a h0 (by simp; omega) (by simp)
  exact ⟨x, c, e', g7, by simp at g8; omega, by simpa using g9⟩
theorem bounds_dr : Dr a 20 (fun _ => True) (Stream_Bounds L a) := by
  unfold Stream_Bounds
  obtain ⟨v1, b1, e1, g1, g2, _⟩ := pick_dr hL h0 (by omega) [0, 1, 2, 5] (by simp) (by simp)
  rw [e1]; simp only [Option.bind_some]
  obtain ⟨v2, b2, e2, g3, g4, _⟩ := pick_dr hL (a := b1) (by omega) (by omega) [0, 1, 2, 9] (by simp) (by simp)
  rw [e2]; simp only [Option.bind_some]
  obtain ⟨v3, b3, e3, g5, g6, _⟩ := pick_dr hL (a := b2) (by omega) (by omega) [1, 2] (by simp) (by simp)
  rw [e3]; simp only [Option.bind_some]
  obtain ⟨v4, b4, e4, g7, g8, _⟩ := pick_dr hL (a := b3) (by omega) (by omega) [60, 425, 1000, 1600, 4000] (by simp) (by simp)
  rw [e4]; simp only [Option.bind_some]
  obtain ⟨f, b5, e5, g9, g10, _⟩ := flip_dr hL (a := b4) (by omega) (by omega) 15 (by omega)
  rw [e5]; simp only [Option.bind_some, join_eq]
  cases f with
  | false => rw [if_neg (by simp)]; exact ⟨_, _, rfl, by omega, by omega, trivial⟩
  | true =>
    rw [if_pos rfl]
    obtain ⟨v6, b6, e6, g11, g12, _⟩ := odd_dr hL (a := b5) (by omega) (by omega) 0 100 (by omega) (by omega) (by omega)
    rw [e6]; simp only [Option.bind_some]
    obtain ⟨v7, b7, e7, g13, g14, _⟩ := odd_dr hL (a := b6) (by omega) (by omega) 0 1500 (by omega) (by omega) (by omega)
    rw [e7]; simp only [Option.bind_some]
    obtain ⟨v8, b8, e8, g15, g16, _⟩ := odd_dr hL (a := b7) (by omega) (by omega) 1 2 (by omega) (by omega) (by omega)
    rw [e8]; simp only [Option.bind_some]
    obtain ⟨v9, b9, e9, g17, g18, _⟩ := odd_dr hL (a := b8) (by omega) (by omega) (-40000) 4000 (by omega) (by omega) (by omega)
    rw [e9]; simp only [Option.bind_some]
    exact ⟨_, _, rfl, by omega, by omega, trivial⟩
end
theorem oneClub_ok (L : List Int) (a : Int) : ∃ x, Stream_OneClub L a = some x := by
  unfold Stream_OneClub
  simp only [join_eq, Stream_OneClub_l1]
  refine ⟨[GMove.mk k_ann k_blue 0, GMove.mk k_bea k_blue 0, GMove.mk k_cid k_blue 0, GMove.mk k_dan k_blue 0, GMove.mk k_eve k_blue 0, GMove.mk k_fox k_blue 0], rfl⟩
end Go.Proofs.YtmngaaffadcccaaGreatDoor
