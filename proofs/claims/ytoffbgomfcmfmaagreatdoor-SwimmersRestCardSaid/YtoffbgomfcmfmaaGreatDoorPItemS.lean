/- What the stream gives of items. No program stands here but its twins. -/
import Derived.Test.YtoffbgomfcmfmaaGreatDoorPItemR
namespace Go.Proofs.YtoffbgomfcmfmaaGreatDoor
open Go
theorem items_dr {L : List Int} (hL : LongL L) {a : Int} (h0 : 0 ≤ a) (h1 : a ≤ 100000000) (m : Int) (hm : 0 ≤ m) (hm' : m ≤ 5) : Dr a 40 (fun x => x.length ≤ 5) (Stream_Items L a m) := by
  unfold Stream_Items
  obtain ⟨x, b, e, g1, g2, g3⟩ := rightItems_dr hL h0 h1 m hm hm'
  rw [e]; simp only [Option.bind_some, join_eq]
  by_cases hx : 0 < (x.length : Int)
  · rw [if_pos (decide_eq_true hx)]
    obtain ⟨f, b1, e1, g4, g5, _⟩ := flip_dr hL (a := b) (by omega) (by omega) 15 (by omega)
    rw [e1]; simp only [Option.bind_some]
    cases f with
    | false => rw [if_neg (by simp)]; exact ⟨x, b1, rfl, by omega, by omega, g3⟩
    | true =>
      rw [if_pos rfl]
      obtain ⟨i, b2, e2, g6, g7, g8⟩ := next_dr hL (a := b1) (by omega) (by omega) (x.length : Int) (by omega)
      rw [e2]; simp only [Option.bind_some]
      rw [chk_pos (inB_iff.2 ⟨g8.1, by omega⟩)]
      obtain ⟨s, b3, e3, g9, g10, _⟩ := some_dr hL (a := b2) (by omega) (by omega) [(nth x i).Key, k_empty, k_ia] (by simp) (by simp)
      rw [e3]; simp only [Option.bind_some]
      obtain ⟨t, b4, e4, g11, g12, _⟩ := odd_dr hL (a := b3) (by omega) (by omega) 1 60 (by omega) (by omega) (by omega)
      rw [e4]; simp only [Option.bind_some]
      obtain ⟨u, b5, e5, g13, g14, _⟩ := odd_dr hL (a := b4) (by omega) (by omega) 1 100 (by omega) (by omega) (by omega)
      rw [e5]; simp only [Option.bind_some]
      obtain ⟨v, b6, e6, g15, g16, _⟩ := odd_dr hL (a := b5) (by omega) (by omega) 0 100 (by omega) (by omega) (by omega)
      rw [e6]; simp only [Option.bind_some]
      obtain ⟨w, b7, e7, g17, g18, _⟩ := odd_dr hL (a := b6) (by omega) (by omega) 0 100 (by omega) (by omega) (by omega)
      rw [e7]; simp only [Option.bind_some]
      exact ⟨_, _, rfl, by omega, by omega, by simpa using g3⟩
  · rw [if_neg (by simpa using hx), if_neg (by simp)]
    exact ⟨x, b, rfl, by omega, by omega, g3⟩
end Go.Proofs.YtoffbgomfcmfmaaGreatDoor
