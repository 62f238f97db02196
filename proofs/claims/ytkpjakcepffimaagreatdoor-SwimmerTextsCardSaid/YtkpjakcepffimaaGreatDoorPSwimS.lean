/- What the stream gives of days, dates and swimmers. No program stands here but its twins. -/
import Derived.Test.YtkpjakcepffimaaGreatDoorPStr
import Derived.Test.YtkpjakcepffimaaGreatDoorPDateR
namespace Go.Proofs.YtkpjakcepffimaaGreatDoor
open Go
section
variable {L : List Int} (hL : LongL L)
include hL
theorem rightSwim_l : ∀ (ys : List ByteArray) (i : Nat) (x1 : List GSwimmer) (a : Int), 0 ≤ a → a + 3 * ys.length ≤ 1000000000000 → x1.length + ys.length ≤ 1000 →
    ∃ x b, Stream_RightSwimmers_l1 L (fun x a => some (x, a)) ys i x1 a = some (x, b) ∧ a ≤ b ∧ b ≤ a + 3 * ys.length ∧ x.length ≤ x1.length + ys.length
  | [], i, x1, a, _, _, _ => ⟨x1, a, rfl, Int.le_refl _, by simp, by simp⟩
  | y :: ys, i, x1, a, h0, h1, h2 => by
    rw [Stream_RightSwimmers_l1]
    simp only [List.length_cons] at h1 h2 ⊢
    obtain ⟨f, b, e, g1, g2, _⟩ := flip_dr hL h0 (by omega) 8 (by omega)
    rw [e]; simp only [Option.bind_some, join_eq]
    cases f with
    | true =>
      rw [if_pos rfl]
      obtain ⟨x, c, e', g3, g4, g5⟩ := rightSwim_l ys (i + 1) x1 b (by omega) (by omega) (by omega)
      exact ⟨x, c, e', by omega, by omega, by omega⟩
    | false =>
      rw [if_neg (by simp)]
      obtain ⟨s, b2, e2, g3, g4, _⟩ := pick_dr hL (a := b) (by omega) (by omega) [1, 2] (by simp) (by simp)
      rw [e2]; simp only [Option.bind_some]
      obtain ⟨t, b3, e3, g5, g6, _⟩ := pick_dr hL (a := b2) (by omega) (by omega) [59, 0, (-1), (-307), (-3653), (-5000), 365, 1520] (by simp) (by simp)
      rw [e3]; simp only [Option.bind_some]
      rw [chk_pos (by unfold room; simp; omega)]
      obtain ⟨x, c, e', g7, g8, g9⟩ := rightSwim_l ys (i + 1) (x1 ++ [GSwimmer.mk y s t]) b3 (by omega) (by omega) (by simp; omega)
      simp only [List.length_append, List.length_singleton] at g9
      exact ⟨x, c, e', by omega, by omega, by omega⟩
variable {a : Int} (h0 : 0 ≤ a) (h1 : a ≤ 100000000)
include h0 h1
theorem rightSwim_dr : Dr a 18 (fun x => x.length ≤ 6) (Stream_RightSwimmers L a) := by
  unfold Stream_RightSwimmers
  simp only [join_eq]
  obtain ⟨x, c, e', g7, g8, g9⟩ := rightSwim_l hL [k_ann, k_bea, k_cid, k_dan, k_eve, k_fox] 0 [] a h0 (by simp; omega) (by simp)
  exact ⟨x, c, e', g7, by simp at g8; omega, by simpa using g9⟩
theorem swimmers_dr : Dr a 25 (fun x => x.length ≤ 6) (Stream_Swimmers L a) := by
  unfold Stream_Swimmers
  obtain ⟨x, b, e, g1, g2, g3⟩ := rightSwim_dr hL h0 h1
  rw [e]; simp only [Option.bind_some, join_eq]
  by_cases hx : 0 < (x.length : Int)
  · rw [if_pos (decide_eq_true hx)]
    obtain ⟨f, b1, e1, g4, g5, _⟩ := flip_dr hL (a := b) (by omega) (by omega) 12 (by omega)
    rw [e1]; simp only [Option.bind_some]
    cases f with
    | false => rw [if_neg (by simp)]; exact ⟨x, b1, rfl, by omega, by omega, g3⟩
    | true =>
      rw [if_pos rfl]
      obtain ⟨i, b2, e2, g6, g7, g8⟩ := next_dr hL (a := b1) (by omega) (by omega) (x.length : Int) (by omega)
      rw [e2]; simp only [Option.bind_some]
      rw [chk_pos (inB_iff.2 ⟨g8.1, by omega⟩)]
      obtain ⟨s, b3, e3, g9, g10, _⟩ := some_dr hL (a := b2) (by omega) (by omega) [(nth x i).Key, k_empty, k_ann] (by simp) (by simp)
      rw [e3]; simp only [Option.bind_some]
      obtain ⟨t, b4, e4, g11, g12, _⟩ := pick_dr hL (a := b3) (by omega) (by omega) [0, 1, 2, 3] (by simp) (by simp)
      rw [e4]; simp only [Option.bind_some]
      obtain ⟨u, b5, e5, g13, g14, _⟩ := odd_dr hL (a := b4) (by omega) (by omega) (-40000) 4000 (by omega) (by omega) (by omega)
      rw [e5]; simp only [Option.bind_some]
      exact ⟨_, _, rfl, by omega, by omega, by simpa using g3⟩
  · rw [if_neg (by simpa using hx), if_neg (by simp)]
    exact ⟨x, b, rfl, by omega, by omega, g3⟩
end
end Go.Proofs.YtkpjakcepffimaaGreatDoor
