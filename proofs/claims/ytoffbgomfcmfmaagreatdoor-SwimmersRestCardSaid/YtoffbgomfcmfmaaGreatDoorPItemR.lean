/- What the stream gives of right items. No program stands here but its twins. -/
import Derived.Test.YtoffbgomfcmfmaaGreatDoorPStr
namespace Go.Proofs.YtoffbgomfcmfmaaGreatDoor
open Go
section
variable {L : List Int} (hL : LongL L)
include hL
theorem rightItem_l : ∀ (ys : List ByteArray) (i : Nat) (x1 : List GItem) (a : Int), 0 ≤ a → a + 5 * ys.length ≤ 1000000000000 → x1.length + ys.length ≤ 1000 →
    ∃ x b, Stream_RightItems_l1 L (fun x a => some (x, a)) ys i x1 a = some (x, b) ∧ a ≤ b ∧ b ≤ a + 5 * ys.length ∧ x.length ≤ x1.length + ys.length
  | [], i, x1, a, _, _, _ => ⟨x1, a, rfl, Int.le_refl _, by simp, by simp⟩
  | y :: ys, i, x1, a, h0, h1, h2 => by
    rw [Stream_RightItems_l1]
    simp only [List.length_cons] at h1 h2 ⊢
    obtain ⟨f, b, e, g1, g2, _⟩ := flip_dr hL h0 (by omega) 6 (by omega)
    rw [e]; simp only [Option.bind_some, join_eq]
    cases f with
    | true =>
      rw [if_neg (by simp)]
      obtain ⟨x, c, e', g3, g4, g5⟩ := rightItem_l ys (i + 1) x1 b (by omega) (by omega) (by omega)
      exact ⟨x, c, e', by omega, by omega, by omega⟩
    | false =>
      rw [if_pos (by simp)]
      obtain ⟨s, b2, e2, g3, g4, _⟩ := pick_dr hL (a := b) (by omega) (by omega) [1, 1, 2, 3] (by simp) (by simp)
      rw [e2]; simp only [Option.bind_some]
      obtain ⟨t, b3, e3, g5, g6, _⟩ := pick_dr hL (a := b2) (by omega) (by omega) [50, 100] (by simp) (by simp)
      rw [e3]; simp only [Option.bind_some]
      obtain ⟨u, b4, e4, g7, g8, _⟩ := pick_dr hL (a := b3) (by omega) (by omega) [0, 10, 60] (by simp) (by simp)
      rw [e4]; simp only [Option.bind_some]
      obtain ⟨v, b5, e5, g9, g10, _⟩ := pick_dr hL (a := b4) (by omega) (by omega) [0, 20, 50, 200] (by simp) (by simp)
      rw [e5]; simp only [Option.bind_some]
      rw [chk_pos (by unfold room; simp; omega)]
      obtain ⟨x, c, e', g11, g12, g13⟩ := rightItem_l ys (i + 1) (x1 ++ [GItem.mk y s t u v]) b5 (by omega) (by omega) (by simp; omega)
      simp only [List.length_append, List.length_singleton] at g13
      exact ⟨x, c, e', by omega, by omega, by omega⟩
theorem rightItems_dr {a : Int} (h0 : 0 ≤ a) (h1 : a ≤ 100000000) (m : Int) (hm : 0 ≤ m) (hm' : m ≤ 5) : Dr a 25 (fun x => x.length ≤ 5) (Stream_RightItems L a m) := by
  unfold Stream_RightItems
  rw [chk_pos (by rw [cutB_iff]; simp; omega), join_eq]
  have hlen : (cut ([k_ic, k_ia, k_id, k_ib, k_ie] : List ByteArray) 0 m).length ≤ 5 := by simp [cut]; omega
  obtain ⟨x, c, e', g7, g8, g9⟩ := rightItem_l hL (cut ([k_ic, k_ia, k_id, k_ib, k_ie] : List ByteArray) 0 m) 0 [] a h0 (by omega) (by simp only [List.length_nil]; omega)
  exact ⟨x, c, e', g7, by omega, by simp only [List.length_nil] at g9; omega⟩
end
end Go.Proofs.YtoffbgomfcmfmaaGreatDoor
