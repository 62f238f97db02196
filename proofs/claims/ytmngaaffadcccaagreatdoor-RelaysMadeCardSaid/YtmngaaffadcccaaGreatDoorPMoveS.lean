/- What the stream gives of moves and races. No program stands here but its twins. -/
import Derived.Test.YtmngaaffadcccaaGreatDoorPStr
namespace Go.Proofs.YtmngaaffadcccaaGreatDoor
open Go
section
variable {L : List Int} (hL : LongL L)
include hL
theorem rightMoves_l2 (r2 : Int × Int) (hr : r2.1 ≤ 3) (y : ByteArray) (j : List GMove → Int → Option (List GMove × Int)) : ∀ (k m : Nat) (x3 : List GMove) (a x5 : Int) (x6 : ByteArray) (x7 : Int), 0 ≤ x7 → x7 ≤ 1000 → r2.1 - x7 ≤ (k : Int) → (k : Int) ≤ 3 → k < m → 0 ≤ a → a + 2 * k ≤ 1000000000 → x3.length + k ≤ 100000 →
    ∃ x b, Stream_RightMoves_l2 r2 L y j m x3 a x5 x6 x7 = j x b ∧ a ≤ b ∧ b ≤ a + 2 * k ∧ x.length ≤ x3.length + k
  | k, 0, _, _, _, _, _, _, _, _, _, h, _, _, _ => absurd h (by omega)
  | k, m + 1, x3, a, x5, x6, x7, h1, h1', h2, h3, h4, h5, h6, h7 => by
    rw [Stream_RightMoves_l2]
    by_cases hc : x7 < r2.1
    · rw [if_pos (decide_eq_true hc)]
      simp only [join_eq]
      obtain ⟨q, b, e, g1, g2, _⟩ := some_dr hL h5 (by omega) [k_blue, k_blue, k_red, k_empty] (by simp) (by simp)
      rw [e]; simp only [Option.bind_some]
      rw [W_in (n := x7 + 1) (by omega) (by omega)]
      cases k with
      | zero => omega
      | succ k =>
        by_cases hq : q = x6
        · rw [if_pos (decide_eq_true hq)]
          obtain ⟨x, c, r1, r2', r3, r4⟩ := rightMoves_l2 r2 hr y j k m x3 b x5 x6 (x7 + 1) (by omega) (by omega) (by omega) (by omega) (by omega) (by omega) (by omega) (by omega)
          exact ⟨x, c, r1, by omega, by push_cast; omega, by omega⟩
        · rw [if_neg (by simpa using hq), chk_pos (by unfold room; simp; omega)]
          obtain ⟨d, b2, e2, g3, g4, _⟩ := pick_dr hL (a := b) (by omega) (by omega) [1, 30, 365] (by simp) (by simp)
          rw [e2]; simp only [Option.bind_some]
          obtain ⟨x, c, r1, r2', r3, r4⟩ := rightMoves_l2 r2 hr y j k m (x3 ++ [GMove.mk y q x5]) b2 (W (x5 + d)) q (x7 + 1) (by omega) (by omega) (by omega) (by omega) (by omega) (by omega) (by omega) (by simp; omega)
          exact ⟨x, c, r1, by omega, by push_cast; omega, by simp at r4; omega⟩
    · rw [if_neg (by simpa using hc)]
      exact ⟨x3, a, rfl, by omega, by omega, by omega⟩
theorem rightMoves_l1 : ∀ (ys : List ByteArray) (i : Nat) (x1 : List GMove) (a : Int), 0 ≤ a → a + 8 * ys.length ≤ 100000000 → x1.length + 3 * ys.length ≤ 10000 →
    ∃ x b, Stream_RightMoves_l1 L (fun x a => some (x, a)) ys i x1 a = some (x, b) ∧ a ≤ b ∧ b ≤ a + 8 * ys.length ∧ x.length ≤ x1.length + 3 * ys.length
  | [], i, x1, a, _, _, _ => ⟨x1, a, rfl, Int.le_refl _, by simp, by simp⟩
  | y :: ys, i, x1, a, h0, h1, h2 => by
    rw [Stream_RightMoves_l1]
    simp only [join_eq, List.length_cons] at h1 h2 ⊢
    obtain ⟨d, b, e, g1, g2, _⟩ := pick_dr hL h0 (by omega) [(-100), 0, 50] (by simp) (by simp)
    rw [e]; simp only [Option.bind_some]
    obtain ⟨n, b2, e2, g3, g4, g5, g6⟩ := range_dr hL (a := b) (by omega) (by omega) 0 3 (by omega) (by omega) (by omega)
    rw [e2]; simp only [Option.bind_some]
    obtain ⟨x, c, r1, r2, r3, r4⟩ := rightMoves_l2 hL (n, b2) (by simp only; omega) y (fun x3 x4 => Stream_RightMoves_l1 L (fun x a => some (x, a)) ys (i + 1) x3 x4) n.toNat ((n - 0).toNat + 2) x1 b2 d k_empty 0 (by omega) (by omega) (by simp only; omega) (by omega) (by omega) (by omega) (by omega) (by omega)
    rw [r1]
    obtain ⟨x', c', e', g7, g8, g9⟩ := rightMoves_l1 ys (i + 1) x c (by omega) (by omega) (by omega)
    exact ⟨x', c', e', by omega, by omega, by omega⟩
variable {a : Int} (h0 : 0 ≤ a) (h1 : a ≤ 10000000)
include h0 h1
theorem rightMoves_dr : Dr a 40 (fun x => x.length ≤ 15) (Stream_RightMoves L a) := by
  unfold Stream_RightMoves
  simp only [join_eq]
  obtain ⟨x, c, e', g7, g8, g9⟩ := rightMoves_l1 hL [k_ann, k_bea, k_cid, k_dan, k_eve] 0 [] a h0 (by simp; omega) (by simp)
  exact ⟨x, c, e', g7, by simp at g8; omega, by simpa using g9⟩
end
end Go.Proofs.YtmngaaffadcccaaGreatDoor
