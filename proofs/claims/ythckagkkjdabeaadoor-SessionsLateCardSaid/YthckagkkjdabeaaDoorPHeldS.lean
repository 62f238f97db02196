/- What the stream gives of heats that were held. No program stands here but its twins. -/
import Derived.Test.YthckagkkjdabeaaDoorPStr
namespace Go.Proofs.YthckagkkjdabeaaDoor
open Go
theorem imin3 (n : Int) : imin n 3 = min n 3 := by unfold imin; split <;> omega
section
variable {L : List Int} (hL : LongL L)
include hL
theorem helds_l2 (y : GItem) (j : List GHeld → Int → Int → Option (List GHeld × Int)) : ∀ (k m : Nat) (x4 : List GHeld) (a x6 x7 : Int), 1 ≤ x7 → x7 ≤ 1000 → imin y.Heats 3 - x7 + 1 ≤ (k : Int) → (k : Int) ≤ 3 → k < m → 0 ≤ a → a + 2 * k ≤ 1000000000 → x4.length + k ≤ 100000 →
    ∃ x b z, Stream_Helds_l2 y L j m x4 a x6 x7 = j x b z ∧ a ≤ b ∧ b ≤ a + 2 * k ∧ x.length ≤ x4.length + k
  | k, 0, _, _, _, _, _, _, _, _, h, _, _, _ => absurd h (by omega)
  | k, m + 1, x4, a, x6, x7, h1, h1', h2, h3, h4, h5, h6, h7 => by
    rw [Stream_Helds_l2]
    by_cases hc : x7 ≤ imin y.Heats 3
    · rw [if_pos (decide_eq_true hc)]
      rw [imin3] at hc h2
      obtain ⟨q, b, e, g1, g2, _⟩ := pick_dr hL h5 (by omega) [0, 50, 100, 200] (by simp) (by simp)
      simp only [join_eq]
      rw [e]; simp only [Option.bind_some]
      obtain ⟨f, b2, e2, g3, g4, _⟩ := flip_dr hL (a := b) (by omega) (by omega) 3 (by omega)
      rw [e2]; simp only [Option.bind_some]
      rw [W_in (n := x7 + 1) (by omega) (by omega)]
      cases k with
      | zero => omega
      | succ k =>
        cases f with
        | true =>
          rw [if_pos rfl, chk_pos (by unfold room; simp; omega)]
          obtain ⟨x, c, z, r1, r2, r3, r4⟩ := helds_l2 y j k m (x4 ++ [GHeld.mk y.Key x7 (W (x6 + q))]) b2 (W (x6 + q)) (x7 + 1) (by omega) (by omega) (by rw [imin3]; omega) (by omega) (by omega) (by omega) (by omega) (by simp; omega)
          exact ⟨x, c, z, r1, by omega, by push_cast; omega, by simp at r4; omega⟩
        | false =>
          rw [if_neg (by simp)]
          obtain ⟨x, c, z, r1, r2, r3, r4⟩ := helds_l2 y j k m x4 b2 (W (x6 + q)) (x7 + 1) (by omega) (by omega) (by rw [imin3]; omega) (by omega) (by omega) (by omega) (by omega) (by omega)
          exact ⟨x, c, z, r1, by omega, by push_cast; omega, by omega⟩
    · rw [if_neg (by simpa using hc)]
      exact ⟨x4, a, x6, rfl, by omega, by omega, by omega⟩
theorem helds_dr {a : Int} (h0 : 0 ≤ a) (h1 : a ≤ 1000000) (items : List GItem) (hi : items.length ≤ 1000) : Dr a 7000 (fun _ => True) (Stream_Helds L a items) := by
  unfold Stream_Helds
  simp only [join_eq]
  have key : ∀ (x : List GHeld) (b : Int), 0 ≤ b → b ≤ 10000000 → x.length ≤ 10000 → Dr b 10 (fun _ => True) (if (decide (0 < (x.length : Int))) then Option.bind (Stream_Flip L b 12) (fun r3 =>
      if r3.1 then Option.bind (Stream_Next L r3.2 (x.length : Int)) (fun r4 => Chk (inB r4.1 x.length) (Option.bind (Stream_Some L r4.2 [(nth x r4.1).Item, k_zz]) (fun r5 => Option.bind (Stream_Odd L r5.2 1 3) (fun r6 => Option.bind (Stream_Odd L r6.2 0 500) (fun r7 =>
        some ((((x.set r4.1.toNat (GHeld.mk r5.1 ((nth x r4.1).Heat) ((nth x r4.1).At))).set r4.1.toNat (GHeld.mk r5.1 r6.1 ((nth x r4.1).At))).set r4.1.toNat (GHeld.mk r5.1 r6.1 r7.1)), r7.2)))))) else some (x, r3.2)) else if false = true then Option.bind (Stream_Next L b (x.length : Int)) (fun r4 => Chk (inB r4.1 x.length) (Option.bind (Stream_Some L r4.2 [(nth x r4.1).Item, k_zz]) (fun r5 => Option.bind (Stream_Odd L r5.2 1 3) (fun r6 => Option.bind (Stream_Odd L r6.2 0 500) (fun r7 =>
        some ((((x.set r4.1.toNat (GHeld.mk r5.1 ((nth x r4.1).Heat) ((nth x r4.1).At))).set r4.1.toNat (GHeld.mk r5.1 r6.1 ((nth x r4.1).At))).set r4.1.toNat (GHeld.mk r5.1 r6.1 r7.1)), r7.2)))))) else some (x, b)) := by
    intro x b h0 h1 hx
    by_cases hp : 0 < (x.length : Int)
    · rw [if_pos (decide_eq_true hp)]
      obtain ⟨f, b1, e1, g4, g5, _⟩ := flip_dr hL (a := b) (by omega) (by omega) 12 (by omega)
      rw [e1]; simp only [Option.bind_some]
      cases f with
      | false => rw [if_neg (by simp)]; exact ⟨x, b1, rfl, by omega, by omega, trivial⟩
      | true =>
        rw [if_pos rfl]
        obtain ⟨i, b2, e2, g6, g7, g8⟩ := next_dr hL (a := b1) (by omega) (by omega) (x.length : Int) (by omega)
        rw [e2]; simp only [Option.bind_some]
        rw [chk_pos (inB_iff.2 ⟨g8.1, by omega⟩)]
        obtain ⟨s, b3, e3, g9, g10, _⟩ := some_dr hL (a := b2) (by omega) (by omega) [(nth x i).Item, k_zz] (by simp) (by simp)
        rw [e3]; simp only [Option.bind_some]
        obtain ⟨t, b4, e4, g11, g12, _⟩ := odd_dr hL (a := b3) (by omega) (by omega) 1 3 (by omega) (by omega) (by omega)
        rw [e4]; simp only [Option.bind_some]
        obtain ⟨u, b5, e5, g13, g14, _⟩ := odd_dr hL (a := b4) (by omega) (by omega) 0 500 (by omega) (by omega) (by omega)
        rw [e5]; simp only [Option.bind_some]
        exact ⟨_, _, rfl, by omega, by omega, trivial⟩
    · rw [if_neg (by simpa using hp), if_neg (by simp)]
      exact ⟨x, b, rfl, by omega, by omega, trivial⟩
  have gen : ∀ (K : List GHeld → Int → Option (List GHeld × Int)) (ys : List GItem) (i : Nat) (x1 : List GHeld) (a x3 : Int), 0 ≤ a → a + 6 * ys.length ≤ 100000000 → x1.length + 3 * ys.length ≤ 10000 →
      ∃ x b, Stream_Helds_l1 L K ys i x1 a x3 = K x b ∧ a ≤ b ∧ b ≤ a + 6 * ys.length ∧ x.length ≤ x1.length + 3 * ys.length := by
    intro K ys
    induction ys with
    | nil => intro i x1 a x3 _ _ _; exact ⟨x1, a, rfl, Int.le_refl _, by simp, by simp⟩
    | cons y ys ih =>
      intro i x1 a x3 h0 h1 h2
      rw [Stream_Helds_l1]
      simp only [join_eq, List.length_cons] at h1 h2 ⊢
      have him := imin3 y.Heats
      obtain ⟨x, b, z, r1, r2, r3, r4⟩ := helds_l2 hL y (fun x4 x5 x6 => Stream_Helds_l1 L K ys (i + 1) x4 x5 x6) (imin y.Heats 3).toNat ((imin y.Heats 3 - 1).toNat + 2) x1 a x3 1 (by omega) (by omega) (by omega) (by omega) (by omega) h0 (by omega) (by omega)
      rw [r1]
      obtain ⟨x', c, e, g1, g2, g3⟩ := ih (i + 1) x b z (by omega) (by omega) (by omega)
      exact ⟨x', c, e, by omega, by omega, by omega⟩
  obtain ⟨x, b, e, g1, g2, g3⟩ := gen _ items 0 [] a 0 h0 (by omega) (by simp; omega)
  rw [e]
  simp only [List.length_nil] at g3
  obtain ⟨v, c, e2, g4, g5, _⟩ := key x b (by omega) (by omega) (by omega)
  exact ⟨v, c, e2, by omega, by omega, trivial⟩
end
end Go.Proofs.YthckagkkjdabeaaDoor
