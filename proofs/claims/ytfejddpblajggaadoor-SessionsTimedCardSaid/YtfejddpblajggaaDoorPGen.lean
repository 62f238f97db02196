/- The items that are drawn: some list. No program stands here but its twins. -/
import Derived.Test.YtfejddpblajggaaDoorPPause
namespace Go.Proofs.YtfejddpblajggaaDoor
open Go

theorem right_loop (L : List Int) (hL : (L.length : Int) ≤ 9223372036854775807) : ∀ (ys : List ByteArray) (i : Nat) (x1 : List GItem) (x2 : Int), 0 ≤ x2 → x2 + 5 * ys.length ≤ 1000000 → x1.length + ys.length < 1000000 →
    ∃ x a, Stream_RightItems_l1 L (fun x a => some (x, a)) ys i x1 x2 = some (x, a) ∧ x2 ≤ a ∧ a ≤ x2 + 5 * ys.length ∧ x.length ≤ x1.length + ys.length
  | [], i, x1, x2, _, _, _ => ⟨x1, x2, rfl, Int.le_refl _, by simp, by simp⟩
  | y :: ys, i, x1, x2, h0, h1, h2 => by
    simp only [List.length_cons] at h1 h2
    push_cast at h1
    rw [Stream_RightItems_l1]
    simp only [join_eq]
    obtain ⟨b, e1⟩ := flip_ok L x2 6 h0 (by omega) hL (by omega)
    rw [e1]
    simp only [Option.bind_some]
    cases b with
    | true =>
      obtain ⟨x, a, e, ha, hb, hx⟩ := right_loop L hL ys (i + 1) x1 (x2 + 1) (by omega) (by omega) (by omega)
      exact ⟨x, a, by simpa using e, by omega, by simp only [List.length_cons]; push_cast; omega, by simp only [List.length_cons]; omega⟩
    | false =>
      obtain ⟨v1, p1, _⟩ := pick_ok L (x2 + 1) [1, 1, 2, 3] (by omega) (by omega) hL (by simp) (by simp)
      obtain ⟨v2, p2, _⟩ := pick_ok L (x2 + 1 + 1) [50, 100] (by omega) (by omega) hL (by simp) (by simp)
      obtain ⟨v3, p3, _⟩ := pick_ok L (x2 + 1 + 1 + 1) [0, 10, 60] (by omega) (by omega) hL (by simp) (by simp)
      obtain ⟨v4, p4, _⟩ := pick_ok L (x2 + 1 + 1 + 1 + 1) [0, 20, 50, 200] (by omega) (by omega) hL (by simp) (by simp)
      obtain ⟨x, a, e, ha, hb, hx⟩ := right_loop L hL ys (i + 1) (x1 ++ [GItem.mk y v1 v2 v3 v4]) (x2 + 1 + 1 + 1 + 1 + 1) (by omega) (by omega) (by simp; omega)
      refine ⟨x, a, ?_, by omega, by simp only [List.length_cons]; push_cast; omega, by simp only [List.length_append, List.length_singleton] at hx; simp only [List.length_cons]; omega⟩
      have hroom : room x1.length = true := by unfold room; simp; omega
      simp only [Bool.not_false, if_true, p1, p2, p3, p4, Option.bind_some, chk_pos hroom]
      exact e
theorem some_ok (L : List Int) (a : Int) (l : List ByteArray) (ha : 0 ≤ a) (ha' : a ≤ 4611686018427387904) (hL : (L.length : Int) ≤ 9223372036854775807) (hl : 0 < l.length) (hl' : l.length ≤ 1000) : ∃ v, Stream_Some L a l = some (v, a + 1) ∧ v ∈ l := by
  obtain ⟨v, h1, h2, h3⟩ := next_ok L a (l.length : Int) ha ha' hL (by omega)
  have hc : inB v l.length = true := inB_iff.2 ⟨h2, by omega⟩
  unfold Stream_Some
  rw [h1]
  simp only [Option.bind_some]
  rw [chk_pos hc]
  exact ⟨nth l v, rfl, List.mem_of_getElem? (inB_get hc).1⟩
theorem range_ok (L : List Int) (a low high : Int) (ha : 0 ≤ a) (ha' : a ≤ 4611686018427387904) (hL : (L.length : Int) ≤ 9223372036854775807) (h1 : 0 ≤ low) (h2 : high ≤ 1000000000000) : ∃ v b, Stream_Range L a low high = some (v, b) ∧ a ≤ b ∧ b ≤ a + 1 := by
  unfold Stream_Range
  by_cases h : high < low
  · exact ⟨low, a, by simp [h], by omega, by omega⟩
  · have w1 : W (high - low) = high - low := W_in (by omega) (by omega)
    have w2 : W (high - low + 1) = high - low + 1 := W_in (by omega) (by omega)
    obtain ⟨v, e, _, _⟩ := next_ok L a (high - low + 1) ha ha' hL (by omega)
    rw [if_neg (by simpa using h), w1, w2, e]
    exact ⟨_, _, rfl, by show a ≤ a + 1; omega, by show a + 1 ≤ a + 1; omega⟩
theorem odd_ok (L : List Int) (a low high : Int) (ha : 0 ≤ a) (ha' : a ≤ 4000000000000000000) (hL : (L.length : Int) ≤ 9223372036854775807) (h1 : 0 ≤ low) (h2 : high ≤ 1000000000000) : ∃ v b, Stream_Odd L a low high = some (v, b) ∧ a ≤ b ∧ b ≤ a + 2 := by
  obtain ⟨b, e1⟩ := flip_ok L a 12 ha (by omega) hL (by omega)
  unfold Stream_Odd
  rw [e1]
  simp only [Option.bind_some]
  cases b with
  | true =>
    obtain ⟨v, e, _⟩ := pick_ok L (a + 1) [W (low - 1), W (high + 1), low, high, (-1099511627776), 1099511627776] (by omega) (by omega) hL (by simp) (by simp)
    rw [if_pos rfl, e]
    exact ⟨_, _, rfl, by show a ≤ a + 1 + 1; omega, by show a + 1 + 1 ≤ a + 2; omega⟩
  | false =>
    obtain ⟨v, b, e, g1, g2⟩ := range_ok L (a + 1) low high (by omega) (by omega) hL h1 h2
    rw [if_neg (by simp), e]
    exact ⟨_, _, rfl, by show a ≤ b; omega, by show b ≤ a + 2; omega⟩
theorem right_items_ok (L : List Int) (hL : (L.length : Int) ≤ 9223372036854775807) (a : Int) (h0 : 0 ≤ a) (h1 : a ≤ 100000) : ∃ x b, Stream_RightItems L a 5 = some (x, b) ∧ a ≤ b ∧ b ≤ a + 25 ∧ x.length ≤ 5 := by
  unfold Stream_RightItems
  rw [chk_pos (by decide), join_eq]
  obtain ⟨x, b, e, g1, g2, g3⟩ := right_loop L hL (cut ([k_ic, k_ia, k_id, k_ib, k_ie] : List ByteArray) 0 5) 0 [] a h0 (by simp [cut]; omega) (by simp [cut])
  exact ⟨x, b, e, g1, by simp [cut] at g2; omega, by simpa [cut] using g3⟩
theorem items_ok (L : List Int) (hL : (L.length : Int) ≤ 9223372036854775807) (a : Int) (h0 : 0 ≤ a) (h1 : a ≤ 100000) : ∃ x b, Stream_Items L a 5 = some (x, b) ∧ a ≤ b ∧ b ≤ a + 40 := by
  obtain ⟨x, b, e, g1, g2, g3⟩ := right_items_ok L hL a h0 h1
  unfold Stream_Items
  rw [e]
  simp only [Option.bind_some, join_eq]
  by_cases hx : 0 < (x.length : Int)
  · obtain ⟨f, ef⟩ := flip_ok L b 15 (by omega) (by omega) hL (by omega)
    rw [if_pos (decide_eq_true hx), ef]
    simp only [Option.bind_some]
    cases f with
    | false => exact ⟨x, b + 1, by simp, by omega, by omega⟩
    | true =>
      obtain ⟨v, e1, q1, q2⟩ := next_ok L (b + 1) (x.length : Int) (by omega) (by omega) hL (by omega)
      have hc : inB v x.length = true := inB_iff.2 ⟨q1, by omega⟩
      obtain ⟨k, e2, _⟩ := some_ok L (b + 1 + 1) [(nth x v).Key, k_empty, k_ia] (by omega) (by omega) hL (by simp) (by simp)
      obtain ⟨v3, a3, e3, r1, r2⟩ := odd_ok L (b + 1 + 1 + 1) 1 60 (by omega) (by omega) hL (by omega) (by omega)
      obtain ⟨v4, a4, e4, r3, r4⟩ := odd_ok L a3 1 100 (by omega) (by omega) hL (by omega) (by omega)
      obtain ⟨v5, a5, e5, r5, r6⟩ := odd_ok L a4 0 100 (by omega) (by omega) hL (by omega) (by omega)
      obtain ⟨v6, a6, e6, r7, r8⟩ := odd_ok L a5 0 100 (by omega) (by omega) hL (by omega) (by omega)
      rw [if_pos rfl, e1]
      simp only [Option.bind_some]
      rw [chk_pos hc, e2]
      simp only [Option.bind_some, e3, e4, e5, e6]
      exact ⟨_, _, rfl, by omega, by omega⟩
  · rw [if_neg (by simpa using hx)]
    exact ⟨x, b, by simp, by omega, by omega⟩
end Go.Proofs.YtfejddpblajggaaDoor
