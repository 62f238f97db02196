/- The stream of choices goes on: each drawing gives something and moves the place by a little. Conditions: the place is not far. -/
import Derived.Test.YtpfommakhgkmeaaGreatDoorPStream
namespace Go.Proofs.YtpfommakhgkmeaaGreatDoor
open Go
def Dr {α : Type} (a k : Int) (Q : α → Prop) (o : Option (α × Int)) : Prop := ∃ v b, o = some (v, b) ∧ a ≤ b ∧ b ≤ a + k ∧ Q v
abbrev LongL (L : List Int) : Prop := (L.length : Int) ≤ 9223372036854775807
section
variable {L : List Int} (hL : LongL L) {a : Int} (h0 : 0 ≤ a) (h1 : a ≤ 1000000000000)
include hL h0 h1
theorem next_dr (n : Int) (hn : n ≤ 4611686018427387904) : Dr a 1 (fun v => 0 ≤ v ∧ (v < n ∨ (n < 1 ∧ v = 0))) (Stream_Next L a n) := by
  obtain ⟨v, e, g⟩ := next_ok L a n h0 (by omega) hL hn
  exact ⟨v, a + 1, e, by omega, by omega, g⟩
theorem pick_dr (l : List Int) (hl : 0 < l.length) (hl' : l.length ≤ 1000) : Dr a 1 (fun v => v ∈ l) (Stream_Pick L a l) := by
  obtain ⟨v, e, g⟩ := pick_ok L a l h0 (by omega) hL hl hl'
  exact ⟨v, a + 1, e, by omega, by omega, g⟩
theorem flip_dr (n : Int) (hn : n ≤ 4611686018427387904) : Dr a 1 (fun _ => True) (Stream_Flip L a n) := by
  obtain ⟨v, e⟩ := flip_ok L a n h0 (by omega) hL hn
  exact ⟨v, a + 1, e, by omega, by omega, trivial⟩
theorem some_dr (l : List ByteArray) (hl : 0 < l.length) (hl' : l.length ≤ 1000) : Dr a 1 (fun v => v ∈ l) (Stream_Some L a l) := by
  obtain ⟨v, e1, h1, h2⟩ := next_ok L a (l.length : Int) h0 (by omega) hL (by omega)
  have hc : inB v l.length = true := inB_iff.2 ⟨h1, by omega⟩
  unfold Stream_Some
  rw [e1]
  simp only [Option.bind_some]
  rw [chk_pos hc]
  exact ⟨nth l v, a + 1, rfl, by omega, by omega, List.mem_of_getElem? (inB_get hc).1⟩
theorem range_dr (low high : Int) (h2 : -1000000000000 ≤ low) (h3 : low ≤ 1000000000000) (h4 : high ≤ 1000000000000) : Dr a 1 (fun v => low ≤ v ∧ (v ≤ high ∨ v = low)) (Stream_Range L a low high) := by
  unfold Stream_Range
  by_cases h : high < low
  · exact ⟨low, a, by simp [h], by omega, by omega, by omega, .inr rfl⟩
  · have w1 : W (high - low) = high - low := W_in (by omega) (by omega)
    have w2 : W (high - low + 1) = high - low + 1 := W_in (by omega) (by omega)
    obtain ⟨v, e, g1, g2⟩ := next_ok L a (high - low + 1) h0 (by omega) hL (by omega)
    rw [if_neg (by simpa using h), w1, w2, e]
    have w3 : W (low + v) = low + v := W_in (by omega) (by omega)
    exact ⟨_, _, rfl, by show a ≤ a + 1; omega, by show a + 1 ≤ a + 1; omega, by simp only [w3]; omega⟩
theorem odd_dr (low high : Int) (h2 : -1000000000000 ≤ low) (h3 : low ≤ 1000000000000) (h4 : high ≤ 1000000000000) : Dr a 2 (fun _ => True) (Stream_Odd L a low high) := by
  obtain ⟨b, e1⟩ := flip_ok L a 12 h0 (by omega) hL (by omega)
  unfold Stream_Odd
  rw [e1]
  simp only [Option.bind_some]
  cases b with
  | true =>
    obtain ⟨v, e, _⟩ := pick_ok L (a + 1) [W (low - 1), W (high + 1), low, high, (-1099511627776), 1099511627776] (by omega) (by omega) hL (by simp) (by simp)
    rw [if_pos rfl, e]
    exact ⟨_, _, rfl, by show a ≤ a + 1 + 1; omega, by show a + 1 + 1 ≤ a + 2; omega, trivial⟩
  | false =>
    unfold Stream_Range
    by_cases h : high < low
    · rw [if_neg (by simp), if_pos (by simpa using h)]
      exact ⟨_, _, rfl, by show a ≤ a + 1; omega, by show a + 1 ≤ a + 2; omega, trivial⟩
    · have w1 : W (high - low) = high - low := W_in (by omega) (by omega)
      have w2 : W (high - low + 1) = high - low + 1 := W_in (by omega) (by omega)
      obtain ⟨v, e, g1, g2⟩ := next_ok L (a + 1) (high - low + 1) (by omega) (by omega) hL (by omega)
      rw [if_neg (by simp), if_neg (by simpa using h), w1, w2, e]
      exact ⟨_, _, rfl, by show a ≤ a + 1 + 1; omega, by show a + 1 + 1 ≤ a + 2; omega, trivial⟩
end
end Go.Proofs.YtpfommakhgkmeaaGreatDoor
