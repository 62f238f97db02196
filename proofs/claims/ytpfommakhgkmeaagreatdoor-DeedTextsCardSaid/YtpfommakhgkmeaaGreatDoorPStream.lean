/- Plain facts on the stream of choices. No program stands here but its twins. -/
import Derived.Test.YtpfommakhgkmeaaGreatDoorTw
namespace Go.Proofs.YtpfommakhgkmeaaGreatDoor
open Go

theorem chk_pos {R : Type} {c : Bool} {k : Option R} (h : c = true) : Chk c k = k := by simp [Chk, h]
theorem join_eq {κ R : Type} (K : κ) (f : κ → R) : Join K f = f K := rfl
theorem tmod_bounds {x n : Int} (hn : 0 < n) : -n < Int.tmod x n ∧ Int.tmod x n < n := by
  have h1 := Int.tmod_lt_of_pos x hn
  have h2 := Int.tmod_lt_of_pos (-x) hn
  rw [Int.neg_tmod] at h2
  omega
theorem below_ok (x n : Int) (hn : n ≤ 4611686018427387904) : ∃ v, tumbmake_Below x n = some v ∧ 0 ≤ v ∧ (v < n ∨ (n < 1 ∧ v = 0)) := by
  unfold tumbmake_Below
  by_cases h : n < 1
  · exact ⟨0, by simp [h], Int.le_refl _, .inr ⟨h, rfl⟩⟩
  · have h1 := tmod_bounds (x := x) (n := n) (by omega)
    have h0 : ¬ n = 0 := by omega
    simp only [decide_eq_true_eq, h, if_false, Join]
    rw [chk_pos (by simp [h0])]
    by_cases h2 : Int.tmod x n < 0
    · rw [if_pos h2, W_in (by omega) (by omega)]
      exact ⟨_, rfl, by omega, .inl (by omega)⟩
    · rw [if_neg h2]
      exact ⟨_, rfl, by omega, .inl (by omega)⟩
theorem next_ok (L : List Int) (a n : Int) (ha : 0 ≤ a) (ha' : a ≤ 4611686018427387904) (hL : (L.length : Int) ≤ 9223372036854775807) (hn : n ≤ 4611686018427387904) :
    ∃ v, Stream_Next L a n = some (v, a + 1) ∧ 0 ≤ v ∧ (v < n ∨ (n < 1 ∧ v = 0)) := by
  have w1 : W (a + 1) = a + 1 := W_in (by omega) (by omega)
  have w2 : W (a + 1 - 1) = a := by rw [show a + 1 - 1 = a by omega]; exact W_in (by omega) (by omega)
  unfold Stream_Next
  rw [w1, w2]
  by_cases h : (L.length : Int) = 0
  · obtain ⟨v, h1, h2, h3⟩ := below_ok (W ((a + 1) * 7919)) n hn
    exact ⟨v, by simp [h, h1], h2, h3⟩
  · have h0 : 0 < (L.length : Int) := by omega
    have hm := tmod_bounds (x := a) h0
    have hm0 : 0 ≤ Int.tmod a (L.length : Int) := Int.tmod_nonneg _ ha
    have hc : inB (Int.tmod a (L.length : Int)) L.length = true := inB_iff.2 ⟨hm0, hm.2⟩
    obtain ⟨v1, e1, _, _⟩ := below_ok (nth L (Int.tmod a (L.length : Int))) 1073741824 (by omega)
    simp only [decide_eq_true_eq, h, if_false]
    rw [chk_pos (by simp), chk_pos (by simp), chk_pos hc, e1]
    simp only [Option.bind_some]
    obtain ⟨v2, e2, g1, g2⟩ := below_ok (W (v1 + W (W (Int.tdiv a (L.length : Int)) * W (7919 + Int.tmod a (L.length : Int))))) n hn
    exact ⟨v2, by rw [e2]; rfl, g1, g2⟩
theorem pick_ok (L : List Int) (a : Int) (l : List Int) (ha : 0 ≤ a) (ha' : a ≤ 4611686018427387904) (hL : (L.length : Int) ≤ 9223372036854775807) (hl : 0 < l.length) (hl' : l.length ≤ 1000) :
    ∃ v, Stream_Pick L a l = some (v, a + 1) ∧ v ∈ l := by
  obtain ⟨v, h1, h2, h3⟩ := next_ok L a (l.length : Int) ha ha' hL (by omega)
  have h4 : v < (l.length : Int) := by omega
  have hc : inB v l.length = true := inB_iff.2 ⟨h2, h4⟩
  unfold Stream_Pick
  rw [h1]
  simp only [Option.bind_some]
  rw [chk_pos hc]
  exact ⟨nth l v, rfl, List.mem_of_getElem? (inB_get hc).1⟩
theorem flip_ok (L : List Int) (a n : Int) (ha : 0 ≤ a) (ha' : a ≤ 4611686018427387904) (hL : (L.length : Int) ≤ 9223372036854775807) (hn : n ≤ 4611686018427387904) : ∃ b, Stream_Flip L a n = some (b, a + 1) := by
  obtain ⟨v, h1, _, _⟩ := next_ok L a n ha ha' hL hn
  unfold Stream_Flip
  rw [h1]
  exact ⟨_, rfl⟩
end Go.Proofs.YtpfommakhgkmeaaGreatDoor
