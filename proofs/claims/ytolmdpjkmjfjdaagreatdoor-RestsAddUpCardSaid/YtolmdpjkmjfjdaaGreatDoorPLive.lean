/- The program's live timetable is the reference's. No program stands here but its twins. -/
import Derived.Test.YtolmdpjkmjfjdaaGreatDoorPHeld
namespace Go.Proofs.YtolmdpjkmjfjdaaGreatDoor
open Go
theorem W_per (n : Int) : ∃ k : Int, W n = n + 18446744073709551616 * k := by
  rw [W_eq]
  split
  · exact ⟨-(n / 18446744073709551616) - 1, by omega⟩
  · exact ⟨-(n / 18446744073709551616), by omega⟩
theorem W_shift (n k : Int) : W (n + 18446744073709551616 * k) = W n := by
  rw [W_eq, W_eq]
  have : (n + 18446744073709551616 * k) % 18446744073709551616 = n % 18446744073709551616 := by omega
  rw [this]
theorem W_addr (x y : Int) : W (x + W y) = W (x + y) := by
  obtain ⟨k, h⟩ := W_per y
  rw [h, show x + (y + 18446744073709551616 * k) = x + y + 18446744073709551616 * k by omega, W_shift]
theorem W_subl (x y : Int) : W (W x - y) = W (x - y) := by
  obtain ⟨k, h⟩ := W_per x
  rw [h, show x + 18446744073709551616 * k - y = x - y + 18446744073709551616 * k by omega, W_shift]
/-- Heats one behind the other, with breaks that are not long. -/
def Ch : Int → List GSlot → Prop
  | _, [] => True
  | p, s :: l => p ≤ s.Time.From ∧ s.Time.From ≤ p + 3600000 ∧ s.Time.From ≤ s.Time.To ∧ s.Time.To ≤ s.Time.From + 3600000 ∧ Ch s.Time.To l
theorem ch_hs (y : GItem) (hy : Good y) (rest : List GSlot) : ∀ (k : Nat) (h t p : Int), p ≤ t → t ≤ p + 3600000 → Ch (endH y (k + 1) t) rest → Ch p (hs y (k + 1) h t ++ rest)
  | 0, h, t, p, h1, h2, h3 => by
    unfold Good at hy
    simp only [hs, List.cons_append, List.nil_append, Ch]
    exact ⟨h1, h2, by omega, by omega, h3⟩
  | k + 1, h, t, p, h1, h2, h3 => by
    have hy' := hy
    unfold Good at hy
    rw [hs, List.cons_append, Ch]
    exact ⟨h1, h2, by simp only; omega, by simp only; omega, ch_hs y hy' rest k (h + 1) (t + y.Long + y.Gap) (t + y.Long) (by omega) (by omega) h3⟩
theorem ch_tt : ∀ (l : List GItem) (t p : Int), (∀ x ∈ l, Good x) → p ≤ t → t ≤ p + 3600000 → Ch p (tt l t)
  | [], _, _, _, _, _ => trivial
  | y :: ys, t, p, hg, h1, h2 => by
    have hy := hg y List.mem_cons_self
    have hy' := hy
    unfold Good at hy'
    rw [tt]
    obtain ⟨k, hk⟩ : ∃ k, y.Heats.toNat = k + 1 := ⟨y.Heats.toNat - 1, by omega⟩
    rw [hk]
    exact ch_hs y hy _ k 1 t p h1 h2 (ch_tt ys _ _ (fun x hx => hg x (List.mem_cons_of_mem _ hx)) (by omega) (by omega))
end Go.Proofs.YtolmdpjkmjfjdaaGreatDoor
