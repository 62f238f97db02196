/- The order of strings, byte by byte, is an order. No program stands here. -/
import Derived.Test.YtpfommakhgkmeaaGreatDoorPStream
namespace Go.Proofs.YtpfommakhgkmeaaGreatDoor
open Go
theorem cb_refl : ∀ l : List UInt8, Lib.compareBytes l l = 0
  | [] => rfl
  | a :: l => by
    rw [Lib.compareBytes, if_neg (by simp), if_neg (by simp)]; exact cb_refl l
theorem cb_zero : ∀ l m : List UInt8, Lib.compareBytes l m = 0 → l = m
  | [], [], _ => rfl
  | [], _ :: _, h => by simp [Lib.compareBytes] at h
  | _ :: _, [], h => by simp [Lib.compareBytes] at h
  | a :: l, b :: m, h => by
    rw [Lib.compareBytes] at h
    split at h
    · cases h
    · split at h
      · cases h
      · rename_i h1 h2
        rw [UInt8.lt_iff_toNat_lt] at h1 h2
        rw [cb_zero l m h, show a = b from UInt8.toNat_inj.1 (by omega)]
theorem cb_rng : ∀ l m : List UInt8, Lib.compareBytes l m = -1 ∨ Lib.compareBytes l m = 0 ∨ Lib.compareBytes l m = 1
  | [], [] => .inr (.inl rfl)
  | [], _ :: _ => .inl rfl
  | _ :: _, [] => .inr (.inr rfl)
  | a :: l, b :: m => by
    rw [Lib.compareBytes]
    split
    · exact .inl rfl
    · split
      · exact .inr (.inr rfl)
      · exact cb_rng l m
theorem cb_flip : ∀ l m : List UInt8, Lib.compareBytes m l = - Lib.compareBytes l m
  | [], [] => rfl
  | [], _ :: _ => rfl
  | _ :: _, [] => rfl
  | a :: l, b :: m => by
    rw [Lib.compareBytes, Lib.compareBytes, cb_flip l m]
    simp only [UInt8.lt_iff_toNat_lt]
    by_cases h1 : a.toNat < b.toNat
    · rw [if_neg (by omega), if_pos h1, if_pos h1]; rfl
    · by_cases h2 : b.toNat < a.toNat
      · rw [if_pos h2, if_neg h1, if_pos h2]
      · rw [if_neg h2, if_neg h1, if_neg h1, if_neg h2]
theorem cb_trans : ∀ l m k : List UInt8, Lib.compareBytes l m < 0 → Lib.compareBytes m k < 0 → Lib.compareBytes l k < 0
  | l, m, [], _, h => by cases m <;> simp [Lib.compareBytes] at h
  | [], m, c :: k, _, _ => by simp [Lib.compareBytes]
  | a :: l, [], c :: k, h, _ => by simp [Lib.compareBytes] at h
  | a :: l, b :: m, c :: k, h1, h2 => by
    rw [Lib.compareBytes] at h1 h2 ⊢
    simp only [UInt8.lt_iff_toNat_lt] at h1 h2 ⊢
    by_cases g1 : a.toNat < b.toNat
    · by_cases g2 : c.toNat < b.toNat
      · rw [if_neg (by omega), if_pos g2] at h2; cases h2
      · rw [if_pos (by omega)]; decide
    · by_cases g1' : b.toNat < a.toNat
      · rw [if_neg g1, if_pos g1'] at h1; cases h1
      · rw [if_neg g1, if_neg g1'] at h1
        by_cases g2 : b.toNat < c.toNat
        · rw [if_pos (by omega)]; decide
        · by_cases g3 : c.toNat < b.toNat
          · rw [if_neg g2, if_pos g3] at h2; cases h2
          · rw [if_neg g2, if_neg g3] at h2
            rw [if_neg (by omega), if_neg (by omega)]
            exact cb_trans l m k h1 h2
def cB (s t : ByteArray) : Int := Lib.compareBytes s.data.toList t.data.toList
theorem cB_refl (s : ByteArray) : cB s s = 0 := cb_refl _
theorem cB_zero {s t : ByteArray} (h : cB s t = 0) : s = t := by
  have := cb_zero _ _ h
  cases s; cases t
  simpa using this
theorem cB_rng (s t : ByteArray) : cB s t = -1 ∨ cB s t = 0 ∨ cB s t = 1 := cb_rng _ _
theorem cB_flip (s t : ByteArray) : cB t s = - cB s t := cb_flip _ _
theorem cB_trans {s t u : ByteArray} (h1 : cB s t < 0) (h2 : cB t u < 0) : cB s u < 0 := cb_trans _ _ _ h1 h2
end Go.Proofs.YtpfommakhgkmeaaGreatDoor
