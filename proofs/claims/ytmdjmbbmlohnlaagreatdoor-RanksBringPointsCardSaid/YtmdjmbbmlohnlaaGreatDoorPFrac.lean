/- Fractions in lowest terms whose denominators divide 60: each is a whole number of sixtieths, and they add so. No program stands here but its twins. -/
import Derived.Test.YtmdjmbbmlohnlaaGreatDoorPStream
namespace Go.Proofs.YtmdjmbbmlohnlaaGreatDoor
open Go
theorem euclid_l (j : Int → Option GFraction) : ∀ (m x y : Nat), x < m → words_Fraction_l1 j m (x : Int) (y : Int) = j ((Nat.gcd x y : Nat) : Int)
  | 0, _, _, h => by omega
  | m + 1, x, y, h => by
    rw [words_Fraction_l1, Nat.gcd_rec]
    by_cases h0 : x = 0
    · subst h0
      rw [if_neg (by simp), Nat.mod_zero, Nat.gcd_zero_right]
    · have hlt := Nat.mod_lt y (Nat.pos_of_ne_zero h0)
      rw [if_pos (by simp; omega), chk_pos (by simp [h0]), ← Int.ofNat_tmod]
      exact euclid_l j m (y % x) x (by omega)
theorem tdiv_W {a g : Nat} (h : a ≤ 4000000000000000000) : W (Int.tdiv (a : Int) (g : Int)) = ((a / g : Nat) : Int) := by
  rw [← Int.ofNat_tdiv]
  have := Nat.div_le_self a g
  generalize a / g = q at this ⊢
  exact W_in (by omega) (by omega)
theorem frac_is (a b : Nat) (hb : 0 < b) (ha : a ≤ 4000000000000000000) (hb' : b ≤ 4000000000000000000) : words_Fraction (a : Int) (b : Int) = some ⟨((a / Nat.gcd a b : Nat) : Int), ((b / Nat.gcd a b : Nat) : Int)⟩ := by
  unfold words_Fraction
  simp only [join_eq]
  rw [euclid_l _ _ a b (by simp)]
  have hg : 0 < Nat.gcd a b := Nat.gcd_pos_of_pos_right _ hb
  have h0 : ¬ ((Nat.gcd a b : Nat) : Int) = 0 := by omega
  rw [chk_pos (by rw [decide_eq_false h0]; rfl), chk_pos (by rw [decide_eq_false h0]; rfl), tdiv_W ha, tdiv_W hb']
def fr (v : Nat) : GFraction := ⟨((v / Nat.gcd v 60 : Nat) : Int), ((60 / Nat.gcd v 60 : Nat) : Int)⟩
theorem low_l (j : Int → Option GFraction) : ∀ (m x y : Nat), y < m → tumbref2_Lowest_l1 j m (x : Int) (y : Int) = j ((Nat.gcd x y : Nat) : Int)
  | 0, _, _, h => by omega
  | m + 1, x, y, h => by
    rw [tumbref2_Lowest_l1]
    by_cases h0 : y = 0
    · subst h0
      rw [if_neg (by simp), Nat.gcd_zero_right]
    · have hlt := Nat.mod_lt x (Nat.pos_of_ne_zero h0)
      rw [if_pos (by simp; omega), chk_pos (by simp [h0]), ← Int.ofNat_tmod, low_l j m y (x % y) (by omega), Nat.gcd_comm x y, Nat.gcd_rec y x, Nat.gcd_comm]
end Go.Proofs.YtmdjmbbmlohnlaaGreatDoor
