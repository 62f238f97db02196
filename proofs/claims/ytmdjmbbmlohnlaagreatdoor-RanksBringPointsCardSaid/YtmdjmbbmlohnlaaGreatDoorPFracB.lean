/- Fractions in lowest terms whose denominators divide 2520, and how they add. No program stands here but its twins. -/
import Derived.Test.YtmdjmbbmlohnlaaGreatDoorPFrac
namespace Go.Proofs.YtmdjmbbmlohnlaaGreatDoor
open Go
def frB (v : Nat) : GFraction := ⟨((v / Nat.gcd v 2520 : Nat) : Int), ((2520 / Nat.gcd v 2520 : Nat) : Int)⟩
theorem gcdB (v : Nat) : 0 < Nat.gcd v 2520 := Nat.gcd_pos_of_pos_right _ (by decide)
theorem lowest_uniqB {a b v : Nat} (hb : 0 < b) (h : a * 2520 = v * b) : a / Nat.gcd a b = v / Nat.gcd v 2520 ∧ b / Nat.gcd a b = 2520 / Nat.gcd v 2520 := by
  have hg := Nat.gcd_pos_of_pos_right a hb
  have hk := gcdB v
  have c1 : (a / Nat.gcd a b).Coprime (b / Nat.gcd a b) := Nat.coprime_div_gcd_div_gcd hg
  have c2 : (v / Nat.gcd v 2520).Coprime (2520 / Nat.gcd v 2520) := Nat.coprime_div_gcd_div_gcd hk
  have e1 := Nat.div_mul_cancel (Nat.gcd_dvd_left a b)
  have e2 := Nat.div_mul_cancel (Nat.gcd_dvd_right a b)
  have e3 := Nat.div_mul_cancel (Nat.gcd_dvd_left v 2520)
  have e4 := Nat.div_mul_cancel (Nat.gcd_dvd_right v 2520)
  generalize a / Nat.gcd a b = a' at *
  generalize b / Nat.gcd a b = b' at *
  generalize v / Nat.gcd v 2520 = v' at *
  generalize hd : 2520 / Nat.gcd v 2520 = d' at *
  generalize Nat.gcd a b = g at *
  generalize Nat.gcd v 2520 = k at *
  have hx : a' * d' = v' * b' := by
    have h1 : a' * g * (d' * k) = v' * k * (b' * g) := by rw [e1, e4, e3, e2]; exact h
    have h2 : a' * d' * (g * k) = v' * b' * (g * k) := by
      calc a' * d' * (g * k) = a' * g * (d' * k) := by ac_rfl
        _ = v' * k * (b' * g) := h1
        _ = v' * b' * (g * k) := by ac_rfl
    exact Nat.eq_of_mul_eq_mul_right (Nat.mul_pos hg hk) h2
  have hb' : 0 < b' := by
    rcases Nat.eq_zero_or_pos b' with h0 | h0
    · rw [h0] at e2; omega
    · exact h0
  have p1 : b' ∣ d' := c1.symm.dvd_of_dvd_mul_left (by rw [hx]; exact Nat.dvd_mul_left _ _)
  have p2 : d' ∣ b' := c2.symm.dvd_of_dvd_mul_left (by rw [← hx]; exact Nat.dvd_mul_left _ _)
  have e : b' = d' := Nat.dvd_antisymm p1 p2
  subst e
  exact ⟨Nat.eq_of_mul_eq_mul_right hb' hx, rfl⟩
theorem frac_frB {a b v : Nat} (hb : 0 < b) (h : a * 2520 = v * b) (ha : a ≤ 4000000000000000000) (hb' : b ≤ 4000000000000000000) : words_Fraction (a : Int) (b : Int) = some (frB v) := by
  rw [frac_is a b hb ha hb']
  obtain ⟨h1, h2⟩ := lowest_uniqB hb h
  rw [h1, h2]; rfl
theorem fr_partsB (v : Nat) : ∃ n d : Nat, frB v = ⟨(n : Int), (d : Int)⟩ ∧ 0 < d ∧ d ≤ 2520 ∧ n ≤ v ∧ n * 2520 = v * d := by
  refine ⟨v / Nat.gcd v 2520, 2520 / Nat.gcd v 2520, rfl, ?_, Nat.div_le_self _ _, Nat.div_le_self _ _, ?_⟩
  · exact Nat.div_pos (Nat.le_of_dvd (by decide) (Nat.gcd_dvd_right _ _)) (gcdB v)
  · have e3 := Nat.div_mul_cancel (Nat.gcd_dvd_left v 2520)
    have e4 := Nat.div_mul_cancel (Nat.gcd_dvd_right v 2520)
    generalize v / Nat.gcd v 2520 = v' at *
    generalize 2520 / Nat.gcd v 2520 = d' at *
    generalize Nat.gcd v 2520 = k at *
    calc v' * 2520 = v' * (d' * k) := by rw [e4]
      _ = v' * k * d' := by ac_rfl
      _ = v * d' := by rw [e3]
theorem sum_partsK {n d m e u v K : Nat} (h1 : n * K = u * d) (h2 : m * K = v * e) : (n * e + m * d) * K = (u + v) * (d * e) := by
  calc (n * e + m * d) * K = n * K * e + m * K * d := by rw [Nat.add_mul]; congr 1 <;> ac_rfl
    _ = u * d * e + v * e * d := by rw [h1, h2]
    _ = (u + v) * (d * e) := by rw [Nat.add_mul]; congr 1 <;> ac_rfl
theorem sum_partsB {n d m e u v : Nat} (h1 : n * 2520 = u * d) (h2 : m * 2520 = v * e) : (n * e + m * d) * 2520 = (u + v) * (d * e) := sum_partsK h1 h2
theorem mul_leB {a b : Nat} (ha : a ≤ 1000000000000) (hb : b ≤ 2520) : a * b ≤ 2520000000000000 := by have := Nat.mul_le_mul ha hb; omega
theorem W_mulB {a b : Nat} (ha : a ≤ 1000000000000) (hb : b ≤ 2520) : W ((a : Int) * (b : Int)) = ((a * b : Nat) : Int) := by
  have := mul_leB ha hb
  rw [← Int.natCast_mul]
  exact W_in (by omega) (by omega)
theorem add_frB {u v : Nat} (hu : u ≤ 1000000000000) (hv : v ≤ 1000000000000) : points_add (frB u) (frB v) = some (frB (u + v)) := by
  obtain ⟨n, d, e1, d1, d2, n1, p1⟩ := fr_partsB u
  obtain ⟨m, e, e2, d3, d4, m1, p2⟩ := fr_partsB v
  unfold points_add
  rw [e1, e2]
  simp only
  have b1 := mul_leB (a := n) (b := e) (by omega) d4
  have b2 := mul_leB (a := m) (b := d) (by omega) d2
  have b3 := mul_leB (a := d) (b := e) (by omega) d4
  rw [W_mulB (by omega) d4, W_mulB (by omega) d2, W_mulB (by omega) d4, ← Int.natCast_add, W_in (by omega) (by omega), frac_frB (Nat.mul_pos d1 d3) (sum_partsB p1 p2) (by omega) (by omega)]
  rfl
theorem lowest_frB {a b v : Nat} (hb : 0 < b) (h : a * 2520 = v * b) (ha : a ≤ 4000000000000000000) (hb' : b ≤ 4000000000000000000) : tumbref2_Lowest (a : Int) (b : Int) = some (frB v) := by
  unfold tumbref2_Lowest
  simp only [join_eq]
  rw [low_l _ _ a b (by omega)]
  have hg : 0 < Nat.gcd a b := Nat.gcd_pos_of_pos_right _ hb
  have h0 : ¬ ((Nat.gcd a b : Nat) : Int) = 0 := by omega
  rw [if_neg (by simp), chk_pos (by rw [decide_eq_false h0]; rfl), chk_pos (by rw [decide_eq_false h0]; rfl), tdiv_W ha, tdiv_W hb']
  obtain ⟨h1, h2⟩ := lowest_uniqB hb h
  rw [h1, h2]; rfl
theorem none_frB : points_none = frB 0 := by decide +kernel
theorem low_is (a b : Nat) (hb : 0 < b) (ha : a ≤ 4000000000000000000) (hb' : b ≤ 4000000000000000000) : tumbref2_Lowest (a : Int) (b : Int) = words_Fraction (a : Int) (b : Int) := by
  rw [frac_is a b hb ha hb']
  unfold tumbref2_Lowest
  simp only [join_eq]
  rw [low_l _ _ a b (by omega)]
  have hg : 0 < Nat.gcd a b := Nat.gcd_pos_of_pos_right _ hb
  have h0 : ¬ ((Nat.gcd a b : Nat) : Int) = 0 := by omega
  rw [if_neg (by simp), chk_pos (by rw [decide_eq_false h0]; rfl), chk_pos (by rw [decide_eq_false h0]; rfl), tdiv_W ha, tdiv_W hb']
end Go.Proofs.YtmdjmbbmlohnlaaGreatDoor
