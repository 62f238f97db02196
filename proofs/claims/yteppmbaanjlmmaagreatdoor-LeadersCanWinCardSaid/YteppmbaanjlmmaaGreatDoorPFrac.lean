/- Fractions in lowest terms whose denominators divide 60: each is a whole number of sixtieths, and they add so. No program stands here but its twins. -/
import Derived.Test.YteppmbaanjlmmaaGreatDoorPStream
namespace Go.Proofs.YteppmbaanjlmmaaGreatDoor
open Go
theorem euclid_l (j : Int → Option GFraction) : ∀ (m x y : Nat), x < m → words_Fraction_l1 j m (x : Int) (y : Int) = j ((Nat.gcd x y : Nat) : Int)
  | 0, _, _, h => by omega
  | m + 1, x, y, h => by
    rw [words_Fraction_l1, Nat.gcd_rec]
    by_cases h0 : x = 0
    · subst h0
      rw [if_neg (by simp), Nat.mod_zero, Nat.gcd_zero_right]
    · have hlt := Nat.mod_lt y (Nat.pos_of_ne_zero h0)
      rw [if_pos (by simp; omega), chk_pos (by simp [h0]), ← Int.ofNat_tmod]
      exact euclid_l j m (y % x) x (by omega)
theorem tdiv_W {a g : Nat} (h : a ≤ 4000000000000000000) : W (Int.tdiv (a : Int) (g : Int)) = ((a / g : Nat) : Int) := by
  rw [← Int.ofNat_tdiv]
  have := Nat.div_le_self a g
  generalize a / g = q at this ⊢
  exact W_in (by omega) (by omega)
theorem frac_is (a b : Nat) (hb : 0 < b) (ha : a ≤ 4000000000000000000) (hb' : b ≤ 4000000000000000000) : words_Fraction (a : Int) (b : Int) = some ⟨((a / Nat.gcd a b : Nat) : Int), ((b / Nat.gcd a b : Nat) : Int)⟩ := by
  unfold words_Fraction
  simp only [join_eq]
  rw [euclid_l _ _ a b (by simp)]
  have hg : 0 < Nat.gcd a b := Nat.gcd_pos_of_pos_right _ hb
  have h0 : ¬ ((Nat.gcd a b : Nat) : Int) = 0 := by omega
  rw [chk_pos (by rw [decide_eq_false h0]; rfl), chk_pos (by rw [decide_eq_false h0]; rfl), tdiv_W ha, tdiv_W hb']
/-- v sixtieths. -/
def fr (v : Nat) : GFraction := ⟨((v / Nat.gcd v 60 : Nat) : Int), ((60 / Nat.gcd v 60 : Nat) : Int)⟩
theorem gcd60 (v : Nat) : 0 < Nat.gcd v 60 := Nat.gcd_pos_of_pos_right _ (by decide)
theorem lowest_uniq {a b v : Nat} (hb : 0 < b) (h : a * 60 = v * b) : a / Nat.gcd a b = v / Nat.gcd v 60 ∧ b / Nat.gcd a b = 60 / Nat.gcd v 60 := by
  have hg := Nat.gcd_pos_of_pos_right a hb
  have hk := gcd60 v
  have c1 : (a / Nat.gcd a b).Coprime (b / Nat.gcd a b) := Nat.coprime_div_gcd_div_gcd hg
  have c2 : (v / Nat.gcd v 60).Coprime (60 / Nat.gcd v 60) := Nat.coprime_div_gcd_div_gcd hk
  have e1 := Nat.div_mul_cancel (Nat.gcd_dvd_left a b)
  have e2 := Nat.div_mul_cancel (Nat.gcd_dvd_right a b)
  have e3 := Nat.div_mul_cancel (Nat.gcd_dvd_left v 60)
  have e4 := Nat.div_mul_cancel (Nat.gcd_dvd_right v 60)
  generalize a / Nat.gcd a b = a' at *
  generalize b / Nat.gcd a b = b' at *
  generalize v / Nat.gcd v 60 = v' at *
  generalize hd : 60 / Nat.gcd v 60 = d' at *
  generalize Nat.gcd a b = g at *
  generalize Nat.gcd v 60 = k at *
  have hx : a' * d' = v' * b' := by
    have h1 : a' * g * (d' * k) = v' * k * (b' * g) := by rw [e1, e4, e3, e2]; exact h
    have h2 : a' * d' * (g * k) = v' * b' * (g * k) := by
      calc a' * d' * (g * k) = a' * g * (d' * k) := by ac_rfl
        _ = v' * k * (b' * g) := h1
        _ = v' * b' * (g * k) := by ac_rfl
    exact Nat.eq_of_mul_eq_mul_right (Nat.mul_pos hg hk) h2
  have hb' : 0 < b' := by
    rcases Nat.eq_zero_or_pos b' with h0 | h0
    · rw [h0] at e2; omega
    · exact h0
  have p1 : b' ∣ d' := c1.symm.dvd_of_dvd_mul_left (by rw [hx]; exact Nat.dvd_mul_left _ _)
  have p2 : d' ∣ b' := c2.symm.dvd_of_dvd_mul_left (by rw [← hx]; exact Nat.dvd_mul_left _ _)
  have e : b' = d' := Nat.dvd_antisymm p1 p2
  subst e
  exact ⟨Nat.eq_of_mul_eq_mul_right hb' hx, rfl⟩
theorem frac_fr {a b v : Nat} (hb : 0 < b) (h : a * 60 = v * b) (ha : a ≤ 4000000000000000000) (hb' : b ≤ 4000000000000000000) : words_Fraction (a : Int) (b : Int) = some (fr v) := by
  rw [frac_is a b hb ha hb']
  obtain ⟨h1, h2⟩ := lowest_uniq hb h
  rw [h1, h2]; rfl
theorem fr_parts (v : Nat) : ∃ n d : Nat, fr v = ⟨(n : Int), (d : Int)⟩ ∧ 0 < d ∧ d ≤ 60 ∧ n ≤ v ∧ n * 60 = v * d := by
  refine ⟨v / Nat.gcd v 60, 60 / Nat.gcd v 60, rfl, ?_, Nat.div_le_self _ _, Nat.div_le_self _ _, ?_⟩
  · exact Nat.div_pos (Nat.le_of_dvd (by decide) (Nat.gcd_dvd_right _ _)) (gcd60 v)
  · have e3 := Nat.div_mul_cancel (Nat.gcd_dvd_left v 60)
    have e4 := Nat.div_mul_cancel (Nat.gcd_dvd_right v 60)
    generalize v / Nat.gcd v 60 = v' at *
    generalize 60 / Nat.gcd v 60 = d' at *
    generalize Nat.gcd v 60 = k at *
    calc v' * 60 = v' * (d' * k) := by rw [e4]
      _ = v' * k * d' := by ac_rfl
      _ = v * d' := by rw [e3]
theorem sum_parts {n d m e u v : Nat} (h1 : n * 60 = u * d) (h2 : m * 60 = v * e) : (n * e + m * d) * 60 = (u + v) * (d * e) := by
  calc (n * e + m * d) * 60 = n * 60 * e + m * 60 * d := by rw [Nat.add_mul]; congr 1 <;> ac_rfl
    _ = u * d * e + v * e * d := by rw [h1, h2]
    _ = (u + v) * (d * e) := by rw [Nat.add_mul]; congr 1 <;> ac_rfl
theorem mul_le60 {a b : Nat} (ha : a ≤ 1000000000) (hb : b ≤ 60) : a * b ≤ 60000000000 := Nat.mul_le_mul ha hb
theorem W_mul {a b : Nat} (ha : a ≤ 1000000000) (hb : b ≤ 60) : W ((a : Int) * (b : Int)) = ((a * b : Nat) : Int) := by
  have := mul_le60 ha hb
  rw [← Int.natCast_mul]
  exact W_in (by omega) (by omega)
theorem add_fr {u v : Nat} (hu : u ≤ 1000000000) (hv : v ≤ 1000000000) : points_add (fr u) (fr v) = some (fr (u + v)) := by
  obtain ⟨n, d, e1, d1, d2, n1, p1⟩ := fr_parts u
  obtain ⟨m, e, e2, d3, d4, m1, p2⟩ := fr_parts v
  unfold points_add
  rw [e1, e2]
  simp only
  have b1 := mul_le60 (a := n) (b := e) (by omega) d4
  have b2 := mul_le60 (a := m) (b := d) (by omega) d2
  have b3 := mul_le60 (a := d) (b := e) (by omega) d4
  rw [W_mul (by omega) d4, W_mul (by omega) d2, W_mul (by omega) d4, ← Int.natCast_add, W_in (by omega) (by omega), frac_fr (Nat.mul_pos d1 d3) (sum_parts p1 p2) (by omega) (by omega)]
  rfl
theorem none_fr : points_none = fr 0 := by decide +kernel
/-- Which is more. -/
theorem more_fr {u v : Nat} (hu : u ≤ 1000000000) (hv : v ≤ 1000000000) : points_more (fr u) (fr v) = decide (v < u) := by
  obtain ⟨n, d, e1, d1, d2, n1, p1⟩ := fr_parts u
  obtain ⟨m, e, e2, d3, d4, m1, p2⟩ := fr_parts v
  unfold points_more
  rw [e1, e2]
  simp only
  rw [W_mul (by omega) d2, W_mul (by omega) d4]
  have h : m * d * 60 = v * (d * e) := by
    calc m * d * 60 = m * 60 * d := by ac_rfl
      _ = v * (d * e) := by rw [p2]; ac_rfl
  have k : n * e * 60 = u * (d * e) := by
    calc n * e * 60 = n * 60 * e := by ac_rfl
      _ = u * (d * e) := by rw [p1]; ac_rfl
  have hp := Nat.mul_pos d1 d3
  rw [decide_eq_decide]
  constructor
  · intro hlt
    have h1 : m * d < n * e := by omega
    refine Nat.lt_of_mul_lt_mul_right (a := d * e) ?_
    omega
  · intro hlt
    have h1 : v * (d * e) < u * (d * e) := Nat.mul_lt_mul_of_pos_right hlt hp
    omega
end Go.Proofs.YteppmbaanjlmmaaGreatDoor
