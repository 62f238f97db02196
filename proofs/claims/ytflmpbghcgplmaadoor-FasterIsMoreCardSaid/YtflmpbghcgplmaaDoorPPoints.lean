/- Points of a time: a quotient, where the product fits into one word. No program stands here but its twins. -/
import Derived.Test.YtflmpbghcgplmaaDoorPStream
namespace Go.Proofs.YtflmpbghcgplmaaDoor
open Go
theorem U_in {n : Int} (h1 : 0 ≤ n) (h2 : n ≤ 18446744073709551615) : IntKind.wrap .u64 n = n := by
  simp [IntKind.wrap, IntKind.bits, IntKind.signed]; omega
theorem shr32 (x : Int) : bitShr .u64 x 32 = x / 4294967296 := by
  have h : (2 : Int) ^ (min (32 : Int).toNat IntKind.u64.bits) = 4294967296 := by decide +kernel
  unfold bitShr
  rw [h]
  exact Int.fdiv_eq_ediv_of_nonneg x (by decide)
theorem and_rng (x : Int) : 0 ≤ bitAnd .u64 x 4294967295 ∧ bitAnd .u64 x 4294967295 ≤ 4294967295 := by
  unfold bitAnd
  have h : (BitVec.ofInt IntKind.u64.bits x &&& BitVec.ofInt IntKind.u64.bits 4294967295).toNat ≤ 4294967295 := by
    rw [BitVec.toNat_and]
    exact Nat.le_trans Nat.and_le_right (by decide +kernel)
  rw [U_in (by omega) (by omega)]
  omega
theorem cube_le {t k : Int} (h0 : 0 ≤ t) (h : t ≤ k) : t * t * t ≤ k * k * k := Int.mul_le_mul (Int.mul_le_mul h h h0 (by omega)) h h0 (Int.mul_nonneg (by omega) (by omega))
theorem mul_hi {x : Int} (h0 : 0 ≤ x) (h : x ≤ 8000000000000) : bits_Mul64 x 1000 = (0, x * 1000) := by
  unfold bits_Mul64
  have e1 : bitShr .u64 1000 32 = 0 := by decide +kernel
  have e2 : bitAnd .u64 1000 4294967295 = 1000 := by decide +kernel
  obtain ⟨g1, g2⟩ := and_rng x
  rw [e1, e2]
  generalize bitAnd .u64 x 4294967295 = a at g1 g2
  simp only [shr32, Int.mul_zero]
  rw [U_in (n := a * 1000) (by omega) (by omega), U_in (n := x / 4294967296 * 1000) (by omega) (by omega), U_in (n := x / 4294967296 * 1000 + a * 1000 / 4294967296) (by omega) (by omega)]
  obtain ⟨g3, g4⟩ := and_rng (x / 4294967296 * 1000 + a * 1000 / 4294967296)
  generalize bitAnd .u64 (x / 4294967296 * 1000 + a * 1000 / 4294967296) 4294967295 = c at g3 g4
  rw [U_in (n := 0) (by omega) (by omega), U_in (n := c + 0) (by omega) (by omega), U_in (n := 0 + (x / 4294967296 * 1000 + a * 1000 / 4294967296) / 4294967296) (by omega) (by omega), U_in (n := x * 1000) (by omega) (by omega)]
  rw [U_in (by omega) (by omega)]
  refine Prod.ext ?_ rfl
  show (0 + (x / 4294967296 * 1000 + a * 1000 / 4294967296) / 4294967296 + (c + 0) / 4294967296 : Int) = 0
  omega
/-- The points of a time. -/
def pts (b t : Int) : Int := imin ((b * b * b * 1000) / (t * t * t)) 1000000000
theorem byTime_eq {b t : Int} (h1 : 1 ≤ b) (h2 : b ≤ 20000) (h3 : 1 ≤ t) (h4 : t ≤ 360000) : points_byTime b t = some (pts b t) := by
  have b2 : 0 ≤ b * b := Int.mul_nonneg (by omega) (by omega)
  have b2' : b * b ≤ 20000 * 20000 := Int.mul_le_mul h2 h2 (by omega) (by omega)
  have b3 := cube_le (t := 0) (k := b) (by omega) (by omega)
  have b3' := cube_le (t := b) (k := 20000) (by omega) h2
  have t2 : 0 ≤ t * t := Int.mul_nonneg (by omega) (by omega)
  have t2' : t * t ≤ 360000 * 360000 := Int.mul_le_mul h4 h4 (by omega) (by omega)
  have t3 := cube_le (t := 1) (k := t) (by omega) (by omega)
  have t3' := cube_le (t := t) (k := 360000) (by omega) h4
  unfold points_byTime
  rw [U_in (n := b) (by omega) (by omega), U_in (n := t) (by omega) (by omega), U_in (n := b * b) (by omega) (by omega), U_in (n := t * t) (by omega) (by omega), U_in (n := b * b * b) (by omega) (by omega), U_in (n := t * t * t) (by omega) (by omega)]
  rw [mul_hi (by omega) (by omega)]
  unfold pts
  generalize b * b * b = x at b3 b3'
  generalize t * t * t = y at t3 t3'
  have hy : 1 ≤ y := by omega
  have hx : 0 ≤ x := by omega
  have hq0 : 0 ≤ x * 1000 / y := Int.ediv_nonneg (by omega) (by omega)
  have hq1 : x * 1000 / y ≤ x * 1000 := Int.ediv_le_self _ (by omega)
  have hdiv : bits_Div64 0 (x * 1000) y = some (x * 1000 / y, Int.tmod (x * 1000) y) := by
    unfold bits_Div64
    rw [if_neg (by simp; omega), if_neg (by simp; omega), if_pos (by simp), chk_pos (by simp; omega), chk_pos (by simp; omega), Int.tdiv_eq_ediv_of_nonneg (by omega), U_in hq0 (by omega)]
  simp only [hdiv, Option.bind_some]
  rw [if_neg (by simp; omega)]
  rw [W_in (by unfold imin; split <;> omega) (by unfold imin; split <;> omega)]
theorem pts_mono {b t k : Int} (h1 : 1 ≤ b) (h3 : 1 ≤ t) (h4 : t ≤ k) : pts b k ≤ pts b t := by
  have b3 := cube_le (t := 0) (k := b) (by omega) (by omega)
  have t3 := cube_le (t := 1) (k := t) (by omega) (by omega)
  have tk := cube_le (t := t) (k := k) (by omega) h4
  unfold pts
  generalize b * b * b = x at b3
  generalize t * t * t = y at t3 tk
  generalize k * k * k = z at tk
  have hq0 : 0 ≤ x * 1000 / z := Int.ediv_nonneg (by omega) (by omega)
  have hle : x * 1000 / z ≤ x * 1000 / y := by
    refine Int.le_ediv_of_mul_le (by omega) ?_
    have g1 : x * 1000 / z * y ≤ x * 1000 / z * z := Int.mul_le_mul_of_nonneg_left tk hq0
    have g2 : x * 1000 / z * z ≤ x * 1000 := Int.ediv_mul_le _ (by omega)
    omega
  unfold imin
  split <;> split <;> omega
end Go.Proofs.YtflmpbghcgplmaaDoor
