/- Loops over lists in general: what is picked and appended, what is contained, lists that are equal, neighbours that are struck. Conditions: the lists are not long; the loops' equations are given. No program stands here. -/
import Derived.Test.YtamfhhmfioghgaaGreatDoorPSort
namespace Go.Proofs.YtamfhhmfioghgaaGreatDoor
open Go
section
variable {α β R : Type}
variable [DecidableEq α] [Inhabited α]
theorem eq_l (l : List α) (F : List α → Nat → Option Bool) (h0 : ∀ i, F [] i = some true) (h1 : ∀ y ys i, F (y :: ys) i = Chk (inB (i : Int) l.length) (if !decide (y = nth l (i : Int)) then some false else F ys (i + 1))) : ∀ (ys dn : List α), l = dn ++ ys → F ys dn.length = some true
  | [], dn, _ => h0 _
  | y :: ys, dn, h => by
    have hlen : l.length = dn.length + (ys.length + 1) := by rw [h]; simp
    have hn : nth l (dn.length : Int) = y := by rw [h]; exact nth_mid _ _ _ rfl
    have ih := eq_l l F h0 h1 ys (dn ++ [y]) (by rw [h]; simp)
    rw [List.length_append] at ih
    rw [h1, chkT (inB_iff.2 (by omega)), hn]
    simpa using ih
end
section
variable {α R : Type} [Inhabited α]
theorem compact2_l (C : α → α → Bool) (k n : Nat) (j : List α → Int → Option R) (F : Nat → List α → Int → Int → Option R)
    (h : ∀ m x2 x3 x4, F (m + 1) x2 x3 x4 = if decide (x4 < (((n : Int).toNat - (k : Int).toNat : Nat) : Int)) then
      Chk (inB x4 ((n : Int).toNat - (k : Int).toNat)) (Chk (inB (W (x4 - 1)) ((n : Int).toNat - (k : Int).toNat)) (if !(C (nth (cut x2 (k : Int) (n : Int)) x4) (nth (cut x2 (k : Int) (n : Int)) (W (x4 - 1)))) then
        Chk (inB x4 ((n : Int).toNat - (k : Int).toNat)) (Chk (inB x3 x2.length) (F m (x2.set x3.toNat (nth (cut x2 (k : Int) (n : Int)) x4)) (W (x3 + 1)) (W (x4 + 1))))
      else F m x2 x3 (W (x4 + 1)))) else j x2 x3) (hn : n < 1073741824) (hkn : k ≤ n) :
    ∀ (q m : Nat) (x2 : List α) (v r : Nat), q < m → q + r ≥ n - k → 1 ≤ r → x2.length = n → v < k + r → v ≤ n → ∃ (x2' : List α) (v' : Nat), F m x2 (v : Int) (r : Int) = j x2' (v' : Int) ∧ x2'.length = n ∧ v' ≤ n
  | q, m, x2, v, r, h1, h2, h3, h4, h5, h6 => by
    obtain ⟨m, rfl⟩ : ∃ p, m = p + 1 := ⟨m - 1, by omega⟩
    rw [h]
    simp only [Int.toNat_natCast]
    by_cases hr : r < n - k
    · rw [if_pos (by simp; omega), chkT (inB_iff.2 (by omega)), chkT (inB_iff.2 (by rw [W_in (by omega) (by omega)]; omega))]
      have w1 : W ((r : Int) + 1) = ((r + 1 : Nat) : Int) := by rw [W_in (by omega) (by omega)]; rfl
      have w2 : W ((v : Int) + 1) = ((v + 1 : Nat) : Int) := by rw [W_in (by omega) (by omega)]; rfl
      rw [w1, w2]
      obtain ⟨q, rfl⟩ : ∃ p, q = p + 1 := ⟨q - 1, by omega⟩
      split
      · rw [chkT (inB_iff.2 (by omega)), chkT (inB_iff.2 (by omega))]
        exact compact2_l C k n j F h hn hkn q m _ (v + 1) (r + 1) (by omega) (by omega) (by omega) (by simpa using h4) (by omega) (by omega)
      · exact compact2_l C k n j F h hn hkn q m _ v (r + 1) (by omega) (by omega) (by omega) h4 (by omega) h6
    · rw [if_neg (by simp; omega)]
      exact ⟨x2, v, rfl, h4, h6⟩
end
end Go.Proofs.YtamfhhmfioghgaaGreatDoor
