/- The program's ages are the reference's. Conditions: the twins of package swimmer and of the reference. -/
import Derived.Test.YtmngaaffadcccaaGreatDoorPDateR
import Derived.Test.YtmngaaffadcccaaGreatDoorPSwim
namespace Go.Proofs.YtmngaaffadcccaaGreatDoor
open Go
theorem orInt (a b : Int) : cmp_Or_int [a, b] = if a ≠ 0 then a else b := by
  unfold cmp_Or_int
  simp only [join_eq, cmp_Or_int_l1]
  by_cases h1 : a = 0
  · by_cases h2 : b = 0
    · simp [h1, h2]
    · simp [h1, h2]
  · simp [h1]
/-- The birthday has not come in this year. -/
def early (b n : GDate) : Prop := n.Month < b.Month ∨ (n.Month = b.Month ∧ n.Day < b.Day)
theorem or_early (b n : GDate) : (cmp_Or_int [cmp_Compare_int n.Month b.Month, cmp_Compare_int n.Day b.Day] < 0) ↔ early b n := by
  rw [orInt, compare_int, compare_int]
  unfold early
  by_cases h1 : n.Month < b.Month
  · simp [h1]
  · by_cases h2 : b.Month < n.Month
    · simp [h1, h2]; omega
    · have : n.Month = b.Month := by omega
      by_cases h3 : n.Day < b.Day
      · simp [h3, this]
      · by_cases h4 : b.Day < n.Day <;> simp [h1, h2, h3, h4]
theorem ageFor_l (b n : GDate) (K : Int) (hK : ∀ y : Int, dLt n ⟨y, b.Month, b.Day⟩ ↔ K < y) (hK2 : K ≤ 10000) : ∀ (m : Nat) (x1 x2 : Int), 0 ≤ x2 → x2 ≤ K + 1 → 0 ≤ x1 → x1 + (K + 1 - x2) ≤ 100000 → K + 1 - x2 < (m : Int) →
    tumbref2_AgeFor_l1 b n some (m + 1) x1 x2 = some (x1 + (K + 1 - x2))
  | m, x1, x2, h0, h1, h2, h3, h4 => by
    rw [tumbref2_AgeFor_l1]
    obtain ⟨z, e, _, hz⟩ := dateOrder_eq ⟨x2, b.Month, b.Day⟩ n
    rw [e]; simp only [Option.bind_some]
    rw [hK x2] at hz
    by_cases h : z ≤ 0
    · rw [if_pos (decide_eq_true h), W_in (by omega) (by omega), W_in (by omega) (by omega)]
      cases m with
      | zero => omega
      | succ m => rw [ageFor_l b n K hK hK2 m _ _ (by omega) (by omega) (by omega) (by omega) (by omega)]; congr 1; omega
    · rw [if_neg (by simpa using h)]
      have := hz.1 (by omega)
      congr 1; omega
theorem age_eq (x : GSwimmer) (day way : Int) (hb : -40000 ≤ x.Born) (h1 : x.Born ≤ day) (h2 : day ≤ 4000) (hw : way = 1 ∨ way = 2) : ∃ n, swimmer_age x day way = some n ∧ tumbref2_AgeFor x day way = some n := by
  obtain ⟨b, e1, e2, hB⟩ := dates_eq hb (by omega)
  obtain ⟨n, e3, e4, hN⟩ := dates_eq (day := day) (by omega) (by omega)
  have yb := year_rng hB (by omega) (by omega)
  have yn := year_rng hN (by omega) (by omega)
  unfold swimmer_age tumbref2_AgeFor
  rw [e1, e2, e3, e4]
  simp only [Option.bind_some, join_eq]
  rw [W_in (n := n.Year - b.Year) (by omega) (by omega), W_in (n := n.Year - b.Year - 1) (by omega) (by omega)]
  rcases hw with rfl | rfl
  · have hnl : ¬ dLt n b := fun h => by have := hN.lt hB h; omega
    simp only [decide_true, if_true, show (1 : Int) ≠ 2 by decide, decide_false, Bool.false_eq_true, if_false]
    rw [W_in (n := b.Year + 1) (by omega) (by omega)]
    by_cases he : early b n
    · rw [if_pos (decide_eq_true ((or_early b n).2 he))]
      refine ⟨_, rfl, ?_⟩
      have hlt : b.Year < n.Year := by
        unfold dLt at hnl; unfold early at he; omega
      have := ageFor_l b n (n.Year - 1) (fun y => by unfold dLt; unfold early at he; simp only; omega) (by omega) 4611686018427387903 0 (b.Year + 1) (by omega) (by omega) (by omega) (by omega) (by omega)
      rw [show (4611686018427387904 : Nat) = 4611686018427387903 + 1 from rfl]
      exact this.trans (by congr 1; omega)
    · rw [if_neg (by rw [decide_eq_true_eq, or_early]; exact he)]
      refine ⟨_, rfl, ?_⟩
      have hle : b.Year ≤ n.Year := by
        unfold dLt at hnl; omega
      have := ageFor_l b n n.Year (fun y => by unfold dLt; unfold early at he; simp only; omega) (by omega) 4611686018427387903 0 (b.Year + 1) (by omega) (by omega) (by omega) (by omega) (by omega)
      rw [show (4611686018427387904 : Nat) = 4611686018427387903 + 1 from rfl]
      exact this.trans (by congr 1; omega)
  · exact ⟨n.Year - b.Year, by simp, by simp⟩
end Go.Proofs.YtmngaaffadcccaaGreatDoor
