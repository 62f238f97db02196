/- The plain law of AgesGrow. No program stands here but its twins. -/
import Derived.Test.YtempdnodblkecaaDoorPStr
import Derived.Test.YtempdnodblkecaaDoorPAge
import Derived.Test.YtempdnodblkecaaDoorPReady
namespace Go.Proofs.YtempdnodblkecaaDoor
open Go
theorem monN_near : ∀ (l l' : Bool) (a : Fin 13), monN l a.val ≤ monN l' a.val + 1 ∧ mlN l a.val ≤ mlN l' a.val + 1 := by decide +kernel
theorem mon_near (y y' : Int) {m : Int} (h1 : 1 ≤ m) (h2 : m ≤ 12) : mon y m ≤ mon y' m + 1 ∧ ml y m ≤ ml y' m + 1 := by
  have := monN_near (lp y) (lp y') ⟨m.toNat, by omega⟩
  unfold mon ml; simp only at this; omega
instance (b n : GDate) : Decidable (early b n) := by unfold early; infer_instance
/-- The age in full years. -/
def fullA (b n : GDate) : Int := if early b n then n.Year - b.Year - 1 else n.Year - b.Year
theorem fullA_cases (b n : GDate) : (early b n ∧ fullA b n = n.Year - b.Year - 1) ∨ (¬ early b n ∧ fullA b n = n.Year - b.Year) := by
  by_cases h : early b n
  · exact .inl ⟨h, if_pos h⟩
  · exact .inr ⟨h, if_neg h⟩
theorem ages_of {k : ByteArray} {sx born day : Int} {b n : GDate} (hB : IsD b born) (hN : IsD n day) (e1 : swimmer_dateOf born = some b) (e2 : swimmer_dateOf day = some n) (h1 : -40000 ≤ born) (h2 : born ≤ day) (h3 : day ≤ 4000) :
    swimmer_age ⟨k, sx, born⟩ day 1 = some (fullA b n) ∧ swimmer_age ⟨k, sx, born⟩ day 2 = some (n.Year - b.Year) := by
  have yb := year_rng hB (by omega) (by omega)
  have yn := year_rng hN (by omega) (by omega)
  unfold swimmer_age fullA
  simp only [e1, e2, Option.bind_some, join_eq]
  rw [W_in (n := n.Year - b.Year) (by omega) (by omega), W_in (n := n.Year - b.Year - 1) (by omega) (by omega)]
  constructor
  · by_cases he : early b n
    · simp only [decide_true, if_true]
      rw [if_pos (decide_eq_true ((or_early b n).2 he)), if_pos he]
    · simp only [decide_true, if_true]
      rw [if_neg (by rw [decide_eq_true_eq, or_early]; exact he), if_neg he]
  · simp
theorem check_ann (born day way : Int) (hb : born = 59 ∨ born = 0 ∨ born = -1 ∨ born = -307 ∨ born = -3653 ∨ born = 425) (h1 : born ≤ day) (h2 : day ≤ 4000) (hw : way = 1 ∨ way = 2) : swimmer_checkAge ⟨k_ann, 1, born⟩ day way = some 0 := by
  have hs : swimmer_CheckSwimmers [⟨k_ann, 1, born⟩] = some 0 := by
    rcases hb with rfl | rfl | rfl | rfl | rfl | rfl <;> decide +kernel
  unfold swimmer_checkAge
  rw [hs]
  simp only [Option.bind_some]
  have hway : swimmer_isWay way = true := by rcases hw with rfl | rfl <;> decide +kernel
  rw [hway, show words_Within day born 4000 = true by unfold words_Within; simp [h1, h2]]
  rfl
theorem plain_AgesGrow (l : List Int) (hl : l.length ≤ 9223372036854775807) : tumbkeep2_AgesGrow l = some true := by
  have hL : LongL l := by unfold LongL; omega
  obtain ⟨born, a1, e1, p1, q1, hb⟩ := pick_dr hL (a := 0) (by omega) (by omega) [59, 0, (-1), (-307), (-3653), 425] (by simp) (by simp)
  have hb' : born = 59 ∨ born = 0 ∨ born = -1 ∨ born = -307 ∨ born = -3653 ∨ born = 425 := by simpa using hb
  obtain ⟨d1, a2, e2, p2, q2, u1, u2⟩ := range_dr hL (a := a1) (by omega) (by omega) 0 3000 (by omega) (by omega) (by omega)
  obtain ⟨d2, a3, e3, p3, q3, u3, u4⟩ := range_dr hL (a := a2) (by omega) (by omega) 0 400 (by omega) (by omega) (by omega)
  unfold tumbkeep2_AgesGrow
  simp only [e1, e2, e3, Option.bind_some]
  rw [W_in (n := born + d1) (by omega) (by omega), W_in (n := born + d1 + d2) (by omega) (by omega)]
  obtain ⟨z, hz⟩ : ∃ z, imin 4000 (born + d1 + d2) = z := ⟨_, rfl⟩
  have hz1 : born + d1 ≤ z ∧ z ≤ 4000 ∧ z ≤ born + d1 + 400 := by
    rw [← hz]; unfold imin; split <;> omega
  rw [hz]
  obtain ⟨b, c1, hB⟩ := dateOf_ok (day := born) (by omega) (by omega)
  obtain ⟨n, c2, hN⟩ := dateOf_ok (day := born + d1) (by omega) (by omega)
  obtain ⟨n2, c3, hN2⟩ := dateOf_ok (day := z) (by omega) (by omega)
  obtain ⟨s1, s2⟩ := ages_of (k := k_ann) (sx := 1) hB hN c1 c2 (by omega) (by omega) (by omega)
  obtain ⟨s3, _⟩ := ages_of (k := k_ann) (sx := 1) hB hN2 c1 c3 (by omega) (by omega) (by omega)
  unfold swimmer_Age
  rw [check_ann born (born + d1) 1 hb' (by omega) (by omega) (.inl rfl), check_ann born z 1 hb' (by omega) (by omega) (.inl rfl), check_ann born (born + d1) 2 hb' (by omega) (by omega) (.inr rfl)]
  simp only [Option.bind_some, decide_true, Bool.not_true, Bool.false_eq_true, if_false, s1, s2, s3, e3, join_eq, ready_ok]
  have he : tumbkeep2_errs [0, 0, 0] = 0 := by decide +kernel
  have yb := year_rng hB (by omega) (by omega)
  have yn := year_rng hN (by omega) (by omega)
  have yn2 := year_rng hN2 (by omega) (by omega)
  have t1 : ¬ dLt n b := fun h => by have := hN.lt hB h; omega
  have t2 : ¬ dLt n2 n := fun h => by have := hN2.lt hN h; omega
  have A1 := fullA_cases b n
  have A2 := fullA_cases b n2
  have f1 : 0 ≤ fullA b n := by
    unfold dLt at t1; unfold early at A1; omega
  have f2 : fullA b n ≤ fullA b n2 := by
    unfold dLt at t2; unfold early at A1 A2; omega
  have f3 : fullA b n2 ≤ fullA b n + 2 := by
    have g1 := hN.num; have g2 := hN2.num
    have k1 := mon_near n.Year n2.Year hN.m1 hN.m12
    have k2 := mon_year (y := n.Year) hN.m1 hN.m12
    have k3 := hN.dl; have k4 := hN2.d1
    have k5 : 0 ≤ mon n2.Year n2.Month := by unfold mon; omega
    have j1 : jan1 n2.Year - jan1 n.Year ≥ 365 * (n2.Year - n.Year) - 1 := by unfold jan1; omega
    have hyl := yl_pos n.Year
    have hle : n2.Year ≤ n.Year + 2 := by omega
    by_cases h2 : n2.Year = n.Year + 2
    · rcases A1 with ⟨x1, A1⟩ | ⟨x1, A1⟩
      · rcases A2 with ⟨x2, A2⟩ | ⟨x2, A2⟩
        · omega
        · exfalso
          unfold early at x1 x2
          by_cases hm : n.Month < n2.Month
          · have := mon_lt (y := n2.Year) hN.m1 hm hN2.m12
            omega
          · have hm' : n.Month = n2.Month := by omega
            rw [← hm'] at g2 k5
            omega
      · omega
    · omega
  have f4 : (n.Year - b.Year = fullA b n) ∨ (n.Year - b.Year = fullA b n + 1) := by omega
  have f5 : fullA b n ≤ 1000 := by omega
  rw [W_in (n := fullA b n + 2) (by omega) (by omega), W_in (n := fullA b n + 1) (by omega) (by omega)]
  have hc : (((((decide ((tumbkeep2_errs [0, 0, 0]) = 0)) && (decide (0 ≤ fullA b n))) && (decide (fullA b n ≤ fullA b n2))) && (decide (fullA b n2 ≤ fullA b n + 2))) && ((decide (n.Year - b.Year = fullA b n)) || (decide (n.Year - b.Year = fullA b n + 1)))) = true := by
    rw [he]; simp [f1, f2, f3, f4]
  rw [hc]; rfl
end Go.Proofs.YtempdnodblkecaaDoor
