/- The plain law of DaysComeBack. No program stands here but its twins. -/
import Derived.Test.YtbpakaifdbeapaaDoorPStr
import Derived.Test.YtbpakaifdbeapaaDoorPDayOf
import Derived.Test.YtbpakaifdbeapaaDoorPReady
namespace Go.Proofs.YtbpakaifdbeapaaDoor
open Go
theorem dateOf_in {day : Int} (h1 : -40000 ≤ day) (h2 : day ≤ 4000) : ∃ g, swimmer_DateOf day = some (g, 0) ∧ IsD g day := by
  obtain ⟨g, e, h⟩ := dateOf_ok (day := day) (by omega) (by omega)
  refine ⟨g, ?_, h⟩
  unfold swimmer_DateOf swimmer_isDay words_Within
  rw [if_neg (by simp [h1, h2]), e]; rfl
theorem plain_DaysComeBack (l : List Int) (hl : l.length ≤ 9223372036854775807) : tumbkeep2_DaysComeBack l = some true := by
  have hL : LongL l := by unfold LongL; omega
  obtain ⟨day, a1, e1, p1, q1, d1, d2⟩ := range_dr hL (a := 0) (by omega) (by omega) (-40000) 3999 (by omega) (by omega) (by omega)
  have hd : day ≤ 3999 := by omega
  obtain ⟨g, c1, c2⟩ := dateOf_in (day := day) d1 (by omega)
  obtain ⟨g', c3, c4⟩ := dateOf_in (day := day + 1) (by omega) (by omega)
  have hn : g' = nextD g := c4.uniq c2.next
  have hy := year_rng c2 (by omega) (by omega)
  have hnum : numD g = day := c2.num
  have hday : dayD g = (day, 0) := by
    unfold dayD
    rw [if_pos ⟨⟨c2.m1, c2.m12, c2.d1, c2.dl⟩, by omega, by omega, by omega, by omega⟩, hnum]
  have hml := ml_rng g.Year g.Month
  have g1 := c2.d1
  have g2 := c2.dl
  have w1 : W (g.Day + 1) = g.Day + 1 := W_in (by omega) (by omega)
  unfold tumbkeep2_DaysComeBack
  rw [e1]; simp only [Option.bind_some]
  rw [W_in (by omega) (by omega), c1, c3]; simp only [Option.bind_some]
  rw [dayOf_ok, hday, hn, w1]; simp only [Option.bind_some, join_eq, ready_ok]
  have he : tumbkeep2_errs [0, 0, 0] = 0 := by decide +kernel
  have hc : ((((decide ((tumbkeep2_errs [0, 0, 0]) = 0)) && (decide (day = day))) && ((decide (g.Year < (nextD g).Year)) || ((decide ((nextD g).Year = g.Year)) && ((decide (g.Month < (nextD g).Month)) || ((decide ((nextD g).Month = g.Month)) && (decide ((nextD g).Day = g.Day + 1)))))))
      && ((decide ((nextD g).Month = g.Month)) || (decide ((nextD g).Day = 1)))) = true := by
    rw [he]
    unfold nextD
    by_cases h1 : g.Day < ml g.Year g.Month
    · simp [h1]
    · by_cases h2 : g.Month < 12
      · simp [h1, h2]; omega
      · simp [h1, h2]
        try omega
  simp only [eq_self] at hc
  rw [hc]; rfl
end Go.Proofs.YtbpakaifdbeapaaDoor
