/- Which entries are refused, by both. No program stands here but its twins. -/
import Derived.Test.YtacfgpcommiihaaGreatDoorPEntries
import Derived.Test.YtacfgpcommiihaaGreatDoorPRaces
import Derived.Test.YtacfgpcommiihaaGreatDoorPMoves
import Derived.Test.YtacfgpcommiihaaGreatDoorPAge
namespace Go.Proofs.YtacfgpcommiihaaGreatDoor
open Go
/-- Entries of somebody. -/
def cntW (acc : List GEntry) (who : ByteArray) : Nat := acc.countP fun y => decide (y.Who = who)
/-- Entries of a club in a race. -/
def cntC (m : List GMove) (day : Int) (acc : List GEntry) (club race : ByteArray) : Nat := acc.countP fun y => decide (y.Race = race) && decide (tumbref2_ClubFor m y.Who day = club)
theorem refuses_loop (x : GEntry) (m : List GMove) (b : GBounds) (j : Int → Int → Option Bool) : ∀ (l : List GEntry) (i : Nat) (x1 x2 : Int), 0 ≤ x1 → 0 ≤ x2 → x1 + l.length ≤ 100000 → x2 + l.length ≤ 100000 →
    tumbref2_refuses_l1 x m b j l i x1 x2 = j (x1 + cntW l x.Who) (x2 + cntC m b.Day l (tumbref2_ClubFor m x.Who b.Day) x.Race)
  | [], i, x1, x2, _, _, _, _ => by simp [tumbref2_refuses_l1, cntW, cntC]
  | y :: l, i, x1, x2, h1, h2, h3, h4 => by
    rw [tumbref2_refuses_l1]
    simp only [List.length_cons] at h3 h4
    simp only [join_eq]
    rw [W_in (n := x1 + 1) (by omega) (by omega), W_in (n := x2 + 1) (by omega) (by omega)]
    have hw : cntW (y :: l) x.Who = cntW l x.Who + if y.Who = x.Who then 1 else 0 := by
      unfold cntW; rw [List.countP_cons]; simp
    have hc : cntC m b.Day (y :: l) (tumbref2_ClubFor m x.Who b.Day) x.Race = cntC m b.Day l (tumbref2_ClubFor m x.Who b.Day) x.Race + if y.Race = x.Race ∧ tumbref2_ClubFor m y.Who b.Day = tumbref2_ClubFor m x.Who b.Day then 1 else 0 := by
      unfold cntC; rw [List.countP_cons]; simp
    rw [hw, hc]
    by_cases g1 : y.Who = x.Who <;> by_cases g2 : (y.Race = x.Race ∧ tumbref2_ClubFor m y.Who b.Day = tumbref2_ClubFor m x.Who b.Day)
    · rw [if_pos (decide_eq_true g1), if_pos (by simpa using g2), refuses_loop x m b j l (i + 1) _ _ (by omega) (by omega) (by omega) (by omega), if_pos g1, if_pos g2]
      congr 1 <;> omega
    · rw [if_pos (decide_eq_true g1), if_neg (by simpa using g2), refuses_loop x m b j l (i + 1) _ _ (by omega) (by omega) (by omega) (by omega), if_pos g1, if_neg g2]
      congr 1; omega
    · rw [if_neg (by simpa using g1), if_pos (by simpa using g2), refuses_loop x m b j l (i + 1) _ _ (by omega) (by omega) (by omega) (by omega), if_neg g1, if_pos g2]
      congr 1; omega
    · rw [if_neg (by simpa using g1), if_neg (by simpa using g2), refuses_loop x m b j l (i + 1) _ _ (by omega) (by omega) (by omega) (by omega), if_neg g1, if_neg g2]
      rfl
theorem may_eq (r : GRace) (s : GSwimmer) (day way : Int) (hg : SGood s) (h1 : s.Born ≤ day) (h2 : day ≤ 4000) (hw : way = 1 ∨ way = 2) : ∃ b, swimmer_may r s day way = some b ∧ tumbref2_MayFor r s day way = some b := by
  obtain ⟨n, n1, n2⟩ := age_eq s day way hg.2.1 h1 h2 hw
  unfold swimmer_may tumbref2_MayFor
  rw [n1, n2]
  simp only [Option.bind_some, join_eq]
  have hw : words_Within n r.Young r.Old = tumbref2_in n r.Young r.Old := rfl
  rw [hw]
  by_cases s0 : r.Sex = 0
  · exact ⟨tumbref2_in n r.Young r.Old, by simp [s0], by simp [s0]⟩
  · by_cases s1 : r.Sex = s.Sex
    · exact ⟨tumbref2_in n r.Young r.Old, by simp [s1], by simp [s1]⟩
    · exact ⟨false, by simp [s0, s1], by simp [s0, s1]⟩
theorem refused_loop (r : List GRace) (s : List GSwimmer) (m : List GMove) (b : GBounds) (hs : swimmer_CheckSwimmers s = some 0) (hsg : ∀ x ∈ s, SGood x) (hd : b.Day ≤ 4000) (ha : b.Age = 1 ∨ b.Age = 2) (l : List GEntry) (hl : l.length ≤ 1500) :
    ∀ (ys dn : List GEntry) (x1 : List Int) (acc : List GEntry) (m2 : List (Gswimmer_place × Int)) (m3 : List (ByteArray × Int)), l = dn ++ ys → x1.length ≤ dn.length → acc.length ≤ dn.length →
    (∀ who, mgetD m3 who 0 = (cntW acc who : Int)) → (∀ club race, mgetD m2 ⟨club, race⟩ 0 = (cntC m b.Day acc club race : Int)) →
    ∃ z, swimmer_Refused_l1 r s b m (fun x1 _ _ => some (x1, 0)) ys dn.length x1 m2 m3 = some (z, 0) ∧ tumbref2_RefusedEntries_l1 r s m b (fun x1 _ => some x1) ys dn.length x1 acc = some z := by
  intro ys
  induction ys with
  | nil => intro dn x1 acc m2 m3 _ _ _ _ _; exact ⟨x1, rfl, rfl⟩
  | cons y ys ih =>
    intro dn x1 acc m2 m3 h1 h2 h3 h4 h5
    have hdl : dn.length + 1 ≤ 1500 := by rw [h1] at hl; simp at hl; omega
    rw [swimmer_Refused_l1, tumbref2_RefusedEntries_l1, raceOf_eq, swimmerOf_eq s y.Who b.Day hs]
    unfold tumbref2_refuses
    have hr := fun j => refuses_loop y m b j acc 0 0 0 (by omega) (by omega) (by omega) (by omega)
    have hcW : cntW acc y.Who ≤ acc.length := List.countP_le_length
    have hcC : cntC m b.Day acc (tumbref2_ClubFor m y.Who b.Day) y.Race ≤ acc.length := List.countP_le_length
    simp only [Option.bind_some, join_eq, club_eq, h4, h5, hr, Int.zero_add]
    -- what is left once the answer is known
    have hgo : ∀ q : Bool, ∃ z, (if q = true then Chk (room x1.length) (swimmer_Refused_l1 r s b m (fun x1 _ _ => some (x1, 0)) ys (dn.length + 1) (x1 ++ [(dn.length : Int)]) m2 m3)
          else swimmer_Refused_l1 r s b m (fun x1 _ _ => some (x1, 0)) ys (dn.length + 1) x1 (mput m2 (Gswimmer_place.mk (tumbref2_ClubFor m y.Who b.Day) y.Race) (W ((cntC m b.Day acc (tumbref2_ClubFor m y.Who b.Day) y.Race : Int) + 1))) (mput m3 y.Who (W ((cntW acc y.Who : Int) + 1)))) = some (z, 0) ∧
        (if q = true then Chk (room x1.length) (tumbref2_RefusedEntries_l1 r s m b (fun x1 _ => some x1) ys (dn.length + 1) (x1 ++ [(dn.length : Int)]) acc) else Chk (room acc.length) (tumbref2_RefusedEntries_l1 r s m b (fun x1 _ => some x1) ys (dn.length + 1) x1 (acc ++ [y]))) = some z := by
      intro q
      cases q with
      | true =>
        rw [if_pos rfl, if_pos rfl, chk_pos (by unfold room; simp; omega), chk_pos (by unfold room; simp; omega)]
        have := ih (dn ++ [y]) (x1 ++ [(dn.length : Int)]) acc m2 m3 (by rw [h1]; simp) (by simp; omega) (by simp; omega) h4 h5
        rw [List.length_append, List.length_singleton] at this
        exact this
      | false =>
        rw [if_neg (by simp), if_neg (by simp), chk_pos (by unfold room; simp; omega)]
        rw [W_in (by omega) (by omega), W_in (by omega) (by omega)]
        have := ih (dn ++ [y]) x1 (acc ++ [y]) (mput m2 (Gswimmer_place.mk (tumbref2_ClubFor m y.Who b.Day) y.Race) ((cntC m b.Day acc (tumbref2_ClubFor m y.Who b.Day) y.Race : Int) + 1)) (mput m3 y.Who ((cntW acc y.Who : Int) + 1)) (by rw [h1]; simp) (by simp; omega) (by simp; omega)
          (fun who => by
            rw [mgetPut, h4]
            unfold cntW
            rw [List.countP_append]
            by_cases hw : who = y.Who
            · subst hw; simp
            · rw [if_neg hw]
              have hw' : ¬ y.Who = who := fun h => hw h.symm
              simp [hw'])
          (fun club race => by
            rw [mgetPut, h5]
            unfold cntC
            rw [List.countP_append]
            by_cases hw : (⟨club, race⟩ : Gswimmer_place) = ⟨tumbref2_ClubFor m y.Who b.Day, y.Race⟩
            · rw [if_pos hw]
              simp only [Gswimmer_place.mk.injEq] at hw
              obtain ⟨rfl, rfl⟩ := hw
              simp
            · rw [if_neg hw]
              simp only [Gswimmer_place.mk.injEq] at hw
              have : (decide (y.Race = race) && decide (tumbref2_ClubFor m y.Who b.Day = club)) = false := by
                rw [Bool.and_eq_false_iff]
                by_cases g : y.Race = race
                · exact .inr (decide_eq_false fun h => hw ⟨h.symm, g.symm⟩)
                · exact .inl (decide_eq_false g)
              simp [List.countP_cons, this])
        rw [List.length_append, List.length_singleton] at this
        exact this
    -- the answer, by both
    have hq : ∀ (A : Bool → Option (List Int × Int)) (B : Bool → Option (List Int)) (X : Bool), (∀ q, ∃ z, A q = some (z, 0) ∧ B q = some z) → ∃ z, (if (!(tumbref2_raceOf r y.Race).2) = true then A (true || X) else if decide (1 < (tumbref2_raceOf r y.Race).1.Legs) = true then A (true || X) else
          if (!(if (tumbref2_swimmerOf s y.Who).2 = true ∧ (tumbref2_swimmerOf s y.Who).1.Born ≤ b.Day then ((tumbref2_swimmerOf s y.Who).1, true) else ((GSwimmer.mk k_empty 0 0), false)).2) = true then A (true || X) else
          Option.bind (swimmer_may (tumbref2_raceOf r y.Race).1 (if (tumbref2_swimmerOf s y.Who).2 = true ∧ (tumbref2_swimmerOf s y.Who).1.Born ≤ b.Day then ((tumbref2_swimmerOf s y.Who).1, true) else ((GSwimmer.mk k_empty 0 0), false)).1 b.Day b.Age) fun q => A (!q || X)) = some (z, 0) ∧
        (Option.bind (if ((((!((tumbref2_raceOf r y.Race).2)) || (decide (1 < (((tumbref2_raceOf r y.Race).1).Legs)))) || (!((tumbref2_swimmerOf s y.Who).2))) || (decide (b.Day < (((tumbref2_swimmerOf s y.Who).1).Born)))) = true then (if (((((!((tumbref2_raceOf r y.Race).2)) || (decide (1 < (((tumbref2_raceOf r y.Race).1).Legs)))) || (!((tumbref2_swimmerOf s y.Who).2))) || (decide (b.Day < (((tumbref2_swimmerOf s y.Who).1).Born)))) || true) = true then some true else some X)
          else Option.bind (tumbref2_MayFor ((tumbref2_raceOf r y.Race).1) ((tumbref2_swimmerOf s y.Who).1) b.Day b.Age) (fun r1 => if (((((!((tumbref2_raceOf r y.Race).2)) || (decide (1 < (((tumbref2_raceOf r y.Race).1).Legs)))) || (!((tumbref2_swimmerOf s y.Who).2))) || (decide (b.Day < (((tumbref2_swimmerOf s y.Who).1).Born)))) || (!r1)) = true then some true else some X)) B) = some z := by
      intro A B X hAB
      by_cases c1 : (tumbref2_raceOf r y.Race).2 = true
      · by_cases c2 : 1 < (tumbref2_raceOf r y.Race).1.Legs
        · obtain ⟨z, z1, z2⟩ := hAB true
          exact ⟨z, by simpa [c1, c2] using z1, by simpa [c1, c2] using z2⟩
        · by_cases c3 : (tumbref2_swimmerOf s y.Who).2 = true
          · by_cases c4 : (tumbref2_swimmerOf s y.Who).1.Born ≤ b.Day
            · have hmem : (tumbref2_swimmerOf s y.Who).1 ∈ s := by
                unfold tumbref2_swimmerOf at c3 ⊢
                exact swimmerOf_mem y.Who s 0 c3
              obtain ⟨q, q1, q2⟩ := may_eq (tumbref2_raceOf r y.Race).1 (tumbref2_swimmerOf s y.Who).1 b.Day b.Age (hsg _ hmem) c4 hd ha
              obtain ⟨z, z1, z2⟩ := hAB (!q || X)
              refine ⟨z, ?_, ?_⟩
              · simp only [c1, c2, c3, c4, and_self, if_true, decide_false, Bool.not_true, Bool.false_eq_true, if_false, q1, Option.bind_some]; exact z1
              · simp only [c1, c2, c3, decide_false, show ¬ b.Day < (tumbref2_swimmerOf s y.Who).1.Born by omega, Bool.not_true, Bool.or_self, Bool.false_eq_true, if_false, q2, Option.bind_some, Bool.false_or]
                cases q with
                | true => simpa using z2
                | false => simpa using z2
            · obtain ⟨z, z1, z2⟩ := hAB true
              exact ⟨z, by simpa [c1, c2, c3, c4] using z1, by simpa [c1, c2, c3, show b.Day < (tumbref2_swimmerOf s y.Who).1.Born by omega] using z2⟩
          · obtain ⟨z, z1, z2⟩ := hAB true
            exact ⟨z, by simpa [c1, c2, c3] using z1, by simpa [c1, c2, c3] using z2⟩
      · obtain ⟨z, z1, z2⟩ := hAB true
        exact ⟨z, by simpa [c1] using z1, by simpa [c1] using z2⟩
    have := hq _ _ (decide (b.Races ≤ (cntW acc y.Who : Int)) || ((!decide (tumbref2_ClubFor m y.Who b.Day = k_empty)) && decide (b.Club ≤ (cntC m b.Day acc (tumbref2_ClubFor m y.Who b.Day) y.Race : Int)))) hgo
    obtain ⟨z, z1, z2⟩ := this
    refine ⟨z, ?_, ?_⟩
    · rw [← z1]
      by_cases c1 : (tumbref2_raceOf r y.Race).2 = true <;> by_cases c2 : 1 < (tumbref2_raceOf r y.Race).1.Legs <;> simp only [c1, c2, Bool.not_true, Bool.not_false, Bool.false_eq_true, if_true, if_false, decide_true, decide_false, Bool.or_assoc]
    · rw [← z2]
end Go.Proofs.YtacfgpcommiihaaGreatDoor
