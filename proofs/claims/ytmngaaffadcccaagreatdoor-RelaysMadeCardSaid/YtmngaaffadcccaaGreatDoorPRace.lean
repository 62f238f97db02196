/- The program's check of a race is the reference's. No program stands here but its twins. -/
import Derived.Test.YtmngaaffadcccaaGreatDoorPKey2
namespace Go.Proofs.YtmngaaffadcccaaGreatDoor
open Go
theorem key1_eq (s : ByteArray) : ∃ b, words_IsKey s = some b ∧ tumbref1_Key s = some b := by
  by_cases hs : 1 ≤ s.size ∧ s.size ≤ 40
  · obtain ⟨h1, h2⟩ := hs
    have hsz := size_list s
    obtain ⟨u, r, hl⟩ : ∃ u r, s.data.toList = u :: r := by
      cases h : s.data.toList with
      | nil => rw [h] at hsz; exact absurd hsz (by show ¬ s.size = 0; omega)
      | cons u r => exact ⟨u, r, rfl⟩
    have hin : tumbref1_in (s.size : Int) 1 40 = true := by unfold tumbref1_in; simp; omega
    have hwin : (decide (1 ≤ (s.size : Int)) && decide ((s.size : Int) ≤ 40)) = true := by simp; omega
    have hb0 : inB 0 s.size = true := inB_iff.2 ⟨by omega, by omega⟩
    have hu : sbyte s 0 = (u.toNat : Int) := sbyte_get (j := 0) (by rw [hl]; rfl)
    have hix : decide (0 ≤ strings_IndexByte k_abcdefghijklmnopqrstuvwxyz (u.toNat : Int)) = (decide (97 ≤ (u.toNat : Int)) && decide ((u.toNat : Int) ≤ 122)) := by
      unfold strings_IndexByte
      rw [byte_back, ← letter_eq]
      have := indexByte_lt (l := k_abcdefghijklmnopqrstuvwxyz.data.toList) (c := u)
      cases hc : k_abcdefghijklmnopqrstuvwxyz.data.toList.contains u <;> rw [hc] at this <;> simp at this ⊢ <;> omega
    have htrim : strings_Trim s k_abcdefghijkl_h0e2e2c = some ⟨(Lib.trimS s.data.toList k_abcdefghijkl_h0e2e2c.data.toList).toArray⟩ := by
      unfold strings_Trim
      rw [chk_pos (by simp; omega), chk_pos (by decide +kernel), chk_pos ascii_key]
    refine ⟨(decide (97 ≤ (u.toNat : Int)) && decide ((u.toNat : Int) ≤ 122)) && decide ((⟨(Lib.trimS s.data.toList k_abcdefghijkl_h0e2e2c.data.toList).toArray⟩ : ByteArray) = k_empty), ?_, ?_⟩
    · unfold words_IsKey
      simp only [join_eq, hwin, if_true, Bool.true_and, chk_pos hb0, hu]
      by_cases g1 : 97 ≤ (u.toNat : Int)
      · simp only [g1, decide_true, if_true, Bool.true_and]
        by_cases g2 : (u.toNat : Int) ≤ 122
        · simp only [g2, decide_true, if_true, Bool.true_and, htrim, Option.bind_some]
        · simp only [g2, decide_false, Bool.false_eq_true, if_false, Bool.false_and]
      · simp only [g1, decide_false, Bool.false_eq_true, if_false, Bool.false_and]
    · unfold tumbref1_Key
      simp only [join_eq, hin, if_true, Bool.true_and, htrim, Option.bind_some, chk_pos hb0, hu, hix]
      cases decide ((⟨(Lib.trimS s.data.toList k_abcdefghijkl_h0e2e2c.data.toList).toArray⟩ : ByteArray) = k_empty) with
      | true => simp only [if_true, Bool.true_and, Bool.and_true]
      | false => simp only [Bool.false_eq_true, if_false, Bool.false_and, Bool.and_false]
  · refine ⟨false, ?_, ?_⟩
    · have hwin : (decide (1 ≤ (s.size : Int)) && decide ((s.size : Int) ≤ 40)) = false := by simp; omega
      unfold words_IsKey
      simp only [join_eq, hwin, Bool.false_eq_true, if_false, Bool.false_and]
    · have hin : tumbref1_in (s.size : Int) 1 40 = false := by unfold tumbref1_in; simp; omega
      unfold tumbref1_Key
      simp only [join_eq, hin, Bool.false_eq_true, if_false, Bool.false_and]
theorem race_eq (r : GRace) : ∃ e, timing_CheckRace r = some e ∧ tumbref1_RaceFault r = some e := by
  unfold timing_CheckRace tumbref1_RaceFault
  obtain ⟨b, e1, e2⟩ := key1_eq r.Key
  have hw : words_Within = tumbref1_in := rfl
  rw [e1, e2, hw]
  simp only [Option.bind_some, join_eq]
  have hy : (decide (r.Young < 0) || decide (r.Old < r.Young)) = !(tumbref1_in r.Young 0 r.Old) := by
    unfold tumbref1_in
    by_cases h1 : r.Young < 0 <;> by_cases h2 : r.Old < r.Young
    · simp [h1, h2]
    · simp [h1, h2]
    · simp [h1, h2]
    · simp only [h1, h2, decide_false, Bool.or_self]
      rw [show decide (0 ≤ r.Young) = true by simp; omega, show decide (r.Young ≤ r.Old) = true by simp; omega]; rfl
  cases b with
  | false => exact ⟨5, rfl, rfl⟩
  | true =>
    simp only [Bool.not_true, Bool.false_eq_true, if_false]
    by_cases h1 : ((!(tumbref1_in r.Stroke 1 5)) || (!(tumbref1_in r.Sex 0 2))) = true
    · rw [if_pos h1, if_pos h1]; exact ⟨4, rfl, rfl⟩
    · rw [if_neg h1, if_neg h1]
      have hbig : (((((((!decide (r.Course = 25)) && (!decide (r.Course = 50))) || (!(tumbref1_in r.Legs 1 4))) || (!(tumbref1_in r.Metres 25 1500))) || (decide (r.Young < 0))) || (decide (r.Old < r.Young))) || (decide (120 < r.Old))) =
          (((!decide (r.Course = 25)) && (!decide (r.Course = 50))) || ((!(tumbref1_in r.Legs 1 4)) || ((!(tumbref1_in r.Metres 25 1500)) || ((!(tumbref1_in r.Young 0 r.Old)) || (decide (120 < r.Old)))))) := by
        rw [← hy]; simp only [Bool.or_assoc]
      rw [hbig]
      by_cases hcr : ((!decide (r.Course = 25)) && (!decide (r.Course = 50))) = true
      · simp only [hcr, if_true, Bool.true_or]; exact ⟨1, rfl, rfl⟩
      · have hcr' : r.Course = 25 ∨ r.Course = 50 := by simp at hcr; omega
        have c0 : (!decide (r.Course = 0)) = true := by rcases hcr' with h | h <;> simp [h]
        have c4 : (!decide ((W (4 * r.Course)) = 0)) = true := by rcases hcr' with h | h <;> rw [h] <;> decide +kernel
        rw [Bool.not_eq_true] at hcr
        simp only [hcr, Bool.false_or, Bool.false_eq_true, if_false, chk_pos c0, chk_pos c4]
        generalize (!(tumbref1_in r.Legs 1 4)) = b1
        generalize (!(tumbref1_in r.Metres 25 1500)) = b2
        generalize (!(tumbref1_in r.Young 0 r.Old)) = b3
        generalize decide (120 < r.Old) = b4
        generalize (!decide ((Int.tmod r.Metres r.Course) = 0)) = b5
        generalize (!decide ((Int.tmod r.Metres (W (4 * r.Course))) = 0)) = b6
        generalize decide (r.Stroke = 5) = b7
        by_cases hl : r.Legs = 1
        · have hl2 : decide (1 < r.Legs) = false := by rw [hl]; rfl
          simp only [hl2, decide_eq_true hl]
          cases b1 <;> cases b2 <;> cases b3 <;> cases b4 <;> cases b5 <;> cases b6 <;> cases b7 <;> exact ⟨_, rfl, rfl⟩
        · simp only [decide_eq_false hl]
          generalize decide (1 < r.Legs) = b8
          generalize (!decide (r.Legs = 4)) = b9
          cases b1 <;> cases b2 <;> cases b3 <;> cases b4 <;> cases b5 <;> cases b7 <;> cases b8 <;> cases b9 <;> exact ⟨_, rfl, rfl⟩
end Go.Proofs.YtmngaaffadcccaaGreatDoor
