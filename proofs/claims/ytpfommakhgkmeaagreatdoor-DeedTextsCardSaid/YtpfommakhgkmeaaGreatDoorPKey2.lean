/- Keys, the two readings joined. No program stands here but its twins. -/
import Derived.Test.YtpfommakhgkmeaaGreatDoorPKey
namespace Go.Proofs.YtpfommakhgkmeaaGreatDoor
open Go

theorem letter_eq (u : UInt8) : k_abcdefghijklmnopqrstuvwxyz.data.toList.contains u = (decide (97 ≤ (u.toNat : Int)) && decide ((u.toNat : Int) ≤ 122)) := by
  have key : ∀ n : Fin 256, k_abcdefghijklmnopqrstuvwxyz.data.toList.contains (UInt8.ofNat n.val) = (decide (97 ≤ (((UInt8.ofNat n.val).toNat : Nat) : Int)) && decide ((((UInt8.ofNat n.val).toNat : Nat) : Int) ≤ 122)) := by decide +kernel
  have h := key ⟨u.toNat, u.toNat_lt⟩
  simpa using h
theorem ascii_key : (k_abcdefghijkl_h0e2e2c.data.toList.all fun b => decide (b.toNat < 128)) = true := by decide +kernel
theorem empty_iff (l : List UInt8) : ((⟨l.toArray⟩ : ByteArray) = k_empty) ↔ l = [] := by
  constructor
  · intro h
    have h2 := congrArg (fun b : ByteArray => b.data.toList) h
    simpa [k_empty] using h2
  · rintro rfl; rfl
theorem isKey_eq (s : ByteArray) : ∃ b, words_IsKey s = some b ∧ tumbref2_Key s = some b := by
  by_cases hs : 1 ≤ s.size ∧ s.size ≤ 40
  · obtain ⟨h1, h2⟩ := hs
    have hsz := size_list s
    obtain ⟨u, r, hl⟩ : ∃ u r, s.data.toList = u :: r := by
      cases h : s.data.toList with
      | nil => rw [h] at hsz; exact absurd hsz (by show ¬ s.size = 0; omega)
      | cons u r => exact ⟨u, r, rfl⟩
    have hin : tumbref2_in (s.size : Int) 1 40 = true := by unfold tumbref2_in; simp; omega
    have hwin : (decide (1 ≤ (s.size : Int)) && decide ((s.size : Int) ≤ 40)) = true := by simp; omega
    have hb0 : inB 0 s.size = true := inB_iff.2 ⟨by omega, by omega⟩
    have hc0 : cutB 0 1 s.size = true := cutB_iff.2 ⟨by omega, by omega, by omega⟩
    have hu : sbyte s 0 = (u.toNat : Int) := sbyte_get (j := 0) (by rw [hl]; rfl)
    have hcut : (scut s 0 1).data.toList = [u] := by
      unfold scut
      simp [hl]
    have hcsz : (scut s 0 1).size ≤ 4611686018427387904 := by rw [size_list, hcut]; simp
    have hall := only_eq s k_abcdefghijkl_h0e2e2c (by omega)
    have hone := only_eq (scut s 0 1) k_abcdefghijklmnopqrstuvwxyz hcsz
    rw [hcut] at hone
    simp only [List.all_cons, List.all_nil, Bool.and_true, letter_eq] at hone
    have htrim : strings_Trim s k_abcdefghijkl_h0e2e2c = some ⟨(Lib.trimS s.data.toList k_abcdefghijkl_h0e2e2c.data.toList).toArray⟩ := by
      unfold strings_Trim
      rw [chk_pos (by simp; omega), chk_pos (by decide +kernel), chk_pos ascii_key]
    have htr : decide ((⟨(Lib.trimS s.data.toList k_abcdefghijkl_h0e2e2c.data.toList).toArray⟩ : ByteArray) = k_empty) = s.data.toList.all fun b => k_abcdefghijkl_h0e2e2c.data.toList.contains b := by
      rw [Bool.eq_iff_iff, decide_eq_true_eq, empty_iff, trim_nil]
    refine ⟨(decide (97 ≤ (u.toNat : Int)) && decide ((u.toNat : Int) ≤ 122)) && s.data.toList.all fun b => k_abcdefghijkl_h0e2e2c.data.toList.contains b, ?_, ?_⟩
    · unfold words_IsKey
      simp only [join_eq, hwin, if_true, Bool.true_and, chk_pos hb0, hu]
      by_cases g1 : 97 ≤ (u.toNat : Int)
      · simp only [g1, decide_true, if_true, Bool.true_and]
        by_cases g2 : (u.toNat : Int) ≤ 122
        · simp only [g2, decide_true, if_true, Bool.true_and, htrim, Option.bind_some, htr]
        · simp only [g2, decide_false, Bool.false_eq_true, if_false, Bool.false_and]
      · simp only [g1, decide_false, Bool.false_eq_true, if_false, Bool.false_and]
    · unfold tumbref2_Key
      simp only [join_eq, hin, if_true, Bool.true_and, chk_pos hc0, hone, Option.bind_some]
      cases hz : (decide (97 ≤ (u.toNat : Int)) && decide ((u.toNat : Int) ≤ 122)) with
      | true => simp only [if_true, hall, Option.bind_some, Bool.true_and]
      | false => simp only [Bool.false_eq_true, if_false, Bool.false_and]
  · refine ⟨false, ?_, ?_⟩
    · have hwin : (decide (1 ≤ (s.size : Int)) && decide ((s.size : Int) ≤ 40)) = false := by simp; omega
      unfold words_IsKey
      simp only [join_eq, hwin, Bool.false_eq_true, if_false, Bool.false_and]
    · have hin : tumbref2_in (s.size : Int) 1 40 = false := by unfold tumbref2_in; simp; omega
      unfold tumbref2_Key
      simp only [join_eq, hin, Bool.false_eq_true, if_false, Bool.false_and]
end Go.Proofs.YtpfommakhgkmeaaGreatDoor
