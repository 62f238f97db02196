/- Timetable and Ends, as the law asks. No program stands here but its twins. -/
import Derived.Test.YtoffbgomfcmfmaaGreatDoorPBegin
import Derived.Test.YtoffbgomfcmfmaaGreatDoorPEqW
namespace Go.Proofs.YtoffbgomfcmfmaaGreatDoor
open Go
theorem begin_eq (l : List GItem) (t : Int) (hg : ∀ x ∈ l, Good x) (hl : l.length ≤ 100) : ∃ s f, session_begin l t = some (s, f) ∧ tumbref2_FromFault l t = some f ∧ (f = 0 → 0 ≤ t ∧ t ≤ 345686400000 ∧ s = tt l t) ∧ (f ≠ 0 → s = []) := by
  unfold session_begin tumbref2_FromFault
  rw [moment_eq, join_eq]
  cases hm : tumbref2_Moment t with
  | false => exact ⟨[], 1, by simp, by simp, fun h => absurd h (by decide), fun _ => rfl⟩
  | true =>
    have ht : 0 ≤ t ∧ t ≤ 345686400000 := by
      unfold tumbref2_Moment tumbref2_in at hm
      simp at hm
      omega
    have hlen := tt_len l t hg
    simp only [Bool.not_true, Bool.false_eq_true, if_false, Bool.false_or]
    rw [timetable_eq l t hg hl ht.1 ht.2, endOf_eq l t hg hl ht.1 ht.2]
    simp only [Option.bind_some]
    rw [end_eq _ _ (by omega)]
    simp only [Option.bind_some]
    by_cases h : 345686400000 < lastTo (tt l t) t
    · exact ⟨[], 1, by simp [h], by simp [h], fun h => absurd h (by decide), fun _ => rfl⟩
    · exact ⟨tt l t, 0, by simp [h], by simp [h], fun _ => ⟨ht.1, ht.2, rfl⟩, fun h => absurd rfl h⟩
/-- What the four asks of the timetable answer, by one fault. -/
theorem timetable_law (l : List GItem) (t : Int) : ∃ e f s, tumbref2_ItemsFault l = some e ∧ session_CheckItems l = some e ∧ session_Timetable l t = some (s, f) ∧ session_Ends l t = some (if f = 0 then lastTo s t else 0, f) ∧
    (e ≠ 0 → f = e ∧ s = []) ∧ (e = 0 → tumbref2_FromFault l t = some f ∧ l.length ≤ 100 ∧ ∀ x ∈ l, Good x) ∧ (f = 0 → e = 0 ∧ 0 ≤ t ∧ t ≤ 345686400000 ∧ s = tt l t) ∧ (f ≠ 0 → s = []) := by
  obtain ⟨e, h1, h2, h3⟩ := check_eq l
  by_cases he : e = 0
  · subst he
    obtain ⟨hl, hg⟩ := h3 rfl
    obtain ⟨s, f, b1, b2, b3, b4⟩ := begin_eq l t hg hl
    have hT : session_Timetable l t = some (s, f) := by
      unfold session_Timetable
      rw [h1]
      simp [b1]
    refine ⟨0, f, s, h2, h1, hT, ?_, fun h => absurd rfl h, fun _ => ⟨b2, hl, hg⟩, fun h => ⟨rfl, b3 h⟩, b4⟩
    unfold session_Ends
    rw [hT]
    by_cases hf : f = 0
    · have hs := b3 hf
      have hlen := tt_len l t hg
      subst hf
      simp only [Option.bind_some, decide_true, Bool.not_true, Bool.false_eq_true, if_false, if_true]
      rw [end_eq s t (by rw [hs.2.2]; omega)]
      rfl
    · simp [hf]
  · have hT : session_Timetable l t = some ([], e) := by
      unfold session_Timetable
      rw [h1]
      simp [he]
    refine ⟨e, e, [], h2, h1, hT, ?_, fun _ => ⟨rfl, rfl⟩, fun h => absurd h he, fun h => absurd h he, fun _ => rfl⟩
    unfold session_Ends
    rw [hT]
    simp [he]
end Go.Proofs.YtoffbgomfcmfmaaGreatDoor
