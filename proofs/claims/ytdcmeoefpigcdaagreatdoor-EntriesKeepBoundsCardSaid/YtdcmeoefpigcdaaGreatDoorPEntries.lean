/- The program's check of entries is the reference's. No program stands here but its twins. -/
import Derived.Test.YtdcmeoefpigcdaaGreatDoorPKey2
import Derived.Test.YtdcmeoefpigcdaaGreatDoorPMaps
namespace Go.Proofs.YtdcmeoefpigcdaaGreatDoor
open Go
theorem index_entry (v : GEntry) : ∀ (l : List GEntry) (i : Nat), decide (0 ≤ slices_Index_Entry_l1 v (-1) l i) = l.any fun x => decide (v = x)
  | [], i => rfl
  | y :: l, i => by
    rw [slices_Index_Entry_l1, List.any_cons]
    by_cases h : v = y
    · simp [h]
    · rw [if_neg (by simpa using h), index_entry v l (i + 1)]
      simp [h]
theorem contains_entry (l : List GEntry) (v : GEntry) : slices_Contains_Entry l v = l.any fun x => decide (v = x) := index_entry v l 0
/-- Some entry stands twice, the second time among ys, behind dn. -/
def twice : List GEntry → List GEntry → Bool
  | _, [] => false
  | dn, y :: ys => (dn.any fun x => decide (y = x)) || twice (dn ++ [y]) ys
theorem entries_l2 (l : List GEntry) : ∀ (ys dn : List GEntry), l = dn ++ ys → tumbref2_EntriesFault_l2 l (some 0) ys dn.length = some (if twice dn ys then 6 else 0) := by
  intro ys
  induction ys with
  | nil => intro dn _; rfl
  | cons y ys ih =>
    intro dn h
    rw [tumbref2_EntriesFault_l2, chk_pos (by rw [cutB_iff, h]; simp; omega), contains_entry, twice]
    have hc : cut l 0 (dn.length : Int) = dn := by rw [h]; simp [cut]
    rw [hc]
    have := ih (dn ++ [y]) (by rw [h]; simp)
    rw [List.length_append, List.length_singleton] at this
    cases dn.any fun x => decide (y = x) with
    | true => rfl
    | false => simpa using this
theorem entries_both (l : List GEntry) : ∀ (ys dn : List GEntry) (m : List (GEntry × Bool)) (x : Bool), (∀ k, mgetD m k false = dn.any fun z => decide (k = z)) →
    ∃ e, swimmer_CheckEntries_l1 (fun _ x2 => if x2 = true then some 6 else some 0) ys dn.length m x = some e ∧ tumbref2_EntriesFault_l1 (some (if x || twice dn ys then 6 else 0)) ys dn.length = some e := by
  intro ys
  induction ys with
  | nil =>
    intro dn m x _
    cases x
    · exact ⟨0, rfl, rfl⟩
    · exact ⟨6, rfl, rfl⟩
  | cons y ys ih =>
    intro dn m x hm
    rw [swimmer_CheckEntries_l1, tumbref2_EntriesFault_l1]
    obtain ⟨b, e1, e2⟩ := isKey_eq y.Who
    obtain ⟨c, e3, e4⟩ := isKey_eq y.Race
    rw [e1, e2, e3, e4]
    simp only [Option.bind_some, join_eq]
    obtain ⟨e, g1, g2⟩ := ih (dn ++ [y]) (mput m y true) (x || mgetD m y false) (fun k => by
      rw [mgetPut, hm k, List.any_append]
      by_cases h : k = y
      · simp [h]
      · simp [h])
    rw [List.length_append, List.length_singleton] at g1 g2
    rw [twice, ← hm y, ← Bool.or_assoc]
    cases b <;> cases c <;> simp only [Bool.not_true, Bool.not_false, Bool.or_true, Bool.true_or, Bool.or_self, Bool.or_false, Bool.false_or, if_true, if_false, Bool.false_eq_true] <;> first | exact ⟨5, rfl, rfl⟩ | exact ⟨e, g1, g2⟩
theorem entries_eq (l : List GEntry) : ∃ e, swimmer_CheckEntries l = some e ∧ tumbref2_EntriesFault l = some e ∧ (e = 0 → l.length ≤ 1500) := by
  unfold swimmer_CheckEntries tumbref2_EntriesFault
  by_cases h : 1500 < (l.length : Int)
  · rw [if_pos (decide_eq_true h), if_pos (decide_eq_true h)]; exact ⟨2, rfl, rfl, fun h => by cases h⟩
  · rw [if_neg (by simpa using h), if_neg (by simpa using h)]
    simp only [join_eq]
    have h2 := entries_l2 l l [] rfl
    obtain ⟨e, g1, g2⟩ := entries_both l l [] [] false (fun k => by simp [mgetD, mget, mfind])
    simp only [List.length_nil] at h2 g1 g2
    rw [h2]
    exact ⟨e, g1, by simpa using g2, fun _ => by omega⟩
end Go.Proofs.YtdcmeoefpigcdaaGreatDoor
