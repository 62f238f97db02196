/- Deeds that count, where none is undone. No program stands here but its twins. -/
import Derived.Test.YtpfommakhgkmeaaGreatDoorPDeeds
namespace Go.Proofs.YtpfommakhgkmeaaGreatDoor
open Go
theorem nthMidC (P : List Int) (v : Int) (Q : List Int) : nth (P ++ v :: Q) (P.length : Int) = v := by unfold nth; simp
theorem setMidC (P : List Int) (v u : Int) (Q : List Int) : (P ++ v :: Q).set P.length u = P ++ u :: Q := by simp
theorem rev_l (j : List Int → Option (List Int)) : ∀ (k m : Nat) (A M B : List Int), M.length ≤ k → M.length < m → A.length + M.length + B.length ≤ 1000000 →
    slices_Reverse_int_l1 j m (A ++ (M ++ B)) (A.length : Int) ((A.length : Int) + (M.length : Int) - 1) = j (A ++ (M.reverse ++ B))
  | k, 0, A, M, B, _, h, _ => by omega
  | k, m + 1, A, M, B, hk, hm, hl => by
    rw [slices_Reverse_int_l1]
    match M, hk, hm, hl with
    | [], _, _, _ => rw [if_neg (by simp; omega)]; rfl
    | [z], _, _, _ => rw [if_neg (by simp)]; rfl
    | a :: z :: M1, hk, hm, hl =>
      obtain ⟨M2, b, hM⟩ : ∃ M2 b, z :: M1 = M2 ++ [b] := by
        rcases List.eq_nil_or_concat (z :: M1) with h | ⟨M2, b, h⟩
        · cases h
        · exact ⟨M2, b, by rw [h]; simp⟩
      rw [hM] at hk hm hl ⊢
      simp only [List.length_cons, List.length_append, List.length_nil] at hk hm hl ⊢
      have hlen : (A ++ (a :: (M2 ++ [b]) ++ B)).length = A.length + M2.length + 2 + B.length := by simp; omega
      have e3 : (A.length : Int) + ((M2.length + (0 + 1) + 1 : Nat) : Int) - 1 = ((A.length + M2.length + 1 : Nat) : Int) := by omega
      rw [e3, if_pos (decide_eq_true (by omega))]
      have n2 : nth (A ++ (a :: (M2 ++ [b]) ++ B)) (A.length : Int) = a := by rw [List.cons_append]; exact nthMidC _ _ _
      have h1 : A ++ (a :: (M2 ++ [b]) ++ B) = (A ++ a :: M2) ++ b :: B := by simp
      have h2 : (A ++ a :: M2).length = A.length + M2.length + 1 := by simp; omega
      have n3 : nth (A ++ (a :: (M2 ++ [b]) ++ B)) ((A.length + M2.length + 1 : Nat) : Int) = b := by
        rw [h1, ← h2]; exact nthMidC _ _ _
      have hs : ((A ++ (a :: (M2 ++ [b]) ++ B)).set ((A.length : Int)).toNat b).set (((A.length + M2.length + 1 : Nat) : Int)).toNat a = (A ++ [b]) ++ (M2 ++ (a :: B)) := by
        rw [Int.toNat_natCast, Int.toNat_natCast]
        have q1 : (A ++ (a :: (M2 ++ [b]) ++ B)).set A.length b = (A ++ b :: M2) ++ b :: B := by
          rw [List.cons_append, setMidC]; simp
        have q2 : (A ++ b :: M2).length = A.length + M2.length + 1 := by simp; omega
        rw [q1, ← q2, setMidC]
        simp
      rw [chk_pos (inB_iff.2 (by omega)), chk_pos (inB_iff.2 (by omega)), chk_pos (inB_iff.2 (by omega)), chk_pos (inB_iff.2 (by rw [List.length_set]; omega)), n2, n3, hs, W_in (by omega) (by omega), W_in (by omega) (by omega)]
      have ih := rev_l j (k - 2) m (A ++ [b]) M2 (a :: B) (by omega) (by omega) (by simp; omega)
      have e1 : (((A ++ [b]).length : Nat) : Int) = (A.length : Int) + 1 := by simp
      rw [e1] at ih
      have e2 : (A.length : Int) + 1 + (M2.length : Int) - 1 = ((A.length + M2.length + 1 : Nat) : Int) - 1 := by omega
      rw [e2] at ih
      rw [ih]
      simp
theorem reverse_is (l : List Int) (hl : l.length ≤ 1000000) : slices_Reverse_int l = some l.reverse := by
  unfold slices_Reverse_int
  rw [join_eq, W_in (by omega) (by omega)]
  have h := rev_l (fun x => some x) l.length (((l.length : Int) - 1 - 0).toNat + 2) [] l [] (Nat.le_refl _) (by omega) (by simp; omega)
  simpa using h
theorem range_nth (l : List GDeed) : (List.range l.length).map (fun (i : Nat) => nth l (i : Int)) = l := by
  apply List.ext_getElem
  · simp
  · intro i h1 h2
    simp [nth, List.getD, List.getElem?_eq_getElem h2]
end Go.Proofs.YtpfommakhgkmeaaGreatDoor
