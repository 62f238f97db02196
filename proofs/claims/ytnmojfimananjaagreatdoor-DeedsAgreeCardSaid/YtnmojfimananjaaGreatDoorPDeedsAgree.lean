/- The plain law of DeedsAgree. No program stands here but its twins. -/
import Derived.Test.YtnmojfimananjaaGreatDoorPRightDeeds
import Derived.Test.YtnmojfimananjaaGreatDoorPDeedText
import Derived.Test.YtnmojfimananjaaGreatDoorPCount
import Derived.Test.YtnmojfimananjaaGreatDoorPReady
namespace Go.Proofs.YtnmojfimananjaaGreatDoor
open Go
theorem agree_l1 (j : List GDeed → Option Bool) : ∀ (ys : List GDeed) (i : Nat) (x : List GDeed), x.length + ys.length ≤ 1000 → tumbkeep2_DeedsAgree_l1 j ys i x = j (x ++ ys.filter fun d => !decide (d.Kind = 4))
  | [], _, x, _ => by simp [tumbkeep2_DeedsAgree_l1]
  | y :: ys, i, x, h => by
    simp only [List.length_cons] at h
    rw [tumbkeep2_DeedsAgree_l1]
    simp only [joinR]
    by_cases hy : y.Kind = 4
    · rw [if_neg (by simp [hy]), agree_l1 j ys (i + 1) x (by omega), List.filter_cons_of_neg (by simp [hy])]
    · rw [if_pos (by simpa using hy), chkT (by unfold room; exact decide_eq_true (by omega)), agree_l1 j ys (i + 1) (x ++ [y]) (by simp; omega), List.filter_cons_of_pos (by simpa using hy)]
      simp
theorem agree_l2 (j : Option Bool) : ∀ (n k i : Nat), i = k → tumbkeep2_DeedsAgree_l2 j ((List.range' k n).map fun (i : Nat) => (i : Int)) i = j
  | 0, _, _, _ => by simp [tumbkeep2_DeedsAgree_l2]
  | n + 1, k, i, h => by
    subst h
    rw [List.range'_succ, List.map_cons, tumbkeep2_DeedsAgree_l2, if_neg (by simp)]
    exact agree_l2 j n (i + 1) (i + 1) rfl
theorem agree_l3 (r : Int × Int) (j : Int → Option Bool) : ∀ (ys : List GDeed) (i : Nat) (x : Int), 0 ≤ x → x + ys.length ≤ 1000 → tumbkeep2_DeedsAgree_l3 r j ys i x = j (x + (ys.countP fun d => decide (d.At ≤ r.1) : Nat))
  | [], _, x, _, _ => by simp [tumbkeep2_DeedsAgree_l3]
  | y :: ys, i, x, h0, h => by
    simp only [List.length_cons] at h
    push_cast at h
    rw [tumbkeep2_DeedsAgree_l3]
    simp only [joinR]
    by_cases hy : y.At ≤ r.1
    · rw [if_pos (decide_eq_true hy), W_in (by omega) (by omega), agree_l3 r j ys (i + 1) (x + 1) (by omega) (by omega), List.countP_cons_of_pos (by simpa using hy)]
      congr 1
      push_cast
      omega
    · rw [if_neg (by simpa using hy), agree_l3 r j ys (i + 1) x (by omega) (by omega), List.countP_cons_of_neg (by simpa using hy)]
theorem plain_DeedsAgree (l : List Int) (hl : l.length ≤ 9223372036854775807) : tumbkeep2_DeedsAgree l = some true := by
  have hL : LongL l := by unfold LongL; omega
  obtain ⟨n, a1, e1, p1, q1, n1, n2⟩ := range_dr hL (a := 0) (by omega) (by omega) 0 12 (by omega) (by omega) (by omega)
  obtain ⟨x, a2, e2, p2, q2, x1, x2⟩ := rightDeeds_dr hL n (by omega) (by omega) (a := a1) (by omega) (by omega)
  obtain ⟨t, a3, e3, p3, q3, t1, t2⟩ := range_dr hL (a := a2) (by omega) (by omega) 0 60 (by omega) (by omega) (by omega)
  have ht : words_IsMoment t = true := by unfold words_IsMoment; simp only [Bool.and_eq_true, decide_eq_true_eq]; omega
  obtain ⟨u, v, b, e4, s1, s2, s3⟩ := partsD_l l hL x 0 [] [] a3 (by omega) (by omega) (by simp; omega) (by simp; omega)
  have hparts : tumbkeep2_parts_Deed l a3 x = some (v, u, b) := by
    unfold tumbkeep2_parts_Deed
    rw [joinR]
    exact e4
  have m1 := merge_parts x2 (by omega) s2 s1 s3
  have m2 := merge_parts x2 (by omega) s1 s2 fun s hs => (s3 s hs).symm
  obtain ⟨tx, w1, w2⟩ := text_read x2 (by omega)
  have hsub : (x.filter fun d => !decide (d.Kind = 4)).Sublist x := List.filter_sublist
  have hy := x2.sub hsub
  have hylen := hsub.length_le
  have hc := count_is (x.filter fun d => !decide (d.Kind = 4)) t (by omega) (fun z hz => by simpa using (List.mem_filter.1 hz).2) hy.at_up
  have hcnt : meet_Counting (x.filter fun d => !decide (d.Kind = 4)) t = some ((List.range ((x.filter fun d => !decide (d.Kind = 4)).countP fun x => decide (x.At ≤ t))).map fun (i : Nat) => (i : Int), 0) := by
    unfold meet_Counting
    rw [hy.chk]
    simp only [Option.bind_some, decide_true, Bool.not_true, Bool.false_eq_true, if_false, ht, hc]
  have hz : tumbkeep2_errs [0, 0, 0, 0] = 0 := by decide +kernel
  unfold tumbkeep2_DeedsAgree
  rw [e1]; simp only [Option.bind_some]
  rw [e2]; simp only [Option.bind_some]
  rw [e3]; simp only [Option.bind_some]
  rw [hparts]; simp only [Option.bind_some]
  rw [m1]; simp only [Option.bind_some]
  rw [m2]; simp only [Option.bind_some]
  rw [w1]; simp only [Option.bind_some]
  rw [w2]; simp only [Option.bind_some, joinR, hz, decide_true, Bool.not_true, Bool.false_or, Bool.or_false, Bool.false_eq_true, if_false, eqDeed_is]
  rw [agree_l1 _ x 0 [] (by simp; omega), List.nil_append, hcnt]
  simp only [Option.bind_some]
  have hcl : (x.filter fun d => !decide (d.Kind = 4)).countP (fun x => decide (x.At ≤ t)) ≤ x.length := Nat.le_trans List.countP_le_length hylen
  rw [List.range_eq_range', agree_l2 _ _ 0 0 rfl, agree_l3 _ _ _ 0 0 (by omega) (by omega)]
  simp only [decide_true, Bool.true_and, List.length_map, List.length_range', Int.zero_add, if_true, ready_ok, Option.bind_some, Bool.and_self]
end Go.Proofs.YtnmojfimananjaaGreatDoor
