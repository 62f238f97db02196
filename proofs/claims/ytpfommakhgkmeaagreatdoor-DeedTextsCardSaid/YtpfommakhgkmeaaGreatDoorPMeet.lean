/- A meet at a moment: the deeds that count, and who is entered. No program stands here but its twins. -/
import Derived.Test.YtpfommakhgkmeaaGreatDoorPMeetSort
import Derived.Test.YtpfommakhgkmeaaGreatDoorPCount
import Derived.Test.YtpfommakhgkmeaaGreatDoorPDeedMerge
namespace Go.Proofs.YtpfommakhgkmeaaGreatDoor
open Go
def keepD (at_ : Int) : List GDeed → List (Gmeet_place × Bool) → List GDeed
  | [], _ => []
  | d :: ds, m => if decide (at_ < d.At) || mgetD m (meet_placeOf d) false then keepD at_ ds m else
    d :: keepD at_ ds (if decide (d.Kind = 4) then mput m (Gmeet_place.mk d.Of d.Other) true else m)
def factsD (l : List GDeed) (at_ : Int) : List GDeed := (keepD at_ l.reverse []).reverse
def keepI (l : List GDeed) (at_ : Int) : List Nat → List (Gmeet_place × Bool) → List Nat
  | [], _ => []
  | i :: is, m => if decide (at_ < (nth l (i : Int)).At) || mgetD m (meet_placeOf (nth l (i : Int))) false then keepI l at_ is m else
    i :: keepI l at_ is (if decide ((nth l (i : Int)).Kind = 4) then mput m (Gmeet_place.mk (nth l (i : Int)).Of (nth l (i : Int)).Other) true else m)
theorem keepI_sub (l : List GDeed) (at_ : Int) : ∀ (is : List Nat) (m : List (Gmeet_place × Bool)), (keepI l at_ is m).Sublist is
  | [], _ => List.Sublist.refl _
  | i :: is, m => by
    rw [keepI]
    split
    · exact (keepI_sub l at_ is m).cons i
    · exact (keepI_sub l at_ is _).cons_cons i
theorem keepI_map (l : List GDeed) (at_ : Int) : ∀ (is : List Nat) (m : List (Gmeet_place × Bool)), (keepI l at_ is m).map (fun (i : Nat) => nth l (i : Int)) = keepD at_ (is.map fun (i : Nat) => nth l (i : Int)) m
  | [], _ => rfl
  | i :: is, m => by
    rw [keepI, List.map_cons, keepD]
    split
    · exact keepI_map l at_ is m
    · rw [List.map_cons, keepI_map l at_ is _]
theorem counting_l (l : List GDeed) (at_ : Int) : ∀ (is : List Nat) (m : List (Gmeet_place × Bool)) (x : List Int), x.length + is.length ≤ 1000000 →
    meet_counting_l1 l at_ is m x = slices_Reverse_int (x ++ (keepI l at_ is m).map fun (i : Nat) => (i : Int))
  | [], _, x, _ => by rw [meet_counting_l1]; simp [keepI]
  | i :: is, m, x, hl => by
    simp only [List.length_cons] at hl
    rw [meet_counting_l1, keepI]
    unfold meet_cntQ
    by_cases h : (decide (at_ < (nth l (i : Int)).At) || mgetD m (meet_placeOf (nth l (i : Int))) false) = true
    · rw [if_pos h, if_pos h]
      exact counting_l l at_ is m x (by omega)
    · rw [if_neg h, if_neg h, chk_pos (by unfold room; exact decide_eq_true (by omega)), counting_l l at_ is _ (x ++ [(i : Int)]) (by simp; omega)]
      simp
def cntI (l : List GDeed) (at_ : Int) : List Nat := (keepI l at_ (revI l.length) []).reverse
theorem counting_is (l : List GDeed) (at_ : Int) (hl : l.length ≤ 1000000) : meet_counting l at_ = some ((cntI l at_).map fun (i : Nat) => (i : Int)) := by
  have h2 : (revI l.length).length = l.length := by simp [revI]
  have h3 := (keepI_sub l at_ (revI l.length) []).length_le
  unfold meet_counting
  rw [counting_l l at_ (revI l.length) [] [] (by simp; omega), List.nil_append, reverse_is _ (by rw [List.length_map]; omega), ← List.map_reverse]
  rfl
theorem cntI_lt {l : List GDeed} {at_ : Int} {i : Nat} (h : i ∈ cntI l at_) : i < l.length := by
  unfold cntI at h
  rw [List.mem_reverse] at h
  have := (keepI_sub l at_ (revI l.length) []).subset h
  unfold revI at this
  simpa using this
theorem cntI_facts (l : List GDeed) (at_ : Int) : (cntI l at_).map (fun (i : Nat) => nth l (i : Int)) = factsD l at_ := by
  unfold cntI factsD
  rw [List.map_reverse, keepI_map]
  congr 2
  unfold revI
  rw [List.map_reverse, range_nth]
theorem stateAt_l (p : GPlan) (l : List GDeed) : ∀ (is : List Nat) (k : Nat) (x : List GDeed), (∀ i ∈ is, i < l.length) → x.length + is.length ≤ 1000000 →
    meet_stateAt_l1 l (fun x1 => some (some (Gmeet_state.mk p x1))) (is.map fun (i : Nat) => (i : Int)) k x = some (some (Gmeet_state.mk p (x ++ is.map fun (i : Nat) => nth l (i : Int))))
  | [], k, x, _, _ => by simp [meet_stateAt_l1]
  | i :: is, k, x, hi, hl => by
    simp only [List.length_cons] at hl
    have h1 := hi i List.mem_cons_self
    rw [List.map_cons, meet_stateAt_l1, chk_pos (inB_iff.2 ⟨by omega, by omega⟩), chk_pos (by unfold room; exact decide_eq_true (by omega)), stateAt_l p l is (k + 1) (x ++ [nth l (i : Int)]) (fun j hj => hi j (List.mem_cons_of_mem _ hj)) (by simp; omega)]
    simp
theorem stateAt_is (p : GPlan) (l : List GDeed) (at_ : Int) (hl : l.length ≤ 1000000) : meet_stateAt p l at_ = some (some (Gmeet_state.mk p (factsD l at_))) := by
  have h3 := (keepI_sub l at_ (revI l.length) []).length_le
  have h2 : (revI l.length).length = l.length := by simp [revI]
  unfold meet_stateAt
  rw [counting_is l at_ hl]
  simp only [Option.bind_some, joinR]
  rw [stateAt_l p l (cntI l at_) 0 [] (fun i hi => cntI_lt hi) (by unfold cntI; simp; omega), List.nil_append, cntI_facts]
def entS (race : ByteArray) (m : List (ByteArray × GDeed)) (y : GDeed) : List (ByteArray × GDeed) :=
  if y.Race = race then if y.Kind = 1 then mput m y.Who y else if y.Kind = 2 then mdel m y.Who else m else m
def entM (race : ByteArray) (l : List GDeed) : List (ByteArray × GDeed) := l.foldl (entS race) []
def entL (race : ByteArray) (l : List GDeed) : List GDeed := isort ltW ((entM race l).map (·.2))
theorem entered_l1 (race : ByteArray) (j : List (ByteArray × GDeed) → Option (List GDeed)) : ∀ (ys : List GDeed) (i : Nat) (m : List (ByteArray × GDeed)), state_entered_l1 race j ys i m = j (ys.foldl (entS race) m)
  | [], _, m => by rw [state_entered_l1]; rfl
  | y :: ys, i, m => by
    rw [state_entered_l1]
    simp only [joinR, List.foldl_cons]
    unfold entS
    by_cases hr : y.Race = race
    · rw [if_neg (by simp [hr]), if_pos hr]
      by_cases h1 : y.Kind = 1
      · rw [if_pos (decide_eq_true h1), if_pos h1]
        exact entered_l1 race j ys (i + 1) _
      · rw [if_neg (by simpa using h1), if_neg h1]
        by_cases h2 : y.Kind = 2
        · rw [if_pos (decide_eq_true h2), if_pos h2]
          exact entered_l1 race j ys (i + 1) _
        · rw [if_neg (by simpa using h2), if_neg h2]
          exact entered_l1 race j ys (i + 1) _
    · rw [if_pos (by simpa using hr), if_neg hr]
      exact entered_l1 race j ys (i + 1) _
theorem entered_l2 (j : List GDeed → Option (List GDeed)) : ∀ (p : List (ByteArray × GDeed)) (x : List GDeed), x.length + p.length ≤ 1000000 → state_entered_l2 j p x = j (x ++ p.map (·.2))
  | [], x, _ => by simp [state_entered_l2]
  | y :: p, x, h => by
    simp only [List.length_cons] at h
    rw [state_entered_l2, chk_pos (by unfold room; exact decide_eq_true (by omega))]
    simp only [Option.bind_some]
    rw [entered_l2 j p (x ++ [y.2]) (by simp; omega)]
    simp
theorem mput_nd {κ ν : Type} [DecidableEq κ] (k : κ) (v : ν) : ∀ m : List (κ × ν), (m.map (·.1)).Nodup → ((mput m k v).map (·.1)).Nodup ∧ ∀ x, x ∈ (mput m k v).map (·.1) ↔ x = k ∨ x ∈ m.map (·.1)
  | [], _ => ⟨by simp [mput], fun x => by simp [mput]⟩
  | (q, u) :: m, h => by
    simp only [List.map_cons, List.nodup_cons] at h
    obtain ⟨i1, i2⟩ := mput_nd k v m h.2
    by_cases e : k = q
    · subst e
      simp only [mput, if_true, List.map_cons, List.nodup_cons]
      exact ⟨h, fun x => by simp⟩
    · simp only [mput, e, if_false, List.map_cons, List.nodup_cons]
      refine ⟨⟨fun hm => ((i2 q).1 hm).elim (fun h1 => e h1.symm) h.1, i1⟩, fun x => ?_⟩
      rw [List.mem_cons, i2 x, List.mem_cons]
      constructor
      · rintro (h1 | h1 | h1)
        · exact .inr (.inl h1)
        · exact .inl h1
        · exact .inr (.inr h1)
      · rintro (h1 | h1 | h1)
        · exact .inr (.inl h1)
        · exact .inl h1
        · exact .inr (.inr h1)
theorem mdel_sub {κ ν : Type} [DecidableEq κ] (k : κ) : ∀ m : List (κ × ν), (mdel m k).Sublist m
  | [] => List.Sublist.refl _
  | (q, u) :: m => by
    by_cases e : k = q
    · simp only [mdel, e, if_true]; exact List.sublist_cons_self _ _
    · simp only [mdel, e, if_false]; exact (mdel_sub k m).cons_cons _
theorem mput_mem {κ ν : Type} [DecidableEq κ] (k : κ) (v : ν) : ∀ (m : List (κ × ν)) (p : κ × ν), p ∈ mput m k v → p = (k, v) ∨ p ∈ m
  | [], p, h => by simp [mput] at h; exact .inl h
  | (q, u) :: m, p, h => by
    by_cases e : k = q
    · simp only [mput, e, if_true, List.mem_cons] at h
      rcases h with h | h
      · exact .inl (by rw [h, e])
      · exact .inr (List.mem_cons_of_mem _ h)
    · simp only [mput, e, if_false, List.mem_cons] at h
      rcases h with h | h
      · exact .inr (by rw [h]; exact List.mem_cons_self)
      · exact (mput_mem k v m p h).imp id (List.mem_cons_of_mem _)
structure EntOk (race : ByteArray) (l : List GDeed) (m : List (ByteArray × GDeed)) : Prop where
  nd : (m.map (·.1)).Nodup
  is : ∀ p ∈ m, p.1 = p.2.Who ∧ p.2.Race = race ∧ p.2.Kind = 1 ∧ p.2 ∈ l
theorem entOk_l (race : ByteArray) (l : List GDeed) : ∀ (ys : List GDeed) (m : List (ByteArray × GDeed)), (∀ y ∈ ys, y ∈ l) → EntOk race l m → EntOk race l (ys.foldl (entS race) m)
  | [], m, _, h => h
  | y :: ys, m, hy, h => by
    rw [List.foldl_cons]
    refine entOk_l race l ys _ (fun z hz => hy z (List.mem_cons_of_mem _ hz)) ?_
    unfold entS
    split
    · rename_i hr
      split
      · rename_i h1
        obtain ⟨a, _⟩ := mput_nd y.Who y m h.nd
        refine ⟨a, fun p hp => ?_⟩
        rcases mput_mem _ _ m p hp with rfl | hp
        · exact ⟨rfl, hr, h1, hy y List.mem_cons_self⟩
        · exact h.is p hp
      · split
        · exact ⟨h.nd.sublist ((mdel_sub y.Who m).map _), fun p hp => h.is p ((mdel_sub y.Who m).subset hp)⟩
        · exact h
    · exact h
theorem entOk (race : ByteArray) (l : List GDeed) : EntOk race l (entM race l) := entOk_l race l l [] (fun _ h => h) ⟨by simp, fun _ h => by cases h⟩
theorem ent_whos {race : ByteArray} {l : List GDeed} {m : List (ByteArray × GDeed)} (h : EntOk race l m) : (m.map (·.2)).map (·.Who) = m.map (·.1) := by
  rw [List.map_map]
  exact List.map_congr_left fun p hp => (h.is p hp).1.symm
theorem entered_is (p : GPlan) (l : List GDeed) (race : ByteArray) (hl : (entM race l).length ≤ 12) : state_entered p l race = some (entL race l) := by
  have ho := entOk race l
  unfold state_entered
  simp only [joinR]
  rw [entered_l1]
  refine allP_is fun q hq => ?_
  have hql : q.length = (entM race l).length := hq.length_eq
  rw [entered_l2 _ q [] (by simp; omega), List.nil_append, sortW_is _ (by rw [List.length_map]; omega)]
  simp only [Option.bind_some]
  have hnd : (((entM race l).map (·.2)).map (·.Who)).Nodup := by rw [ent_whos ho]; exact ho.nd
  have hp : (q.map (·.2)).Perm ((entM race l).map (·.2)) := hq.map _
  congr 1
  exact isort_is ltW_irr ltW_trans _ _ (ltW_tot ((hp.map (·.Who)).nodup_iff.2 hnd)) (isort_asc ltW_trans _ (ltW_tot hnd)) fun x => by rw [hp.mem_iff]; exact (isort_mem _ _ _).symm
end Go.Proofs.YtpfommakhgkmeaaGreatDoor
