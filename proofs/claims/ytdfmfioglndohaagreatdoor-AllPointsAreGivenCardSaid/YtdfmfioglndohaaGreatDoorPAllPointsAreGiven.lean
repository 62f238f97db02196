/- The plain law of AllPointsAreGiven. No program stands here but its twins. -/
import Derived.Test.YtdfmfioglndohaaGreatDoorPPtsM
import Derived.Test.YtdfmfioglndohaaGreatDoorPReady
namespace Go.Proofs.YtdfmfioglndohaaGreatDoor
open Go
theorem sizeP {s : ByteArray} (h : s ∈ raceP ∨ s ∈ fiveP) : s.size ≤ 5 := by
  simp only [raceP, fiveP, List.mem_cons, List.not_mem_nil, or_false] at h
  rcases h with (rfl | rfl | rfl) | (rfl | rfl | rfl | rfl | rfl) <;> decide +kernel
theorem given_l (j : List GGiven → Option (List GGiven × Int)) : ∀ (R : List Gpoints_row) (i : Nat) (x : List GGiven), (∀ r ∈ R, r.x_.Race ∈ raceP ∧ r.x_.Who ∈ fiveP) → x.length + R.length ≤ 1000 →
    points_Given_l1 j R i x = j (x ++ R.map fun r => GGiven.mk ((r.x_.Race ++ k__20) ++ r.x_.Who) r.points_)
  | [], i, x, _, _ => by rw [points_Given_l1]; simp
  | r :: R, i, x, h, hl => by
    simp only [List.length_cons] at hl
    obtain ⟨h1, h2⟩ := h r List.mem_cons_self
    have s1 := sizeP (.inl h1)
    have s2 := sizeP (.inr h2)
    have s3 : k__20.size = 1 := by decide +kernel
    rw [points_Given_l1, chk_pos (by simp only [decide_eq_true_eq]; omega), chk_pos (by simp only [decide_eq_true_eq, ByteArray.size_append]; omega), chk_pos (by unfold room; simp; omega),
      given_l j R (i + 1) _ (fun z hz => h z (List.mem_cons_of_mem _ hz)) (by simp; omega)]
    simp
theorem all_l (j : Int → Int → Option (GFraction × Int)) : ∀ (R : List Gpoints_row) (i s : Nat), (∀ r ∈ R, Fo 6000 r.points_) → s + 6000 * R.length ≤ 1000000 → points_All_l1 j R i (fr s).Num (fr s).Den = j (fr (s + sumR R)).Num (fr (s + sumR R)).Den
  | [], i, s, _, _ => rfl
  | r :: R, i, s, h, hl => by
    simp only [List.length_cons] at hl
    have hf := h r List.mem_cons_self
    have hv := hf.2
    rw [points_All_l1, show GFraction.mk (fr s).Num (fr s).Den = fr s from rfl, hf.1, add_fr (by omega) (by omega), Option.bind_some, all_l j R (i + 1) (s + val r.points_) (fun z hz => h z (List.mem_cons_of_mem _ hz)) (by omega)]
    have : s + val r.points_ + sumR R = s + sumR (r :: R) := by simp only [sumR, List.map_cons, List.sum_cons]; omega
    rw [this]
theorem law_l1 (j : Int → Int → Option Bool) : ∀ (Y : List GGiven) (i s : Nat), (∀ y ∈ Y, Fo 90000 y.Points) → s + 90000 * Y.length ≤ 10000000 → tumbkeep2_AllPointsAreGiven_l1 j Y i (fr s).Num (fr s).Den = j (fr (s + sumG Y)).Num (fr (s + sumG Y)).Den
  | [], i, s, _, _ => rfl
  | y :: Y, i, s, h, hl => by
    simp only [List.length_cons] at hl
    have hf := h y List.mem_cons_self
    have hv := hf.2
    rw [tumbkeep2_AllPointsAreGiven_l1, hf.1, law_fr (by omega) (by omega), Option.bind_some, law_l1 j Y (i + 1) (s + val y.Points) (fun z hz => h z (List.mem_cons_of_mem _ hz)) (by omega)]
    have : s + val y.Points + sumG Y = s + sumG (y :: Y) := by simp only [sumG, List.map_cons, List.sum_cons]; omega
    rw [this]
theorem law_l2 (j : Int → Int → Option Bool) : ∀ (Y : List GGiven) (i s : Nat), (∀ y ∈ Y, Fo 90000 y.Points) → s + 90000 * Y.length ≤ 10000000 → tumbkeep2_AllPointsAreGiven_l2 j Y i (fr s).Num (fr s).Den = j (fr (s + sumG Y)).Num (fr (s + sumG Y)).Den
  | [], i, s, _, _ => rfl
  | y :: Y, i, s, h, hl => by
    simp only [List.length_cons] at hl
    have hf := h y List.mem_cons_self
    have hv := hf.2
    rw [tumbkeep2_AllPointsAreGiven_l2, hf.1, law_fr (by omega) (by omega), Option.bind_some, law_l2 j Y (i + 1) (s + val y.Points) (fun z hz => h z (List.mem_cons_of_mem _ hz)) (by omega)]
    have : s + val y.Points + sumG Y = s + sumG (y :: Y) := by simp only [sumG, List.map_cons, List.sum_cons]; omega
    rw [this]
theorem plain_AllPointsAreGiven (l : List Int) (hl : l.length ≤ 9223372036854775807) : tumbkeep2_AllPointsAreGiven l = some true := by
  have hL : LongL l := by unfold LongL; omega
  obtain ⟨t, a1, e1, p1, q1, ht⟩ := table_dr hL (a := 0) (by omega) (by omega)
  obtain ⟨_, a2, e2, p2, q2, Gs, rfl, hG⟩ := scored_dr hL (a := a1) (by omega) (by omega)
  obtain ⟨R, m, Y, r1, r2, r3, _, _, c1, y1, _, _, y4, y5⟩ := Clubs_is ht hG
  have hf : ∀ r ∈ R, Fo 6000 r.points_ := fun r hr => row_fo (r3 r hr)
  have hrow : ∀ r ∈ R, r.x_.Race ∈ raceP ∧ r.x_.Who ∈ fiveP := fun r hr => by
    have := hG.row _ (r3 r hr).1
    exact ⟨this.1, this.2.1⟩
  have hgiven : points_Given t Gs.flatten = some (R.map (fun r => GGiven.mk ((r.x_.Race ++ k__20) ++ r.x_.Who) r.points_), 0) := by
    unfold points_Given
    rw [both_ok ht hG]
    simp only [Option.bind_some, decide_true, Bool.not_true, Bool.false_eq_true, if_false, r1, join_eq]
    rw [given_l _ R 0 [] hrow (by simp; omega)]
    simp
  have h01 : fr 0 = ⟨0, 1⟩ := by decide +kernel
  have hall : points_All t Gs.flatten = some (fr (sumR R), 0) := by
    unfold points_All
    rw [both_ok ht hG]
    simp only [Option.bind_some, decide_true, Bool.not_true, Bool.false_eq_true, if_false, r1, join_eq]
    rw [none_fr, all_l _ R 0 0 hf (by omega), Nat.zero_add]
  have hsum : sumG (R.map fun r => GGiven.mk ((r.x_.Race ++ k__20) ++ r.x_.Who) r.points_) = sumR R := by
    unfold sumG sumR
    rw [List.map_map]; rfl
  have l1 := fun j => law_l1 j Y 0 0 y4 (by omega)
  have l2 := fun j => law_l2 j (R.map fun r => GGiven.mk ((r.x_.Race ++ k__20) ++ r.x_.Who) r.points_) 0 0 (fun y hy => by
    obtain ⟨r, hr, rfl⟩ := List.mem_map.1 hy
    exact ⟨(hf r hr).1, by have := (hf r hr).2; simp only; omega⟩) (by rw [List.length_map]; omega)
  rw [h01] at l1 l2
  simp only [Nat.zero_add] at l1 l2
  unfold tumbkeep2_AllPointsAreGiven
  rw [e1]; simp only [Option.bind_some]
  rw [e2]; simp only [Option.bind_some]
  rw [c1, hgiven, hall]
  simp only [Option.bind_some, join_eq]
  have he : tumbkeep2_errs [0, 0, 0] = 0 := by decide +kernel
  rw [he, if_neg (by simp), l1, l2, y5, hsum]
  rw [show GFraction.mk (fr (sumR R)).Num (fr (sumR R)).Den = fr (sumR R) from rfl]
  simp only [decide_true, Bool.and_self, if_true, ready_ok, Option.bind_some]
end Go.Proofs.YtdfmfioglndohaaGreatDoor
