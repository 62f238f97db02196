/- Points of clubs: a map of sixtieths, and its entries in the order of their keys. No program stands here but its twins. -/
import Derived.Test.YtmdjmbbmlohnlaaGreatDoorPPtsC
namespace Go.Proofs.YtmdjmbbmlohnlaaGreatDoor
open Go
def val (f : GFraction) : Nat := (f.Num * 60 / f.Den).toNat
def sumM (m : List (ByteArray × Nat)) : Nat := (m.map (·.2)).sum
theorem mfind_key {ν : Type} (k : ByteArray) : ∀ (m : List (ByteArray × ν)) (i : Nat), k ∈ m.map (·.1) → ∃ n u, mfind m k i = some (n, u)
  | [], _, h => by cases h
  | (k', v') :: m, i, h => by
    simp only [mfind]
    split
    · exact ⟨i, v', rfl⟩
    · rename_i hne
      rcases List.mem_cons.1 h with e | h
      · exact (hne e).elim
      · exact mfind_key k m (i + 1) h
theorem mput_keys {ν : Type} (k : ByteArray) (v : ν) : ∀ (m : List (ByteArray × ν)), (m.map (·.1)).Nodup → ((mput m k v).map (·.1)).Nodup ∧ ∀ z, z ∈ (mput m k v).map (·.1) ↔ z = k ∨ z ∈ m.map (·.1)
  | [], _ => by simp [mput]
  | (k', v') :: m, h => by
    rw [List.map_cons, List.nodup_cons] at h
    simp only [mput]
    split
    · rename_i e
      subst e
      refine ⟨by rw [List.map_cons, List.nodup_cons]; exact h, fun z => ?_⟩
      simp only [List.map_cons, List.mem_cons]
      constructor
      · rintro (h | h)
        · exact .inl h
        · exact .inr (.inr h)
      · rintro (h | h | h)
        · exact .inl h
        · exact .inl h
        · exact .inr h
    · rename_i hne
      obtain ⟨h1, h2⟩ := mput_keys k v m h.2
      rw [List.map_cons, List.nodup_cons]
      refine ⟨⟨fun hm => ?_, h1⟩, fun z => ?_⟩
      · rcases (h2 _).1 hm with e | hm
        · exact hne e.symm
        · exact h.1 hm
      · simp only [List.map_cons, List.mem_cons, h2 z]
        constructor
        · rintro (h | h | h)
          · exact .inr (.inl h)
          · exact .inl h
          · exact .inr (.inr h)
        · rintro (h | h | h)
          · exact .inr (.inl h)
          · exact .inl h
          · exact .inr (.inr h)
structure MOk (m : List (ByteArray × Nat)) (S : Nat) : Prop where
  nodup : (m.map (·.1)).Nodup
  club : ∀ k ∈ m.map (·.1), k ∈ clubP ∧ k ≠ k_empty
  sum : sumM m = S
def ltG (x y : GGiven) : Bool := decide (points_sums_c1 x y < 0)
theorem ltG_cb (x y : GGiven) : ltG x y = decide (cB x.Key y.Key < 0) := rfl
theorem isortG_is (l : List GGiven) (hl : l.length ≤ 12) : slices_insertionSortCmpFunc_Given_points_sums_c1 l 0 (l.length : Int) = some (isort ltG l) := by
  unfold slices_insertionSortCmpFunc_Given_points_sums_c1
  simp only [joinR]
  have hins : ∀ (k : List GGiven → Option (List GGiven)) (rp : List GGiven) (x : GGiven) (post : List GGiven), ((rp ++ x :: post).length : Int) = (l.length : Int) → (∀ y, y ∈ rp ∨ y = x ∨ y ∈ post → y ∈ (rp ++ x :: post)) →
      slices_insertionSortCmpFunc_Given_points_sums_c1_l2 0 k (((rp.length : Int) - 0).toNat + 2) (rp.reverse ++ x :: post) (rp.length : Int) = k ((insR ltG x rp).reverse ++ post) := by
    intro k rp x post h1 _
    exact ins_l (fun x y k => k (ltG x y)) ltG k (slices_insertionSortCmpFunc_Given_points_sums_c1_l2 0 k) (fun _ _ _ => rfl) rp x post _ (by omega) (by simp at h1; omega) fun y _ k' => rfl
  cases l with
  | nil => rfl
  | cons x l =>
    have hw : W (0 + 1) = (([x] : List GGiven).length : Int) := rfl
    rw [hw]
    exact isort_l ltG (fun x => some x) (fun k x i => slices_insertionSortCmpFunc_Given_points_sums_c1_l2 0 k ((i - 0).toNat + 2) x i) (slices_insertionSortCmpFunc_Given_points_sums_c1_l1 ((x :: l).length : Int) 0 fun x => some x) ((x :: l).length : Int) (fun _ _ _ => rfl)
      (fun k rp x post h1 h2 => hins k rp x post h1 h2) l [x] _ (by simp only [List.length_cons, List.length_nil]; omega) (by simp only [List.length_cons, List.length_nil]; omega) (by simp only [List.length_cons, List.length_nil] at hl ⊢; omega)
theorem sortG_is (l : List GGiven) (hl : l.length ≤ 12) : slices_SortFunc_Given_points_sums_c1 l = some (isort ltG l) := by
  unfold slices_SortFunc_Given_points_sums_c1
  obtain ⟨r, hr⟩ := Option.isSome_iff_exists.1 (len_p ⟨l.length, by omega⟩)
  simp only at hr
  rw [hr]
  simp only [Option.bind_some]
  unfold slices_pdqsortCmpFunc_Given_points_sums_c1
  rw [show (4611686018427387904 : Nat) = 4611686018427387903 + 1 from rfl, slices_pdqsortCmpFunc_Given_points_sums_c1_l1, W_in (by omega) (by omega), if_pos (decide_eq_true (by omega)), isortG_is l hl]
  rfl
theorem nodup_len {α : Type} [DecidableEq α] : ∀ (l l' : List α), l.Nodup → (∀ x ∈ l, x ∈ l') → l.length ≤ l'.length
  | [], _, _, _ => by simp
  | x :: l, l', h, hs => by
    obtain ⟨h1, h2⟩ := List.nodup_cons.1 h
    have hx := hs x List.mem_cons_self
    have ih := nodup_len l (l'.erase x) h2 fun y hy => (List.mem_erase_of_ne (fun e => h1 (by rw [← e]; exact hy))).2 (hs y (List.mem_cons_of_mem _ hy))
    rw [List.length_erase_of_mem hx] at ih
    have := List.length_pos_of_mem hx
    simp only [List.length_cons]; omega
def gm (p : ByteArray × GFraction) : GGiven := GGiven.mk p.1 p.2
theorem sums_l1 (j : List GGiven → Option (List GGiven)) : ∀ (p : List (ByteArray × GFraction)) (x : List GGiven), x.length + p.length ≤ 1000 → points_sums_l1 j p x = j (x ++ p.map gm)
  | [], x, _ => by rw [points_sums_l1]; simp
  | y :: p, x, h => by
    simp only [List.length_cons] at h
    rw [points_sums_l1, chk_pos (by unfold room; simp; omega), Option.bind_some, sums_l1 j p (x ++ [GGiven.mk y.1 y.2]) (by simp; omega)]
    simp [gm]
end Go.Proofs.YtmdjmbbmlohnlaaGreatDoor
