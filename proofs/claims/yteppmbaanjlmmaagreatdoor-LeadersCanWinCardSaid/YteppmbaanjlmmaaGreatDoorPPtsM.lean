/- Points of clubs: a map of sixtieths, and its entries in the order of their keys. No program stands here but its twins. -/
import Derived.Test.YteppmbaanjlmmaaGreatDoorPPtsC
namespace Go.Proofs.YteppmbaanjlmmaaGreatDoor
open Go
/-- How many sixtieths. -/
def val (f : GFraction) : Nat := (f.Num * 60 / f.Den).toNat
theorem val_fr (v : Nat) : val (fr v) = v := by
  obtain ⟨n, d, e, h1, h2, h3, h4⟩ := fr_parts v
  unfold val
  rw [e]
  simp only
  rw [show (n : Int) * 60 = ((v * d : Nat) : Int) by rw [← h4]; push_cast; rfl, ← Int.natCast_ediv, Int.toNat_natCast, Nat.mul_div_cancel _ h1]
/-- A fraction that is so many sixtieths, not too many. -/
def Fo (B : Nat) (f : GFraction) : Prop := f = fr (val f) ∧ val f ≤ B
theorem fo_fr {B v : Nat} (h : v ≤ B) : Fo B (fr v) := ⟨by rw [val_fr], by rw [val_fr]; exact h⟩
theorem row_fo {L : List GScored} {r : Gpoints_row} (h : RowOk L r) : Fo 6000 r.points_ := by
  obtain ⟨_, _, v, hv, e⟩ := h
  rw [e]; exact fo_fr hv
def sumR (R : List Gpoints_row) : Nat := (R.map fun r => val r.points_).sum
def sumG (Y : List GGiven) : Nat := (Y.map fun y => val y.Points).sum
theorem sumR_le : ∀ (R : List Gpoints_row), (∀ r ∈ R, Fo 6000 r.points_) → sumR R ≤ 6000 * R.length
  | [], _ => by simp [sumR]
  | r :: R, h => by
    have := sumR_le R fun z hz => h z (List.mem_cons_of_mem _ hz)
    have := (h r List.mem_cons_self).2
    simp only [sumR, List.map_cons, List.sum_cons, List.length_cons] at *
    omega
theorem sumG_mem {Y : List GGiven} {y : GGiven} (h : y ∈ Y) : val y.Points ≤ sumG Y := by
  induction Y with
  | nil => cases h
  | cons z Y ih =>
    simp only [sumG, List.map_cons, List.sum_cons] at *
    rcases List.mem_cons.1 h with rfl | h
    · omega
    · have := ih h; omega
/-! ### The map -/
def mf (p : ByteArray × Nat) : ByteArray × GFraction := (p.1, fr p.2)
theorem mput_mf (k : ByteArray) (v : Nat) : ∀ (m : List (ByteArray × Nat)), mput (m.map mf) k (fr v) = (mput m k v).map mf
  | [] => rfl
  | (k', v') :: m => by
    simp only [List.map_cons, mf, mput]
    split
    · rfl
    · have := mput_mf k v m
      simp only [List.map_cons, mf] at *
      rw [this]
theorem mfind_mf (k : ByteArray) : ∀ (m : List (ByteArray × Nat)) (i : Nat), (mfind (m.map mf) k i).map (·.2) = ((mfind m k i).map (·.2)).map fr
  | [], _ => rfl
  | (k', v') :: m, i => by
    simp only [List.map_cons, mf, mfind]
    split
    · rfl
    · exact mfind_mf k m (i + 1)
theorem mget_mf (k : ByteArray) (m : List (ByteArray × Nat)) : mget (m.map mf) k = (mget m k).map fr := mfind_mf k m 0
def sumM (m : List (ByteArray × Nat)) : Nat := (m.map (·.2)).sum
theorem mfind_key {ν : Type} (k : ByteArray) : ∀ (m : List (ByteArray × ν)) (i : Nat), k ∈ m.map (·.1) → ∃ n u, mfind m k i = some (n, u)
  | [], _, h => by cases h
  | (k', v') :: m, i, h => by
    simp only [mfind]
    split
    · exact ⟨i, v', rfl⟩
    · rename_i hne
      rcases List.mem_cons.1 h with e | h
      · exact (hne e).elim
      · exact mfind_key k m (i + 1) h
theorem mput_sum (k : ByteArray) (v : Nat) : ∀ (m : List (ByteArray × Nat)) (i n u : Nat), mfind m k i = some (n, u) → sumM (mput m k v) + u = sumM m + v ∧ (mput m k v).map (·.1) = m.map (·.1)
  | [], _, _, _, h => by cases h
  | (k', v') :: m, i, n, u, h => by
    simp only [mfind] at h
    split at h
    · rename_i e
      cases h
      simp only [mput, e, if_true, sumM, List.map_cons, List.sum_cons]
      exact ⟨by omega, trivial⟩
    · rename_i hne
      obtain ⟨h1, h2⟩ := mput_sum k v m (i + 1) n u h
      simp only [mput, hne, if_false, sumM, List.map_cons, List.sum_cons] at *
      exact ⟨by omega, by rw [h2]⟩
theorem mput_keys {ν : Type} (k : ByteArray) (v : ν) : ∀ (m : List (ByteArray × ν)), (m.map (·.1)).Nodup → ((mput m k v).map (·.1)).Nodup ∧ ∀ z, z ∈ (mput m k v).map (·.1) ↔ z = k ∨ z ∈ m.map (·.1)
  | [], _ => by simp [mput]
  | (k', v') :: m, h => by
    rw [List.map_cons, List.nodup_cons] at h
    simp only [mput]
    split
    · rename_i e
      subst e
      refine ⟨by rw [List.map_cons, List.nodup_cons]; exact h, fun z => ?_⟩
      simp only [List.map_cons, List.mem_cons]
      constructor
      · rintro (h | h)
        · exact .inl h
        · exact .inr (.inr h)
      · rintro (h | h | h)
        · exact .inl h
        · exact .inl h
        · exact .inr h
    · rename_i hne
      obtain ⟨h1, h2⟩ := mput_keys k v m h.2
      rw [List.map_cons, List.nodup_cons]
      refine ⟨⟨fun hm => ?_, h1⟩, fun z => ?_⟩
      · rcases (h2 _).1 hm with e | hm
        · exact hne e.symm
        · exact h.1 hm
      · simp only [List.map_cons, List.mem_cons, h2 z]
        constructor
        · rintro (h | h | h)
          · exact .inr (.inl h)
          · exact .inl h
          · exact .inr (.inr h)
        · rintro (h | h | h)
          · exact .inr (.inl h)
          · exact .inl h
          · exact .inr (.inr h)
/-- A map of clubs with so many sixtieths in all. -/
structure MOk (m : List (ByteArray × Nat)) (S : Nat) : Prop where
  nodup : (m.map (·.1)).Nodup
  club : ∀ k ∈ m.map (·.1), k ∈ clubP ∧ k ≠ k_empty
  sum : sumM m = S
theorem clubs_l1 (j : List (ByteArray × GFraction) → Option (List (ByteArray × GFraction))) : ∀ (ys : List GScored) (i : Nat) (m : List (ByteArray × Nat)), (∀ y ∈ ys, y.Club ∈ clubP) → MOk m 0 → (∀ p ∈ m, p.2 = 0) →
    ∃ m', points_clubs_l1 j ys i (m.map mf) = j (m'.map mf) ∧ MOk m' 0 ∧ (∀ k ∈ m.map (·.1), k ∈ m'.map (·.1)) ∧ ∀ y ∈ ys, y.Club ≠ k_empty → y.Club ∈ m'.map (·.1)
  | [], i, m, _, h, _ => ⟨m, rfl, h, fun _ h => h, fun _ h => by cases h⟩
  | y :: ys, i, m, h1, h2, h3 => by
    have hys : ∀ z ∈ ys, z.Club ∈ clubP := fun z hz => h1 z (List.mem_cons_of_mem _ hz)
    rw [points_clubs_l1]
    simp only [join_eq]
    by_cases hc : y.Club = k_empty
    · rw [if_neg (by simp [hc])]
      obtain ⟨m', e, g1, g2, g3⟩ := clubs_l1 j ys (i + 1) m hys h2 h3
      refine ⟨m', e, g1, g2, fun z hz hne => ?_⟩
      rcases List.mem_cons.1 hz with rfl | hz
      · exact (hne hc).elim
      · exact g3 z hz hne
    · rw [if_pos (by simp [hc]), none_fr, mput_mf]
      obtain ⟨k1, k2⟩ := mput_keys y.Club 0 m h2.nodup
      have hz : ∀ (m : List (ByteArray × Nat)), (∀ p ∈ m, p.2 = 0) → (∀ p ∈ mput m y.Club 0, p.2 = 0) ∧ sumM (mput m y.Club 0) = 0 := by
        intro m
        induction m with
        | nil => intro _; exact ⟨fun p hp => by simp [mput] at hp; rw [hp], rfl⟩
        | cons p m ih =>
          obtain ⟨k', v'⟩ := p
          intro h
          have hv : v' = 0 := h (k', v') List.mem_cons_self
          obtain ⟨i1, i2⟩ := ih fun p hp => h p (List.mem_cons_of_mem _ hp)
          have hs : sumM m = 0 := by
            unfold sumM
            have : ∀ (q : List (ByteArray × Nat)), (∀ p ∈ q, p.2 = 0) → (q.map (·.2)).sum = 0 := by
              intro q
              induction q with
              | nil => intro _; rfl
              | cons a q ih => intro h; rw [List.map_cons, List.sum_cons, h a List.mem_cons_self, ih fun p hp => h p (List.mem_cons_of_mem _ hp)]
            exact this m fun p hp => h p (List.mem_cons_of_mem _ hp)
          simp only [mput]
          split
          · refine ⟨fun p hp => ?_, by simp only [sumM, List.map_cons, List.sum_cons] at *; omega⟩
            rcases List.mem_cons.1 hp with rfl | hp
            · rfl
            · exact h p (List.mem_cons_of_mem _ hp)
          · refine ⟨fun p hp => ?_, by simp only [sumM, List.map_cons, List.sum_cons] at *; omega⟩
            rcases List.mem_cons.1 hp with rfl | hp
            · exact hv
            · exact i1 p hp
      obtain ⟨z1, z2⟩ := hz m h3
      obtain ⟨m', e, g1, g2, g3⟩ := clubs_l1 j ys (i + 1) (mput m y.Club 0) hys ⟨k1, fun k hk => by
        rcases (k2 k).1 hk with rfl | hk
        · exact ⟨h1 y List.mem_cons_self, hc⟩
        · exact h2.club k hk, z2⟩ z1
      refine ⟨m', e, g1, fun k hk => g2 k ((k2 k).2 (.inr hk)), fun z hz hne => ?_⟩
      rcases List.mem_cons.1 hz with rfl | hz
      · exact g2 _ ((k2 _).2 (.inl rfl))
      · exact g3 z hz hne
theorem sumM_mem {m : List (ByteArray × Nat)} {k : ByteArray} {i n u : Nat} (h : mfind m k i = some (n, u)) : u ≤ sumM m := by
  have := (mput_sum k 0 m i n u h).1
  omega
theorem clubs_l2 (L : List GScored) (j : List (ByteArray × GFraction) → Option (List (ByteArray × GFraction))) : ∀ (R : List Gpoints_row) (i : Nat) (m : List (ByteArray × Nat)) (S : Nat), (∀ r ∈ R, RowOk L r) → MOk m S → S + 6000 * R.length ≤ 1000000 → (∀ r ∈ R, r.x_.Club ∈ m.map (·.1)) →
    ∃ m', points_clubs_l2 j R i (m.map mf) = j (m'.map mf) ∧ MOk m' (S + sumR R)
  | [], i, m, S, _, h, _, _ => ⟨m, rfl, by simpa [sumR] using h⟩
  | r :: R, i, m, S, h1, h2, h3, h4 => by
    simp only [List.length_cons] at h3
    obtain ⟨n, u, hu⟩ := mfind_key r.x_.Club m 0 (h4 r List.mem_cons_self)
    have hg : mgetD (m.map mf) r.x_.Club (GFraction.mk 0 0) = fr u := by
      unfold mgetD
      rw [mget_mf]
      unfold mget
      rw [hu]; rfl
    have hf := row_fo (h1 r List.mem_cons_self)
    have hu' := sumM_mem hu
    rw [h2.sum] at hu'
    have hv := hf.2
    rw [points_clubs_l2, hg, hf.1, add_fr (by omega) (by omega), Option.bind_some, mput_mf]
    obtain ⟨s1, s2⟩ := mput_sum r.x_.Club (u + val r.points_) m 0 n u hu
    obtain ⟨k1, _⟩ := mput_keys r.x_.Club (u + val r.points_) m h2.nodup
    obtain ⟨m', e, g⟩ := clubs_l2 L j R (i + 1) (mput m r.x_.Club (u + val r.points_)) (S + val r.points_) (fun z hz => h1 z (List.mem_cons_of_mem _ hz)) ⟨k1, by rw [s2]; exact h2.club, by have := h2.sum; omega⟩ (by omega) (fun z hz => by rw [s2]; exact h4 z (List.mem_cons_of_mem _ hz))
    refine ⟨m', e, ?_⟩
    have : S + val r.points_ + sumR R = S + sumR (r :: R) := by simp only [sumR, List.map_cons, List.sum_cons]; omega
    rw [← this]; exact g
theorem clubs_is {t : GTable} {Gs : List (List GScored)} (ht : TGood t) (h : LGd Gs) : ∃ R m, points_rows t Gs.flatten = some R ∧ R.length ≤ 15 ∧ (∀ r ∈ R, RowOk Gs.flatten r) ∧ points_clubs t Gs.flatten = some (m.map mf) ∧ MOk m (sumR R) := by
  obtain ⟨R, e, hl, hr⟩ := rows_is t ht.toTOk Gs h.one h.ne h.len
  unfold points_clubs
  simp only [join_eq, e, Option.bind_some]
  obtain ⟨m1, e1, g1, _, g3⟩ := clubs_l1 (fun x1 => points_clubs_l2 (fun x4 => some x4) R 0 x1) Gs.flatten 0 [] (fun y hy => (h.row y hy).2.2.1) ⟨by simp, (fun k hk => by cases hk), rfl⟩ (fun p hp => by cases hp)
  have e1' : points_clubs_l1 (fun x1 => points_clubs_l2 (fun x4 => some x4) R 0 x1) Gs.flatten 0 [] = points_clubs_l2 (fun x4 => some x4) R 0 (m1.map mf) := e1
  rw [e1']
  obtain ⟨m2, e2, g4⟩ := clubs_l2 Gs.flatten (fun x4 => some x4) R 0 m1 0 hr g1 (by omega) (fun r hr' => g3 _ (hr r hr').1 (hr r hr').2.1)
  rw [Nat.zero_add] at g4
  exact ⟨R, m2, rfl, hl, hr, e2, g4⟩
/-! ### The entries in the order of their keys -/
def ltG (x y : GGiven) : Bool := decide (points_sums_c1 x y < 0)
theorem ltG_cb (x y : GGiven) : ltG x y = decide (cB x.Key y.Key < 0) := rfl
theorem isortG_is (l : List GGiven) (hl : l.length ≤ 12) : slices_insertionSortCmpFunc_Given_points_sums_c1 l 0 (l.length : Int) = some (isort ltG l) := by
  unfold slices_insertionSortCmpFunc_Given_points_sums_c1
  simp only [joinR]
  have hins : ∀ (k : List GGiven → Option (List GGiven)) (rp : List GGiven) (x : GGiven) (post : List GGiven), ((rp ++ x :: post).length : Int) = (l.length : Int) → (∀ y, y ∈ rp ∨ y = x ∨ y ∈ post → y ∈ (rp ++ x :: post)) →
      slices_insertionSortCmpFunc_Given_points_sums_c1_l2 0 k (((rp.length : Int) - 0).toNat + 2) (rp.reverse ++ x :: post) (rp.length : Int) = k ((insR ltG x rp).reverse ++ post) := by
    intro k rp x post h1 _
    exact ins_l (fun x y k => k (ltG x y)) ltG k (slices_insertionSortCmpFunc_Given_points_sums_c1_l2 0 k) (fun _ _ _ => rfl) rp x post _ (by omega) (by simp at h1; omega) fun y _ k' => rfl
  cases l with
  | nil => rfl
  | cons x l =>
    have hw : W (0 + 1) = (([x] : List GGiven).length : Int) := rfl
    rw [hw]
    exact isort_l ltG (fun x => some x) (fun k x i => slices_insertionSortCmpFunc_Given_points_sums_c1_l2 0 k ((i - 0).toNat + 2) x i) (slices_insertionSortCmpFunc_Given_points_sums_c1_l1 ((x :: l).length : Int) 0 fun x => some x) ((x :: l).length : Int) (fun _ _ _ => rfl)
      (fun k rp x post h1 h2 => hins k rp x post h1 h2) l [x] _ (by simp only [List.length_cons, List.length_nil]; omega) (by simp only [List.length_cons, List.length_nil]; omega) (by simp only [List.length_cons, List.length_nil] at hl ⊢; omega)
theorem sortG_is (l : List GGiven) (hl : l.length ≤ 12) : slices_SortFunc_Given_points_sums_c1 l = some (isort ltG l) := by
  unfold slices_SortFunc_Given_points_sums_c1
  obtain ⟨r, hr⟩ := Option.isSome_iff_exists.1 (len_p ⟨l.length, by omega⟩)
  simp only at hr
  rw [hr]
  simp only [Option.bind_some]
  unfold slices_pdqsortCmpFunc_Given_points_sums_c1
  rw [show (4611686018427387904 : Nat) = 4611686018427387903 + 1 from rfl, slices_pdqsortCmpFunc_Given_points_sums_c1_l1, W_in (by omega) (by omega), if_pos (decide_eq_true (by omega)), isortG_is l hl]
  rfl
theorem nodup_len {α : Type} [DecidableEq α] : ∀ (l l' : List α), l.Nodup → (∀ x ∈ l, x ∈ l') → l.length ≤ l'.length
  | [], _, _, _ => by simp
  | x :: l, l', h, hs => by
    obtain ⟨h1, h2⟩ := List.nodup_cons.1 h
    have hx := hs x List.mem_cons_self
    have ih := nodup_len l (l'.erase x) h2 fun y hy => (List.mem_erase_of_ne (fun e => h1 (by rw [← e]; exact hy))).2 (hs y (List.mem_cons_of_mem _ hy))
    rw [List.length_erase_of_mem hx] at ih
    have := List.length_pos_of_mem hx
    simp only [List.length_cons]; omega
def gm (p : ByteArray × GFraction) : GGiven := GGiven.mk p.1 p.2
theorem sums_l1 (j : List GGiven → Option (List GGiven)) : ∀ (p : List (ByteArray × GFraction)) (x : List GGiven), x.length + p.length ≤ 1000 → points_sums_l1 j p x = j (x ++ p.map gm)
  | [], x, _ => by rw [points_sums_l1]; simp
  | y :: p, x, h => by
    simp only [List.length_cons] at h
    rw [points_sums_l1, chk_pos (by unfold room; simp; omega), Option.bind_some, sums_l1 j p (x ++ [GGiven.mk y.1 y.2]) (by simp; omega)]
    simp [gm]
theorem sums_is {m : List (ByteArray × Nat)} {S : Nat} (h : MOk m S) : ∃ Y, points_sums (m.map mf) = some Y ∧ Y.length ≤ 5 ∧ (Y.map (·.Key)).Nodup ∧ (∀ y ∈ Y, y.Key ≠ k_empty) ∧ (∀ y ∈ Y, Fo S y.Points) ∧ sumG Y = S := by
  have hml : m.length ≤ 5 := by
    have := nodup_len (m.map (·.1)) clubP h.nodup fun k hk => (h.club k hk).1
    rw [List.length_map] at this
    exact this
  have hlt : ∀ x y z : GGiven, ltG x y = true → ltG y z = true → ltG x z = true := fun x y z h1 h2 => by
    rw [ltG_cb, decide_eq_true_eq] at *; exact cB_trans h1 h2
  have hirr : ∀ x : GGiven, ltG x x = false := fun x => by rw [ltG_cb, cB_refl]; rfl
  have htot : ∀ l : List GGiven, (l.map (·.Key)).Nodup → l.Pairwise fun a b => ltG b a = false → ltG a b = true := fun l hl => by
    refine (List.pairwise_map.1 hl).imp fun {a b} hne hb => ?_
    rw [ltG_cb, decide_eq_false_iff_not] at hb
    rw [ltG_cb, decide_eq_true_eq]
    have h0 : cB a.Key b.Key ≠ 0 := fun e => hne (cB_zero e)
    have := cB_flip a.Key b.Key
    omega
  have hkeys : ∀ p : List (ByteArray × GFraction), (p.map gm).map (·.Key) = p.map (·.1) := fun p => by rw [List.map_map]; rfl
  have hk0 : (m.map mf).map (·.1) = m.map (·.1) := by rw [List.map_map]; rfl
  refine ⟨isort ltG ((m.map mf).map gm), ?_, ?_, ?_, ?_, ?_, ?_⟩
  · unfold points_sums
    simp only [join_eq]
    refine allP_is fun p hp => ?_
    have hpl : p.length = m.length := by rw [hp.length_eq, List.length_map]
    rw [sums_l1 _ p [] (by simp; omega), List.nil_append, sortG_is _ (by rw [List.length_map]; omega), Option.bind_some]
    have hnd : ((p.map gm).map (·.Key)).Nodup := by rw [hkeys, (hp.map (·.1)).nodup_iff, hk0]; exact h.nodup
    rw [isort_is hirr hlt (p.map gm) (isort ltG ((m.map mf).map gm)) (htot _ hnd) (isort_asc hlt _ (htot _ (by rw [hkeys, hk0]; exact h.nodup))) fun x => by
      rw [isort_mem, (hp.map gm).mem_iff]]
  · rw [isort_len', List.length_map, List.length_map]; exact hml
  · rw [((isort_perm ltG ((m.map mf).map gm)).map (·.Key)).nodup_iff, hkeys, hk0]; exact h.nodup
  · intro y hy
    rw [isort_mem, List.map_map, List.mem_map] at hy
    obtain ⟨p, hp, rfl⟩ := hy
    exact (h.club p.1 (List.mem_map.2 ⟨p, hp, rfl⟩)).2
  · intro y hy
    rw [isort_mem, List.map_map, List.mem_map] at hy
    obtain ⟨p, hp, rfl⟩ := hy
    have hle : p.2 ≤ S := by
      rw [← h.sum]
      have : ∀ (q : List (ByteArray × Nat)), p ∈ q → p.2 ≤ sumM q := by
        intro q
        induction q with
        | nil => intro h; cases h
        | cons a q ih =>
          intro h
          simp only [sumM, List.map_cons, List.sum_cons] at *
          rcases List.mem_cons.1 h with rfl | h
          · omega
          · have := ih h; omega
      exact this m hp
    exact fo_fr hle
  · have := ((isort_perm ltG ((m.map mf).map gm)).map (fun y => val y.Points)).sum_nat
    unfold sumG
    rw [this, List.map_map, List.map_map, ← h.sum]
    unfold sumM
    congr 1
    refine List.map_congr_left fun p _ => ?_
    simp only [Function.comp, gm, mf, val_fr]
theorem Clubs_is {t : GTable} {Gs : List (List GScored)} (ht : TGood t) (h : LGd Gs) : ∃ R m Y, points_rows t Gs.flatten = some R ∧ R.length ≤ 15 ∧ (∀ r ∈ R, RowOk Gs.flatten r) ∧ points_clubs t Gs.flatten = some m ∧ points_sums m = some Y ∧ points_Clubs t Gs.flatten = some (Y, 0) ∧
    Y.length ≤ 5 ∧ (Y.map (·.Key)).Nodup ∧ (∀ y ∈ Y, y.Key ≠ k_empty) ∧ (∀ y ∈ Y, Fo 90000 y.Points) ∧ sumG Y = sumR R := by
  obtain ⟨R, m, e1, h1, h2, e2, h3⟩ := clubs_is ht h
  obtain ⟨Y, e3, h4, h5, h6, h7, h8⟩ := sums_is h3
  have hs := sumR_le R fun r hr => row_fo (h2 r hr)
  refine ⟨R, _, Y, e1, h1, h2, e2, e3, ?_, h4, h5, h6, fun y hy => ⟨(h7 y hy).1, by have := (h7 y hy).2; omega⟩, h8⟩
  unfold points_Clubs
  rw [both_ok ht h]
  simp only [Option.bind_some, decide_true, Bool.not_true, Bool.false_eq_true, if_false, e2, e3]
end Go.Proofs.YteppmbaanjlmmaaGreatDoor
