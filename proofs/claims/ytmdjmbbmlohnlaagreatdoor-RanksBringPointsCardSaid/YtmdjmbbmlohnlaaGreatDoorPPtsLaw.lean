/- Points of clubs and of swimmers: the laws. Conditions: as in PPtsSum. -/
import Derived.Test.YtmdjmbbmlohnlaaGreatDoorPPtsSum
namespace Go.Proofs.YtmdjmbbmlohnlaaGreatDoor
open Go
theorem Right.few {t : GTable} {l : List GScored} {R : List Gpoints_row} (h : Right t l R) : R.length ≤ 15 := by
  have := congrArg List.length h.xs
  rw [List.length_map] at this
  have := List.length_filter_le tumbref2_counted l
  have := h.len
  omega
theorem Right.mem {t : GTable} {l : List GScored} {R : List Gpoints_row} (h : Right t l R) (x : GScored) : (∃ r ∈ R, r.x_ = x) ↔ x ∈ l ∧ tumbref2_counted x = true := by
  rw [← List.mem_filter, ← h.xs, List.mem_map]
theorem cl1 (j : List (ByteArray × GFraction) → Option (List (ByteArray × GFraction))) : ∀ (ys : List GScored) (i : Nat) (m : List (ByteArray × GFraction)) (K : ByteArray → Prop), MS m K (fun _ => 0) →
    ∃ m', points_clubs_l1 j ys i m = j m' ∧ MS m' (fun k => K k ∨ ∃ y ∈ ys, y.Club = k ∧ k ≠ k_empty) (fun _ => 0)
  | [], i, m, K, h => ⟨m, rfl, h.congr (fun k => by simp) (fun _ _ => rfl)⟩
  | y :: ys, i, m, K, h => by
    rw [points_clubs_l1]
    simp only [join_eq]
    by_cases hc : y.Club = k_empty
    · rw [if_neg (by simp [hc])]
      obtain ⟨m', e, h'⟩ := cl1 j ys (i + 1) m K h
      refine ⟨m', e, h'.congr (fun k => ?_) (fun _ _ => rfl)⟩
      constructor
      · rintro (h | ⟨z, hz, h⟩)
        · exact .inl h
        · exact .inr ⟨z, List.mem_cons_of_mem _ hz, h⟩
      · rintro (h | ⟨z, hz, h1, h2⟩)
        · exact .inl h
        · rcases List.mem_cons.1 hz with rfl | hz
          · exact (h2 (by rw [← h1, hc])).elim
          · exact .inr ⟨z, hz, h1, h2⟩
    · rw [if_pos (by simp [hc]), none_frB]
      obtain ⟨m', e, h'⟩ := cl1 j ys (i + 1) (mput m y.Club (frB 0)) (fun z => z = y.Club ∨ K z) ((h.put y.Club 0).congr (fun _ => Iff.rfl) (fun k _ => by split <;> rfl))
      refine ⟨m', e, h'.congr (fun k => ?_) (fun _ _ => rfl)⟩
      constructor
      · rintro ((h | h) | ⟨z, hz, h⟩)
        · exact .inr ⟨y, by simp, h.symm, by rw [h]; exact hc⟩
        · exact .inl h
        · exact .inr ⟨z, List.mem_cons_of_mem _ hz, h⟩
      · rintro (h | ⟨z, hz, h1, h2⟩)
        · exact .inl (.inr h)
        · rcases List.mem_cons.1 hz with rfl | hz
          · exact .inl (.inl h1.symm)
          · exact .inr ⟨z, hz, h1, h2⟩
theorem cl2 (j : List (ByteArray × GFraction) → Option (List (ByteArray × GFraction))) (K : ByteArray → Prop) : ∀ (R : List Gpoints_row) (i : Nat) (m : List (ByteArray × GFraction)) (u : ByteArray → Nat) (B : Nat), MS m K u → (∀ r ∈ R, K r.x_.Club ∧ Pts r.points_) → (∀ k, u k ≤ B) → B + 4000000000 * R.length ≤ 1000000000000 →
    ∃ m', points_clubs_l2 j R i m = j m' ∧ MS m' K (fun k => u k + sumQ (fun x => decide (x.Club = k)) R)
  | [], i, m, u, B, h, _, _, _ => ⟨m, rfl, h.congr (fun _ => Iff.rfl) (fun k _ => by simp [sumQ])⟩
  | r :: R, i, m, u, B, h, hr, hu, hB => by
    simp only [List.length_cons] at hB
    obtain ⟨k1, k2⟩ := hr r List.mem_cons_self
    have hv := k2.val
    have := hu r.x_.Club
    rw [points_clubs_l2, h.vals _ k1, hv.1, add_frB (by omega) (by omega), Option.bind_some]
    obtain ⟨m', e, h'⟩ := cl2 j K R (i + 1) (mput m r.x_.Club (frB (u r.x_.Club + valB r.points_))) (fun z => if z = r.x_.Club then u r.x_.Club + valB r.points_ else u z) (B + 4000000000) ((h.put _ _).congr (fun k => ⟨fun hk => by
      rcases hk with rfl | hk
      · exact k1
      · exact hk, .inr⟩) (fun _ _ => rfl)) (fun z hz => hr z (List.mem_cons_of_mem _ hz)) (fun k => by
        have := hu k
        show (if k = r.x_.Club then _ else _) ≤ _
        split <;> omega) (by omega)
    refine ⟨m', e, h'.congr (fun _ => Iff.rfl) (fun k _ => ?_)⟩
    rw [sumQ_cons]
    by_cases hk : k = r.x_.Club
    · subst hk; simp; omega
    · have : ¬ r.x_.Club = k := fun e => hk e.symm
      simp [hk, this]
theorem names_l (p : GScored → Bool) (w : GScored → ByteArray) (j : List ByteArray → Option (List GGiven)) (F : List GScored → Nat → List ByteArray → Option (List GGiven)) (h0 : ∀ i x, F [] i x = j x)
    (h1 : ∀ y ys i x, F (y :: ys) i x = if p y then Chk (room x.length) (F ys (i + 1) (x ++ [w y])) else F ys (i + 1) x) : ∀ (ys : List GScored) (i : Nat) (x : List ByteArray), x.length + ys.length ≤ 1000 → F ys i x = j (x ++ (ys.filter p).map w)
  | [], i, x, _ => by rw [h0]; simp
  | y :: ys, i, x, h => by
    simp only [List.length_cons] at h
    rw [h1]
    cases hp : p y with
    | true => rw [if_pos rfl, chk_pos (by unfold room; simp; omega), names_l p w j F h0 h1 ys (i + 1) _ (by simp; omega), List.filter_cons_of_pos (by simp [hp])]; simp
    | false => rw [if_neg (by simp), names_l p w j F h0 h1 ys (i + 1) _ (by omega), List.filter_cons_of_neg (by simp [hp])]
theorem keys_len (l : List ByteArray) (h : l.length ≤ 1000) : (keysOf l).length ≤ 1000 := by
  have h1 : (sortStrs l).length = l.length := by simp [sortStrs]
  have gen : ∀ (r : List ByteArray) (p : ByteArray), (nbF p r).length ≤ r.length := by
    intro r
    induction r with
    | nil => intro p; simp [nbF]
    | cons y r ih => intro p; unfold nbF; split <;> simp <;> have := ih y <;> omega
  unfold keysOf
  cases e : sortStrs l with
  | nil => simp [nb]
  | cons p r =>
    rw [e] at h1
    have := gen r p
    simp only [nb, List.length_cons] at h1 ⊢
    omega
theorem list_l (f : ByteArray → Option GFraction) (g : ByteArray → GFraction) (j : List GGiven → Option (List GGiven)) (F : List ByteArray → Nat → List GGiven → Option (List GGiven)) (h0 : ∀ i x, F [] i x = j x)
    (h1 : ∀ y ys i x, F (y :: ys) i x = Option.bind (f y) (fun r3 => Chk (room x.length) (F ys (i + 1) (x ++ [(GGiven.mk y r3)])))) (hf : ∀ k, f k = some (g k)) : ∀ (ys : List ByteArray) (i : Nat) (x : List GGiven), x.length + ys.length ≤ 10000 → F ys i x = j (x ++ ys.map fun k => GGiven.mk k (g k))
  | [], i, x, _ => by rw [h0]; simp
  | y :: ys, i, x, h => by
    simp only [List.length_cons] at h
    rw [h1, hf, Option.bind_some, chk_pos (by unfold room; simp; omega), list_l f g j F h0 h1 hf ys (i + 1) _ (by simp; omega)]; simp
theorem clubs_parts {t : GTable} {l : List GScored} {R : List Gpoints_row} (h : Right t l R) (few : List ByteArray) (hf : few.length ≤ 12) (hff : ∀ x ∈ l, x.Club ∈ few) : ∃ C, (∃ m, points_clubs t l = some m ∧ points_sums m = some C) ∧ tumbref2_ClubSums t l = some C ∧ C.length ≤ 1000 ∧ ∀ y ∈ C, ∃ v, v ≤ 100000000000 ∧ y.Points = frB v := by
  have hRl := h.few
  refine ⟨(keysOf ((l.filter fun x => !decide (x.Club = k_empty)).map (·.Club))).map fun k => GGiven.mk k (frB (sumQ (fun x => decide (x.Club = k)) R)), ?_, ?_, ?_, fun y hy => ?_⟩
  · obtain ⟨m1, e1, h1⟩ := cl1 (fun (x1 : List (ByteArray × GFraction)) => points_clubs_l2 (fun x4 => some x4) R 0 x1) l 0 [] (fun _ => False) ⟨by simp, by simp, fun _ h => h.elim⟩
    have hK : ∀ r ∈ R, (False ∨ ∃ y ∈ l, y.Club = r.x_.Club ∧ r.x_.Club ≠ k_empty) ∧ Pts r.points_ := fun r hr => by
      have h3 := (h.mem r.x_).1 ⟨r, hr, rfl⟩
      have h4 := h3.2
      unfold tumbref2_counted at h4
      simp only [Bool.and_eq_true, Bool.not_eq_true', decide_eq_false_iff_not] at h4
      exact ⟨.inr ⟨r.x_, h3.1, rfl, h4.2⟩, (h.pts r hr).2⟩
    obtain ⟨m2, e2, h2⟩ := cl2 (fun x4 => some x4) _ R 0 m1 (fun _ => 0) 0 h1 hK (fun _ => Nat.le_refl _) (by omega)
    · have hc : points_clubs t l = some m2 := by
        unfold points_clubs
        simp only [join_eq]
        rw [h.rows]
        simp only [Option.bind_some]
        rw [e1, e2]
      refine ⟨m2, hc, (h2.congr (fun _ => Iff.rfl) (fun k _ => Nat.zero_add _)).sums ((l.filter fun x => !decide (x.Club = k_empty)).map (·.Club)) (fun k => ?_) few hf (fun k hk => ?_)⟩
      · rw [List.mem_map]
        constructor
        · rintro ⟨x, hx, rfl⟩
          obtain ⟨a, b⟩ := List.mem_filter.1 hx
          exact .inr ⟨x, a, rfl, by simpa using b⟩
        · rintro (h | ⟨x, hx, rfl, hn⟩)
          · exact h.elim
          · exact ⟨x, List.mem_filter.2 ⟨hx, by simpa using hn⟩, rfl⟩
      · obtain ⟨x, hx, rfl⟩ := List.mem_map.1 hk
        exact hff x (List.mem_filter.1 hx).1
  · unfold tumbref2_ClubSums
    simp only [join_eq]
    rw [names_l (fun x => !decide (x.Club = k_empty)) (·.Club) _ (tumbref2_ClubSums_l1 _) (fun _ _ => rfl) (fun y ys i x => by rw [tumbref2_ClubSums_l1]; simp only [join_eq]) l 0 [] (by have := h.len; simp; omega), List.nil_append]
    unfold tumbref2_sums_tumbref2_ClubSums_c1 slices_Sort_string
    have hnl : ((l.filter fun x => !decide (x.Club = k_empty)).map (·.Club)).length ≤ 15 := by
      rw [List.length_map]
      have := List.length_filter_le (fun x : GScored => !decide (x.Club = k_empty)) l
      have := h.len
      omega
    have hsl : (sortStrs ((l.filter fun x => !decide (x.Club = k_empty)).map (·.Club))).length ≤ 15 := by simpa [sortStrs] using hnl
    rw [chk_pos (by simp only [decide_eq_true_eq]; omega), Option.bind_some, compact_is _ (by omega), Option.bind_some]
    simp only [join_eq]
    have hk := keys_len _ (show ((l.filter fun x => !decide (x.Club = k_empty)).map (·.Club)).length ≤ 1000 by omega)
    have := list_l (fun k => tumbref2_ClubSums_c1 k t.Points t.Relay t.Most l) (fun k => frB (sumQ (fun x => decide (x.Club = k)) R)) (fun x1 => some x1) (tumbref2_sums_tumbref2_ClubSums_c1_l1 t.Points t.Relay t.Most l (fun x1 => some x1)) (fun _ _ => rfl) (fun _ _ _ _ => rfl) (fun k => by
      have e3 : GTable.mk t.Points t.Relay t.Most = t := rfl
      unfold tumbref2_ClubSums_c1 tumbref2_sumOf_tumbref2_ClubSums_c1_c1
      rw [e3]
      simp only [join_eq]
      have := ref_sum (t := t) (l := l) (fun x => decide (x.Club = k)) (fun (x1 : Int) (x2 : Int) => some (GFraction.mk x1 x2)) (tumbref2_sumOf_tumbref2_ClubSums_c1_c1_l1 k t l (fun (x1 : Int) (x2 : Int) => some (GFraction.mk x1 x2))) (fun _ _ _ => rfl) (fun y ys i a b => by
        rw [tumbref2_sumOf_tumbref2_ClubSums_c1_c1_l1]
        simp only [join_eq, tumbref2_ClubSums_c1_c1]
        rfl) l R 0 0 h.xs h.pts (by omega)
      rw [Nat.zero_add] at this
      have e0 : frB 0 = GFraction.mk 0 1 := none_frB.symm
      rw [e0] at this
      rw [this]; rfl) (keysOf ((l.filter fun x => !decide (x.Club = k_empty)).map (·.Club))) 0 [] (by simp; omega)
    rw [List.nil_append] at this
    unfold keysOf at this
    rw [this]; rfl
  · rw [List.length_map]
    refine keys_len _ ?_
    rw [List.length_map]
    have := List.length_filter_le (fun x : GScored => !decide (x.Club = k_empty)) l
    have := h.len
    omega
  · obtain ⟨k, _, rfl⟩ := List.mem_map.1 hy
    have := sumQ_le (q := fun x => decide (x.Club = k)) (R := R) fun r hr => (h.pts r hr).2
    exact ⟨_, by omega, rfl⟩
theorem clubs_law {t : GTable} {l : List GScored} {R : List Gpoints_row} (h : Right t l R) (hb : points_checkBoth t l = some 0) (few : List ByteArray) (hf : few.length ≤ 12) (hff : ∀ x ∈ l, x.Club ∈ few) : ∃ C, points_Clubs t l = some (C, 0) ∧ tumbref2_ClubSums t l = some C := by
  obtain ⟨C, ⟨m, m1, m2⟩, c2, _⟩ := clubs_parts h few hf hff
  refine ⟨C, ?_, c2⟩
  unfold points_Clubs
  rw [hb, Option.bind_some, if_neg (by simp), m1, Option.bind_some, m2, Option.bind_some]
theorem sw1 (j : List (ByteArray × GFraction) → Option (List GGiven × Int)) : ∀ (R : List Gpoints_row) (i : Nat) (m : List (ByteArray × GFraction)) (K : ByteArray → Prop) (u : ByteArray → Nat) (B : Nat), MS m K u → (∀ k, ¬ K k → u k = 0) → (∀ r ∈ R, Pts r.points_) → (∀ k, u k ≤ B) → B + 4000000000 * R.length ≤ 1000000000000 →
    ∃ m', points_Swimmers_l1 j R i m = j m' ∧ MS m' (fun k => K k ∨ ∃ r ∈ R, r.x_.Relay = false ∧ r.x_.Who = k) (fun k => u k + sumQ (fun x => decide (x.Who = k) && !x.Relay) R)
  | [], i, m, K, u, B, h, _, _, _, _ => ⟨m, rfl, h.congr (fun k => by simp) (fun k _ => by simp [sumQ])⟩
  | r :: R, i, m, K, u, B, h, hz, hr, hu, hB => by
    simp only [List.length_cons] at hB
    rw [points_Swimmers_l1]
    simp only [join_eq]
    cases hrel : r.x_.Relay with
    | true =>
      rw [if_pos rfl]
      obtain ⟨m', e, h'⟩ := sw1 j R (i + 1) m K u B h hz (fun z hz => hr z (List.mem_cons_of_mem _ hz)) hu (by omega)
      refine ⟨m', e, h'.congr (fun k => ?_) (fun k _ => ?_)⟩
      · constructor
        · rintro (h | ⟨z, hz, h⟩)
          · exact .inl h
          · exact .inr ⟨z, List.mem_cons_of_mem _ hz, h⟩
        · rintro (h | ⟨z, hz, h1, h2⟩)
          · exact .inl h
          · rcases List.mem_cons.1 hz with rfl | hz
            · rw [hrel] at h1; cases h1
            · exact .inr ⟨z, hz, h1, h2⟩
      · rw [sumQ_cons, hrel]; simp
    | false =>
      rw [if_neg (by simp)]
      have hv := (hr r List.mem_cons_self).val
      have hub := hu r.x_.Who
      have hadd : (if (!((mget m r.x_.Who).isSome)) = true then Option.bind (points_add (GFraction.mk points_none.Num points_none.Den) r.points_) (fun r3 => points_Swimmers_l1 j R (i + 1) (mput m r.x_.Who r3)) else
          Option.bind (points_add (GFraction.mk ((mgetD m r.x_.Who (GFraction.mk 0 0)).Num) ((mgetD m r.x_.Who (GFraction.mk 0 0)).Den)) r.points_) (fun r3 => points_Swimmers_l1 j R (i + 1) (mput m r.x_.Who r3))) =
          points_Swimmers_l1 j R (i + 1) (mput m r.x_.Who (frB (u r.x_.Who + valB r.points_))) := by
        rcases Classical.em (K r.x_.Who) with hk | hk
        · have hsome : (mget m r.x_.Who).isSome = true := by
            obtain ⟨n, w, e⟩ := mfind_key r.x_.Who m 0 ((h.keys _).2 hk)
            unfold mget; rw [e]; rfl
          have e3 : (GFraction.mk (frB (u r.x_.Who)).Num (frB (u r.x_.Who)).Den) = frB (u r.x_.Who) := rfl
          rw [hsome, if_neg (by simp), h.vals _ hk, e3, hv.1, add_frB (by omega) (by omega), Option.bind_some, valB_fr]
        · have hnone : (mget m r.x_.Who).isSome = false := by
            have hnk : r.x_.Who ∉ m.map (·.1) := fun e => hk ((h.keys _).1 e)
            have gen : ∀ (m : List (ByteArray × GFraction)) (i : Nat), r.x_.Who ∉ m.map (·.1) → mfind m r.x_.Who i = none := by
              intro m
              induction m with
              | nil => intros; rfl
              | cons p m ih =>
                intro i hn
                obtain ⟨a, b⟩ := p
                simp only [List.map_cons, List.mem_cons, not_or] at hn
                unfold mfind
                rw [if_neg hn.1]
                exact ih _ hn.2
            unfold mget; rw [gen m 0 hnk]; rfl
          have e3 : (GFraction.mk points_none.Num points_none.Den) = frB 0 := none_frB
          rw [hnone, Bool.not_false, if_pos rfl, e3, hv.1, add_frB (by omega) (by omega), Option.bind_some, hz _ hk, valB_fr]
      rw [hadd]
      obtain ⟨m', e, h'⟩ := sw1 j R (i + 1) (mput m r.x_.Who (frB (u r.x_.Who + valB r.points_))) (fun z => z = r.x_.Who ∨ K z) (fun z => if z = r.x_.Who then u r.x_.Who + valB r.points_ else u z) (B + 4000000000) (h.put _ _) (fun k hk => by
        simp only [not_or] at hk
        show (if k = r.x_.Who then _ else _) = _
        rw [if_neg hk.1]; exact hz k hk.2) (fun z hz => hr z (List.mem_cons_of_mem _ hz)) (fun k => by
        have := hu k
        show (if k = r.x_.Who then _ else _) ≤ _
        split <;> omega) (by omega)
      refine ⟨m', e, h'.congr (fun k => ?_) (fun k _ => ?_)⟩
      · constructor
        · rintro ((h | h) | ⟨z, hz, h⟩)
          · exact .inr ⟨r, by simp, hrel, h.symm⟩
          · exact .inl h
          · exact .inr ⟨z, List.mem_cons_of_mem _ hz, h⟩
        · rintro (h | ⟨z, hz, h1, h2⟩)
          · exact .inl (.inr h)
          · rcases List.mem_cons.1 hz with rfl | hz
            · exact .inl (.inl h2.symm)
            · exact .inr ⟨z, hz, h1, h2⟩
      · rw [sumQ_cons, hrel]
        by_cases hk : k = r.x_.Who
        · subst hk; simp; omega
        · have : ¬ r.x_.Who = k := fun e => hk e.symm
          simp [hk, this]
theorem swim_law {t : GTable} {l : List GScored} {R : List Gpoints_row} (h : Right t l R) (hb : points_checkBoth t l = some 0) (few : List ByteArray) (hf : few.length ≤ 12) (hff : ∀ x ∈ l, x.Who ∈ few) : ∃ C, points_Swimmers t l = some (C, 0) ∧ tumbref2_SwimmerSums t l = some C := by
  have hRl := h.few
  refine ⟨(keysOf ((l.filter fun x => tumbref2_counted x && !x.Relay).map (·.Who))).map fun k => GGiven.mk k (frB (sumQ (fun x => decide (x.Who = k) && !x.Relay) R)), ?_, ?_⟩
  · obtain ⟨m2, e2, h2⟩ := sw1 (fun (x1 : List (ByteArray × GFraction)) => Option.bind (points_sums x1) (fun r4 => some (r4, 0))) R 0 [] (fun _ => False) (fun _ => 0) 0 ⟨by simp, by simp, fun _ h => h.elim⟩ (fun _ _ => rfl) (fun r hr => (h.pts r hr).2) (fun _ => Nat.le_refl _) (by omega)
    unfold points_Swimmers
    rw [hb, Option.bind_some, if_neg (by simp), h.rows, Option.bind_some]
    simp only [join_eq]
    rw [e2, (h2.congr (fun _ => Iff.rfl) (fun k _ => Nat.zero_add _)).sums ((l.filter fun x => tumbref2_counted x && !x.Relay).map (·.Who)) (fun k => ?_) few hf (fun k hk => ?_), Option.bind_some]
    · rw [List.mem_map]
      constructor
      · rintro ⟨x, hx, rfl⟩
        obtain ⟨a, b⟩ := List.mem_filter.1 hx
        simp only [Bool.and_eq_true, Bool.not_eq_true'] at b
        obtain ⟨r, hr, rfl⟩ := (h.mem x).2 ⟨a, b.1⟩
        exact .inr ⟨r, hr, b.2, rfl⟩
      · rintro (h' | ⟨r, hr, h1, rfl⟩)
        · exact h'.elim
        · have := (h.mem r.x_).1 ⟨r, hr, rfl⟩
          exact ⟨r.x_, List.mem_filter.2 ⟨this.1, by simp [this.2, h1]⟩, rfl⟩
    · obtain ⟨x, hx, rfl⟩ := List.mem_map.1 hk
      exact hff x (List.mem_filter.1 hx).1
  · unfold tumbref2_SwimmerSums
    simp only [join_eq]
    rw [names_l (fun x => tumbref2_counted x && !x.Relay) (·.Who) _ (tumbref2_SwimmerSums_l1 _) (fun _ _ => rfl) (fun y ys i x => by rw [tumbref2_SwimmerSums_l1]; simp only [join_eq]) l 0 [] (by have := h.len; simp; omega), List.nil_append]
    unfold tumbref2_sums_tumbref2_SwimmerSums_c1 slices_Sort_string
    have hnl : ((l.filter fun x => tumbref2_counted x && !x.Relay).map (·.Who)).length ≤ 15 := by
      rw [List.length_map]
      have := List.length_filter_le (fun x : GScored => tumbref2_counted x && !x.Relay) l
      have := h.len
      omega
    have hsl : (sortStrs ((l.filter fun x => tumbref2_counted x && !x.Relay).map (·.Who))).length ≤ 15 := by simpa [sortStrs] using hnl
    rw [chk_pos (by simp only [decide_eq_true_eq]; omega), Option.bind_some, compact_is _ (by omega), Option.bind_some]
    simp only [join_eq]
    have hk := keys_len _ (show ((l.filter fun x => tumbref2_counted x && !x.Relay).map (·.Who)).length ≤ 1000 by omega)
    have := list_l (fun k => tumbref2_SwimmerSums_c1 k t.Points t.Relay t.Most l) (fun k => frB (sumQ (fun x => decide (x.Who = k) && !x.Relay) R)) (fun x1 => some x1) (tumbref2_sums_tumbref2_SwimmerSums_c1_l1 t.Points t.Relay t.Most l (fun x1 => some x1)) (fun _ _ => rfl) (fun _ _ _ _ => rfl) (fun k => by
      have e3 : GTable.mk t.Points t.Relay t.Most = t := rfl
      unfold tumbref2_SwimmerSums_c1 tumbref2_sumOf_tumbref2_SwimmerSums_c1_c1
      rw [e3]
      simp only [join_eq]
      have := ref_sum (t := t) (l := l) (fun x => decide (x.Who = k) && !x.Relay) (fun (x1 : Int) (x2 : Int) => some (GFraction.mk x1 x2)) (tumbref2_sumOf_tumbref2_SwimmerSums_c1_c1_l1 k t l (fun (x1 : Int) (x2 : Int) => some (GFraction.mk x1 x2))) (fun _ _ _ => rfl) (fun y ys i a b => by
        rw [tumbref2_sumOf_tumbref2_SwimmerSums_c1_c1_l1]
        simp only [join_eq, tumbref2_SwimmerSums_c1_c1]
        rfl) l R 0 0 h.xs h.pts (by omega)
      rw [Nat.zero_add] at this
      have e0 : frB 0 = GFraction.mk 0 1 := none_frB.symm
      rw [e0] at this
      rw [this]; rfl) (keysOf ((l.filter fun x => tumbref2_counted x && !x.Relay).map (·.Who))) 0 [] (by simp; omega)
    rw [List.nil_append] at this
    unfold keysOf at this
    rw [this]; rfl
end Go.Proofs.YtmdjmbbmlohnlaaGreatDoor
