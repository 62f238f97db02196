/- Parts of a right list of deeds, and what they are merged to. No program stands here but its twins. -/
import Derived.Test.YtnmojfimananjaaGreatDoorPDeedSort
namespace Go.Proofs.YtnmojfimananjaaGreatDoor
open Go
theorem partsD_l (L : List Int) (hL : LongL L) : ∀ (ys : List GDeed) (i : Nat) (x1 x2 : List GDeed) (a : Int), 0 ≤ a → a + ys.length ≤ 1000000 → x1.length + ys.length ≤ 1000 → x2.length + ys.length ≤ 1000 →
    ∃ u v b, tumbkeep2_parts_Deed_l1 L (fun x1 x2 x3 => some (x2, x1, x3)) ys i x1 x2 a = some (x2 ++ v, x1 ++ u, b) ∧ u.Sublist ys ∧ v.Sublist ys ∧ ∀ s ∈ ys, s ∈ v ∨ s ∈ u
  | [], _, x1, x2, a, _, _, _, _ => ⟨[], [], a, by simp [tumbkeep2_parts_Deed_l1], List.Sublist.refl _, List.Sublist.refl _, fun _ h => by cases h⟩
  | y :: ys, i, x1, x2, a, h0, h1, h2, h3 => by
    simp only [List.length_cons] at h1 h2 h3
    push_cast at h1
    obtain ⟨r, b, e, g1, g2, _⟩ := next_dr hL (a := a) (by omega) (by omega) 3 (by omega)
    rw [tumbkeep2_parts_Deed_l1, e]
    simp only [Option.bind_some, joinR]
    have r1 : room x1.length = true := by unfold room; exact decide_eq_true (by omega)
    have r2 : room x2.length = true := by unfold room; exact decide_eq_true (by omega)
    by_cases hr0 : r = 0
    · rw [if_pos (decide_eq_true hr0), chkT r2]
      obtain ⟨u, v, c, e1, s1, s2, s3⟩ := partsD_l L hL ys (i + 1) x1 (x2 ++ [y]) b (by omega) (by omega) (by omega) (by simp; omega)
      refine ⟨u, y :: v, c, by rw [e1]; simp, s1.cons y, s2.cons_cons y, fun s hs => ?_⟩
      rcases List.mem_cons.1 hs with rfl | hs
      · exact .inl List.mem_cons_self
      · exact (s3 s hs).imp (List.mem_cons_of_mem _) id
    · rw [if_neg (by simpa using hr0)]
      by_cases hr1 : r = 1
      · rw [if_pos (decide_eq_true hr1), chkT r1]
        obtain ⟨u, v, c, e1, s1, s2, s3⟩ := partsD_l L hL ys (i + 1) (x1 ++ [y]) x2 b (by omega) (by omega) (by simp; omega) (by omega)
        refine ⟨y :: u, v, c, by rw [e1]; simp, s1.cons_cons y, s2.cons y, fun s hs => ?_⟩
        rcases List.mem_cons.1 hs with rfl | hs
        · exact .inr List.mem_cons_self
        · exact (s3 s hs).imp id (List.mem_cons_of_mem _)
      · rw [if_neg (by simpa using hr1), chkT r2, chkT r1]
        obtain ⟨u, v, c, e1, s1, s2, s3⟩ := partsD_l L hL ys (i + 1) (x1 ++ [y]) (x2 ++ [y]) b (by omega) (by omega) (by simp; omega) (by simp; omega)
        refine ⟨y :: u, y :: v, c, by rw [e1]; simp, s1.cons_cons y, s2.cons_cons y, fun s hs => ?_⟩
        rcases List.mem_cons.1 hs with rfl | hs
        · exact .inl List.mem_cons_self
        · exact (s3 s hs).imp (List.mem_cons_of_mem _) (List.mem_cons_of_mem _)
theorem DG.chk {d : GDeed} (h : DG d) : meet_checkDeed d = some 0 := by
  have hno := inW.2 h.no
  have hat : words_IsMoment d.At = true := by unfold words_IsMoment; simpa using h.at_
  have hkd : words_Within d.Kind 1 4 = true := inW.2 (by rcases h.kind with h | h | h | h <;> omega)
  have hf := h.form
  obtain ⟨kW, w1, _⟩ := isKey_eq d.Who
  obtain ⟨kR, r1, _⟩ := isKey_eq d.Race
  obtain ⟨kC, c1, _⟩ := isKey_eq d.Club
  obtain ⟨kO, o1, _⟩ := isKey_eq d.Of
  unfold meet_checkDeed
  simp only [h.site, w1, r1, c1, o1, Option.bind_some, hno, hat, hkd, join_eq, Bool.not_true, Bool.or_self, Bool.false_eq_true, if_false]
  rcases h.kind with hk | hk | hk | hk
  · rw [if_pos hk, hk] at hf
    obtain ⟨q1, q2⟩ := h.who (by omega)
    obtain rfl : kW = true := Option.some.inj (w1.symm.trans q1)
    obtain rfl : kR = true := Option.some.inj (r1.symm.trans q2)
    have ht := inW.2 (h.time (.inl hk))
    have hc : (!decide (d.Club = k_empty) && !kC) = false := by
      rcases h.club hk with hc | hc
      · rw [hc]; rfl
      · obtain rfl : kC = true := Option.some.inj (c1.symm.trans hc)
        simp
    have hd := decide_eq_true hf
    simp only [hk, hd, ht, hc, show decide ((1 : Int) = 1) = true from rfl, show decide ((1 : Int) = 3) = false from rfl, show decide ((1 : Int) = 4) = false from rfl, decide_true, decide_false, Bool.not_true, Bool.not_false, Bool.true_and, Bool.false_and, Bool.and_true, Bool.and_false, Bool.or_false, Bool.false_or, Bool.true_or, Bool.or_true, Bool.and_self, Bool.or_self, if_true, Bool.false_eq_true, if_false]
    cases decide (d.Club = k_empty) <;> simp only [decide_true, decide_false, Bool.not_true, Bool.not_false, Bool.true_and, Bool.false_and, Bool.and_true, Bool.and_false, Bool.or_false, Bool.false_or, Bool.true_or, Bool.or_true, Bool.and_self, Bool.or_self, if_true, Bool.false_eq_true, if_false]
  · rw [if_neg (by omega), if_neg (by omega), if_neg (by omega), hk] at hf
    obtain ⟨q1, q2⟩ := h.who (by omega)
    obtain rfl : kW = true := Option.some.inj (w1.symm.trans q1)
    obtain rfl : kR = true := Option.some.inj (r1.symm.trans q2)
    have hd := decide_eq_true hf
    simp only [hk, hd, Bool.not_true, show decide ((2 : Int) = 1) = false from rfl, show decide ((2 : Int) = 3) = false from rfl, show decide ((2 : Int) = 4) = false from rfl, decide_true, decide_false, Bool.not_true, Bool.not_false, Bool.true_and, Bool.false_and, Bool.and_true, Bool.and_false, Bool.or_false, Bool.false_or, Bool.true_or, Bool.or_true, Bool.and_self, Bool.or_self, if_true, Bool.false_eq_true, if_false]
  · rw [if_neg (by omega), if_pos hk, hk] at hf
    obtain ⟨q1, q2⟩ := h.who (by omega)
    obtain rfl : kW = true := Option.some.inj (w1.symm.trans q1)
    obtain rfl : kR = true := Option.some.inj (r1.symm.trans q2)
    have ht := inW.2 (h.time (.inr hk))
    have hu := inW.2 (h.fault hk)
    have hd := decide_eq_true hf
    simp only [hk, hd, ht, hu, show decide ((3 : Int) = 1) = false from rfl, show decide ((3 : Int) = 3) = true from rfl, show decide ((3 : Int) = 4) = false from rfl, decide_true, decide_false, Bool.not_true, Bool.not_false, Bool.true_and, Bool.false_and, Bool.and_true, Bool.and_false, Bool.or_false, Bool.false_or, Bool.true_or, Bool.or_true, Bool.and_self, Bool.or_self, if_true, Bool.false_eq_true, if_false]
  · rw [if_neg (by omega), if_neg (by omega), if_pos hk, hk] at hf
    obtain ⟨q1, q2⟩ := h.of_ hk
    obtain rfl : kO = true := Option.some.inj (o1.symm.trans q1)
    have hu := inW.2 q2
    have hd := decide_eq_true hf
    simp only [hk, hd, hu, show decide ((4 : Int) = 1) = false from rfl, show decide ((4 : Int) = 3) = false from rfl, show decide ((4 : Int) = 4) = true from rfl, decide_true, decide_false, Bool.not_true, Bool.not_false, Bool.true_and, Bool.false_and, Bool.and_true, Bool.and_false, Bool.or_false, Bool.false_or, Bool.true_or, Bool.or_true, Bool.and_self, Bool.or_self, if_true, Bool.false_eq_true, if_false]
theorem DsG.sub {x p : List GDeed} (h : DsG x) (s : p.Sublist x) : DsG p :=
  ⟨Nat.le_trans s.length_le h.len, fun y hy => h.each y (s.subset hy), up_DAdj (h.adj.up.sublist s), h.nodup.sublist (s.map _)⟩
theorem chk_l (l : List GDeed) (h : DsG l) (j : List (Gmeet_place × Bool) → Bool → Option Int) : ∀ (ys dn : List GDeed) (m : List (Gmeet_place × Bool)), l = dn ++ ys → (∀ e, mgetD m e false = decide (e ∈ dn.map meet_placeOf)) →
    ∃ m', meet_CheckDeeds_l1 l j ys dn.length m false = j m' false
  | [], dn, m, _, _ => ⟨m, rfl⟩
  | y :: ys, dn, m, hd, hm => by
    have hl := h.len
    have hlen : l.length = dn.length + (ys.length + 1) := by rw [hd]; simp
    have hy := (h.each y (by rw [hd]; simp)).chk
    have hns : meet_placeOf y ∉ dn.map meet_placeOf := fun hin => by
      have hn := h.nodup
      rw [hd, List.map_append, List.nodup_append] at hn
      exact hn.2.2 _ hin _ (by simp) rfl
    obtain ⟨m', e⟩ := chk_l l h j ys (dn ++ [y]) (mput m (meet_placeOf y) true) (by rw [hd]; simp) (fun e => by
      rw [mgetPut, hm e]
      by_cases h1 : e = meet_placeOf y
      · rw [if_pos h1]; exact (decide_eq_true (by simp [h1])).symm
      · rw [if_neg h1]; exact decide_eq_decide.2 (by simp [h1]))
    rw [List.length_append, List.length_singleton] at e
    refine ⟨m', ?_⟩
    rw [meet_CheckDeeds_l1, hy]
    simp only [Option.bind_some, join_eq, decide_true, Bool.not_true, Bool.false_eq_true, if_false, hm, decide_eq_false hns, Bool.or_self]
    by_cases h0 : (0 : Int) < (dn.length : Int)
    · obtain ⟨d, x, hdx⟩ : ∃ d x, dn = d ++ [x] := by
        rcases List.eq_nil_or_concat dn with h1 | ⟨d, x, h1⟩
        · rw [h1] at h0; simp at h0
        · exact ⟨d, x, by rw [h1]; simp⟩
      have hdl : dn.length = d.length + 1 := by rw [hdx]; simp
      have hw : W ((dn.length : Int) - 1) = (d.length : Int) := by rw [W_in (by omega) (by omega)]; omega
      have hn : nth l (d.length : Int) = x := by rw [hd, hdx]; unfold nth; simp
      have hc : ¬ 0 ≤ meet_compare x y := by
        have := h.adj d x y ys (by rw [hd, hdx]; simp)
        omega
      simp only [h0, decide_true, if_true, hw, chk_pos (show inB (d.length : Int) l.length = true from inB_iff.2 (by omega)), hn, hc, decide_false, Bool.false_eq_true, if_false]
      exact e
    · simp only [h0, decide_false, Bool.false_eq_true, if_false]
      exact e
theorem DsG.chk {l : List GDeed} (h : DsG l) : meet_CheckDeeds l = some 0 := by
  have hl := h.len
  unfold meet_CheckDeeds
  rw [if_neg (by simp; omega)]
  simp only [join_eq]
  obtain ⟨m', e⟩ := chk_l l h (fun x1 x2 => if x2 then some 6 else some 0) l [] [] rfl (fun e => by simp [mgetD, mget, mfind])
  rw [show ([] : List GDeed).length = 0 from rfl] at e
  rw [e]
  rfl
theorem mgetPutD (m : List (Gmeet_place × GDeed)) (k k' : Gmeet_place) (v : GDeed) : mget (mput m k v) k' = if k' = k then some v else mget m k' := mfindPut k k' v m 0
theorem merge_l1 (j : List (Gmeet_place × GDeed) → Option (List GDeed × Int)) : ∀ (ys dn : List GDeed) (i : Nat) (m : List (Gmeet_place × GDeed)), ((dn ++ ys).map meet_placeOf).Nodup →
    (∀ s ∈ dn, mget m (meet_placeOf s) = some s) → (∀ e, (mget m e).isSome = true → ∃ s ∈ dn, meet_placeOf s = e) →
    ∃ m', meet_Merge_l1 j ys i m = j m' ∧ (∀ s ∈ dn ++ ys, mget m' (meet_placeOf s) = some s) ∧ ∀ e, (mget m' e).isSome = true → ∃ s ∈ dn ++ ys, meet_placeOf s = e
  | [], dn, i, m, _, h1, h2 => ⟨m, rfl, by simpa using h1, by simpa using h2⟩
  | y :: ys, dn, i, m, hn, h1, h2 => by
    obtain ⟨m', e, g1, g2⟩ := merge_l1 j ys (dn ++ [y]) (i + 1) (mput m (meet_placeOf y) y) (by simpa using hn) (fun s hs => by
      rw [mgetPutD]
      rcases List.mem_append.1 hs with hs | hs
      · rw [if_neg]
        · exact h1 s hs
        · intro he
          rw [List.map_append, List.nodup_append] at hn
          exact hn.2.2 _ (List.mem_map_of_mem hs) _ (by simp) he
      · obtain rfl := List.mem_singleton.1 hs
        rw [if_pos rfl]) (fun e he => by
      rw [mgetPutD] at he
      by_cases h : e = meet_placeOf y
      · exact ⟨y, by simp, h.symm⟩
      · rw [if_neg h] at he
        obtain ⟨s, hs, hse⟩ := h2 e he
        exact ⟨s, List.mem_append.2 (.inl hs), hse⟩)
    exact ⟨m', by rw [meet_Merge_l1]; exact e, by simpa using g1, by simpa using g2⟩
theorem merge_l2 (m : List (Gmeet_place × GDeed)) (p : List GDeed) (j : List GDeed → Option (List GDeed × Int)) (h1 : ∀ s ∈ p, mget m (meet_placeOf s) = some s) : ∀ (ys : List GDeed) (i : Nat) (o : List GDeed),
    (∀ y ∈ ys, (mget m (meet_placeOf y)).isSome = true → y ∈ p) → o.length + ys.length ≤ 1000 → meet_Merge_l2 m j ys i o = j (o ++ ys.filter fun y => !decide (y ∈ p))
  | [], i, o, _, _ => by rw [meet_Merge_l2]; simp
  | y :: ys, i, o, h2, hl => by
    simp only [List.length_cons] at hl
    have hr : room o.length = true := by unfold room; exact decide_eq_true (by omega)
    have h2' : ∀ z ∈ ys, (mget m (meet_placeOf z)).isSome = true → z ∈ p := fun z hz => h2 z (List.mem_cons_of_mem _ hz)
    rw [meet_Merge_l2]
    simp only [joinR]
    by_cases hp : y ∈ p
    · have hg := h1 y hp
      have hd : mgetD m (meet_placeOf y) (GDeed.mk k_empty 0 0 0 k_empty k_empty k_empty 0 0 k_empty 0) = y := by unfold mgetD; rw [hg]; rfl
      simp only [hg, hd, Option.isSome_some, decide_true, Bool.not_true, Bool.and_false, Bool.false_eq_true, if_false]
      rw [merge_l2 m p j h1 ys (i + 1) o h2' (by omega), List.filter_cons, if_neg (by simp [hp])]
    · have hg : (mget m (meet_placeOf y)).isSome = false := by
        cases hx : (mget m (meet_placeOf y)).isSome with
        | false => rfl
        | true => exact absurd (h2 y List.mem_cons_self hx) hp
      simp only [hg, Bool.false_and, Bool.false_eq_true, if_false, Bool.not_false, if_true, chkT hr]
      rw [merge_l2 m p j h1 ys (i + 1) (o ++ [y]) h2' (by simp; omega), List.filter_cons, if_pos (by simp [hp])]
      simp
theorem merge_parts {x p q : List GDeed} (hx : DsG x) (hl : x.length ≤ 12) (sp : p.Sublist x) (sq : q.Sublist x) (hall : ∀ s ∈ x, s ∈ p ∨ s ∈ q) : meet_Merge p q = some (x, 0) := by
  have hp := hx.sub sp
  have hq := hx.sub sq
  have inj : ∀ a ∈ x, ∀ b ∈ x, meet_placeOf a = meet_placeOf b → a = b := by
    intro a ha b hb he
    have hn := hx.nodup
    obtain ⟨d1, d2, e1⟩ := List.append_of_mem ha
    rw [e1, List.map_append, List.map_cons, List.nodup_append] at hn
    rw [e1] at hb
    rcases List.mem_append.1 hb with hb | hb
    · exact absurd he.symm (hn.2.2 _ (List.mem_map_of_mem hb) _ (by simp))
    · rcases List.mem_cons.1 hb with rfl | hb
      · rfl
      · have := (List.nodup_cons.1 hn.2.1).1
        exact absurd (he ▸ List.mem_map_of_mem hb) this
  obtain ⟨m, e, g1, g2⟩ := merge_l1 (fun x1 => Option.bind (slices_Clone_Deed p) (fun r3 => Join (fun (x2 : List GDeed) => if decide (2000 < (x2.length : Int)) then some (([] : List GDeed), 2) else Option.bind (slices_SortFunc_Deed_meet_compare x2) (fun r4 => some (r4, 0))) (fun j2 => meet_Merge_l2 x1 j2 q 0 r3)))
    p [] 0 [] (by simpa using hp.nodup) (by simp) (by simp [mget, mfind])
  rw [List.nil_append] at g1 g2
  have lp := sp.length_le
  have lq := sq.length_le
  have h2 : ∀ y ∈ q, (mget m (meet_placeOf y)).isSome = true → y ∈ p := fun y hy h => by
    obtain ⟨s, hs, he⟩ := g2 _ h
    rw [← inj s (sp.subset hs) y (sq.subset hy) he]
    exact hs
  have hcl : slices_Clone_Deed p = some p := by
    unfold slices_Clone_Deed
    rw [chk_pos (decide_eq_true (by simp; omega)), List.nil_append]
  have hm : ∀ z, z ∈ (p ++ q.filter fun y => !decide (y ∈ p)) ↔ z ∈ x := by
    intro z
    simp only [List.mem_append, List.mem_filter, Bool.not_eq_true', decide_eq_false_iff_not]
    constructor
    · rintro (h | h)
      · exact sp.subset h
      · exact sq.subset h.1
    · intro h
      by_cases hz : z ∈ p
      · exact .inl hz
      · exact .inr ⟨(hall z h).resolve_left hz, hz⟩
  have hpw : (p ++ q.filter fun y => !decide (y ∈ p)).Pairwise fun a b => ltD b a = false → ltD a b = true := by
    have key : ∀ {l : List GDeed}, DsG l → l.Pairwise fun a b => ltD b a = false → ltD a b = true := fun h => List.Pairwise.imp (fun {a b} (h1 : ltD a b = true) => fun _ : ltD b a = false => h1) h.adj.up
    rw [List.pairwise_append]
    refine ⟨key hp, key (hq.sub List.filter_sublist), fun a ha b hb h => ltD_tot h fun he => ?_⟩
    simp only [List.mem_filter, Bool.not_eq_true', decide_eq_false_iff_not] at hb
    have := inj a (sp.subset ha) b (sq.subset hb.1) he
    exact hb.2 (this ▸ ha)
  have hsort := isort_is ltD_irr ltD_trans _ _ hpw hx.adj.up hm
  have hlen : (p ++ q.filter fun y => !decide (y ∈ p)).length = x.length := by rw [← isort_len' ltD, hsort]
  unfold meet_Merge
  rw [hp.chk, hq.chk]
  simp only [Option.bind_some, decide_true, Bool.not_true, Bool.false_eq_true, if_false, joinR] at e ⊢
  rw [e, hcl]
  simp only [Option.bind_some]
  rw [merge_l2 m p _ g1 q 0 p h2 (by omega), if_neg (by simp only [decide_eq_true_eq]; omega), sortD_is _ (by omega), hsort]
  rfl
end Go.Proofs.YtnmojfimananjaaGreatDoor
