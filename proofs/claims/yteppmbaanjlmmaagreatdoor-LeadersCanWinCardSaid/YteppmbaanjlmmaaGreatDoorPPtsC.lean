/- Ranks that the stream gives pass the program's check. No program stands here but its twins. -/
import Derived.Test.YteppmbaanjlmmaaGreatDoorPPtsS
namespace Go.Proofs.YteppmbaanjlmmaaGreatDoor
open Go
/-- Each rank is that of a place, or of those before it. -/
def RankOk (g : List GScored) : Prop := ∀ a x b, g = a ++ x :: b → 0 < x.Rank → x.Rank = (a.length : Int) + 1 ∨ ∃ d y, a = d ++ [y] ∧ y.Rank = x.Rank
theorem countP_lt {α : Type} {p q : α → Bool} {e : α} (he : p e = true) (hq : q e = false) : ∀ (l : List α), (∀ x ∈ l, q x = true → p x = true) → e ∈ l → l.countP q < l.countP p
  | [], _, h => by cases h
  | x :: l, hpq, h => by
    rw [List.countP_cons, List.countP_cons]
    have hm : l.countP q ≤ l.countP p := List.countP_mono_left fun z hz => hpq z (List.mem_cons_of_mem _ hz)
    rcases List.mem_cons.1 h with rfl | h
    · rw [if_pos he, if_neg (by simp [hq])]; omega
    · have ih := countP_lt he hq l (fun z hz => hpq z (List.mem_cons_of_mem _ hz)) h
      have := hpq x List.mem_cons_self
      split
      · rename_i h1; rw [if_pos (this h1)]; omega
      · split <;> omega
theorem rk_lt {o : List GScored} {w z : GScored} (hw : w ∈ o) (h0 : 0 < w.Rank) : rk o w.Rank < rk o z.Rank ↔ w.Rank < z.Rank := by
  unfold rk
  constructor
  · intro h
    rcases Int.lt_or_le w.Rank z.Rank with h1 | h1
    · exact h1
    · have : o.countP (fun u => decide (0 < u.Rank) && decide (u.Rank < z.Rank)) ≤ o.countP (fun u => decide (0 < u.Rank) && decide (u.Rank < w.Rank)) :=
        List.countP_mono_left fun u _ hu => by simp only [Bool.and_eq_true, decide_eq_true_eq] at hu ⊢; omega
      omega
  · intro h
    have := countP_lt (p := fun u : GScored => decide (0 < u.Rank) && decide (u.Rank < z.Rank)) (q := fun u => decide (0 < u.Rank) && decide (u.Rank < w.Rank)) (e := w) (by simp [h0, h]) (by simp) o (fun u _ hu => by simp only [Bool.and_eq_true, decide_eq_true_eq] at hu ⊢; omega) hw
    omega
structure GGd (race : ByteArray) (rel : Bool) (g : List GScored) : Prop where
  len : g.length ≤ 5
  row : ∀ x ∈ g, x.Race = race ∧ x.Relay = rel ∧ x.Who ∈ fiveP ∧ x.Club ∈ clubP ∧ 0 ≤ x.Rank ∧ x.Rank ≤ 6
  asc : g.Pairwise fun x y => lexS x y = true
  who : g.Pairwise fun x y => x.Who ≠ y.Who
  rank : RankOk g
theorem gp_ok {race : ByteArray} {rel : Bool} {o : List GScored} (h : O0 race rel o) : GGd race rel (gp o) := by
  have hperm : (gp o).Perm (o.map (hR o)) := isort_perm _ _
  have hwho0 : (o.map (hR o)).Pairwise fun x y => x.Who ≠ y.Who := by
    rw [List.pairwise_map]; exact h.who
  have hwho : (gp o).Pairwise fun x y => x.Who ≠ y.Who := (hperm.pairwise_iff (fun h => h.symm)).2 hwho0
  have hasc : (gp o).Pairwise fun x y => lexS x y = true := isort_asc lexS_trans _ (hwho0.imp fun hne h1 => lexS_total hne h1)
  have hrow : ∀ x ∈ gp o, x.Race = race ∧ x.Relay = rel ∧ x.Who ∈ fiveP ∧ x.Club ∈ clubP ∧ 0 ≤ x.Rank ∧ x.Rank ≤ 6 := fun x hx => by
    obtain ⟨z, hz, rfl⟩ := List.mem_map.1 (hperm.subset hx)
    obtain ⟨r1, r2, r3, r4, _⟩ := h.row z hz
    exact ⟨r1, r2, r3, r4, hR_rr h z⟩
  refine ⟨by rw [hperm.length_eq, List.length_map]; exact h.len, hrow, hasc, hwho, fun a x b e hx => ?_⟩
  have hxm : x ∈ gp o := by rw [e]; simp
  obtain ⟨z, hz, hxz⟩ := List.mem_map.1 (hperm.subset hxm)
  have hz0 : 0 < z.Rank := by
    rcases Int.lt_or_le 0 z.Rank with h1 | h1
    · exact h1
    · have : x.Rank = 0 := by rw [← hxz]; unfold hR; simp only; rw [if_neg (by omega)]
      omega
  have hxr : x.Rank = (rk o z.Rank : Int) := by rw [← hxz]; unfold hR; simp only; rw [if_pos hz0]
  -- how many are less
  have hcount : (gp o).countP (fun u => decide (0 < u.Rank) && decide (u.Rank < x.Rank)) + 1 = rk o z.Rank := by
    rw [hperm.countP_eq, List.countP_map]
    have : o.countP ((fun u : GScored => decide (0 < u.Rank) && decide (u.Rank < x.Rank)) ∘ hR o) = o.countP fun u => decide (0 < u.Rank) && decide (u.Rank < z.Rank) := by
      refine List.countP_congr fun u hu => ?_
      simp only [Function.comp, Bool.and_eq_true, decide_eq_true_eq]
      rw [hxr]
      have hur := (h.row u hu).2.2.2.2
      unfold hR
      simp only
      by_cases hu0 : 0 < u.Rank
      · rw [if_pos hu0]
        have := @rk_lt o u z hu hu0
        have h1 : 0 < (rk o u.Rank : Int) := by unfold rk; omega
        omega
      · rw [if_neg hu0]; omega
    rw [this]; unfold rk; omega
  have hle : ∀ u v : GScored, u ∈ gp o → v ∈ gp o → lexS u v = true → kR u ≤ kR v := fun u v hu hv hl => by
    rw [lexS_iff, (hrow u hu).1, (hrow v hv).1, cB_refl] at hl
    rcases hl with hl | ⟨_, hl | hl⟩ <;> omega
  have hkx : kR x = x.Rank := by unfold kR; rw [if_neg (by omega)]
  have hasc' := hasc
  rw [e, List.pairwise_append, List.pairwise_cons] at hasc'
  obtain ⟨s1, ⟨s2, _⟩, s3⟩ := hasc'
  have hb0 : b.countP (fun u => decide (0 < u.Rank) && decide (u.Rank < x.Rank)) = 0 := by
    rw [List.countP_eq_zero]
    intro u hu
    have hum : u ∈ gp o := by rw [e]; simp [hu]
    have := hle x u hxm hum (s2 u hu)
    unfold kR at this
    have hxr6 := (hrow x hxm).2.2.2.2
    simp only [Bool.and_eq_true, decide_eq_true_eq, not_and]
    intro h1 h2
    rw [if_neg (by omega), if_neg (by omega)] at this
    omega
  rw [e, List.countP_append, List.countP_cons, hb0, if_neg (by simp)] at hcount
  have hal := List.countP_le_length (p := fun u : GScored => decide (0 < u.Rank) && decide (u.Rank < x.Rank)) (l := a)
  by_cases hc : a.countP (fun u => decide (0 < u.Rank) && decide (u.Rank < x.Rank)) = a.length
  · left; omega
  · right
    have hex : ∃ v ∈ a, ¬ ((decide (0 < v.Rank) && decide (v.Rank < x.Rank)) = true) := by
      rcases Classical.em (∃ v ∈ a, ¬ ((decide (0 < v.Rank) && decide (v.Rank < x.Rank)) = true)) with h1 | h1
      · exact h1
      · exfalso
        refine hc (List.countP_eq_length.2 fun v hv => ?_)
        rcases Classical.em ((decide (0 < v.Rank) && decide (v.Rank < x.Rank)) = true) with h2 | h2
        · exact h2
        · exact (h1 ⟨v, hv, h2⟩).elim
    obtain ⟨v, hv, hvn⟩ := hex
    rcases List.eq_nil_or_concat a with rfl | ⟨d, y, rfl⟩
    · cases hv
    · simp only [List.concat_eq_append] at *
      refine ⟨d, y, rfl, ?_⟩
      have hym : y ∈ gp o := by rw [e]; simp
      have hvm : v ∈ gp o := by rw [e]; exact List.mem_append_left _ hv
      have h1 : kR y ≤ kR x := hle y x hym hxm (s3 y (by simp) x (by simp))
      have h2 : kR v ≤ kR y := by
        rcases List.mem_append.1 hv with hv | hv
        · rw [List.pairwise_append] at s1
          exact hle v y hvm hym (s1.2.2 v hv y (by simp))
        · obtain rfl := List.mem_singleton.1 hv; omega
      have h3 : kR x ≤ kR v := by
        have hvr := (hrow v hvm).2.2.2.2
        have hxr6 := (hrow x hxm).2.2.2.2
        simp only [Bool.and_eq_true, decide_eq_true_eq, not_and] at hvn
        rw [hkx]
        unfold kR
        split
        · omega
        · have := hvn (by omega); omega
      have h4 : kR y = x.Rank := by omega
      have hyr := (hrow y hym).2.2.2.2
      have hxr6 := (hrow x hxm).2.2.2.2
      unfold kR at h4
      split at h4 <;> omega
/-! ### All rows -/
structure LGd (Gs : List (List GScored)) : Prop where
  grp : ∀ g ∈ Gs, g ≠ [] ∧ ∃ race rel, race ∈ raceP ∧ GGd race rel g
  diff : Gs.Pairwise fun g g' => ∀ x ∈ g, ∀ y ∈ g', cB x.Race y.Race < 0
  len : Gs.flatten.length ≤ 15
theorem LGd.one {Gs : List (List GScored)} (h : LGd Gs) : ∀ g ∈ Gs, One g ∧ g.length ≤ 5 := fun g hg => by
  obtain ⟨h1, race, rel, _, h2⟩ := h.grp g hg
  exact ⟨⟨h1, fun x hx y hy => by rw [(h2.row x hx).1, (h2.row y hy).1]⟩, h2.len⟩
theorem LGd.ne {Gs : List (List GScored)} (h : LGd Gs) : Gs.Pairwise fun g g' => ∀ x ∈ g, ∀ y ∈ g', x.Race ≠ y.Race :=
  h.diff.imp fun hd x hx y hy e => by have := hd x hx y hy; rw [e, cB_refl] at this; omega
theorem flatten_filter : ∀ (Gs : List (List GScored)), (Gs.filter fun g => !g.isEmpty).flatten = Gs.flatten
  | [] => rfl
  | g :: Gs => by
    rw [List.filter_cons]
    cases g with
    | nil => simp [flatten_filter Gs]
    | cons a b => simp [flatten_filter Gs]
theorem scored_dr {L : List Int} (hL : LongL L) {a : Int} (h0 : 0 ≤ a) (h1 : a ≤ 100000) : Dr a 48 (fun l => ∃ Gs, l = Gs.flatten ∧ LGd Gs) (Stream_RightScored L a) := by
  unfold Stream_RightScored
  simp only [join_eq]
  obtain ⟨os, b, e, g1, g2, g3, g4⟩ := sc_l1 hL (fun x1 x2 => some (x1, x2)) [k_ra, k_rb, k_rc] 0 [] a h0 (by simp; omega) (by simp)
  simp only [List.length_cons, List.length_nil] at g2 g3
  refine ⟨_, b, e, g1, by omega, (os.map fun p => gp p.2).filter fun g => !g.isEmpty, by rw [flatten_filter]; simp, ?_⟩
  match os, g3 with
  | [p1, p2, p3], _ =>
    have o1 := gp_ok (g4 0 _ p1 rfl rfl)
    have o2 := gp_ok (g4 1 _ p2 rfl rfl)
    have o3 := gp_ok (g4 2 _ p3 rfl rfl)
    refine ⟨fun g hg => ?_, ?_, ?_⟩
    · obtain ⟨hm, hne⟩ := List.mem_filter.1 hg
      refine ⟨fun h => by subst h; simp at hne, ?_⟩
      simp only [List.map_cons, List.map_nil, List.mem_cons, List.not_mem_nil, or_false] at hm
      rcases hm with rfl | rfl | rfl
      · exact ⟨k_ra, p1.1, by simp [raceP], o1⟩
      · exact ⟨k_rb, p2.1, by simp [raceP], o2⟩
      · exact ⟨k_rc, p3.1, by simp [raceP], o3⟩
    · refine List.Pairwise.filter _ ?_
      have c1 : cB k_ra k_rb < 0 := by decide +kernel
      have c2 : cB k_ra k_rc < 0 := by decide +kernel
      have c3 : cB k_rb k_rc < 0 := by decide +kernel
      simp only [List.map_cons, List.map_nil, List.pairwise_cons, List.mem_cons, List.not_mem_nil, or_false]
      refine ⟨fun g hg x hx y hy => ?_, fun g hg x hx y hy => ?_, (fun g hg => hg.elim), List.Pairwise.nil⟩
      · rcases hg with rfl | rfl
        · rw [(o1.row x hx).1, (o2.row y hy).1]; exact c1
        · rw [(o1.row x hx).1, (o3.row y hy).1]; exact c2
      · subst hg
        rw [(o2.row x hx).1, (o3.row y hy).1]; exact c3
    · rw [flatten_filter]
      have := o1.len; have := o2.len; have := o3.len
      simp; omega
theorem LGd.row {Gs : List (List GScored)} (h : LGd Gs) : ∀ x ∈ Gs.flatten, x.Race ∈ raceP ∧ x.Who ∈ fiveP ∧ x.Club ∈ clubP ∧ 0 ≤ x.Rank ∧ x.Rank ≤ 6 := fun x hx => by
  obtain ⟨g, hg, hx⟩ := List.mem_flatten.1 hx
  obtain ⟨_, race, rel, hr, h2⟩ := h.grp g hg
  obtain ⟨r1, _, r3, r4, r5⟩ := h2.row x hx
  exact ⟨by rw [r1]; exact hr, r3, r4, r5⟩
theorem LGd.asc {Gs : List (List GScored)} (h : LGd Gs) : Gs.flatten.Pairwise fun x y => lexS x y = true := by
  rw [List.pairwise_flatten]
  refine ⟨fun g hg => ?_, h.diff.imp fun hd x hx y hy => lexS_iff.2 (.inl (hd x hx y hy))⟩
  obtain ⟨_, race, rel, _, h2⟩ := h.grp g hg
  exact h2.asc
theorem LGd.who {Gs : List (List GScored)} (h : LGd Gs) : Gs.flatten.Pairwise fun x y => ¬ (x.Race = y.Race ∧ x.Who = y.Who) := by
  rw [List.pairwise_flatten]
  refine ⟨fun g hg => ?_, h.ne.imp fun hd x hx y hy e => hd x hx y hy e.1⟩
  obtain ⟨_, race, rel, _, h2⟩ := h.grp g hg
  exact h2.who.imp fun hne e => hne e.2
theorem keyP {s : ByteArray} (h : s ∈ raceP ∨ s ∈ fiveP ∨ (s ∈ clubP ∧ s ≠ k_empty)) : words_IsKey s = some true := by
  simp only [raceP, fiveP, clubP, List.mem_cons, List.not_mem_nil, or_false] at h
  rcases h with (rfl | rfl | rfl) | (rfl | rfl | rfl | rfl | rfl) | ⟨rfl | rfl | rfl | rfl | rfl, hn⟩
  any_goals (decide +kernel)
  exact (hn rfl).elim
theorem compare_neg {x y : GScored} (hx : 0 ≤ x.Rank ∧ x.Rank ≤ 6) (hy : 0 ≤ y.Rank ∧ y.Rank ≤ 6) (h : lexS x y = true) : points_compare x y < 0 := by
  have hc : strings_Compare x.Race y.Race = cB x.Race y.Race := rfl
  have hw : strings_Compare x.Who y.Who = cB x.Who y.Who := rfl
  have hor : ∀ a b c : Int, cmp_Or_int [a, b, c] = if a ≠ 0 then a else if b ≠ 0 then b else c := fun a b c => by
    unfold cmp_Or_int
    simp only [join_eq]
    rw [cmp_Or_int_l1, cmp_Or_int_l1, cmp_Or_int_l1, cmp_Or_int_l1]
    by_cases h1 : a = 0
    · by_cases h2 : b = 0
      · by_cases h3 : c = 0
        · simp [h1, h2, h3]
        · simp [h1, h2, h3]
      · simp [h1, h2]
    · simp [h1]
  have hk : points_compareRanks x.Rank y.Rank = kR x - kR y := by
    have k1 := @kR_rng x ⟨hx.1, by omega⟩
    have k2 := @kR_rng y ⟨hy.1, by omega⟩
    unfold points_compareRanks
    simp only [join_eq]
    have e : kR x - kR y = W (kR x - kR y) := (W_in (by omega) (by omega)).symm
    rw [e]
    unfold kR
    by_cases a : x.Rank = 0
    · by_cases b : y.Rank = 0
      · simp [a, b]
      · simp [a, b]
    · by_cases b : y.Rank = 0
      · simp [a, b]
      · simp [a, b]
  unfold points_compare
  rw [hc, hw, hk, hor]
  rw [lexS_iff] at h
  rcases h with h | ⟨e, h⟩
  · rw [if_pos (by omega)]; exact h
  · rw [e, cB_refl, if_neg (by simp)]
    rcases h with h | ⟨k, h⟩
    · rw [if_pos (by omega)]; omega
    · rw [if_neg (by omega)]; exact h
theorem twice_l (j : List (Gpoints_entry × Bool) → Option Int) (l : List GScored) (hw : l.Pairwise fun x y => ¬ (x.Race = y.Race ∧ x.Who = y.Who)) : ∀ (ys dn : List GScored) (m : List (Gpoints_entry × Bool)), l = dn ++ ys → (∀ e, mgetD m e false = true → ∃ x ∈ dn, e = Gpoints_entry.mk x.Race x.Who) →
    ∃ m', points_checkAll_l1 j ys dn.length m = j m'
  | [], dn, m, _, _ => ⟨m, rfl⟩
  | y :: ys, dn, m, h1, h2 => by
    have hno : mgetD m (Gpoints_entry.mk y.Race y.Who) false = false := by
      cases hm : mgetD m (Gpoints_entry.mk y.Race y.Who) false with
      | false => rfl
      | true =>
        obtain ⟨x, hx, e⟩ := h2 _ hm
        rw [h1, List.pairwise_append] at hw
        injection e with e1 e2
        exact (hw.2.2 x hx y List.mem_cons_self ⟨e1.symm, e2.symm⟩).elim
    rw [points_checkAll_l1, hno, if_neg (by simp)]
    obtain ⟨m', e⟩ := twice_l j l hw ys (dn ++ [y]) (mput m (Gpoints_entry.mk y.Race y.Who) true) (by rw [h1]; simp) (fun e he => by
      rw [mgetPut] at he
      split at he
      · rename_i hk; exact ⟨y, by simp, hk⟩
      · obtain ⟨x, hx, e'⟩ := h2 e he; exact ⟨x, by simp [hx], e'⟩)
    rw [List.length_append, List.length_singleton] at e
    exact ⟨m', e⟩
theorem relay_l (g : List GScored) (g0 : GScored) (hg0 : nth g 0 = g0) (hin : inB 0 g.length = true) : ∀ (ys : List GScored) (i : Nat), (∀ y ∈ ys, y.Relay = g0.Relay) → slices_IndexFunc_Scored_points_checkAll_c1_l1 g (some (-1)) ys i = some (-1)
  | [], _, _ => rfl
  | y :: ys, i, h => by
    rw [slices_IndexFunc_Scored_points_checkAll_c1_l1]
    unfold points_checkAll_c1
    rw [chk_pos hin, hg0, h y List.mem_cons_self]
    simp only [decide_true, Bool.not_true, Option.bind_some, Bool.false_eq_true, if_false]
    exact relay_l g g0 hg0 hin ys (i + 1) fun z hz => h z (List.mem_cons_of_mem _ hz)
theorem check_l2 (j : Option Int) : ∀ (Gs : List (List GScored)) (i : Nat), (∀ g ∈ Gs, g ≠ [] ∧ ∃ race rel, race ∈ raceP ∧ GGd race rel g) → points_checkAll_l2 j Gs i = j
  | [], _, _ => rfl
  | g :: Gs, i, h => by
    obtain ⟨h1, race, rel, _, h2⟩ := h g List.mem_cons_self
    rw [points_checkAll_l2]
    unfold slices_ContainsFunc_Scored_points_checkAll_c1 slices_IndexFunc_Scored_points_checkAll_c1
    simp only [join_eq]
    have hp := List.length_pos_iff.2 h1
    have hin : inB 0 g.length = true := inB_iff.2 (by omega)
    have hm : nth g 0 ∈ g := List.mem_of_getElem? (inB_get hin).1
    rw [relay_l g (nth g 0) rfl hin g 0 fun y hy => by rw [(h2.row y hy).2.1, (h2.row _ hm).2.1]]
    simp only [Option.bind_some]
    rw [if_neg (by simp)]
    exact check_l2 j Gs (i + 1) fun g' h' => h g' (List.mem_cons_of_mem _ h')
theorem check_l4 (g : List GScored) (hr : RankOk g) (hl : g.length ≤ 5) (j : Option Int) : ∀ (ys dn : List GScored), g = dn ++ ys → points_checkAll_l4 g j ys dn.length = j
  | [], _, _ => rfl
  | y :: ys, dn, h => by
    have hdl : dn.length ≤ 5 := by rw [h] at hl; simp at hl; omega
    have ih := check_l4 g hr hl j ys (dn ++ [y]) (by rw [h]; simp)
    rw [List.length_append, List.length_singleton] at ih
    rw [points_checkAll_l4]
    simp only [join_eq]
    rw [W_in (by omega) (by omega)]
    by_cases hc : ((decide (0 < y.Rank)) && (!decide (y.Rank = ((dn.length : Int) + 1)))) = true
    · rw [if_pos hc]
      simp only [Bool.and_eq_true, decide_eq_true_eq, Bool.not_eq_true', decide_eq_false_iff_not] at hc
      rcases hr dn y ys h hc.1 with h1 | ⟨d, p, e, h1⟩
      · exact (hc.2 h1).elim
      · subst e
        have hlen : ((d ++ [p]).length : Int) = (d.length : Int) + 1 := by simp
        have hn : nth g (d.length : Int) = p := by
          have : g = d ++ p :: (y :: ys) := by rw [h]; simp
          rw [this]; exact nth_mid d p (y :: ys) rfl
        have hin : inB (d.length : Int) g.length = true := inB_iff.2 (by rw [h]; simp; omega)
        have hz : decide (((d ++ [p]).length : Int) = 0) = false := decide_eq_false (by omega)
        rw [hz, if_neg (by simp), hlen, show (d.length : Int) + 1 - 1 = (d.length : Int) by omega, W_in (by omega) (by omega), chk_pos hin, hn, h1]
        simp only [decide_true, Bool.not_true, Bool.or_self, Bool.and_false, Bool.false_eq_true, if_false]
        exact ih
    · rw [if_neg hc]
      simp only [Bool.not_eq_true] at hc
      rw [if_neg (by rw [hc]; simp)]
      exact ih
theorem check_l3 (j : Option Int) : ∀ (Gs : List (List GScored)) (i : Nat), (∀ g ∈ Gs, g ≠ [] ∧ ∃ race rel, race ∈ raceP ∧ GGd race rel g) → points_checkAll_l3 j Gs i = j
  | [], _, _ => rfl
  | g :: Gs, i, h => by
    obtain ⟨h1, race, rel, _, h2⟩ := h g List.mem_cons_self
    rw [points_checkAll_l3]
    simp only [join_eq]
    have := check_l4 g h2.rank h2.len (points_checkAll_l3 j Gs (i + 1)) g [] rfl
    rw [List.length_nil] at this
    rw [this]
    exact check_l3 j Gs (i + 1) fun g' h' => h g' (List.mem_cons_of_mem _ h')
theorem check_l5 (j : Option Int) : ∀ (Gs : List (List GScored)) (i : Nat), (∀ g ∈ Gs, g.length ≤ 5) → points_checkAll_l5 j Gs i = j
  | [], _, _ => rfl
  | g :: Gs, i, h => by
    have hl := h g List.mem_cons_self
    rw [points_checkAll_l5]
    simp only [join_eq]
    rw [points_checkAll_l6, if_neg (by simp; omega)]
    exact check_l5 j Gs (i + 1) fun g' h' => h g' (List.mem_cons_of_mem _ h')
theorem checkAll_ok {Gs : List (List GScored)} (h : LGd Gs) : points_checkAll Gs.flatten = some 0 := by
  unfold points_checkAll
  simp only [join_eq]
  have hlen := h.len
  obtain ⟨m', e⟩ := twice_l (fun _ => Option.bind (points_races Gs.flatten) (fun r1 => points_checkAll_l2 (points_checkAll_l3 (points_checkAll_l5 (some 0) r1 0) r1 0) r1 0)) Gs.flatten h.who Gs.flatten [] [] rfl (fun e he => by simp [mgetD, mget, mfind] at he)
  rw [List.length_nil] at e
  rw [e, races_is Gs (fun g hg => (h.one g hg).1) h.ne (by omega), Option.bind_some, check_l2 _ Gs 0 h.grp, check_l3 _ Gs 0 h.grp, check_l5 _ Gs 0 fun g hg => (h.one g hg).2]
theorem scored_loop (l : List GScored) (hl : l.length ≤ 15) (hr : ∀ x ∈ l, x.Race ∈ raceP ∧ x.Who ∈ fiveP ∧ x.Club ∈ clubP ∧ 0 ≤ x.Rank ∧ x.Rank ≤ 6) (ha : l.Pairwise fun x y => lexS x y = true) (j : Option Int) : ∀ (ys dn : List GScored), l = dn ++ ys → points_CheckScored_l1 l j ys dn.length = j
  | [], _, _ => rfl
  | y :: ys, dn, h => by
    have ih := scored_loop l hl hr ha j ys (dn ++ [y]) (by rw [h]; simp)
    rw [List.length_append, List.length_singleton] at ih
    obtain ⟨r1, r2, r3, r4⟩ := hr y (by rw [h]; simp)
    have hdl : dn.length ≤ 15 := by rw [h] at hl; simp at hl; omega
    have k1 := keyP (.inl r1)
    have k2 := keyP (.inr (.inl r2))
    have hw : words_Within y.Rank 0 300 = true := by unfold words_Within; simp; omega
    rw [points_CheckScored_l1, k1]
    simp only [join_eq, Option.bind_some, Bool.not_true, Bool.false_eq_true, if_false, k2, Bool.or_self, hw, Bool.false_or]
    have hclub : ∀ Z : Option Int, (if (!decide (y.Club = k_empty)) = true then Option.bind (words_IsKey y.Club) (fun r3 => if ((!decide (y.Club = k_empty)) && (!r3)) = true then some 5 else Z) else if ((!decide (y.Club = k_empty)) && true) = true then some 5 else Z) = Z := by
      intro Z
      by_cases hc : y.Club = k_empty
      · simp [hc]
      · rw [if_pos (by simp [hc]), keyP (.inr (.inr ⟨r3, hc⟩)), Option.bind_some, if_neg (by simp)]
    refine (hclub _).trans ?_
    rcases List.eq_nil_or_concat dn with rfl | ⟨d, x, rfl⟩
    · rw [if_neg (by simp)]; simpa using ih
    · simp only [List.concat_eq_append] at *
      have hlen : ((d ++ [x]).length : Int) = (d.length : Int) + 1 := by simp
      have hn : nth l (d.length : Int) = x := by
        have : l = d ++ x :: (y :: ys) := by rw [h]; simp
        rw [this]; exact nth_mid d x (y :: ys) rfl
      have hin : inB (d.length : Int) l.length = true := inB_iff.2 (by rw [h]; simp; omega)
      have hlt : lexS x y = true := by
        rw [h, List.pairwise_append] at ha
        exact ha.2.2 x (by simp) y (by simp)
      have hneg := compare_neg (hr x (by rw [h]; simp)).2.2.2 r4 hlt
      rw [if_pos (decide_eq_true (by omega)), hlen, show (d.length : Int) + 1 - 1 = (d.length : Int) by omega, W_in (by omega) (by omega), chk_pos hin, hn, if_neg (by simp; omega)]
      exact ih
theorem scored_ok {Gs : List (List GScored)} (h : LGd Gs) : points_CheckScored Gs.flatten = some 0 := by
  have hl := h.len
  unfold points_CheckScored
  rw [if_neg (by simp only [decide_eq_true_eq]; omega)]
  simp only [join_eq]
  have := scored_loop Gs.flatten hl h.row h.asc (Option.bind (points_checkAll Gs.flatten) (fun r4 => some r4)) Gs.flatten [] rfl
  rw [List.length_nil] at this
  rw [this, checkAll_ok h]; rfl
theorem both_ok {t : GTable} {Gs : List (List GScored)} (ht : TGood t) (h : LGd Gs) : points_checkBoth t Gs.flatten = some 0 := by
  unfold points_checkBoth
  rw [table_ok ht, scored_ok h]; rfl
end Go.Proofs.YteppmbaanjlmmaaGreatDoor
