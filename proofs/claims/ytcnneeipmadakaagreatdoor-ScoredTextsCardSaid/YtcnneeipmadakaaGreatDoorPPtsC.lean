/- Ranks that the stream gives pass the program's check. No program stands here but its twins. -/
import Derived.Test.YtcnneeipmadakaaGreatDoorPPtsS
namespace Go.Proofs.YtcnneeipmadakaaGreatDoor
open Go
def RankOk (g : List GScored) : Prop := ∀ a x b, g = a ++ x :: b → 0 < x.Rank → x.Rank = (a.length : Int) + 1 ∨ ∃ d y, a = d ++ [y] ∧ y.Rank = x.Rank
theorem countP_lt {α : Type} {p q : α → Bool} {e : α} (he : p e = true) (hq : q e = false) : ∀ (l : List α), (∀ x ∈ l, q x = true → p x = true) → e ∈ l → l.countP q < l.countP p
  | [], _, h => by cases h
  | x :: l, hpq, h => by
    rw [List.countP_cons, List.countP_cons]
    have hm : l.countP q ≤ l.countP p := List.countP_mono_left fun z hz => hpq z (List.mem_cons_of_mem _ hz)
    rcases List.mem_cons.1 h with rfl | h
    · rw [if_pos he, if_neg (by simp [hq])]; omega
    · have ih := countP_lt he hq l (fun z hz => hpq z (List.mem_cons_of_mem _ hz)) h
      have := hpq x List.mem_cons_self
      split
      · rename_i h1; rw [if_pos (this h1)]; omega
      · split <;> omega
theorem rk_lt {o : List GScored} {w z : GScored} (hw : w ∈ o) (h0 : 0 < w.Rank) : rk o w.Rank < rk o z.Rank ↔ w.Rank < z.Rank := by
  unfold rk
  constructor
  · intro h
    rcases Int.lt_or_le w.Rank z.Rank with h1 | h1
    · exact h1
    · have : o.countP (fun u => decide (0 < u.Rank) && decide (u.Rank < z.Rank)) ≤ o.countP (fun u => decide (0 < u.Rank) && decide (u.Rank < w.Rank)) :=
        List.countP_mono_left fun u _ hu => by simp only [Bool.and_eq_true, decide_eq_true_eq] at hu ⊢; omega
      omega
  · intro h
    have := countP_lt (p := fun u : GScored => decide (0 < u.Rank) && decide (u.Rank < z.Rank)) (q := fun u => decide (0 < u.Rank) && decide (u.Rank < w.Rank)) (e := w) (by simp [h0, h]) (by simp) o (fun u _ hu => by simp only [Bool.and_eq_true, decide_eq_true_eq] at hu ⊢; omega) hw
    omega
structure GGd (race : ByteArray) (rel : Bool) (g : List GScored) : Prop where
  len : g.length ≤ 5
  row : ∀ x ∈ g, x.Race = race ∧ x.Relay = rel ∧ x.Who ∈ fiveP ∧ x.Club ∈ clubP ∧ 0 ≤ x.Rank ∧ x.Rank ≤ 6
  asc : g.Pairwise fun x y => lexS x y = true
  who : g.Pairwise fun x y => x.Who ≠ y.Who
  rank : RankOk g
theorem gp_ok {race : ByteArray} {rel : Bool} {o : List GScored} (h : O0 race rel o) : GGd race rel (gp o) := by
  have hperm : (gp o).Perm (o.map (hR o)) := isort_perm _ _
  have hwho0 : (o.map (hR o)).Pairwise fun x y => x.Who ≠ y.Who := by
    rw [List.pairwise_map]; exact h.who
  have hwho : (gp o).Pairwise fun x y => x.Who ≠ y.Who := (hperm.pairwise_iff (fun h => h.symm)).2 hwho0
  have hasc : (gp o).Pairwise fun x y => lexS x y = true := isort_asc lexS_trans _ (hwho0.imp fun hne h1 => lexS_total hne h1)
  have hrow : ∀ x ∈ gp o, x.Race = race ∧ x.Relay = rel ∧ x.Who ∈ fiveP ∧ x.Club ∈ clubP ∧ 0 ≤ x.Rank ∧ x.Rank ≤ 6 := fun x hx => by
    obtain ⟨z, hz, rfl⟩ := List.mem_map.1 (hperm.subset hx)
    obtain ⟨r1, r2, r3, r4, _⟩ := h.row z hz
    exact ⟨r1, r2, r3, r4, hR_rr h z⟩
  refine ⟨by rw [hperm.length_eq, List.length_map]; exact h.len, hrow, hasc, hwho, fun a x b e hx => ?_⟩
  have hxm : x ∈ gp o := by rw [e]; simp
  obtain ⟨z, hz, hxz⟩ := List.mem_map.1 (hperm.subset hxm)
  have hz0 : 0 < z.Rank := by
    rcases Int.lt_or_le 0 z.Rank with h1 | h1
    · exact h1
    · have : x.Rank = 0 := by rw [← hxz]; unfold hR; simp only; rw [if_neg (by omega)]
      omega
  have hxr : x.Rank = (rk o z.Rank : Int) := by rw [← hxz]; unfold hR; simp only; rw [if_pos hz0]
  -- how many are less
  have hcount : (gp o).countP (fun u => decide (0 < u.Rank) && decide (u.Rank < x.Rank)) + 1 = rk o z.Rank := by
    rw [hperm.countP_eq, List.countP_map]
    have : o.countP ((fun u : GScored => decide (0 < u.Rank) && decide (u.Rank < x.Rank)) ∘ hR o) = o.countP fun u => decide (0 < u.Rank) && decide (u.Rank < z.Rank) := by
      refine List.countP_congr fun u hu => ?_
      simp only [Function.comp, Bool.and_eq_true, decide_eq_true_eq]
      rw [hxr]
      have hur := (h.row u hu).2.2.2.2
      unfold hR
      simp only
      by_cases hu0 : 0 < u.Rank
      · rw [if_pos hu0]
        have := @rk_lt o u z hu hu0
        have h1 : 0 < (rk o u.Rank : Int) := by unfold rk; omega
        omega
      · rw [if_neg hu0]; omega
    rw [this]; unfold rk; omega
  have hle : ∀ u v : GScored, u ∈ gp o → v ∈ gp o → lexS u v = true → kR u ≤ kR v := fun u v hu hv hl => by
    rw [lexS_iff, (hrow u hu).1, (hrow v hv).1, cB_refl] at hl
    rcases hl with hl | ⟨_, hl | hl⟩ <;> omega
  have hkx : kR x = x.Rank := by unfold kR; rw [if_neg (by omega)]
  have hasc' := hasc
  rw [e, List.pairwise_append, List.pairwise_cons] at hasc'
  obtain ⟨s1, ⟨s2, _⟩, s3⟩ := hasc'
  have hb0 : b.countP (fun u => decide (0 < u.Rank) && decide (u.Rank < x.Rank)) = 0 := by
    rw [List.countP_eq_zero]
    intro u hu
    have hum : u ∈ gp o := by rw [e]; simp [hu]
    have := hle x u hxm hum (s2 u hu)
    unfold kR at this
    have hxr6 := (hrow x hxm).2.2.2.2
    simp only [Bool.and_eq_true, decide_eq_true_eq, not_and]
    intro h1 h2
    rw [if_neg (by omega), if_neg (by omega)] at this
    omega
  rw [e, List.countP_append, List.countP_cons, hb0, if_neg (by simp)] at hcount
  have hal := List.countP_le_length (p := fun u : GScored => decide (0 < u.Rank) && decide (u.Rank < x.Rank)) (l := a)
  by_cases hc : a.countP (fun u => decide (0 < u.Rank) && decide (u.Rank < x.Rank)) = a.length
  · left; omega
  · right
    have hex : ∃ v ∈ a, ¬ ((decide (0 < v.Rank) && decide (v.Rank < x.Rank)) = true) := by
      rcases Classical.em (∃ v ∈ a, ¬ ((decide (0 < v.Rank) && decide (v.Rank < x.Rank)) = true)) with h1 | h1
      · exact h1
      · exfalso
        refine hc (List.countP_eq_length.2 fun v hv => ?_)
        rcases Classical.em ((decide (0 < v.Rank) && decide (v.Rank < x.Rank)) = true) with h2 | h2
        · exact h2
        · exact (h1 ⟨v, hv, h2⟩).elim
    obtain ⟨v, hv, hvn⟩ := hex
    rcases List.eq_nil_or_concat a with rfl | ⟨d, y, rfl⟩
    · cases hv
    · simp only [List.concat_eq_append] at *
      refine ⟨d, y, rfl, ?_⟩
      have hym : y ∈ gp o := by rw [e]; simp
      have hvm : v ∈ gp o := by rw [e]; exact List.mem_append_left _ hv
      have h1 : kR y ≤ kR x := hle y x hym hxm (s3 y (by simp) x (by simp))
      have h2 : kR v ≤ kR y := by
        rcases List.mem_append.1 hv with hv | hv
        · rw [List.pairwise_append] at s1
          exact hle v y hvm hym (s1.2.2 v hv y (by simp))
        · obtain rfl := List.mem_singleton.1 hv; omega
      have h3 : kR x ≤ kR v := by
        have hvr := (hrow v hvm).2.2.2.2
        have hxr6 := (hrow x hxm).2.2.2.2
        simp only [Bool.and_eq_true, decide_eq_true_eq, not_and] at hvn
        rw [hkx]
        unfold kR
        split
        · omega
        · have := hvn (by omega); omega
      have h4 : kR y = x.Rank := by omega
      have hyr := (hrow y hym).2.2.2.2
      have hxr6 := (hrow x hxm).2.2.2.2
      unfold kR at h4
      split at h4 <;> omega
structure LGd (Gs : List (List GScored)) : Prop where
  grp : ∀ g ∈ Gs, g ≠ [] ∧ ∃ race rel, race ∈ raceP ∧ GGd race rel g
  diff : Gs.Pairwise fun g g' => ∀ x ∈ g, ∀ y ∈ g', cB x.Race y.Race < 0
  len : Gs.flatten.length ≤ 15
theorem LGd.one {Gs : List (List GScored)} (h : LGd Gs) : ∀ g ∈ Gs, One g ∧ g.length ≤ 5 := fun g hg => by
  obtain ⟨h1, race, rel, _, h2⟩ := h.grp g hg
  exact ⟨⟨h1, fun x hx y hy => by rw [(h2.row x hx).1, (h2.row y hy).1]⟩, h2.len⟩
theorem LGd.ne {Gs : List (List GScored)} (h : LGd Gs) : Gs.Pairwise fun g g' => ∀ x ∈ g, ∀ y ∈ g', x.Race ≠ y.Race :=
  h.diff.imp fun hd x hx y hy e => by have := hd x hx y hy; rw [e, cB_refl] at this; omega
theorem flatten_filter : ∀ (Gs : List (List GScored)), (Gs.filter fun g => !g.isEmpty).flatten = Gs.flatten
  | [] => rfl
  | g :: Gs => by
    rw [List.filter_cons]
    cases g with
    | nil => simp [flatten_filter Gs]
    | cons a b => simp [flatten_filter Gs]
theorem scored_dr {L : List Int} (hL : LongL L) {a : Int} (h0 : 0 ≤ a) (h1 : a ≤ 100000) : Dr a 48 (fun l => ∃ Gs, l = Gs.flatten ∧ LGd Gs) (Stream_RightScored L a) := by
  unfold Stream_RightScored
  simp only [join_eq]
  obtain ⟨os, b, e, g1, g2, g3, g4⟩ := sc_l1 hL (fun x1 x2 => some (x1, x2)) [k_ra, k_rb, k_rc] 0 [] a h0 (by simp; omega) (by simp)
  simp only [List.length_cons, List.length_nil] at g2 g3
  refine ⟨_, b, e, g1, by omega, (os.map fun p => gp p.2).filter fun g => !g.isEmpty, by rw [flatten_filter]; simp, ?_⟩
  match os, g3 with
  | [p1, p2, p3], _ =>
    have o1 := gp_ok (g4 0 _ p1 rfl rfl)
    have o2 := gp_ok (g4 1 _ p2 rfl rfl)
    have o3 := gp_ok (g4 2 _ p3 rfl rfl)
    refine ⟨fun g hg => ?_, ?_, ?_⟩
    · obtain ⟨hm, hne⟩ := List.mem_filter.1 hg
      refine ⟨fun h => by subst h; simp at hne, ?_⟩
      simp only [List.map_cons, List.map_nil, List.mem_cons, List.not_mem_nil, or_false] at hm
      rcases hm with rfl | rfl | rfl
      · exact ⟨k_ra, p1.1, by simp [raceP], o1⟩
      · exact ⟨k_rb, p2.1, by simp [raceP], o2⟩
      · exact ⟨k_rc, p3.1, by simp [raceP], o3⟩
    · refine List.Pairwise.filter _ ?_
      have c1 : cB k_ra k_rb < 0 := by decide +kernel
      have c2 : cB k_ra k_rc < 0 := by decide +kernel
      have c3 : cB k_rb k_rc < 0 := by decide +kernel
      simp only [List.map_cons, List.map_nil, List.pairwise_cons, List.mem_cons, List.not_mem_nil, or_false]
      refine ⟨fun g hg x hx y hy => ?_, fun g hg x hx y hy => ?_, (fun g hg => hg.elim), List.Pairwise.nil⟩
      · rcases hg with rfl | rfl
        · rw [(o1.row x hx).1, (o2.row y hy).1]; exact c1
        · rw [(o1.row x hx).1, (o3.row y hy).1]; exact c2
      · subst hg
        rw [(o2.row x hx).1, (o3.row y hy).1]; exact c3
    · rw [flatten_filter]
      have := o1.len; have := o2.len; have := o3.len
      simp; omega
theorem LGd.row {Gs : List (List GScored)} (h : LGd Gs) : ∀ x ∈ Gs.flatten, x.Race ∈ raceP ∧ x.Who ∈ fiveP ∧ x.Club ∈ clubP ∧ 0 ≤ x.Rank ∧ x.Rank ≤ 6 := fun x hx => by
  obtain ⟨g, hg, hx⟩ := List.mem_flatten.1 hx
  obtain ⟨_, race, rel, hr, h2⟩ := h.grp g hg
  obtain ⟨r1, _, r3, r4, r5⟩ := h2.row x hx
  exact ⟨by rw [r1]; exact hr, r3, r4, r5⟩
theorem LGd.asc {Gs : List (List GScored)} (h : LGd Gs) : Gs.flatten.Pairwise fun x y => lexS x y = true := by
  rw [List.pairwise_flatten]
  refine ⟨fun g hg => ?_, h.diff.imp fun hd x hx y hy => lexS_iff.2 (.inl (hd x hx y hy))⟩
  obtain ⟨_, race, rel, _, h2⟩ := h.grp g hg
  exact h2.asc
theorem LGd.who {Gs : List (List GScored)} (h : LGd Gs) : Gs.flatten.Pairwise fun x y => ¬ (x.Race = y.Race ∧ x.Who = y.Who) := by
  rw [List.pairwise_flatten]
  refine ⟨fun g hg => ?_, h.ne.imp fun hd x hx y hy e => hd x hx y hy e.1⟩
  obtain ⟨_, race, rel, _, h2⟩ := h.grp g hg
  exact h2.who.imp fun hne e => hne e.2
theorem nth_set {α : Type} [Inhabited α] {l : List α} {i s : Int} {v : α} (hi0 : 0 ≤ i) (hi : i < l.length) (hs0 : 0 ≤ s) : nth (l.set i.toNat v) s = if s = i then v else nth l s := by
  unfold nth
  rw [List.getD_eq_getElem?_getD, List.getD_eq_getElem?_getD, List.getElem?_set]
  by_cases h : s = i
  · subst h; rw [if_pos rfl, if_pos rfl, if_pos (by omega)]; rfl
  · rw [if_neg h, if_neg (by omega)]
end Go.Proofs.YtcnneeipmadakaaGreatDoor
