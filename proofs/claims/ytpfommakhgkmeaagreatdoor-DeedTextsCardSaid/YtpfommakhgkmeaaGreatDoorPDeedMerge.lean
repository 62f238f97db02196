/- Parts of a right list of deeds, and what they are merged to. No program stands here but its twins. -/
import Derived.Test.YtpfommakhgkmeaaGreatDoorPDeedSort
namespace Go.Proofs.YtpfommakhgkmeaaGreatDoor
open Go
theorem DG.chk {d : GDeed} (h : DG d) : meet_checkDeed d = some 0 := by
  have hno := inW.2 h.no
  have hat : words_IsMoment d.At = true := by unfold words_IsMoment; simpa using h.at_
  have hkd : words_Within d.Kind 1 4 = true := inW.2 (by rcases h.kind with h | h | h | h <;> omega)
  have hf := h.form
  obtain ⟨kW, w1, _⟩ := isKey_eq d.Who
  obtain ⟨kR, r1, _⟩ := isKey_eq d.Race
  obtain ⟨kC, c1, _⟩ := isKey_eq d.Club
  obtain ⟨kO, o1, _⟩ := isKey_eq d.Of
  unfold meet_checkDeed
  simp only [h.site, w1, r1, c1, o1, Option.bind_some, hno, hat, hkd, join_eq, Bool.not_true, Bool.or_self, Bool.false_eq_true, if_false]
  rcases h.kind with hk | hk | hk | hk
  · rw [if_pos hk, hk] at hf
    obtain ⟨q1, q2⟩ := h.who (by omega)
    obtain rfl : kW = true := Option.some.inj (w1.symm.trans q1)
    obtain rfl : kR = true := Option.some.inj (r1.symm.trans q2)
    have ht := inW.2 (h.time (.inl hk))
    have hc : (!decide (d.Club = k_empty) && !kC) = false := by
      rcases h.club hk with hc | hc
      · rw [hc]; rfl
      · obtain rfl : kC = true := Option.some.inj (c1.symm.trans hc)
        simp
    have hd := decide_eq_true hf
    simp only [hk, hd, ht, hc, show decide ((1 : Int) = 1) = true from rfl, show decide ((1 : Int) = 3) = false from rfl, show decide ((1 : Int) = 4) = false from rfl, decide_true, decide_false, Bool.not_true, Bool.not_false, Bool.true_and, Bool.false_and, Bool.and_true, Bool.and_false, Bool.or_false, Bool.false_or, Bool.true_or, Bool.or_true, Bool.and_self, Bool.or_self, if_true, Bool.false_eq_true, if_false]
    cases decide (d.Club = k_empty) <;> simp only [decide_true, decide_false, Bool.not_true, Bool.not_false, Bool.true_and, Bool.false_and, Bool.and_true, Bool.and_false, Bool.or_false, Bool.false_or, Bool.true_or, Bool.or_true, Bool.and_self, Bool.or_self, if_true, Bool.false_eq_true, if_false]
  · rw [if_neg (by omega), if_neg (by omega), if_neg (by omega), hk] at hf
    obtain ⟨q1, q2⟩ := h.who (by omega)
    obtain rfl : kW = true := Option.some.inj (w1.symm.trans q1)
    obtain rfl : kR = true := Option.some.inj (r1.symm.trans q2)
    have hd := decide_eq_true hf
    simp only [hk, hd, Bool.not_true, show decide ((2 : Int) = 1) = false from rfl, show decide ((2 : Int) = 3) = false from rfl, show decide ((2 : Int) = 4) = false from rfl, decide_true, decide_false, Bool.not_true, Bool.not_false, Bool.true_and, Bool.false_and, Bool.and_true, Bool.and_false, Bool.or_false, Bool.false_or, Bool.true_or, Bool.or_true, Bool.and_self, Bool.or_self, if_true, Bool.false_eq_true, if_false]
  · rw [if_neg (by omega), if_pos hk, hk] at hf
    obtain ⟨q1, q2⟩ := h.who (by omega)
    obtain rfl : kW = true := Option.some.inj (w1.symm.trans q1)
    obtain rfl : kR = true := Option.some.inj (r1.symm.trans q2)
    have ht := inW.2 (h.time (.inr hk))
    have hu := inW.2 (h.fault hk)
    have hd := decide_eq_true hf
    simp only [hk, hd, ht, hu, show decide ((3 : Int) = 1) = false from rfl, show decide ((3 : Int) = 3) = true from rfl, show decide ((3 : Int) = 4) = false from rfl, decide_true, decide_false, Bool.not_true, Bool.not_false, Bool.true_and, Bool.false_and, Bool.and_true, Bool.and_false, Bool.or_false, Bool.false_or, Bool.true_or, Bool.or_true, Bool.and_self, Bool.or_self, if_true, Bool.false_eq_true, if_false]
  · rw [if_neg (by omega), if_neg (by omega), if_pos hk, hk] at hf
    obtain ⟨q1, q2⟩ := h.of_ hk
    obtain rfl : kO = true := Option.some.inj (o1.symm.trans q1)
    have hu := inW.2 q2
    have hd := decide_eq_true hf
    simp only [hk, hd, hu, show decide ((4 : Int) = 1) = false from rfl, show decide ((4 : Int) = 3) = false from rfl, show decide ((4 : Int) = 4) = true from rfl, decide_true, decide_false, Bool.not_true, Bool.not_false, Bool.true_and, Bool.false_and, Bool.and_true, Bool.and_false, Bool.or_false, Bool.false_or, Bool.true_or, Bool.or_true, Bool.and_self, Bool.or_self, if_true, Bool.false_eq_true, if_false]
theorem DsG.sub {x p : List GDeed} (h : DsG x) (s : p.Sublist x) : DsG p :=
  ⟨Nat.le_trans s.length_le h.len, fun y hy => h.each y (s.subset hy), up_DAdj (h.adj.up.sublist s), h.nodup.sublist (s.map _)⟩
theorem chk_l (l : List GDeed) (h : DsG l) (j : List (Gmeet_place × Bool) → Bool → Option Int) : ∀ (ys dn : List GDeed) (m : List (Gmeet_place × Bool)), l = dn ++ ys → (∀ e, mgetD m e false = decide (e ∈ dn.map meet_placeOf)) →
    ∃ m', meet_CheckDeeds_l1 l j ys dn.length m false = j m' false
  | [], dn, m, _, _ => ⟨m, rfl⟩
  | y :: ys, dn, m, hd, hm => by
    have hl := h.len
    have hlen : l.length = dn.length + (ys.length + 1) := by rw [hd]; simp
    have hy := (h.each y (by rw [hd]; simp)).chk
    have hns : meet_placeOf y ∉ dn.map meet_placeOf := fun hin => by
      have hn := h.nodup
      rw [hd, List.map_append, List.nodup_append] at hn
      exact hn.2.2 _ hin _ (by simp) rfl
    obtain ⟨m', e⟩ := chk_l l h j ys (dn ++ [y]) (mput m (meet_placeOf y) true) (by rw [hd]; simp) (fun e => by
      rw [mgetPut, hm e]
      by_cases h1 : e = meet_placeOf y
      · rw [if_pos h1]; exact (decide_eq_true (by simp [h1])).symm
      · rw [if_neg h1]; exact decide_eq_decide.2 (by simp [h1]))
    rw [List.length_append, List.length_singleton] at e
    refine ⟨m', ?_⟩
    rw [meet_CheckDeeds_l1, hy]
    simp only [Option.bind_some, join_eq, decide_true, Bool.not_true, Bool.false_eq_true, if_false, hm, decide_eq_false hns, Bool.or_self]
    by_cases h0 : (0 : Int) < (dn.length : Int)
    · obtain ⟨d, x, hdx⟩ : ∃ d x, dn = d ++ [x] := by
        rcases List.eq_nil_or_concat dn with h1 | ⟨d, x, h1⟩
        · rw [h1] at h0; simp at h0
        · exact ⟨d, x, by rw [h1]; simp⟩
      have hdl : dn.length = d.length + 1 := by rw [hdx]; simp
      have hw : W ((dn.length : Int) - 1) = (d.length : Int) := by rw [W_in (by omega) (by omega)]; omega
      have hn : nth l (d.length : Int) = x := by rw [hd, hdx]; unfold nth; simp
      have hc : ¬ 0 ≤ meet_compare x y := by
        have := h.adj d x y ys (by rw [hd, hdx]; simp)
        omega
      simp only [h0, decide_true, if_true, hw, chk_pos (show inB (d.length : Int) l.length = true from inB_iff.2 (by omega)), hn, hc, decide_false, Bool.false_eq_true, if_false]
      exact e
    · simp only [h0, decide_false, Bool.false_eq_true, if_false]
      exact e
theorem DsG.chk {l : List GDeed} (h : DsG l) : meet_CheckDeeds l = some 0 := by
  have hl := h.len
  unfold meet_CheckDeeds
  rw [if_neg (by simp; omega)]
  simp only [join_eq]
  obtain ⟨m', e⟩ := chk_l l h (fun x1 x2 => if x2 then some 6 else some 0) l [] [] rfl (fun e => by simp [mgetD, mget, mfind])
  rw [show ([] : List GDeed).length = 0 from rfl] at e
  rw [e]
  rfl
end Go.Proofs.YtpfommakhgkmeaaGreatDoor
