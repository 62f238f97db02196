/- Deeds: the program's check is the reference's, for a deed and for a list of deeds. No program stands here but its twins. -/
import Derived.Test.YtpfommakhgkmeaaGreatDoorPKey2
import Derived.Test.YtpfommakhgkmeaaGreatDoorPMaps
import Derived.Test.YtpfommakhgkmeaaGreatDoorPList
import Derived.Test.YtpfommakhgkmeaaGreatDoorPBytes
namespace Go.Proofs.YtpfommakhgkmeaaGreatDoor
open Go
structure DG (d : GDeed) : Prop where
  no : 1 ≤ d.No ∧ d.No ≤ 1000000
  at_ : 0 ≤ d.At ∧ d.At < 345686400000
  kind : d.Kind = 1 ∨ d.Kind = 2 ∨ d.Kind = 3 ∨ d.Kind = 4
  site : words_IsKey d.Site = some true
  who : d.Kind ≠ 4 → words_IsKey d.Who = some true ∧ words_IsKey d.Race = some true
  club : d.Kind = 1 → d.Club = k_empty ∨ words_IsKey d.Club = some true
  time : d.Kind = 1 ∨ d.Kind = 3 → 0 ≤ d.Time ∧ d.Time ≤ 360000
  fault : d.Kind = 3 → 0 ≤ d.Fault ∧ d.Fault ≤ 8
  of_ : d.Kind = 4 → words_IsKey d.Of = some true ∧ 1 ≤ d.Other ∧ d.Other ≤ 1000000
  form : d = if d.Kind = 1 then GDeed.mk d.Site d.No d.At d.Kind d.Who d.Club d.Race d.Time 0 k_empty 0 else
    if d.Kind = 3 then GDeed.mk d.Site d.No d.At d.Kind d.Who k_empty d.Race d.Time d.Fault k_empty 0 else
    if d.Kind = 4 then GDeed.mk d.Site d.No d.At d.Kind k_empty k_empty k_empty 0 0 d.Of d.Other else GDeed.mk d.Site d.No d.At d.Kind d.Who k_empty d.Race 0 0 k_empty 0
theorem inW {n l h : Int} : words_Within n l h = true ↔ l ≤ n ∧ n ≤ h := by unfold words_Within; simp
theorem deed_both (d : GDeed) : ∃ e, meet_checkDeed d = some e ∧ tumbref2_DeedFault d = some e ∧ (e = 0 → DG d) := by
  obtain ⟨kS, s1, s2⟩ := isKey_eq d.Site
  obtain ⟨kW, w1, w2⟩ := isKey_eq d.Who
  obtain ⟨kR, r1, r2⟩ := isKey_eq d.Race
  obtain ⟨kC, c1, c2⟩ := isKey_eq d.Club
  obtain ⟨kO, o1, o2⟩ := isKey_eq d.Of
  have hw : tumbref2_in = words_Within := rfl
  have hm : tumbref2_Moment d.At = words_IsMoment d.At := by
    unfold tumbref2_Moment tumbref2_in words_IsMoment
    congr 1
    exact decide_eq_decide.2 (by omega)
  unfold meet_checkDeed tumbref2_DeedFault
  simp only [s1, s2, w1, w2, r1, r2, c1, c2, o1, o2, hw, hm, join_eq, Option.bind_some]
  cases kS with
  | false => exact ⟨5, by simp, by simp, fun h => by cases h⟩
  | true =>
    simp only [Bool.not_true, Bool.false_eq_true, if_false]
    by_cases hA : (!words_Within d.No 1 1000000 || !words_IsMoment d.At) = true
    · rw [if_pos hA, if_pos hA]; exact ⟨1, rfl, rfl, fun h => by cases h⟩
    · rw [if_neg hA, if_neg hA]
      simp only [Bool.or_eq_true, not_or, Bool.not_eq_true, Bool.not_eq_false'] at hA
      have hno := inW.1 hA.1
      have hat : 0 ≤ d.At ∧ d.At < 345686400000 := by have := hA.2; unfold words_IsMoment at this; simpa using this
      by_cases hK : (!words_Within d.Kind 1 4) = true
      · rw [if_pos hK, if_pos hK]; exact ⟨4, rfl, rfl, fun h => by cases h⟩
      · rw [if_neg hK, if_neg hK]
        have hk4 : d.Kind = 1 ∨ d.Kind = 2 ∨ d.Kind = 3 ∨ d.Kind = 4 := by
          have := inW.1 (by simpa using hK : words_Within d.Kind 1 4 = true)
          omega
        rcases hk4 with hk | hk | hk | hk
        · simp only [hk, show decide ((1 : Int) = 1) = true from rfl, show decide ((1 : Int) = 3) = false from rfl, show decide ((1 : Int) = 4) = false from rfl]
          cases kW <;> cases kR <;> cases kC <;> cases hc : decide (d.Club = k_empty) <;> cases ht : words_Within d.Time 0 360000 <;> cases hf : decide (d = GDeed.mk d.Site d.No d.At 1 d.Who d.Club d.Race d.Time 0 k_empty 0) <;> (try simp only [decide_true, decide_false, Bool.not_true, Bool.not_false, Bool.true_and, Bool.false_and, Bool.and_true, Bool.and_false, Bool.or_false, Bool.false_or, Bool.true_or, Bool.or_true, Bool.and_self, Bool.or_self, if_true, Bool.false_eq_true, if_false]) <;>
            first | exact ⟨5, rfl, rfl, fun h => by cases h⟩ | exact ⟨1, rfl, rfl, fun h => by cases h⟩ | exact ⟨3, rfl, rfl, fun h => by cases h⟩ |
              exact ⟨0, rfl, rfl, fun _ => ⟨hno, hat, by omega, s1, fun _ => ⟨w1, r1⟩, fun _ => by first | exact .inl (of_decide_eq_true hc) | exact .inr c1, fun _ => inW.1 ht, fun h => by omega, fun h => by omega, by rw [if_pos hk, hk]; exact of_decide_eq_true hf⟩⟩
        · simp only [hk, show decide ((2 : Int) = 1) = false from rfl, show decide ((2 : Int) = 3) = false from rfl, show decide ((2 : Int) = 4) = false from rfl]
          cases kW <;> cases kR <;> cases hf : decide (d = GDeed.mk d.Site d.No d.At 2 d.Who k_empty d.Race 0 0 k_empty 0) <;> (try simp only [decide_true, decide_false, Bool.not_true, Bool.not_false, Bool.true_and, Bool.false_and, Bool.and_true, Bool.and_false, Bool.or_false, Bool.false_or, Bool.true_or, Bool.or_true, Bool.and_self, Bool.or_self, if_true, Bool.false_eq_true, if_false]) <;>
            first | exact ⟨5, rfl, rfl, fun h => by cases h⟩ | exact ⟨1, rfl, rfl, fun h => by cases h⟩ | exact ⟨3, rfl, rfl, fun h => by cases h⟩ |
              exact ⟨0, rfl, rfl, fun _ => ⟨hno, hat, by omega, s1, fun _ => ⟨w1, r1⟩, fun h => by omega, fun h => by omega, fun h => by omega, fun h => by omega, by rw [if_neg (by omega), if_neg (by omega), if_neg (by omega), hk]; exact of_decide_eq_true hf⟩⟩
        · simp only [hk, show decide ((3 : Int) = 1) = false from rfl, show decide ((3 : Int) = 3) = true from rfl, show decide ((3 : Int) = 4) = false from rfl]
          cases kW <;> cases kR <;> cases ht : words_Within d.Time 0 360000 <;> cases hu : words_Within d.Fault 0 8 <;> cases hf : decide (d = GDeed.mk d.Site d.No d.At 3 d.Who k_empty d.Race d.Time d.Fault k_empty 0) <;> (try simp only [decide_true, decide_false, Bool.not_true, Bool.not_false, Bool.true_and, Bool.false_and, Bool.and_true, Bool.and_false, Bool.or_false, Bool.false_or, Bool.true_or, Bool.or_true, Bool.and_self, Bool.or_self, if_true, Bool.false_eq_true, if_false]) <;>
            first | exact ⟨5, rfl, rfl, fun h => by cases h⟩ | exact ⟨1, rfl, rfl, fun h => by cases h⟩ | exact ⟨3, rfl, rfl, fun h => by cases h⟩ |
              exact ⟨0, rfl, rfl, fun _ => ⟨hno, hat, by omega, s1, fun _ => ⟨w1, r1⟩, fun h => by omega, fun _ => inW.1 ht, fun _ => inW.1 hu, fun h => by omega, by rw [if_neg (by omega), if_pos hk, hk]; exact of_decide_eq_true hf⟩⟩
        · simp only [hk, show decide ((4 : Int) = 1) = false from rfl, show decide ((4 : Int) = 3) = false from rfl, show decide ((4 : Int) = 4) = true from rfl]
          cases kO <;> cases ho : words_Within d.Other 1 1000000 <;> cases hf : decide (d = GDeed.mk d.Site d.No d.At 4 k_empty k_empty k_empty 0 0 d.Of d.Other) <;> (try simp only [decide_true, decide_false, Bool.not_true, Bool.not_false, Bool.true_and, Bool.false_and, Bool.and_true, Bool.and_false, Bool.or_false, Bool.false_or, Bool.true_or, Bool.or_true, Bool.and_self, Bool.or_self, if_true, Bool.false_eq_true, if_false]) <;>
            first | exact ⟨5, rfl, rfl, fun h => by cases h⟩ | exact ⟨1, rfl, rfl, fun h => by cases h⟩ | exact ⟨3, rfl, rfl, fun h => by cases h⟩ |
              exact ⟨0, rfl, rfl, fun _ => ⟨hno, hat, by omega, s1, fun h => absurd hk h, fun h => by omega, fun h => by omega, fun h => by omega, fun _ => ⟨o1, inW.1 ho⟩, by rw [if_neg (by omega), if_neg (by omega), if_pos hk, hk]; exact of_decide_eq_true hf⟩⟩
theorem cont_place (y : GDeed) : ∀ (l : List GDeed) (i : Nat), decide (0 ≤ slices_IndexFunc_Deed_tumbref2_DeedsFault_c1_l1 y (-1) l i) = decide (meet_placeOf y ∈ l.map meet_placeOf)
  | [], i => by simp [slices_IndexFunc_Deed_tumbref2_DeedsFault_c1_l1]
  | z :: l, i => by
    have ih := cont_place y l (i + 1)
    rw [slices_IndexFunc_Deed_tumbref2_DeedsFault_c1_l1]
    have hp : tumbref2_DeedsFault_c1 z y = decide (meet_placeOf y = meet_placeOf z) := by
      unfold tumbref2_DeedsFault_c1 tumbref2_sameNo meet_placeOf
      rw [Bool.eq_iff_iff]
      simp only [Bool.and_eq_true, decide_eq_true_eq, Gmeet_place.mk.injEq]
      exact ⟨fun h => ⟨h.1.symm, h.2.symm⟩, fun h => ⟨h.1.symm, h.2.symm⟩⟩
    rw [hp]
    by_cases h : meet_placeOf y = meet_placeOf z
    · rw [if_pos (decide_eq_true h), decide_eq_true (show 0 ≤ (i : Int) by omega), decide_eq_true (by simp [h])]
    · rw [if_neg (by simpa using h), ih]
      exact decide_eq_decide.2 (by simp [h])
theorem deedsF_l2 (l : List GDeed) : ∀ (ys dn : List GDeed), l = dn ++ ys → (dn.map meet_placeOf).Nodup → tumbref2_DeedsFault_l2 l (some 0) ys dn.length = some (if (l.map meet_placeOf).Nodup then 0 else 6)
  | [], dn, h, hd => by
    rw [List.append_nil] at h
    subst h
    rw [if_pos hd]; rfl
  | y :: ys, dn, h, hd => by
    have hlen : l.length = dn.length + (ys.length + 1) := by rw [h]; simp
    rw [tumbref2_DeedsFault_l2, chk_pos (cutB_iff.2 (by omega))]
    have hc : cut l 0 (dn.length : Int) = dn := by unfold cut; rw [h]; simp
    have hq : slices_ContainsFunc_Deed_tumbref2_DeedsFault_c1 dn y = decide (meet_placeOf y ∈ dn.map meet_placeOf) := cont_place y dn 0
    rw [hc, hq]
    by_cases hm : meet_placeOf y ∈ dn.map meet_placeOf
    · rw [if_pos (decide_eq_true hm), if_neg]
      intro hn
      rw [h, List.map_append, List.nodup_append] at hn
      exact hn.2.2 _ hm _ (by simp) rfl
    · rw [if_neg (by simpa using hm)]
      have ih := deedsF_l2 l ys (dn ++ [y]) (by rw [h]; simp) (by
        rw [List.map_append, List.nodup_append]
        refine ⟨hd, by simp, ?_⟩
        intro a ha b hb
        simp only [List.map_cons, List.map_nil, List.mem_singleton] at hb
        subst hb
        exact fun e => hm (e ▸ ha))
      rwa [List.length_append] at ih
theorem cmpID (x y : Int) : cmp_Compare_int x y = if x < y then -1 else if y < x then 1 else 0 := by
  unfold cmp_Compare_int cmp_isNaN_int
  simp
theorem orD3 (a b c : Int) : cmp_Or_int [a, b, c] = if a ≠ 0 then a else if b ≠ 0 then b else c := by
  unfold cmp_Or_int
  simp only [join_eq, cmp_Or_int_l1]
  by_cases h1 : a = 0
  · by_cases h2 : b = 0
    · by_cases h3 : c = 0 <;> simp [h1, h2, h3]
    · simp [h1, h2]
  · simp [h1]
theorem compareD (p q : GDeed) : meet_compare p q = if p.At < q.At then -1 else if q.At < p.At then 1 else if cB p.Site q.Site ≠ 0 then cB p.Site q.Site else if p.No < q.No then -1 else if q.No < p.No then 1 else 0 := by
  unfold meet_compare
  rw [orD3, cmpID, cmpID]
  have hc : strings_Compare p.Site q.Site = cB p.Site q.Site := rfl
  rw [hc]
  by_cases h1 : p.At < q.At
  · simp [h1]
  · by_cases h2 : q.At < p.At
    · simp [h1, h2]
    · simp [h1, h2]
theorem orderD (p q : GDeed) (hp : DG p) (hq : DG q) : tumbref2_DeedOrder p q = meet_compare p q := by
  rw [compareD]
  have a1 := hp.no
  have a2 := hp.at_
  have b1 := hq.no
  have b2 := hq.at_
  unfold tumbref2_DeedOrder tumbref2_sign
  have hc : strings_Compare p.Site q.Site = cB p.Site q.Site := rfl
  have hW1 : W (p.At - q.At) = p.At - q.At := W_in (by omega) (by omega)
  have hW2 : W (p.No - q.No) = p.No - q.No := W_in (by omega) (by omega)
  rw [hc, hW1, hW2]
  simp only [decide_eq_true_eq, Bool.not_eq_true', decide_eq_false_iff_not]
  by_cases h1 : p.At = q.At
  · rw [if_neg (fun h => h h1), if_neg (show ¬ p.At < q.At by omega), if_neg (show ¬ q.At < p.At by omega)]
    by_cases h2 : p.Site = q.Site
    · simp only [h2, cB_refl, not_true_eq_false, if_false, ne_eq]
      split <;> split <;> (try split) <;> (try split) <;> omega
    · rw [if_pos h2, if_pos (fun e => h2 (cB_zero e))]
  · rw [if_pos h1]
    split <;> split <;> (try split) <;> (try split) <;> omega
abbrev DAdj (l : List GDeed) : Prop := ∀ d x y r, l = d ++ x :: y :: r → meet_compare x y < 0
theorem deedsL (l : List GDeed) (hl : l.length ≤ 1000000) (j : List (Gmeet_place × Bool) → Bool → Option Int) (j' : Option Int) : ∀ (ys dn : List GDeed) (m : List (Gmeet_place × Bool)) (t : Bool), l = dn ++ ys → (∀ x ∈ dn, DG x) →
    (∀ e, mgetD m e false = decide (e ∈ dn.map meet_placeOf)) → t = decide (¬ (dn.map meet_placeOf).Nodup) → (∀ d x y r, dn = d ++ x :: y :: r → meet_compare x y < 0) →
    (∃ e, e ≠ 0 ∧ meet_CheckDeeds_l1 l j ys dn.length m t = some e ∧ tumbref2_DeedsFault_l1 l j' ys dn.length = some e) ∨
    (∃ m', meet_CheckDeeds_l1 l j ys dn.length m t = j m' (decide (¬ (l.map meet_placeOf).Nodup)) ∧ tumbref2_DeedsFault_l1 l j' ys dn.length = j' ∧ (∀ x ∈ l, DG x) ∧ DAdj l)
  | [], dn, m, t, h, hg, hm, ht, ha => by
    rw [List.append_nil] at h
    subst h
    exact .inr ⟨m, by rw [meet_CheckDeeds_l1, ht], rfl, hg, ha⟩
  | y :: ys, dn, m, t, h, hg, hm, ht, ha => by
    have hlen : l.length = dn.length + (ys.length + 1) := by rw [h]; simp
    obtain ⟨e, e1, e2, e3⟩ := deed_both y
    rw [meet_CheckDeeds_l1, tumbref2_DeedsFault_l1, e1, e2]
    simp only [Option.bind_some, join_eq]
    by_cases he : e = 0
    · subst he
      have hy := e3 rfl
      simp only [decide_true, Bool.not_true, Bool.false_eq_true, if_false]
      have go : (∀ d x, dn = d ++ [x] → meet_compare x y < 0) →
          (∃ e, e ≠ 0 ∧ meet_CheckDeeds_l1 l j ys (dn.length + 1) (mput m (meet_placeOf y) true) (t || mgetD m (meet_placeOf y) false) = some e ∧ tumbref2_DeedsFault_l1 l j' ys (dn.length + 1) = some e) ∨
          (∃ m', meet_CheckDeeds_l1 l j ys (dn.length + 1) (mput m (meet_placeOf y) true) (t || mgetD m (meet_placeOf y) false) = j m' (decide (¬ (l.map meet_placeOf).Nodup)) ∧ tumbref2_DeedsFault_l1 l j' ys (dn.length + 1) = j' ∧ (∀ x ∈ l, DG x) ∧ DAdj l) := fun hadj => by
        have := deedsL l hl j j' ys (dn ++ [y]) (mput m (meet_placeOf y) true) (t || mgetD m (meet_placeOf y) false) (by rw [h]; simp) (fun x hx => by
          rcases List.mem_append.1 hx with hx | hx
          · exact hg x hx
          · obtain rfl := List.mem_singleton.1 hx; exact hy) (fun e => by
          rw [mgetPut, hm e]
          by_cases h1 : e = meet_placeOf y
          · rw [if_pos h1]; exact (decide_eq_true (by simp [h1])).symm
          · rw [if_neg h1]; exact decide_eq_decide.2 (by simp [h1])) (by
          rw [ht, hm, Bool.eq_iff_iff]
          simp only [Bool.or_eq_true, decide_eq_true_eq, List.map_append, List.map_cons, List.map_nil, List.nodup_append]
          constructor
          · rintro (h1 | h1) h2
            · exact h1 h2.1
            · exact h2.2.2 _ h1 _ (by simp) rfl
          · intro h1
            by_cases h2 : (dn.map meet_placeOf).Nodup
            · refine .inr (Classical.byContradiction fun h3 => h1 ⟨h2, by simp, fun a ha b hb => ?_⟩)
              obtain rfl := List.mem_singleton.1 hb
              exact fun e => h3 (e ▸ ha)
            · exact .inl h2) (fun d x z r hd => by
          rcases List.eq_nil_or_concat r with rfl | ⟨r', b, rfl⟩
          · have h1 : dn ++ [y] = (d ++ [x]) ++ [z] := by rw [hd]; simp
            obtain ⟨h2, h3⟩ := List.append_inj' h1 rfl
            obtain rfl := (List.cons.inj h3).1
            exact hadj d x h2
          · have h1 : dn ++ [y] = (d ++ x :: z :: r') ++ [b] := by rw [hd]; simp
            exact ha d x z r' (List.append_inj' h1 rfl).1)
        rwa [List.length_append, List.length_singleton] at this
      by_cases h0 : (0 : Int) < (dn.length : Int)
      · obtain ⟨d, x, hdx⟩ : ∃ d x, dn = d ++ [x] := by
          rcases List.eq_nil_or_concat dn with h1 | ⟨d, x, h1⟩
          · rw [h1] at h0; simp at h0
          · exact ⟨d, x, by rw [h1]; simp⟩
        have hdl : dn.length = d.length + 1 := by rw [hdx]; simp
        have hw : W ((dn.length : Int) - 1) = (d.length : Int) := by rw [W_in (by omega) (by omega)]; omega
        have hn : nth l (d.length : Int) = x := by rw [h, hdx]; unfold nth; simp
        have hx := hg x (by rw [hdx]; simp)
        simp only [h0, decide_true, if_true, hw, chk_pos (show inB (d.length : Int) l.length = true from inB_iff.2 (by omega)), hn, orderD x y hx hy]
        by_cases hc : 0 ≤ meet_compare x y
        · rw [if_pos (decide_eq_true hc), if_pos (decide_eq_true hc)]
          exact .inl ⟨7, by decide, rfl, rfl⟩
        · rw [if_neg (by simpa using hc), if_neg (by simpa using hc)]
          refine go fun d' x' h' => ?_
          rw [hdx] at h'
          obtain ⟨_, h3⟩ := List.append_inj' h' rfl
          obtain rfl := (List.cons.inj h3).1
          omega
      · simp only [h0, decide_false, Bool.false_eq_true, if_false]
        refine go fun d' x' h' => ?_
        rw [h'] at h0
        simp at h0
    · rw [if_pos (by simpa using he), if_pos (by simpa using he)]
      exact .inl ⟨e, he, rfl, rfl⟩
structure DsG (l : List GDeed) : Prop where
  len : l.length ≤ 2000
  each : ∀ x ∈ l, DG x
  adj : DAdj l
  nodup : (l.map meet_placeOf).Nodup
theorem deeds_both (l : List GDeed) : ∃ e, meet_CheckDeeds l = some e ∧ tumbref2_DeedsFault l = some e ∧ (e = 0 → DsG l) := by
  unfold meet_CheckDeeds tumbref2_DeedsFault
  by_cases h : 2000 < (l.length : Int)
  · rw [if_pos (decide_eq_true h), if_pos (decide_eq_true h)]; exact ⟨2, rfl, rfl, fun h => by cases h⟩
  · rw [if_neg (by simpa using h), if_neg (by simpa using h)]
    simp only [join_eq]
    have h2 := deedsF_l2 l l [] rfl List.nodup_nil
    rcases deedsL l (by omega) (fun x1 x2 => if x2 then some 6 else some 0) (tumbref2_DeedsFault_l2 l (some 0) l 0) l [] [] false rfl (by simp) (fun e => by simp [mgetD, mget, mfind]) (by simp) (by simp) with ⟨e, he, q1, q2⟩ | ⟨m', q1, q2, q3, q4⟩
    · exact ⟨e, q1, q2, fun h => absurd h he⟩
    · rw [show ([] : List GDeed).length = 0 from rfl] at q1 q2 h2
      rw [q1, q2, h2]
      by_cases hn : (l.map meet_placeOf).Nodup
      · exact ⟨0, by simp [hn], by simp [hn], fun _ => ⟨by omega, q3, q4, hn⟩⟩
      · exact ⟨6, by simp [hn], by simp [hn], fun h => by cases h⟩
end Go.Proofs.YtpfommakhgkmeaaGreatDoor
