/- Which entries count, and how many of somebody and of a race there are. No program stands here but its twins. -/
import Derived.Test.YtdcmeoefpigcdaaGreatDoorPMaps
import Derived.Test.YtdcmeoefpigcdaaGreatDoorPAge
import Derived.Test.YtdcmeoefpigcdaaGreatDoorPStr
namespace Go.Proofs.YtdcmeoefpigcdaaGreatDoor
open Go
def sixN : List ByteArray := [k_ann, k_bea, k_cid, k_dan, k_eve, k_fox]
theorem raceIx (key : ByteArray) : ∀ (l : List GRace) (i : Nat), slices_IndexFunc_Race_swimmer_raceOf_c1_l1 key (-1) l i = -1 ∨ ((i : Int) ≤ slices_IndexFunc_Race_swimmer_raceOf_c1_l1 key (-1) l i ∧ slices_IndexFunc_Race_swimmer_raceOf_c1_l1 key (-1) l i < (i : Int) + l.length)
  | [], i => .inl rfl
  | y :: l, i => by
    rw [slices_IndexFunc_Race_swimmer_raceOf_c1_l1]
    split
    · simp only [List.length_cons]; omega
    · rcases raceIx key l (i + 1) with h | h
      · exact .inl h
      · simp only [List.length_cons]; omega
theorem raceOf_some (r : List GRace) (key : ByteArray) : ∃ v, swimmer_raceOf r key = some v := by
  unfold swimmer_raceOf
  have h : slices_IndexFunc_Race_swimmer_raceOf_c1 r key = slices_IndexFunc_Race_swimmer_raceOf_c1_l1 key (-1) r 0 := rfl
  rcases raceIx key r 0 with g | g
  · rw [h, g]; exact ⟨_, rfl⟩
  · rw [if_neg (by rw [h]; simp; omega), chk_pos (by rw [h, inB_iff]; omega)]; exact ⟨_, rfl⟩
theorem swimIx (key : ByteArray) (day : Int) : ∀ (l : List GSwimmer) (i : Nat), slices_IndexFunc_Swimmer_swimmer_swimmerOf_c1_l1 key day (-1) l i = -1 ∨ ∃ k : Nat, ∃ x, slices_IndexFunc_Swimmer_swimmer_swimmerOf_c1_l1 key day (-1) l i = (i : Int) + k ∧ l[k]? = some x ∧ x.Key = key
  | [], i => .inl rfl
  | y :: l, i => by
    rw [slices_IndexFunc_Swimmer_swimmer_swimmerOf_c1_l1]
    split
    · rename_i h
      unfold swimmer_swimmerOf_c1 at h
      simp at h
      exact .inr ⟨0, y, by simp, rfl, h.1⟩
    · rcases swimIx key day l (i + 1) with h | ⟨k, x, h1, h2, h3⟩
      · exact .inl h
      · exact .inr ⟨k + 1, x, by rw [h1]; push_cast; omega, by simpa using h2, h3⟩
theorem swimmerOf_some (s : List GSwimmer) (key : ByteArray) (day : Int) : ∃ v, swimmer_swimmerOf s key day = some v ∧ (v.2 = true → v.1 ∈ s ∧ v.1.Key = key) := by
  unfold swimmer_swimmerOf
  have h : slices_IndexFunc_Swimmer_swimmer_swimmerOf_c1 s key day = slices_IndexFunc_Swimmer_swimmer_swimmerOf_c1_l1 key day (-1) s 0 := rfl
  rcases swimIx key day s 0 with g | ⟨k, x, g1, g2, g3⟩
  · rw [h, g]; exact ⟨_, rfl, fun h => by cases h⟩
  · have hk : k < s.length := (List.getElem?_eq_some_iff.1 g2).1
    rw [h, g1, if_neg (by rw [decide_eq_true_eq]; omega), chk_pos (by rw [inB_iff]; omega)]
    have hn : nth s (((0 : Nat) : Int) + (k : Int)) = x := by unfold nth; simp [List.getD, g2]
    exact ⟨_, rfl, fun _ => by rw [hn]; exact ⟨List.mem_of_getElem? g2, g3⟩⟩
theorem may_some (r : GRace) (x : GSwimmer) (day way : Int) (h1 : -40000 ≤ x.Born) (h2 : x.Born ≤ 4000) (h3 : -40000 ≤ day) (h4 : day ≤ 4000) : ∃ q, swimmer_may r x day way = some q := by
  obtain ⟨b, c1, _⟩ := dateOf_ok (day := x.Born) (by omega) (by omega)
  obtain ⟨n, c2, _⟩ := dateOf_ok (day := day) (by omega) (by omega)
  have ha : ∃ z, swimmer_age x day way = some z := by
    unfold swimmer_age
    rw [c1, c2]
    simp only [Option.bind_some, join_eq]
    split
    · split <;> exact ⟨_, rfl⟩
    · exact ⟨_, rfl⟩
  obtain ⟨z, hz⟩ := ha
  unfold swimmer_may
  rw [hz]
  simp only [Option.bind_some, join_eq, if_true]
  split
  · exact ⟨_, rfl⟩
  · split <;> exact ⟨_, rfl⟩
/-- An entry that is refused whatever the others are. -/
def badE (r : List GRace) (s : List GSwimmer) (b : GBounds) (y : GEntry) : Option Bool :=
  Option.bind (swimmer_raceOf r y.Race) fun r3 => Option.bind (swimmer_swimmerOf s y.Who b.Day) fun r4 =>
    if !r3.2 then some true else if decide (1 < r3.1.Legs) then some true else if !r4.2 then some true else Option.bind (swimmer_may r3.1 r4.1 b.Day b.Age) fun q => some (!q)
theorem bad_some (r : List GRace) (s : List GSwimmer) (b : GBounds) (y : GEntry) (hs : ∀ x ∈ s, x.Key ∈ sixN ∧ -40000 ≤ x.Born ∧ x.Born ≤ 4000) (h3 : -40000 ≤ b.Day) (h4 : b.Day ≤ 4000) : ∃ v, badE r s b y = some v ∧ (v = false → y.Who ∈ sixN) := by
  obtain ⟨p, e1⟩ := raceOf_some r y.Race
  obtain ⟨q, e2, h⟩ := swimmerOf_some s y.Who b.Day
  unfold badE
  rw [e1, e2]
  simp only [Option.bind_some]
  split
  · exact ⟨true, rfl, fun h => by cases h⟩
  · split
    · exact ⟨true, rfl, fun h => by cases h⟩
    · split
      · exact ⟨true, rfl, fun h => by cases h⟩
      · rename_i hq
        obtain ⟨m1, m2⟩ := h (by simpa using hq)
        obtain ⟨g1, g2, g3⟩ := hs _ m1
        obtain ⟨z, hz⟩ := may_some p.1 q.1 b.Day b.Age g2 g3 h3 h4
        rw [hz]
        exact ⟨!z, rfl, fun _ => by rw [← m2]; exact g1⟩
theorem refused_step (r : List GRace) (s : List GSwimmer) (b : GBounds) (m : List GMove) (j : List Int → List (Gswimmer_place × Int) → List (ByteArray × Int) → Option (List Int × Int)) (y : GEntry) (ys : List GEntry) (i : Nat) (x1 : List Int) (x2 : List (Gswimmer_place × Int)) (x3 : List (ByteArray × Int)) (v : Bool) (hv : badE r s b y = some v) :
    swimmer_Refused_l1 r s b m j (y :: ys) i x1 x2 x3 = if (v || (decide (b.Races ≤ mgetD x3 y.Who 0) || ((!decide (swimmer_clubAt m y.Who b.Day = k_empty)) && decide (b.Club ≤ mgetD x2 (Gswimmer_place.mk (swimmer_clubAt m y.Who b.Day) y.Race) 0)))) = true
      then Chk (room x1.length) (swimmer_Refused_l1 r s b m j ys (i + 1) (x1 ++ [(i : Int)]) x2 x3)
      else swimmer_Refused_l1 r s b m j ys (i + 1) x1 (mput x2 (Gswimmer_place.mk (swimmer_clubAt m y.Who b.Day) y.Race) (W (mgetD x2 (Gswimmer_place.mk (swimmer_clubAt m y.Who b.Day) y.Race) 0 + 1))) (mput x3 y.Who (W (mgetD x3 y.Who 0 + 1))) := by
  rw [swimmer_Refused_l1]
  unfold badE at hv
  obtain ⟨p, e1⟩ := raceOf_some r y.Race
  obtain ⟨q, e2, _⟩ := swimmerOf_some s y.Who b.Day
  rw [e1, e2] at hv ⊢
  simp only [Option.bind_some, join_eq] at hv ⊢
  cases h1 : p.2 with
  | false => simp [h1] at hv; subst hv; simp [Bool.or_assoc]
  | true =>
    by_cases h2 : 1 < p.1.Legs
    · simp [h1, h2] at hv; subst hv; simp [h2, Bool.or_assoc]
    · cases h3 : q.2 with
      | false => simp [h1, h2, h3] at hv; subst hv; simp [h2, Bool.or_assoc]
      | true =>
        simp only [h1, h2, h3, Bool.not_true, Bool.false_eq_true, if_false, decide_false] at hv ⊢
        cases hm : swimmer_may p.1 q.1 b.Day b.Age with
        | none => rw [hm] at hv; cases hv
        | some z =>
          rw [hm] at hv
          simp only [Option.bind_some, Option.some.injEq] at hv ⊢
          subst hv; simp only [Bool.or_assoc]
/-! ### The entries that count -/
def cW (l : List GEntry) (who : ByteArray) : Nat := l.countP fun y => decide (y.Who = who)
def cA (m : List GMove) (day : Int) (l : List GEntry) (club race : ByteArray) : Nat := l.countP fun y => decide (y.Race = race) && decide (swimmer_clubAt m y.Who day = club)
theorem cW_snoc (l : List GEntry) (y : GEntry) (who : ByteArray) : cW (l ++ [y]) who = cW l who + if y.Who = who then 1 else 0 := by
  unfold cW; rw [List.countP_append]; by_cases h : y.Who = who <;> simp [h]
theorem cA_snoc (m : List GMove) (day : Int) (l : List GEntry) (y : GEntry) (club race : ByteArray) : cA m day (l ++ [y]) club race = cA m day l club race + if y.Race = race ∧ swimmer_clubAt m y.Who day = club then 1 else 0 := by
  unfold cA; rw [List.countP_append]; by_cases h : y.Race = race <;> by_cases g : swimmer_clubAt m y.Who day = club <;> simp [h, g]
/-- Each of them was let in. -/
def AccP (r : List GRace) (s : List GSwimmer) (b : GBounds) (m : List GMove) (acc : List GEntry) : Prop := ∀ dn e ys, acc = dn ++ e :: ys → badE r s b e = some false ∧ (cW dn e.Who : Int) < b.Races ∧ (swimmer_clubAt m e.Who b.Day = k_empty ∨ (cA m b.Day dn (swimmer_clubAt m e.Who b.Day) e.Race : Int) < b.Club)
theorem acc_snoc {r : List GRace} {s : List GSwimmer} {b : GBounds} {m : List GMove} {acc : List GEntry} {y : GEntry} (h : AccP r s b m acc) (h1 : badE r s b y = some false) (h2 : (cW acc y.Who : Int) < b.Races)
    (h3 : swimmer_clubAt m y.Who b.Day = k_empty ∨ (cA m b.Day acc (swimmer_clubAt m y.Who b.Day) y.Race : Int) < b.Club) : AccP r s b m (acc ++ [y]) := by
  intro dn z ys e
  rcases List.eq_nil_or_concat ys with rfl | ⟨q, w, rfl⟩
  · have h4 := List.append_inj' e rfl
    have hz : y = z := by simpa using h4.2
    subst hz; rw [← h4.1]; exact ⟨h1, h2, h3⟩
  · have e' : acc ++ [y] = (dn ++ z :: q) ++ [w] := by rw [e]; simp
    have h4 := List.append_inj' e' rfl
    exact h dn z q h4.1
/-- The entries whose places are not among those that are refused. -/
def filt : Nat → List GEntry → List Int → List GEntry
  | _, [], _ => []
  | i, y :: ys, n => if (i : Int) ∈ n then filt (i + 1) ys n else y :: filt (i + 1) ys n
theorem filt_lt : ∀ (ys : List GEntry) (k : Nat) (j : Int) (n : List Int), j < (k : Int) → filt k ys (j :: n) = filt k ys n
  | [], _, _, _, _ => rfl
  | y :: ys, k, j, n, h => by
    rw [filt, filt, filt_lt ys (k + 1) j n (by push_cast; omega)]
    have : ((k : Int) ∈ j :: n) ↔ ((k : Int) ∈ n) := by
      rw [List.mem_cons]
      exact ⟨fun h' => h'.resolve_left (by omega), .inr⟩
    simp only [this]
theorem filt_sub : ∀ (ys : List GEntry) (k : Nat) (n : List Int), List.Sublist (filt k ys n) ys
  | [], _, _ => List.Sublist.refl _
  | y :: ys, k, n => by
    rw [filt]
    split
    · exact (filt_sub ys (k + 1) n).cons y
    · exact (filt_sub ys (k + 1) n).cons_cons y
section
variable (r : List GRace) (s : List GSwimmer) (b : GBounds) (m : List GMove) (hs : ∀ x ∈ s, x.Key ∈ sixN ∧ -40000 ≤ x.Born ∧ x.Born ≤ 4000) (hd3 : -40000 ≤ b.Day) (hd4 : b.Day ≤ 4000)
include hs hd3 hd4
/-- The first asking. -/
theorem run1 : ∀ (ys : List GEntry) (i : Nat) (x1 : List Int) (acc : List GEntry) (m2 : List (Gswimmer_place × Int)) (m3 : List (ByteArray × Int)), x1.length + ys.length ≤ 10000 → acc.length + ys.length ≤ 10000 →
    (∀ who, mgetD m3 who 0 = (cW acc who : Int)) → (∀ club race, mgetD m2 ⟨club, race⟩ 0 = (cA m b.Day acc club race : Int)) → AccP r s b m acc →
    ∃ n, swimmer_Refused_l1 r s b m (fun x1 _ _ => some (x1, 0)) ys i x1 m2 m3 = some (x1 ++ n, 0) ∧ (∀ j ∈ n, (i : Int) ≤ j) ∧ AccP r s b m (acc ++ filt i ys n)
  | [], i, x1, acc, m2, m3, _, _, _, _, hA => ⟨[], by simp [swimmer_Refused_l1], fun _ h => (by cases h), by simpa [filt] using hA⟩
  | y :: ys, i, x1, acc, m2, m3, h1, h2, h3, h4, hA => by
    obtain ⟨v, hv, _⟩ := bad_some r s b y hs hd3 hd4
    simp only [List.length_cons] at h1 h2
    rw [refused_step r s b m _ y ys i x1 m2 m3 v hv, h3, h4]
    have hcW : cW acc y.Who ≤ acc.length := List.countP_le_length
    have hcA : cA m b.Day acc (swimmer_clubAt m y.Who b.Day) y.Race ≤ acc.length := List.countP_le_length
    split
    · rw [chk_pos (by unfold room; simp; omega)]
      obtain ⟨n, e, g1, g2⟩ := run1 ys (i + 1) (x1 ++ [(i : Int)]) acc m2 m3 (by simp; omega) (by omega) h3 h4 hA
      refine ⟨(i : Int) :: n, by rw [e]; simp, fun j hj => ?_, ?_⟩
      · rcases List.mem_cons.1 hj with rfl | hj
        · exact Int.le_refl _
        · have := g1 j hj; push_cast at this; omega
      · rw [filt, if_pos List.mem_cons_self, filt_lt _ _ _ _ (by push_cast; omega)]; exact g2
    · rename_i hc
      simp only [Bool.or_eq_true, not_or, Bool.and_eq_true, Bool.not_eq_true', decide_eq_true_eq, decide_eq_false_iff_not, not_and] at hc
      obtain ⟨c1, c2, c3⟩ := hc
      have hv' : v = false := by simpa using c1
      subst hv'
      have hA' := acc_snoc hA hv (by omega) (by
        by_cases hk : swimmer_clubAt m y.Who b.Day = k_empty
        · exact .inl hk
        · exact .inr (by have := c3 hk; omega))
      rw [W_in (by omega) (by omega), W_in (by omega) (by omega)]
      obtain ⟨n, e, g1, g2⟩ := run1 ys (i + 1) x1 (acc ++ [y]) (mput m2 (Gswimmer_place.mk (swimmer_clubAt m y.Who b.Day) y.Race) ((cA m b.Day acc (swimmer_clubAt m y.Who b.Day) y.Race : Int) + 1)) (mput m3 y.Who ((cW acc y.Who : Int) + 1)) (by omega) (by simp; omega) (fun who => by
          rw [mgetPut, h3, cW_snoc]
          by_cases hw : who = y.Who
          · subst hw; simp
          · rw [if_neg hw, if_neg (fun h => hw h.symm)]; simp) (fun club race => by
          rw [mgetPut, h4, cA_snoc]
          by_cases hw : (⟨club, race⟩ : Gswimmer_place) = ⟨swimmer_clubAt m y.Who b.Day, y.Race⟩
          · rw [if_pos hw]
            simp only [Gswimmer_place.mk.injEq] at hw
            obtain ⟨rfl, rfl⟩ := hw
            simp
          · rw [if_neg hw]
            simp only [Gswimmer_place.mk.injEq] at hw
            rw [if_neg (fun h => hw ⟨h.2.symm, h.1.symm⟩)]; simp) hA'
      refine ⟨n, e, fun j hj => by have := g1 j hj; push_cast at this; omega, ?_⟩
      rw [filt, if_neg (fun h => by have := g1 _ h; push_cast at this; omega)]
      rw [List.append_assoc, List.singleton_append] at g2
      exact g2
omit hs hd3 hd4 in
/-- Those that count, asked anew. -/
theorem run2 (acc : List GEntry) (hA : AccP r s b m acc) (hl : acc.length ≤ 10000) : ∀ (ys dn : List GEntry) (i : Nat) (m2 : List (Gswimmer_place × Int)) (m3 : List (ByteArray × Int)), acc = dn ++ ys →
    (∀ who, mgetD m3 who 0 = (cW dn who : Int)) → (∀ club race, mgetD m2 ⟨club, race⟩ 0 = (cA m b.Day dn club race : Int)) →
    swimmer_Refused_l1 r s b m (fun x1 _ _ => some (x1, 0)) ys i [] m2 m3 = some ([], 0) := by
  intro ys
  induction ys with
  | nil => intro dn i m2 m3 _ _ _; rfl
  | cons y ys ih =>
    intro dn i m2 m3 h1 h3 h4
    obtain ⟨g1, g2, g3⟩ := hA dn y ys h1
    have hdl : dn.length ≤ 10000 := by rw [h1] at hl; simp at hl; omega
    rw [refused_step r s b m _ y ys i [] m2 m3 false g1, h3, h4]
    have hcW : cW dn y.Who ≤ dn.length := List.countP_le_length
    have hcA : cA m b.Day dn (swimmer_clubAt m y.Who b.Day) y.Race ≤ dn.length := List.countP_le_length
    rw [if_neg (by
      simp only [Bool.false_or, Bool.or_eq_true, not_or, Bool.and_eq_true, Bool.not_eq_true', decide_eq_true_eq, decide_eq_false_iff_not, not_and]
      refine ⟨by omega, fun hk => ?_⟩
      rcases g3 with h | h
      · exact (hk h).elim
      · omega)]
    rw [W_in (by omega) (by omega), W_in (by omega) (by omega)]
    exact ih (dn ++ [y]) (i + 1) _ _ (by rw [h1]; simp) (fun who => by
          rw [mgetPut, h3, cW_snoc]
          by_cases hw : who = y.Who
          · subst hw; simp
          · rw [if_neg hw, if_neg (fun h => hw h.symm)]; simp) (fun club race => by
          rw [mgetPut, h4, cA_snoc]
          by_cases hw : (⟨club, race⟩ : Gswimmer_place) = ⟨swimmer_clubAt m y.Who b.Day, y.Race⟩
          · rw [if_pos hw]
            simp only [Gswimmer_place.mk.injEq] at hw
            obtain ⟨rfl, rfl⟩ := hw
            simp
          · rw [if_neg hw]
            simp only [Gswimmer_place.mk.injEq] at hw
            rw [if_neg (fun h => hw ⟨h.2.symm, h.1.symm⟩)]; simp)
/-- The bounds are kept, where all are of one club. -/
theorem kept (blue : ByteArray) (hb : blue ≠ k_empty) (hcl : ∀ who ∈ sixN, swimmer_clubAt m who b.Day = blue) (acc : List GEntry) (hA : AccP r s b m acc) : ∀ (ys dn : List GEntry), acc = dn ++ ys →
    (∀ z ∈ dn, (cW dn z.Who : Int) ≤ b.Races ∧ (cA m b.Day dn blue z.Race : Int) ≤ b.Club) → ∀ z ∈ acc, (cW acc z.Who : Int) ≤ b.Races ∧ (cA m b.Day acc blue z.Race : Int) ≤ b.Club := by
  intro ys
  induction ys with
  | nil => intro dn h h'; rw [List.append_nil] at h; subst h; exact h'
  | cons y ys ih =>
    intro dn h h'
    obtain ⟨g1, g2, g3⟩ := hA dn y ys h
    obtain ⟨v, hv, hw⟩ := bad_some r s b y hs hd3 hd4
    have hv' : v = false := by rw [g1] at hv; exact (Option.some.inj hv).symm
    have hy := hcl _ (hw hv')
    rw [hy] at g3
    have g3' : (cA m b.Day dn blue y.Race : Int) < b.Club := g3.resolve_left hb
    refine ih (dn ++ [y]) (by rw [h]; simp) fun z hz => ?_
    rw [cW_snoc, cA_snoc]
    have hz' : z ∈ dn ∨ z = y := by simpa using hz
    constructor
    · by_cases e : y.Who = z.Who
      · rw [if_pos e, ← e]; push_cast; omega
      · rw [if_neg e]
        rcases hz' with h1 | rfl
        · have := (h' z h1).1; push_cast; omega
        · exact (e rfl).elim
    · by_cases e : y.Race = z.Race
      · rw [← e]; split <;> (push_cast; omega)
      · rw [if_neg (fun h => e h.1)]
        rcases hz' with h1 | rfl
        · have := (h' z h1).2; push_cast; omega
        · exact (e rfl).elim
theorem all_blue (blue : ByteArray) (hcl : ∀ who ∈ sixN, swimmer_clubAt m who b.Day = blue) (acc : List GEntry) (hA : AccP r s b m acc) (race : ByteArray) : cA m b.Day acc blue race = acc.countP fun y => decide (y.Race = race) := by
  unfold cA
  refine List.countP_congr fun y hy => ?_
  obtain ⟨dn, ys, e⟩ := List.append_of_mem hy
  obtain ⟨g1, _, _⟩ := hA dn y ys e
  obtain ⟨v, hv, hw⟩ := bad_some r s b y hs hd3 hd4
  have hv' : v = false := by rw [g1] at hv; exact (Option.some.inj hv).symm
  rw [hcl _ (hw hv')]; simp
end
end Go.Proofs.YtdcmeoefpigcdaaGreatDoor
