/- Races in order of their keys, by both; the race and the swimmer of a key. No program stands here but its twins. -/
import Derived.Test.YtmngaaffadcccaaGreatDoorPRace
import Derived.Test.YtmngaaffadcccaaGreatDoorPSwim
import Derived.Test.YtmngaaffadcccaaGreatDoorPBytes
namespace Go.Proofs.YtmngaaffadcccaaGreatDoor
open Go
theorem races_loop (l : List GRace) : ∀ (ys : List GRace) (i : Nat) (a : Option Int), swimmer_checkRaces_l1 l a ys i = tumblaw2_racesFault_l1 l a ys i
  | [], _, _ => rfl
  | y :: ys, i, a => by
    rw [swimmer_checkRaces_l1, tumblaw2_racesFault_l1]
    obtain ⟨e, h1, h2⟩ := race_eq y
    rw [h1, h2]
    simp only [Option.bind_some, join_eq, races_loop l ys (i + 1)]
theorem races_some (l : List GRace) (hl : l.length ≤ 1000) : ∀ (ys dn : List GRace), l = dn ++ ys → ∃ e, tumblaw2_racesFault_l1 l (some 0) ys dn.length = some e
  | [], _, _ => ⟨0, rfl⟩
  | y :: ys, dn, h => by
    rw [tumblaw2_racesFault_l1]
    obtain ⟨e, h1, h2⟩ := race_eq y
    rw [h2]
    simp only [Option.bind_some, join_eq]
    by_cases he : e = 0
    · rw [if_neg (by simpa using he)]
      obtain ⟨e', h'⟩ := races_some l hl ys (dn ++ [y]) (by rw [h]; simp)
      rw [List.length_append, List.length_singleton] at h'
      rw [h']
      by_cases h0 : 0 < (dn.length : Int)
      · have hdl : dn.length ≤ 1000 := by rw [h] at hl; simp at hl; omega
        rw [if_pos (decide_eq_true h0), chk_pos (by rw [W_in (by omega) (by omega), inB_iff, h]; simp; omega)]
        split
        · exact ⟨7, rfl⟩
        · exact ⟨e', rfl⟩
      · rw [if_neg (by simpa using h0)]
        split
        · exact ⟨7, rfl⟩
        · exact ⟨e', rfl⟩
    · rw [if_pos (by simpa using he)]; exact ⟨e, rfl⟩
theorem races_eq (l : List GRace) : ∃ e, swimmer_checkRaces l = some e ∧ tumblaw2_racesFault l = some e := by
  unfold swimmer_checkRaces tumblaw2_racesFault
  by_cases h : 100 < (l.length : Int)
  · rw [if_pos (decide_eq_true h), if_pos (decide_eq_true h)]; exact ⟨2, rfl, rfl⟩
  · rw [if_neg (by simpa using h), if_neg (by simpa using h)]
    simp only [join_eq, races_loop]
    obtain ⟨e, he⟩ := races_some l (by omega) l [] rfl
    exact ⟨e, he, he⟩
theorem raceOf_loop (key : ByteArray) (l : List GRace) : ∀ (ys dn : List GRace), l = dn ++ ys →
    (if decide (slices_IndexFunc_Race_swimmer_raceOf_c1_l1 key (-1) ys dn.length < 0) = true then some ((GRace.mk k_empty 0 0 0 0 0 0 0), false) else
      Chk (inB (slices_IndexFunc_Race_swimmer_raceOf_c1_l1 key (-1) ys dn.length) l.length) (some ((nth l (slices_IndexFunc_Race_swimmer_raceOf_c1_l1 key (-1) ys dn.length)), true))) = some (tumbref2_raceOf_l1 key ((GRace.mk k_empty 0 0 0 0 0 0 0), false) ys dn.length) := by
  intro ys
  induction ys with
  | nil => intro dn _; rfl
  | cons y ys ih =>
    intro dn h
    rw [slices_IndexFunc_Race_swimmer_raceOf_c1_l1, tumbref2_raceOf_l1]
    unfold swimmer_raceOf_c1
    by_cases hk : y.Key = key
    · have hn : nth l (dn.length : Int) = y := by unfold nth; rw [h]; simp
      simp only [hk, decide_true, if_true]
      rw [if_neg (by simp), chk_pos (by rw [inB_iff, h]; simp; omega), hn]
    · simp only [hk, decide_false, Bool.false_eq_true, if_false]
      have := ih (dn ++ [y]) (by rw [h]; simp)
      rwa [List.length_append, List.length_singleton] at this
theorem raceOf_eq (l : List GRace) (key : ByteArray) : swimmer_raceOf l key = some (tumbref2_raceOf l key) := by
  unfold swimmer_raceOf tumbref2_raceOf slices_IndexFunc_Race_swimmer_raceOf_c1
  simp only [join_eq]
  exact raceOf_loop key l l [] rfl
/-- Keys in order. -/
theorem swim_ord (l : List GSwimmer) (hl : l.length ≤ 1000) : ∀ (ys dn : List GSwimmer), l = dn ++ ys → swimmer_CheckSwimmers_l1 l (some 0) ys dn.length = some 0 → ∀ d p q r, dn ++ ys = d ++ p :: q :: r → dn.length ≤ d.length + 1 → cB p.Key q.Key < 0 := by
  intro ys
  induction ys with
  | nil =>
    intro dn h1 h2 d p q r h3 h4
    have := congrArg List.length h3
    simp at this; omega
  | cons y ys ih =>
    intro dn h1 h2 d p q r h3 h4
    rw [swimmer_CheckSwimmers_l1] at h2
    obtain ⟨b, e1, e2⟩ := isKey_eq y.Key
    rw [e1] at h2
    simp only [Option.bind_some, join_eq] at h2
    cases b with
    | false => simp at h2
    | true =>
      simp only [Bool.not_true, Bool.false_eq_true, if_false] at h2
      have hdl : dn.length ≤ 1000 := by rw [h1] at hl; simp at hl; omega
      have hrest : ∀ X : Bool, (if X = true then some 7 else if (((!decide (y.Sex = 1)) && (!decide (y.Sex = 2))) || (!(swimmer_isDay y.Born))) = true then some 1 else swimmer_CheckSwimmers_l1 l (some 0) ys (dn.length + 1)) = some (0 : Int) → X = false ∧ swimmer_CheckSwimmers_l1 l (some 0) ys (dn ++ [y]).length = some 0 := by
        intro X hX
        cases X with
        | true => simp at hX
        | false =>
          refine ⟨rfl, ?_⟩
          simp only [Bool.false_eq_true, if_false] at hX
          split at hX
          · simp at hX
          · rw [List.length_append, List.length_singleton]; exact hX
      by_cases hd : dn.length = d.length + 1
      · -- y is q
        have h5 : dn = d ++ [p] ∧ y :: ys = q :: r := by
          have : dn ++ y :: ys = (d ++ [p]) ++ q :: r := by rw [h3]; simp
          exact List.append_inj this (by simp; omega)
        obtain ⟨rfl, h6⟩ := h5
        cases h6
        have hlen : ((d ++ [p]).length : Int) = (d.length : Int) + 1 := by simp
        have hw : W (((d ++ [p]).length : Int) - 1) = (d.length : Int) := by rw [hlen, W_in (by omega) (by simp at hdl; omega)]; omega
        have hnp : nth l (d.length : Int) = p := by unfold nth; rw [h1]; simp
        have hi : inB (d.length : Int) l.length = true := by rw [inB_iff, h1]; simp; omega
        have hpos : decide (0 < ((d ++ [p]).length : Int)) = true := by rw [hlen]; simp
        rw [if_pos hpos, hw, chk_pos hi, hnp] at h2
        obtain ⟨hX, _⟩ := hrest _ h2
        rw [hpos, Bool.true_and, sless_cb, Bool.or_eq_false_iff] at hX
        have g1 := of_decide_eq_false hX.1
        have g2 := of_decide_eq_false hX.2
        have g3 := cB_flip p.Key y.Key
        rcases cB_rng p.Key y.Key with g | g | g
        · omega
        · exact (g2 (cB_zero g).symm).elim
        · omega
      · have h7 : swimmer_CheckSwimmers_l1 l (some 0) ys (dn ++ [y]).length = some 0 := by
          by_cases h0 : 0 < (dn.length : Int)
          · rw [if_pos (decide_eq_true h0), chk_pos (by rw [W_in (by omega) (by omega), inB_iff, h1]; simp; omega)] at h2
            exact (hrest _ h2).2
          · rw [if_neg (by simpa using h0)] at h2
            exact (hrest _ h2).2
        exact ih (dn ++ [y]) (by rw [h1]; simp) h7 d p q r (by rw [← h3]; simp) (by simp; omega)
theorem swim_uniq {l : List GSwimmer} (h : swimmer_CheckSwimmers l = some 0) : ∀ d x r, l = d ++ x :: r → ∀ y ∈ r, cB x.Key y.Key < 0 := by
  unfold swimmer_CheckSwimmers at h
  by_cases hl : 500 < (l.length : Int)
  · rw [if_pos (decide_eq_true hl)] at h; simp at h
  · rw [if_neg (by simpa using hl)] at h
    simp only [join_eq] at h
    have hord := swim_ord l (by omega) l [] rfl h
    intro d x r
    induction r generalizing d x with
    | nil => intro _ y hy; cases hy
    | cons z r ih =>
      intro hd y hy
      have h1 := hord d x z r (by simpa using hd) (by simp)
      rcases List.mem_cons.1 hy with rfl | hy
      · exact h1
      · exact cB_trans h1 (ih (d ++ [x]) z (by rw [hd]; simp) y hy)
theorem swimmerOf_none (key : ByteArray) (day : Int) : ∀ (ys : List GSwimmer) (i : Nat), (∀ y ∈ ys, y.Key ≠ key) → slices_IndexFunc_Swimmer_swimmer_swimmerOf_c1_l1 key day (-1) ys i = -1
  | [], _, _ => rfl
  | y :: ys, i, h => by
    rw [slices_IndexFunc_Swimmer_swimmer_swimmerOf_c1_l1]
    unfold swimmer_swimmerOf_c1
    rw [if_neg (by simp [h y List.mem_cons_self])]
    exact swimmerOf_none key day ys (i + 1) (fun z hz => h z (List.mem_cons_of_mem _ hz))
theorem swimmerOf_loop (key : ByteArray) (day : Int) (l : List GSwimmer) (hu : ∀ d x r, l = d ++ x :: r → ∀ y ∈ r, cB x.Key y.Key < 0) : ∀ (ys dn : List GSwimmer), l = dn ++ ys →
    (if decide (slices_IndexFunc_Swimmer_swimmer_swimmerOf_c1_l1 key day (-1) ys dn.length < 0) = true then some ((GSwimmer.mk k_empty 0 0), false) else
      Chk (inB (slices_IndexFunc_Swimmer_swimmer_swimmerOf_c1_l1 key day (-1) ys dn.length) l.length) (some ((nth l (slices_IndexFunc_Swimmer_swimmer_swimmerOf_c1_l1 key day (-1) ys dn.length)), true))) =
    some (if (tumbref2_swimmerOf_l1 key ((GSwimmer.mk k_empty 0 0), false) ys dn.length).2 = true ∧ (tumbref2_swimmerOf_l1 key ((GSwimmer.mk k_empty 0 0), false) ys dn.length).1.Born ≤ day then ((tumbref2_swimmerOf_l1 key ((GSwimmer.mk k_empty 0 0), false) ys dn.length).1, true) else ((GSwimmer.mk k_empty 0 0), false)) := by
  intro ys
  induction ys with
  | nil => intro dn _; rfl
  | cons y ys ih =>
    intro dn h
    rw [tumbref2_swimmerOf_l1]
    by_cases hk : y.Key = key
    · simp only [hk, decide_true, if_true, true_and]
      by_cases hb : y.Born ≤ day
      · have hn : nth l (dn.length : Int) = y := by unfold nth; rw [h]; simp
        have he : slices_IndexFunc_Swimmer_swimmer_swimmerOf_c1_l1 key day (-1) (y :: ys) dn.length = (dn.length : Int) := by
          rw [slices_IndexFunc_Swimmer_swimmer_swimmerOf_c1_l1]; unfold swimmer_swimmerOf_c1; simp [hk, hb]
        rw [he, if_neg (by simp), chk_pos (by rw [inB_iff, h]; simp; omega), hn, if_pos hb]
      · have he : slices_IndexFunc_Swimmer_swimmer_swimmerOf_c1_l1 key day (-1) (y :: ys) dn.length = -1 := by
          rw [slices_IndexFunc_Swimmer_swimmer_swimmerOf_c1_l1]; unfold swimmer_swimmerOf_c1
          rw [if_neg (by simp [hb])]
          refine swimmerOf_none key day ys _ fun z hz hzk => ?_
          have := hu dn y ys h z hz
          rw [hk, hzk, cB_refl] at this
          exact absurd this (by decide)
        rw [he, if_pos (by decide), if_neg hb]
    · simp only [hk, decide_false, Bool.false_eq_true, if_false]
      have he : slices_IndexFunc_Swimmer_swimmer_swimmerOf_c1_l1 key day (-1) (y :: ys) dn.length = slices_IndexFunc_Swimmer_swimmer_swimmerOf_c1_l1 key day (-1) ys (dn ++ [y]).length := by
        rw [slices_IndexFunc_Swimmer_swimmer_swimmerOf_c1_l1]; unfold swimmer_swimmerOf_c1
        rw [if_neg (by simp [hk]), List.length_append, List.length_singleton]
      rw [he]
      have := ih (dn ++ [y]) (by rw [h]; simp)
      simpa using this
theorem swimmerOf_eq (l : List GSwimmer) (key : ByteArray) (day : Int) (h : swimmer_CheckSwimmers l = some 0) : swimmer_swimmerOf l key day =
    some (if (tumbref2_swimmerOf l key).2 = true ∧ (tumbref2_swimmerOf l key).1.Born ≤ day then ((tumbref2_swimmerOf l key).1, true) else ((GSwimmer.mk k_empty 0 0), false)) := by
  unfold swimmer_swimmerOf tumbref2_swimmerOf slices_IndexFunc_Swimmer_swimmer_swimmerOf_c1
  simp only [join_eq]
  exact swimmerOf_loop key day l (swim_uniq h) l [] rfl
theorem swimmerOf_mem (key : ByteArray) : ∀ (ys : List GSwimmer) (i : Nat), (tumbref2_swimmerOf_l1 key ((GSwimmer.mk k_empty 0 0), false) ys i).2 = true → (tumbref2_swimmerOf_l1 key ((GSwimmer.mk k_empty 0 0), false) ys i).1 ∈ ys
  | [], _, h => by cases h
  | y :: ys, i, h => by
    rw [tumbref2_swimmerOf_l1] at h ⊢
    by_cases hk : y.Key = key
    · simp [hk]
    · simp only [hk, decide_false, Bool.false_eq_true, if_false] at h ⊢
      exact List.mem_cons_of_mem _ (swimmerOf_mem key ys (i + 1) h)
end Go.Proofs.YtmngaaffadcccaaGreatDoor
