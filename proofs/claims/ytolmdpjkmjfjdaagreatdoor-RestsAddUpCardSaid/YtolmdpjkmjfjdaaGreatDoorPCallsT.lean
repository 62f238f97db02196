/- The heats of somebody, in order: the program's are the reference's. No program stands here but its twins. -/
import Derived.Test.YtolmdpjkmjfjdaaGreatDoorPCalls
import Derived.Test.YtolmdpjkmjfjdaaGreatDoorPList
namespace Go.Proofs.YtolmdpjkmjfjdaaGreatDoor
open Go
/-! ### The timetable -/
theorem hs_mem (y : GItem) (hy : Good y) : ∀ (k : Nat) (h t : Int) (s : GSlot), s ∈ hs y k h t → s.Item = y.Key ∧ h ≤ s.Heat ∧ t ≤ s.Time.From ∧ s.Time.From < endH y k t
  | 0, _, _, _, hm => by cases hm
  | k + 1, h, t, s, hm => by
    have hy' := hy
    unfold Good at hy'
    rw [hs] at hm
    rcases List.mem_cons.1 hm with rfl | hm
    · refine ⟨rfl, Int.le_refl _, Int.le_refl _, ?_⟩
      cases k with
      | zero => simp only [endH]; omega
      | succ k =>
        have := endH_bounds y hy (k + 1) (t + y.Long + y.Gap)
        simp only [endH]
        omega
    · obtain ⟨h1, h2, h3, h4⟩ := hs_mem y hy k (h + 1) (t + y.Long + y.Gap) s hm
      refine ⟨h1, by omega, by omega, ?_⟩
      cases k with
      | zero => cases hm
      | succ k => exact h4
theorem hs_pair (y : GItem) (hy : Good y) : ∀ (k : Nat) (h t : Int), (hs y k h t).Pairwise fun a b => a.Time.From < b.Time.From ∧ a.Heat < b.Heat
  | 0, _, _ => List.Pairwise.nil
  | k + 1, h, t => by
    have hy' := hy
    unfold Good at hy'
    rw [hs]
    refine List.pairwise_cons.2 ⟨fun s hm => ?_, hs_pair y hy k _ _⟩
    obtain ⟨_, h2, h3, _⟩ := hs_mem y hy k (h + 1) (t + y.Long + y.Gap) s hm
    exact ⟨by show t < _; omega, by show h < _; omega⟩
theorem tt_mem : ∀ (l : List GItem) (t : Int) (s : GSlot), (∀ x ∈ l, Good x) → s ∈ tt l t → t ≤ s.Time.From ∧ ∃ y ∈ l, s.Item = y.Key
  | [], _, _, _, hm => by cases hm
  | y :: ys, t, s, hg, hm => by
    have hy := hg y (by simp)
    have hy' := hy
    unfold Good at hy'
    rw [tt] at hm
    rcases List.mem_append.1 hm with hm | hm
    · obtain ⟨h1, _, h3, _⟩ := hs_mem y hy _ _ _ s hm
      exact ⟨h3, y, by simp, h1⟩
    · obtain ⟨h1, z, hz, h2⟩ := tt_mem ys _ s (fun x hx => hg x (List.mem_cons_of_mem _ hx)) hm
      have := endH_bounds y hy y.Heats.toNat t
      exact ⟨by omega, z, List.mem_cons_of_mem _ hz, h2⟩
theorem tt_pair : ∀ (l : List GItem) (t : Int), (∀ x ∈ l, Good x) → (tt l t).Pairwise fun a b => a.Time.From < b.Time.From
  | [], _, _ => List.Pairwise.nil
  | y :: ys, t, hg => by
    have hy := hg y (by simp)
    have hy' := hy
    unfold Good at hy'
    have hgs : ∀ x ∈ ys, Good x := fun x hx => hg x (List.mem_cons_of_mem _ hx)
    rw [tt]
    refine List.pairwise_append.2 ⟨(hs_pair y hy _ _ _).imp_of_mem fun _ _ h => h.1, tt_pair ys _ hgs, fun a ha b hb => ?_⟩
    obtain ⟨_, _, _, h4⟩ := hs_mem y hy _ _ _ a ha
    obtain ⟨h1, _⟩ := tt_mem ys _ b hgs hb
    omega
theorem tt_key : ∀ (l : List GItem) (t : Int), (∀ x ∈ l, Good x) → (l.Pairwise fun a b => a.Key ≠ b.Key) → (tt l t).Pairwise fun a b => a.Item = b.Item → a.Heat ≠ b.Heat
  | [], _, _, _ => List.Pairwise.nil
  | y :: ys, t, hg, hd => by
    have hy := hg y (by simp)
    have hgs : ∀ x ∈ ys, Good x := fun x hx => hg x (List.mem_cons_of_mem _ hx)
    rw [List.pairwise_cons] at hd
    rw [tt]
    refine List.pairwise_append.2 ⟨(hs_pair y hy _ _ _).imp_of_mem fun _ _ h _ => by have := h.2; omega, tt_key ys _ hgs hd.2, fun a ha b hb he => ?_⟩
    obtain ⟨h1, _⟩ := hs_mem y hy _ _ _ a ha
    obtain ⟨_, z, hz, h2⟩ := tt_mem ys _ b hgs hb
    exact absurd (h1.symm.trans (he.trans h2)) (hd.1 z hz)
theorem atN_mem (key : ByteArray) (h : Int) : ∀ (l : List GSlot) (k : Nat), atN key h l = some k → ∃ s ∈ l, s.Item = key ∧ s.Heat = h
  | [], _, e => by cases e
  | s :: l, k, e => by
    rw [atN] at e
    split at e
    · rename_i hc
      exact ⟨s, by simp, hc⟩
    · cases hq : atN key h l with
      | none => rw [hq] at e; cases e
      | some q =>
        obtain ⟨z, hz, h1⟩ := atN_mem key h l q hq
        exact ⟨z, List.mem_cons_of_mem _ hz, h1⟩
theorem tt_has {items : List GItem} {c : GCall} {k : Nat} {y : GItem} (h : CV items c k y) (t : Int) : ∃ s ∈ tt items t, s.Item = c.Item ∧ s.Heat = c.Heat :=
  atN_mem _ _ _ _ (tt_at items t c.Item c.Heat k y h.ix h.get h.h1 h.h2)
/-! ### The map of heats -/
theorem slots_no (z : GSlot) (it : ByteArray) (hh : Int) : ∀ (ys : List GSlot) (i : Nat) (m : List (Gsession_heat × GSlot)), (∀ s ∈ ys, it = s.Item → hh ≠ s.Heat) → mgetD (session_slots_l1 (fun x => x) ys i m) ⟨it, hh⟩ z = mgetD m ⟨it, hh⟩ z
  | [], _, _, _ => rfl
  | y :: ys, i, m, h => by
    rw [session_slots_l1, slots_no z it hh ys (i + 1) _ fun s hs => h s (List.mem_cons_of_mem _ hs), mgetD_put, if_neg]
    intro e
    rw [Gsession_heat.mk.injEq] at e
    exact h y (by simp) e.1 e.2
theorem slots_get (z : GSlot) : ∀ (T : List GSlot) (i : Nat) (m : List (Gsession_heat × GSlot)) (s : GSlot), (T.Pairwise fun a b => a.Item = b.Item → a.Heat ≠ b.Heat) → s ∈ T → mgetD (session_slots_l1 (fun x => x) T i m) ⟨s.Item, s.Heat⟩ z = s
  | [], _, _, _, _, hm => by cases hm
  | y :: ys, i, m, s, hp, hm => by
    rw [List.pairwise_cons] at hp
    rw [session_slots_l1]
    rcases List.mem_cons.1 hm with rfl | hm
    · rw [slots_no z _ _ ys (i + 1) _ fun b hb e => hp.1 b hb e, mgetD_put, if_pos rfl]
    · exact slots_get z ys (i + 1) _ s hp.2 hm
/-! ### The order of calls -/
theorem cC_neg {a b : GCall} : cC a b < 0 ↔ cB a.Who b.Who < 0 ∨ (a.Who = b.Who ∧ (cB a.Item b.Item < 0 ∨ (a.Item = b.Item ∧ a.Heat < b.Heat))) := by
  unfold cC
  by_cases h1 : cB a.Who b.Who = 0
  · have e1 := cB_zero h1
    rw [if_neg (by simpa using h1)]
    by_cases h2 : cB a.Item b.Item = 0
    · have e2 := cB_zero h2
      rw [if_neg (by simpa using h2)]
      by_cases h3 : a.Heat < b.Heat
      · rw [if_pos h3]
        exact ⟨fun _ => .inr ⟨e1, .inr ⟨e2, h3⟩⟩, fun _ => by decide⟩
      · rw [if_neg h3]
        refine ⟨fun h => ?_, fun h => ?_⟩
        · split at h <;> cases h
        · rcases h with h | ⟨_, h | ⟨_, h⟩⟩ <;> omega
    · rw [if_pos h2]
      refine ⟨fun h => .inr ⟨e1, .inl h⟩, fun h => ?_⟩
      rcases h with h | ⟨_, h | ⟨h, _⟩⟩
      · omega
      · exact h
      · exact absurd (cB_eq.2 h) h2
  · rw [if_pos h1]
    refine ⟨.inl, fun h => ?_⟩
    rcases h with h | ⟨h, _⟩
    · exact h
    · exact absurd (cB_eq.2 h) h1
theorem cC_trans {a b c : GCall} (h1 : cC a b < 0) (h2 : cC b c < 0) : cC a c < 0 := by
  rw [cC_neg] at *
  rcases h1 with h1 | ⟨e1, h1⟩
  · rcases h2 with h2 | ⟨e2, _⟩
    · exact .inl (cB_trans h1 h2)
    · rw [← e2]; exact .inl h1
  · rcases h2 with h2 | ⟨e2, h2⟩
    · rw [e1]; exact .inl h2
    · refine .inr ⟨e1.trans e2, ?_⟩
      rcases h1 with h1 | ⟨i1, h1⟩
      · rcases h2 with h2 | ⟨i2, _⟩
        · exact .inl (cB_trans h1 h2)
        · rw [← i2]; exact .inl h1
      · rcases h2 with h2 | ⟨i2, h2⟩
        · rw [i1]; exact .inl h2
        · exact .inr ⟨i1.trans i2, by omega⟩
theorem cC_irr (a : GCall) : ¬ cC a a < 0 := by
  rw [cC_neg, cB_refl, cB_refl]
  intro h
  rcases h with h | ⟨_, h | ⟨_, h⟩⟩ <;> omega
theorem cadj_at {l : List GCall} (h : CAdj l) : ∀ (ys dn : List GCall) (y : GCall), l = dn ++ y :: ys → ∀ z ∈ ys, cC y z < 0
  | [], _, _, _, z, hz => by cases hz
  | x :: ys, dn, y, e, z, hz => by
    have h1 := h dn y x ys e
    rcases List.mem_cons.1 hz with rfl | hz
    · exact h1
    · exact cC_trans h1 (cadj_at h ys (dn ++ [y]) x (by rw [e]; simp) z hz)
theorem calls_pair {l : List GCall} (h : CAdj l) : l.Pairwise fun a b => cC a b < 0 := by
  have : ∀ (ys dn : List GCall), l = dn ++ ys → ys.Pairwise fun a b => cC a b < 0 := by
    intro ys
    induction ys with
    | nil => intro _ _; exact List.Pairwise.nil
    | cons y ys ih =>
      intro dn e
      exact List.pairwise_cons.2 ⟨cadj_at h ys dn y e, ih (dn ++ [y]) (by rw [e]; simp)⟩
  exact this l [] rfl
/-! ### Sorting by time -/
def ltS (x y : GSlot) : Bool := decide (session_calls_c1 x y < 0)
theorem ltS_is (x y : GSlot) : ltS x y = decide (x.Time.From < y.Time.From) := by
  unfold ltS session_calls_c1
  rw [cmpI2]
  by_cases h1 : x.Time.From < y.Time.From
  · simp [h1]
  · by_cases h2 : y.Time.From < x.Time.From <;> simp [h1, h2]
theorem len13 : ∀ n : Fin 13, (bits_Len (IntKind.wrap .u64 (n.val : Int))).isSome = true := by decide +kernel
theorem isortS_is (l : List GSlot) (hl : l.length ≤ 12) : slices_insertionSortCmpFunc_Slot_session_calls_c1 l 0 (l.length : Int) = some (isort ltS l) := by
  unfold slices_insertionSortCmpFunc_Slot_session_calls_c1
  simp only [joinR]
  have hins : ∀ (k : List GSlot → Option (List GSlot)) (rp : List GSlot) (x : GSlot) (post : List GSlot), ((rp ++ x :: post).length : Int) = (l.length : Int) → (∀ y, y ∈ rp ∨ y = x ∨ y ∈ post → y ∈ (rp ++ x :: post)) →
      slices_insertionSortCmpFunc_Slot_session_calls_c1_l2 0 k (((rp.length : Int) - 0).toNat + 2) (rp.reverse ++ x :: post) (rp.length : Int) = k ((insR ltS x rp).reverse ++ post) := by
    intro k rp x post h1 _
    exact ins_l (fun x y k => k (ltS x y)) ltS k (slices_insertionSortCmpFunc_Slot_session_calls_c1_l2 0 k) (fun _ _ _ => rfl) rp x post _ (by omega) (by simp at h1; omega) fun y _ k' => rfl
  cases l with
  | nil => rfl
  | cons x l =>
    have hw : W (0 + 1) = (([x] : List GSlot).length : Int) := rfl
    rw [hw]
    exact isort_l ltS (fun x => some x) (fun k x i => slices_insertionSortCmpFunc_Slot_session_calls_c1_l2 0 k ((i - 0).toNat + 2) x i) (slices_insertionSortCmpFunc_Slot_session_calls_c1_l1 ((x :: l).length : Int) 0 fun x => some x) ((x :: l).length : Int) (fun _ _ _ => rfl)
      (fun k rp x post h1 h2 => hins k rp x post h1 h2) l [x] _ (by simp only [List.length_cons, List.length_nil]; omega) (by simp only [List.length_cons, List.length_nil]; omega) (by simp only [List.length_cons, List.length_nil] at hl ⊢; omega)
theorem sortS_is (l : List GSlot) (hl : l.length ≤ 12) : slices_SortFunc_Slot_session_calls_c1 l = some (isort ltS l) := by
  unfold slices_SortFunc_Slot_session_calls_c1
  have h := len13 ⟨l.length, by omega⟩
  obtain ⟨r, hr⟩ := Option.isSome_iff_exists.1 h
  simp only at hr
  rw [hr]
  simp only [Option.bind_some]
  unfold slices_pdqsortCmpFunc_Slot_session_calls_c1
  rw [show (4611686018427387904 : Nat) = 4611686018427387903 + 1 from rfl, slices_pdqsortCmpFunc_Slot_session_calls_c1_l1, W_in (by omega) (by omega), if_pos (decide_eq_true (by omega)), isortS_is l hl]
  rfl
/-! ### The heats of somebody -/
def mine (T : List GSlot) (l : List GCall) (who : ByteArray) : List GSlot := T.filter fun s => l.any fun c => decide (GCall.mk who s.Item s.Heat = c)
theorem calls_is (items : List GItem) (hg : ∀ x ∈ items, Good x) (hd : items.Pairwise fun a b => a.Key ≠ b.Key) (l : List GCall) (hl : l.length ≤ 2000) (hcv : ∀ c ∈ l, ∃ k y, CV items c k y) (hadj : CAdj l) (t : Int) (who : ByteArray)
    (hN : (l.filter fun c => decide (c.Who = who)).length ≤ 12) : session_calls (session_slots (tt items t)) l who = some (mine (tt items t) l who) := by
  have hk := tt_key items t hg hd
  have hp := tt_pair items t hg
  have hsl : session_slots (tt items t) = session_slots_l1 (fun x => x) (tt items t) 0 [] := rfl
  have hget : ∀ s ∈ tt items t, mgetD (session_slots (tt items t)) ⟨s.Item, s.Heat⟩ (GSlot.mk k_empty 0 (GWindow.mk 0 0)) = s := fun s hs => by
    rw [hsl]; exact slots_get _ _ 0 [] s hk hs
  unfold session_calls
  simp only [joinR]
  rw [app_0 (fun c : GCall => decide (c.Who = who)) (fun c => mgetD (session_slots (tt items t)) ⟨c.Item, c.Heat⟩ (GSlot.mk k_empty 0 (GWindow.mk 0 0))) (fun x1 => Option.bind (slices_SortFunc_Slot_session_calls_c1 x1) fun r1 => some r1) (session_calls_l1 who (session_slots (tt items t)) fun x1 => Option.bind (slices_SortFunc_Slot_session_calls_c1 x1) fun r1 => some r1) (fun _ _ => rfl) l (by omega) (fun _ _ _ _ => rfl)]
  rw [sortS_is _ (by rw [List.length_map]; exact hN)]
  simp only [Option.bind_some]
  congr 1
  have slot : ∀ c ∈ l, ∃ s ∈ tt items t, s.Item = c.Item ∧ s.Heat = c.Heat ∧ mgetD (session_slots (tt items t)) ⟨c.Item, c.Heat⟩ (GSlot.mk k_empty 0 (GWindow.mk 0 0)) = s := fun c hc => by
    obtain ⟨k, y, h⟩ := hcv c hc
    obtain ⟨s, h1, h2, h3⟩ := tt_has h t
    exact ⟨s, h1, h2, h3, by rw [← h2, ← h3]; exact hget s h1⟩
  have part : ∀ a ∈ tt items t, ∀ b ∈ tt items t, a ≠ b → a.Time.From < b.Time.From ∨ b.Time.From < a.Time.From := by
    intro a ha b hb hne
    obtain ⟨i, hi⟩ := List.getElem?_of_mem ha
    obtain ⟨j, hj⟩ := List.getElem?_of_mem hb
    obtain ⟨i1, i2⟩ := List.getElem?_eq_some_iff.1 hi
    obtain ⟨j1, j2⟩ := List.getElem?_eq_some_iff.1 hj
    rw [List.pairwise_iff_getElem] at hp
    rcases Nat.lt_trichotomy i j with h | h | h
    · have := hp i j i1 j1 h; rw [i2, j2] at this; exact .inl this
    · subst h; rw [i2] at j2; exact absurd j2 hne
    · have := hp j i j1 i1 h; rw [i2, j2] at this; exact .inr this
  refine isort_is (fun x => by rw [ltS_is]; simp) (fun x y z h1 h2 => by rw [ltS_is] at *; simp at *; omega) _ _ ?_ ?_ ?_
  · rw [List.pairwise_map]
    refine List.Pairwise.imp_of_mem (fun {a b} ha hb h => ?_) ((calls_pair hadj).filter _)
    intro h0
    obtain ⟨ha1, ha2⟩ := List.mem_filter.1 ha
    obtain ⟨hb1, hb2⟩ := List.mem_filter.1 hb
    obtain ⟨s, s1, s2, s3, s4⟩ := slot a ha1
    obtain ⟨r, r1, r2, r3, r4⟩ := slot b hb1
    rw [s4, r4] at h0 ⊢
    rw [ltS_is] at h0 ⊢
    have hne : s ≠ r := by
      rintro rfl
      have hab : a = b := by
        have e1 := of_decide_eq_true ha2
        have e2 := of_decide_eq_true hb2
        cases a; cases b
        simp only [GCall.mk.injEq] at *
        exact ⟨e1.trans e2.symm, s2.symm.trans r2, s3.symm.trans r3⟩
      subst hab
      exact cC_irr a h
    rcases part s s1 r r1 hne with h2 | h2
    · exact decide_eq_true h2
    · rw [decide_eq_true h2] at h0; cases h0
  · unfold mine
    refine List.Pairwise.imp_of_mem (fun {a b} _ _ h => by rw [ltS_is]; exact decide_eq_true h) (hp.filter _)
  · intro x
    unfold mine
    rw [List.mem_map, List.mem_filter, List.any_eq_true]
    constructor
    · rintro ⟨c, hc, rfl⟩
      obtain ⟨hc1, hc2⟩ := List.mem_filter.1 hc
      obtain ⟨s, s1, s2, s3, s4⟩ := slot c hc1
      rw [s4]
      refine ⟨s1, c, hc1, decide_eq_true ?_⟩
      have e1 := of_decide_eq_true hc2
      rw [s2, s3, ← e1]
    · rintro ⟨hx, c, hc, h1⟩
      have h1 := of_decide_eq_true h1
      refine ⟨c, List.mem_filter.2 ⟨hc, ?_⟩, ?_⟩
      · rw [← h1]; exact decide_eq_true rfl
      · rw [← h1]; exact hget x hx
end Go.Proofs.YtolmdpjkmjfjdaaGreatDoor
