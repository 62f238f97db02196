/- The program's check of heats that were held is the reference's. No program stands here but its twins. -/
import Derived.Test.YtefddponhjhdgaaDoorPBegin
namespace Go.Proofs.YtefddponhjhdgaaDoor
open Go
/-- Where an item stands. -/
def ixN : List GItem → ByteArray → Option Nat
  | [], _ => none
  | y :: ys, key => if y.Key = key then some 0 else (ixN ys key).map (· + 1)
def ixI (l : List GItem) (key : ByteArray) : Int := match ixN l key with
  | some k => k
  | none => -1
theorem ixLoopP (key : ByteArray) : ∀ (l : List GItem) (i : Nat), slices_IndexFunc_Item_session_itemAt_c1_l1 key (-1) l i = match ixN l key with | some k => ((i + k : Nat) : Int) | none => -1
  | [], i => rfl
  | y :: ys, i => by
    rw [slices_IndexFunc_Item_session_itemAt_c1_l1, ixN]
    unfold session_itemAt_c1
    by_cases h : y.Key = key
    · simp [h]
    · rw [if_neg (by simpa using h), if_neg h, ixLoopP key ys (i + 1)]
      cases ixN ys key with
      | none => rfl
      | some k => simp only [Option.map_some]; congr 1; omega
theorem ixLoopQ (key : ByteArray) : ∀ (l : List GItem) (i : Nat), slices_IndexFunc_Item_tumbref2_ItemAt_c1_l1 key (-1) l i = match ixN l key with | some k => ((i + k : Nat) : Int) | none => -1
  | [], i => rfl
  | y :: ys, i => by
    rw [slices_IndexFunc_Item_tumbref2_ItemAt_c1_l1, ixN]
    unfold tumbref2_ItemAt_c1
    by_cases h : y.Key = key
    · simp [h]
    · rw [if_neg (by simpa using h), if_neg h, ixLoopQ key ys (i + 1)]
      cases ixN ys key with
      | none => rfl
      | some k => simp only [Option.map_some]; congr 1; omega
theorem itemAtP (l : List GItem) (key : ByteArray) : session_itemAt l key = ixI l key := by
  unfold session_itemAt slices_IndexFunc_Item_session_itemAt_c1 ixI
  rw [join_eq, ixLoopP]; simp
theorem itemAtQ (l : List GItem) (key : ByteArray) : tumbref2_ItemAt l key = ixI l key := by
  unfold tumbref2_ItemAt slices_IndexFunc_Item_tumbref2_ItemAt_c1 ixI
  rw [join_eq, ixLoopQ]; simp
theorem ixN_lt : ∀ {l : List GItem} {key : ByteArray} {k : Nat}, ixN l key = some k → k < l.length
  | [], _, _, h => by cases h
  | y :: ys, key, k, h => by
    rw [ixN] at h
    split at h
    · cases h; simp
    · cases hq : ixN ys key with
      | none => rw [hq] at h; cases h
      | some q => rw [hq] at h; cases h; have := ixN_lt hq; simp; omega
/-- How many heats come before item k. -/
def offN : List GItem → Nat → Nat
  | _, 0 => 0
  | [], _ + 1 => 0
  | y :: ys, k + 1 => y.Heats.toNat + offN ys k
theorem offN_lt : ∀ {l : List GItem} {i j : Nat} {y : GItem}, l[i]? = some y → i < j → j ≤ l.length → offN l i + y.Heats.toNat ≤ offN l j
  | [], i, j, y, h, _, _ => by cases h
  | x :: xs, 0, j + 1, y, h, _, _ => by cases h; simp [offN]
  | x :: xs, i + 1, j + 1, y, h, hij, hj => by
    have := offN_lt (l := xs) (i := i) (j := j) (y := y) (by simpa using h) (by omega) (by simpa using hj)
    simp only [offN]; omega
/-- The first place of a heat. -/
def atN (key : ByteArray) (h : Int) : List GSlot → Option Nat
  | [] => none
  | s :: l => if s.Item = key ∧ s.Heat = h then some 0 else (atN key h l).map (· + 1)
theorem heatLoop (key : ByteArray) (h : Int) : ∀ (l : List GSlot) (i : Nat), slices_IndexFunc_Slot_tumbref2_heatAt_c1_l1 key h (-1) l i = match atN key h l with | some k => ((i + k : Nat) : Int) | none => -1
  | [], i => rfl
  | s :: l, i => by
    rw [slices_IndexFunc_Slot_tumbref2_heatAt_c1_l1, atN]
    unfold tumbref2_heatAt_c1
    by_cases hc : s.Item = key ∧ s.Heat = h
    · simp [hc]
    · rw [if_neg (by simpa using hc), if_neg hc, heatLoop key h l (i + 1)]
      cases atN key h l with
      | none => rfl
      | some k => simp only [Option.map_some]; congr 1; omega
theorem atN_app (key : ByteArray) (h : Int) : ∀ (a b : List GSlot), atN key h (a ++ b) = match atN key h a with | some k => some k | none => (atN key h b).map (· + a.length)
  | [], b => by simp [atN]
  | s :: a, b => by
    simp only [List.cons_append, atN, atN_app key h a b]
    split
    · rfl
    · cases atN key h a with
      | some k => rfl
      | none => simp only [Option.map_none]; cases atN key h b with
        | none => rfl
        | some q => simp; omega
theorem hs_at (y : GItem) (key : ByteArray) (h : Int) : ∀ (k : Nat) (h0 t : Int), atN key h (hs y k h0 t) = if y.Key = key ∧ h0 ≤ h ∧ h < h0 + k then some (h - h0).toNat else none
  | 0, h0, t => by simp only [hs, atN]; rw [if_neg]; simp
  | k + 1, h0, t => by
    simp only [hs, atN, hs_at y key h k (h0 + 1)]
    by_cases hk : y.Key = key
    · by_cases hh : h0 = h
      · subst hh; rw [if_pos ⟨hk, rfl⟩, if_pos ⟨hk, by omega, by push_cast; omega⟩]; simp
      · rw [if_neg (fun g => hh g.2)]
        by_cases hr : h0 + 1 ≤ h ∧ h < h0 + 1 + (k : Int)
        · rw [if_pos ⟨hk, hr⟩, if_pos ⟨hk, by omega, by push_cast; omega⟩]; simp; omega
        · rw [if_neg (fun g => hr g.2), if_neg (fun g => hr ⟨by omega, by have := g.2.2; push_cast at this; omega⟩)]; rfl
    · rw [if_neg (fun g => hk g.1), if_neg (fun g => hk g.1), if_neg (fun g => hk g.1)]; rfl
theorem tt_at : ∀ (l : List GItem) (t : Int) (key : ByteArray) (h : Int) (k : Nat) (y : GItem), ixN l key = some k → l[k]? = some y → 1 ≤ h → h ≤ y.Heats → atN key h (tt l t) = some (offN l k + (h - 1).toNat)
  | [], _, _, _, _, _, h0, _, _, _ => by cases h0
  | x :: xs, t, key, h, k, y, h0, h1, h2, h3 => by
    rw [tt, atN_app, hs_at]
    rw [ixN] at h0
    by_cases hk : x.Key = key
    · rw [if_pos hk] at h0
      cases h0
      cases h1
      rw [if_pos ⟨hk, h2, by omega⟩]; simp [offN]
    · rw [if_neg hk] at h0
      cases hq : ixN xs key with
      | none => rw [hq] at h0; cases h0
      | some q =>
        rw [hq] at h0
        cases h0
        rw [if_neg (fun g => hk g.1)]
        simp only
        rw [tt_at xs _ key h q y hq (by simpa using h1) h2 h3, hs_len]
        simp only [Option.map_some, offN]; congr 1; omega
/-- A held heat that there is. -/
structure HV (l : List GItem) (p : GHeld) (k : Nat) (y : GItem) : Prop where
  ix : ixN l p.Item = some k
  get : l[k]? = some y
  h1 : 1 ≤ p.Heat
  h2 : p.Heat ≤ y.Heats
  a1 : 0 ≤ p.At
  a2 : p.At ≤ 345686400000
theorem HV.heat {l : List GItem} {p : GHeld} {k : Nat} {y : GItem} (h : HV l p k y) (t : Int) : tumbref2_heatAt (tt l t) p.Item p.Heat = ((offN l k + (p.Heat - 1).toNat : Nat) : Int) := by
  unfold tumbref2_heatAt slices_IndexFunc_Slot_tumbref2_heatAt_c1
  rw [join_eq, heatLoop, tt_at l t p.Item p.Heat k y h.ix h.get h.h1 h.h2]; simp
theorem HV.ord {l : List GItem} {p q : GHeld} {k j : Nat} {y z : GItem} (hp : HV l p k y) (hq : HV l q j z) (hy : y.Heats ≤ 60) (hz : z.Heats ≤ 60) :
    (offN l k + (p.Heat - 1).toNat ≤ offN l j + (q.Heat - 1).toNat) ↔ (k : Int) * 61 + p.Heat ≤ (j : Int) * 61 + q.Heat := by
  have a1 := hp.h1; have a2 := hp.h2; have b1 := hq.h1; have b2 := hq.h2
  rcases Nat.lt_trichotomy k j with h | h | h
  · have := offN_lt hp.get h (Nat.le_of_lt (ixN_lt hq.ix)); omega
  · subst h
    have : y = z := Option.some.inj (hp.get.symm.trans hq.get)
    subst this; omega
  · have := offN_lt hq.get h (Nat.le_of_lt (ixN_lt hp.ix)); omega
theorem held_loop (items : List GItem) (hg : ∀ x ∈ items, Good x) (hi : items.length ≤ 100) (l : List GHeld) (hl : l.length ≤ 100) : ∀ (ys dn : List GHeld) (x1 : Int), l = dn ++ ys →
    ((dn = [] ∧ x1 = -1) ∨ ∃ d p k y, dn = d ++ [p] ∧ HV items p k y ∧ x1 = (k : Int) * 61 + p.Heat) →
    ∃ e, session_CheckHeld_l1 items l (some 0) ys dn.length x1 = some e ∧ tumbref2_HeldFault_l1 items l (tt items 0) (some 0) ys dn.length = some e ∧ (e = 0 → ∀ p ∈ ys, ∃ k y, HV items p k y) := by
  intro ys
  induction ys with
  | nil => intro dn x1 _ _; exact ⟨0, rfl, rfl, fun _ p hp => by cases hp⟩
  | cons p ys ih =>
    intro dn x1 h1 h2
    rw [session_CheckHeld_l1, tumbref2_HeldFault_l1, itemAtP, itemAtQ]
    unfold ixI
    cases hix : ixN items p.Item with
    | none => exact ⟨8, by simp, by simp, fun h => by cases h⟩
    | some k =>
      have hk := ixN_lt hix
      obtain ⟨y, hy⟩ : ∃ y, items[k]? = some y := ⟨items[k], List.getElem?_eq_getElem hk⟩
      have hn : nth items (k : Int) = y := by unfold nth; simp [List.getD, hy]
      have hgy := hg y (List.mem_of_getElem? hy)
      simp only [show ¬ ((k : Int) < 0) by omega, decide_false, Bool.false_eq_true, if_false, join_eq, hn]
      have hck : inB (k : Int) items.length = true := inB_iff.2 ⟨by omega, by omega⟩
      simp only [chk_pos hck, moment_eq, within_in]
      by_cases hh : tumbref2_in p.Heat 1 y.Heats = true
      · by_cases hm : tumbref2_Moment p.At = true
        · simp only [hh, hm, Bool.not_true, Bool.false_eq_true, if_false]
          have hHV : HV items p k y := by
            unfold tumbref2_in at hh; unfold tumbref2_Moment tumbref2_in at hm
            simp at hh hm
            exact ⟨hix, hy, hh.1, hh.2, by omega, by omega⟩
          have b1 := hHV.h1; have b2 := hHV.h2
          unfold Good at hgy
          rw [W_in (n := (k : Int) * 61) (by omega) (by omega), W_in (n := (k : Int) * 61 + p.Heat) (by omega) (by omega)]
          have hrest : ∃ e, session_CheckHeld_l1 items l (some 0) ys (dn.length + 1) ((k : Int) * 61 + p.Heat) = some e ∧ tumbref2_HeldFault_l1 items l (tt items 0) (some 0) ys (dn.length + 1) = some e ∧ (e = 0 → ∀ q ∈ p :: ys, ∃ k y, HV items q k y) := by
            obtain ⟨e, g1, g2, g3⟩ := ih (dn ++ [p]) ((k : Int) * 61 + p.Heat) (by rw [h1]; simp) (.inr ⟨dn, p, k, y, rfl, hHV, rfl⟩)
            rw [List.length_append, List.length_singleton] at g1 g2
            refine ⟨e, g1, g2, fun h q hq => ?_⟩
            rcases List.mem_cons.1 hq with rfl | hq
            · exact ⟨k, y, hHV⟩
            · exact g3 h q hq
          rcases h2 with ⟨rfl, rfl⟩ | ⟨d, q, j, z, rfl, hq, rfl⟩
          · simp only [show ¬ ((k : Int) * 61 + p.Heat ≤ -1) by omega, decide_false, Bool.false_eq_true, if_false, List.length_nil, Int.natCast_zero, Int.lt_irrefl, Bool.false_and, Bool.or_self]
            exact hrest
          · have hlen : ((d ++ [q]).length : Int) = (d.length : Int) + 1 := by simp
            have hdl : d.length ≤ 100 := by rw [h1] at hl; simp at hl; omega
            have hw : W (((d ++ [q]).length : Int) - 1) = (d.length : Int) := by rw [hlen, W_in (by omega) (by omega)]; omega
            have hnq : nth l (W (((d ++ [q]).length : Int) - 1)) = q := by
              rw [hw]; unfold nth; rw [h1]; simp
            have hin : inB (W (((d ++ [q]).length : Int) - 1)) l.length = true := by rw [hw, inB_iff, h1]; simp; omega
            have hpos : decide (0 < ((d ++ [q]).length : Int)) = true := by rw [hlen]; simp
            simp only [hpos, if_true, chk_pos hin, hnq, hq.heat, hHV.heat]
            have hgz := hg z (List.mem_of_getElem? hq.get)
            unfold Good at hgz
            have hord := hHV.ord hq (by omega) (by omega)
            have hd : decide (((offN items k + (p.Heat - 1).toNat : Nat) : Int) ≤ ((offN items j + (q.Heat - 1).toNat : Nat) : Int)) = decide ((k : Int) * 61 + p.Heat ≤ (j : Int) * 61 + q.Heat) := by
              rw [decide_eq_decide]; omega
            rw [hd]
            cases hc : decide ((k : Int) * 61 + p.Heat ≤ (j : Int) * 61 + q.Heat) with
            | true => simp only [if_true, Bool.true_or]; exact ⟨7, rfl, rfl, fun h => by cases h⟩
            | false =>
              simp only [Bool.false_eq_true, if_false, Bool.false_or, Bool.true_and]
              cases ha : decide (p.At < q.At) with
              | true => simp only [if_true]; exact ⟨7, rfl, rfl, fun h => by cases h⟩
              | false => simp only [Bool.false_eq_true, if_false]; exact hrest
        · simp only [hh, hm, Bool.not_true, Bool.false_eq_true, if_false, Bool.not_false, if_true]
          exact ⟨1, rfl, rfl, fun h => by cases h⟩
      · simp only [hh, Bool.not_false, if_true]
        exact ⟨1, rfl, rfl, fun h => by cases h⟩
theorem held_eq (items : List GItem) (l : List GHeld) : ∃ e, session_CheckHeld items l = some e ∧ tumbref2_HeldFault items l = some e ∧ (e = 0 → items.length ≤ 100 ∧ (∀ x ∈ items, Good x) ∧ l.length ≤ 100 ∧ ∀ p ∈ l, ∃ k y, HV items p k y) := by
  unfold session_CheckHeld tumbref2_HeldFault
  obtain ⟨e, h1, h2, h3⟩ := check_eq items
  rw [h1, h2]
  simp only [Option.bind_some]
  by_cases he : e = 0
  · subst he
    obtain ⟨hi, hg⟩ := h3 rfl
    simp only [decide_true, Bool.not_true, Bool.false_eq_true, if_false]
    by_cases hl : 100 < (l.length : Int)
    · rw [if_pos (decide_eq_true hl), if_pos (decide_eq_true hl)]; exact ⟨2, rfl, rfl, fun h => by cases h⟩
    · rw [if_neg (by simpa using hl), if_neg (by simpa using hl), slots_eq items 0 hg hi (by omega) (by omega)]
      simp only [Option.bind_some, join_eq]
      obtain ⟨e, g1, g2, g3⟩ := held_loop items hg hi l (by omega) l [] (-1) rfl (.inl ⟨rfl, rfl⟩)
      exact ⟨e, g1, g2, fun h => ⟨hi, hg, by omega, g3 h⟩⟩
  · rw [if_pos (by simpa using he), if_pos (by simpa using he)]
    exact ⟨e, rfl, rfl, fun h => (he h).elim⟩
end Go.Proofs.YtefddponhjhdgaaDoor
