/- The program's check of heats that were held is the reference's. No program stands here but its twins. -/
import Derived.Test.YtolmdpjkmjfjdaaGreatDoorPBegin
namespace Go.Proofs.YtolmdpjkmjfjdaaGreatDoor
open Go
/-- Where an item stands. -/
def ixN : List GItem → ByteArray → Option Nat
  | [], _ => none
  | y :: ys, key => if y.Key = key then some 0 else (ixN ys key).map (· + 1)
def ixI (l : List GItem) (key : ByteArray) : Int := match ixN l key with
  | some k => k
  | none => -1
theorem ixLoopP (key : ByteArray) : ∀ (l : List GItem) (i : Nat), slices_IndexFunc_Item_session_itemAt_c1_l1 key (-1) l i = match ixN l key with | some k => ((i + k : Nat) : Int) | none => -1
  | [], i => rfl
  | y :: ys, i => by
    rw [slices_IndexFunc_Item_session_itemAt_c1_l1, ixN]
    unfold session_itemAt_c1
    by_cases h : y.Key = key
    · simp [h]
    · rw [if_neg (by simpa using h), if_neg h, ixLoopP key ys (i + 1)]
      cases ixN ys key with
      | none => rfl
      | some k => simp only [Option.map_some]; congr 1; omega
theorem itemAtP (l : List GItem) (key : ByteArray) : session_itemAt l key = ixI l key := by
  unfold session_itemAt slices_IndexFunc_Item_session_itemAt_c1 ixI
  rw [join_eq, ixLoopP]; simp
theorem ixN_lt : ∀ {l : List GItem} {key : ByteArray} {k : Nat}, ixN l key = some k → k < l.length
  | [], _, _, h => by cases h
  | y :: ys, key, k, h => by
    rw [ixN] at h
    split at h
    · cases h; simp
    · cases hq : ixN ys key with
      | none => rw [hq] at h; cases h
      | some q => rw [hq] at h; cases h; have := ixN_lt hq; simp; omega
/-- How many heats come before item k. -/
def offN : List GItem → Nat → Nat
  | _, 0 => 0
  | [], _ + 1 => 0
  | y :: ys, k + 1 => y.Heats.toNat + offN ys k
theorem offN_lt : ∀ {l : List GItem} {i j : Nat} {y : GItem}, l[i]? = some y → i < j → j ≤ l.length → offN l i + y.Heats.toNat ≤ offN l j
  | [], i, j, y, h, _, _ => by cases h
  | x :: xs, 0, j + 1, y, h, _, _ => by cases h; simp [offN]
  | x :: xs, i + 1, j + 1, y, h, hij, hj => by
    have := offN_lt (l := xs) (i := i) (j := j) (y := y) (by simpa using h) (by omega) (by simpa using hj)
    simp only [offN]; omega
/-- The first place of a heat. -/
def atN (key : ByteArray) (h : Int) : List GSlot → Option Nat
  | [] => none
  | s :: l => if s.Item = key ∧ s.Heat = h then some 0 else (atN key h l).map (· + 1)
theorem atN_app (key : ByteArray) (h : Int) : ∀ (a b : List GSlot), atN key h (a ++ b) = match atN key h a with | some k => some k | none => (atN key h b).map (· + a.length)
  | [], b => by simp [atN]
  | s :: a, b => by
    simp only [List.cons_append, atN, atN_app key h a b]
    split
    · rfl
    · cases atN key h a with
      | some k => rfl
      | none => simp only [Option.map_none]; cases atN key h b with
        | none => rfl
        | some q => simp; omega
theorem hs_at (y : GItem) (key : ByteArray) (h : Int) : ∀ (k : Nat) (h0 t : Int), atN key h (hs y k h0 t) = if y.Key = key ∧ h0 ≤ h ∧ h < h0 + k then some (h - h0).toNat else none
  | 0, h0, t => by simp only [hs, atN]; rw [if_neg]; simp
  | k + 1, h0, t => by
    simp only [hs, atN, hs_at y key h k (h0 + 1)]
    by_cases hk : y.Key = key
    · by_cases hh : h0 = h
      · subst hh; rw [if_pos ⟨hk, rfl⟩, if_pos ⟨hk, by omega, by push_cast; omega⟩]; simp
      · rw [if_neg (fun g => hh g.2)]
        by_cases hr : h0 + 1 ≤ h ∧ h < h0 + 1 + (k : Int)
        · rw [if_pos ⟨hk, hr⟩, if_pos ⟨hk, by omega, by push_cast; omega⟩]; simp; omega
        · rw [if_neg (fun g => hr g.2), if_neg (fun g => hr ⟨by omega, by have := g.2.2; push_cast at this; omega⟩)]; rfl
    · rw [if_neg (fun g => hk g.1), if_neg (fun g => hk g.1), if_neg (fun g => hk g.1)]; rfl
theorem tt_at : ∀ (l : List GItem) (t : Int) (key : ByteArray) (h : Int) (k : Nat) (y : GItem), ixN l key = some k → l[k]? = some y → 1 ≤ h → h ≤ y.Heats → atN key h (tt l t) = some (offN l k + (h - 1).toNat)
  | [], _, _, _, _, _, h0, _, _, _ => by cases h0
  | x :: xs, t, key, h, k, y, h0, h1, h2, h3 => by
    rw [tt, atN_app, hs_at]
    rw [ixN] at h0
    by_cases hk : x.Key = key
    · rw [if_pos hk] at h0
      cases h0
      cases h1
      rw [if_pos ⟨hk, h2, by omega⟩]; simp [offN]
    · rw [if_neg hk] at h0
      cases hq : ixN xs key with
      | none => rw [hq] at h0; cases h0
      | some q =>
        rw [hq] at h0
        cases h0
        rw [if_neg (fun g => hk g.1)]
        simp only
        rw [tt_at xs _ key h q y hq (by simpa using h1) h2 h3, hs_len]
        simp only [Option.map_some, offN]; congr 1; omega
end Go.Proofs.YtolmdpjkmjfjdaaGreatDoor
