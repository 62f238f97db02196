/- Keys: what the program and the document ask of a key is the same. No program stands here but its twins. -/
import Derived.Test.YtpfommakhgkmeaaGreatDoorPStream
namespace Go.Proofs.YtpfommakhgkmeaaGreatDoor
open Go

theorem indexByte_lt {l : List UInt8} {c : UInt8} : decide (Lib.indexByte l c < 0) = !l.contains c := by
  have key : ∀ l : List UInt8, (Lib.indexByte l c = -1 ∧ l.contains c = false) ∨ (0 ≤ Lib.indexByte l c ∧ l.contains c = true) := by
    intro l
    induction l with
    | nil => exact .inl ⟨rfl, rfl⟩
    | cons b l ih =>
      by_cases hb : b = c
      · subst hb; exact .inr (by simp [Lib.indexByte])
      · have hb' : (b == c) = false := by simpa using hb
        have hc : (c == b) = false := by simpa using fun h => hb h.symm
        rcases ih with ⟨h1, h2⟩ | ⟨h1, h2⟩
        · refine .inl ⟨by simp [Lib.indexByte, hb', h1], ?_⟩
          rw [List.contains_cons, hc, h2]; rfl
        · have h3 : ¬ Lib.indexByte l c = -1 := by omega
          refine .inr ⟨by simp [Lib.indexByte, hb', h3]; omega, ?_⟩
          rw [List.contains_cons, hc, h2]; rfl
  rcases key l with ⟨h1, h2⟩ | ⟨h1, h2⟩
  · rw [h1, h2]; rfl
  · rw [h2]; simp; omega
theorem byte_back (u : UInt8) : ((u.toNat : Int)).toNat.toUInt8 = u := by simp
theorem size_list (s : ByteArray) : s.size = s.data.toList.length := by rw [ByteArray.size, Array.length_toList]
theorem sbyte_get {s : ByteArray} {j : Nat} {u : UInt8} (h : s.data.toList[j]? = some u) : sbyte s (j : Int) = (u.toNat : Int) := by
  unfold sbyte
  rw [Int.toNat_natCast]
  simp [List.getD, h]
theorem only_loop (s some_ : ByteArray) : ∀ (k : Nat) (m : Nat), k + m = s.size + 1 → s.size ≤ 4611686018427387904 →
    tumbref2_only_l1 s some_ (some true) (m + 1) (k : Int) = some ((s.data.toList.drop k).all fun b => some_.data.toList.contains b) := by
  intro k m
  induction m generalizing k with
  | zero =>
    intro h hs
    have h1 : ¬ (k : Int) < (s.size : Int) := by omega
    rw [tumbref2_only_l1]
    rw [if_neg (by simpa using h1), List.drop_of_length_le (by rw [← size_list]; omega)]
    rfl
  | succ m ih =>
    intro h hs
    rw [tumbref2_only_l1]
    by_cases h1 : (k : Int) < (s.size : Int)
    · have hk : k < s.data.toList.length := by rw [← size_list]; omega
      have hget : s.data.toList[k]? = some s.data.toList[k] := List.getElem?_eq_getElem hk
      rw [if_pos (decide_eq_true h1), chk_pos (inB_iff.2 ⟨by omega, h1⟩), List.drop_eq_getElem_cons hk, List.all_cons]
      have hb : decide (strings_IndexByte some_ (sbyte s (k : Int)) < 0) = !some_.data.toList.contains s.data.toList[k] := by
        unfold strings_IndexByte
        rw [sbyte_get hget, byte_back, indexByte_lt]
      rw [hb]
      cases hc : some_.data.toList.contains s.data.toList[k] with
      | false => simp
      | true =>
        simp only [Bool.not_true, Bool.false_eq_true, if_false, Bool.true_and]
        have hw : W ((k : Int) + 1) = ((k + 1 : Nat) : Int) := by rw [W_in (by omega) (by omega)]; omega
        rw [hw]
        exact ih (k + 1) (by omega) hs
    · rw [if_neg (by simpa using h1), List.drop_of_length_le (by rw [← size_list]; omega)]
      rfl
theorem only_eq (s some_ : ByteArray) (hs : s.size ≤ 4611686018427387904) : tumbref2_only s some_ = some (s.data.toList.all fun b => some_.data.toList.contains b) := by
  unfold tumbref2_only
  rw [join_eq]
  have h := only_loop s some_ 0 (s.size + 1) (by omega) hs
  have e : ((s.size : Int) - 0).toNat + 2 = s.size + 1 + 1 := by omega
  rw [e]
  exact h
theorem dropWhile_nil {p : UInt8 → Bool} : ∀ {l : List UInt8}, l.dropWhile p = [] ↔ l.all p = true
  | [] => by simp
  | a :: l => by
    rw [List.dropWhile_cons, List.all_cons]
    cases h : p a with
    | true => simpa [h] using dropWhile_nil (p := p) (l := l)
    | false => simp
theorem trim_nil {l cs : List UInt8} : Lib.trimS l cs = [] ↔ l.all (fun b => cs.contains b) = true := by
  unfold Lib.trimS Lib.trimLeftS Lib.trimRightS
  rw [dropWhile_nil, List.all_reverse]
  constructor
  · intro h
    have h2 : l.reverse.dropWhile (fun x => cs.contains x) = [] := by
      cases hd : l.reverse.dropWhile (fun x => cs.contains x) with
      | nil => rfl
      | cons a r =>
        have h3 := List.head_dropWhile_not (fun x => cs.contains x) (l := l.reverse) (by rw [hd]; simp)
        rw [hd] at h
        simp only [hd, List.head_cons] at h3
        rw [List.all_cons, h3] at h
        cases h
    rw [dropWhile_nil, List.all_reverse] at h2
    exact h2
  · intro h
    have h2 : l.reverse.dropWhile (fun x => cs.contains x) = [] := by rw [dropWhile_nil, List.all_reverse]; exact h
    rw [h2]; rfl
end Go.Proofs.YtpfommakhgkmeaaGreatDoor
