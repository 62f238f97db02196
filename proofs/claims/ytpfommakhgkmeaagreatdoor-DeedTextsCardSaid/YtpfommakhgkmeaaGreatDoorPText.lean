/- Texts that are read line by line, numbers in words, and strings that are changed. Conditions: the strings are not long. No program stands here but its twins. -/
import Derived.Test.YtpfommakhgkmeaaGreatDoorPNumT
import Derived.Test.YtpfommakhgkmeaaGreatDoorPStr
namespace Go.Proofs.YtpfommakhgkmeaaGreatDoor
open Go
theorem cutT (t : ByteArray) (ht : t.size ≤ 4294967280) : ∃ a b ok, strings_Cut t k__0a = some (a, b, ok) ∧ (ok = true → a.size ≤ t.size ∧ b.size + 1 ≤ t.size) := by
  unfold strings_Cut
  rw [chk_pos (decide_eq_true (by omega))]
  have hsz := size_list t
  refine ⟨_, _, _, rfl, ?_⟩
  unfold Lib.cut
  split
  · rename_i h
    intro _
    have hk : k__0a.data.toList.length = 1 := rfl
    have hroom : (Lib.index t.data.toList k__0a.data.toList).toNat + 1 ≤ t.data.toList.length := by
      have := Lib.index_room _ _ h
      rw [hk] at this
      omega
    refine ⟨?_, ?_⟩
    · rw [size_list]; simp; omega
    · rw [size_list, hk]; simp; omega
  · intro h; cases h
section
variable {α R R' : Type}
theorem lines_both (f g : ByteArray → List α → Option (Bool × List α)) (N : Nat) (hN : N ≤ 4294967280) (hfg : ∀ line x, line.size ≤ N → x.length ≤ N → ∃ b x' y', f line x = some (b, x') ∧ g line x = some (b, y') ∧ (b = true → x' = y' ∧ x'.length ≤ x.length + 1))
    (jf jg : List α → Option (Int × Bool × List α)) (F G : Nat → List α → ByteArray → Int → Option (Int × Bool × List α))
    (hF : ∀ m x t i, F (m + 1) x t i = if !decide (t = k_empty) then Option.bind (strings_Cut t k__0a) (fun r1 => Join (fun (x4 : List α) (x5 : Bool) => if x5 then some (i, false, x4) else F m x4 r1.2.1 (W (i + 1))) (fun j2 => if (!r1.2.2) then j2 x true else Option.bind (f r1.1 x) (fun r2 => j2 r2.2 (!r2.1)))) else jf x)
    (hG : ∀ m x t i, G (m + 1) x t i = if !decide (t = k_empty) then Option.bind (strings_Cut t k__0a) (fun r1 => Join (fun (x4 : List α) (x5 : Bool) => if x5 then some (i, false, x4) else G m x4 r1.2.1 (W (i + 1))) (fun j2 => if (!r1.2.2) then j2 x true else Option.bind (g r1.1 x) (fun r2 => j2 r2.2 (!r2.1)))) else jg x) :
    ∀ (k m : Nat) (x : List α) (t : ByteArray) (i : Int), t.size ≤ k → k < m → x.length + k ≤ N →
      ∃ n ok x' y', F m x t i = (if ok then jf x' else some (n, false, x')) ∧ G m x t i = (if ok then jg y' else some (n, false, y')) ∧ (ok = true → x' = y' ∧ x'.length ≤ x.length + k)
  | k, 0, _, _, _, _, h, _ => by omega
  | k, m + 1, x, t, i, h1, h2, h3 => by
    rw [hF, hG]
    by_cases he : t = k_empty
    · rw [if_neg (by simp [he]), if_neg (by simp [he])]
      exact ⟨0, true, x, x, rfl, rfl, fun _ => ⟨rfl, by omega⟩⟩
    · rw [if_pos (by simpa using he), if_pos (by simpa using he)]
      obtain ⟨a, b, ok, e, ho⟩ := cutT t (by omega)
      rw [e]
      simp only [Option.bind_some, join_eq]
      cases ok with
      | false => exact ⟨i, false, x, x, by simp, by simp, fun h => by cases h⟩
      | true =>
        obtain ⟨ha, hb⟩ := ho rfl
        obtain ⟨c, x', y', e1, e2, hc⟩ := hfg a x (by omega) (by omega)
        rw [e1, e2]
        simp only [Bool.not_true, Bool.false_eq_true, if_false, Option.bind_some]
        cases c with
        | false => exact ⟨i, false, x', y', by simp, by simp, fun h => by cases h⟩
        | true =>
          obtain ⟨rfl, hl⟩ := hc rfl
          obtain ⟨n, ok, u, v, q1, q2, q3⟩ := lines_both f g N hN hfg jf jg F G hF hG (k - 1) m x' b (W (i + 1)) (by omega) (by omega) (by omega)
          refine ⟨n, ok, u, v, by simpa using q1, by simpa using q2, fun h => ⟨(q3 h).1, ?_⟩⟩
          have := (q3 h).2
          omega
end
theorem pieces (sep : ByteArray) : ∀ (k : Nat) (t : ByteArray), ∀ y ∈ Lib.splitB sep 0 k t, y.size ≤ t.size
  | 0, t, y, hy => by
    simp only [Lib.splitB, List.mem_singleton] at hy
    rw [hy]; exact Nat.le_refl _
  | k + 1, t, y, hy => by
    unfold Lib.splitB at hy
    split at hy
    · simp only [List.mem_singleton] at hy
      rw [hy]; exact Nat.le_refl _
    · rcases List.mem_cons.1 hy with rfl | hy
      · rw [ByteArray.size_extract]; omega
      · have := pieces sep k _ y hy
        rw [ByteArray.size_extract] at this
        omega
def anyE (w : List ByteArray) : Bool := w.any fun y => decide (y = k_empty)
theorem emptyIn (w : List ByteArray) : slices_Contains_string w k_empty = anyE w := by
  have key : ∀ (l : List ByteArray) (i : Nat), decide (0 ≤ slices_Index_string_l1 k_empty (-1) l i) = anyE l := by
    intro l
    induction l with
    | nil => intro i; simp [slices_Index_string_l1, anyE]
    | cons y l ih =>
      intro i
      rw [slices_Index_string_l1]
      unfold anyE at ih ⊢
      by_cases h : k_empty = y
      · rw [if_pos (decide_eq_true h), decide_eq_true (show 0 ≤ (i : Int) by omega), List.any_cons, decide_eq_true h.symm]; rfl
      · rw [if_neg (by simpa using h), ih (i + 1), List.any_cons, decide_eq_false fun e => h e.symm]; rfl
  unfold slices_Contains_string slices_Index_string
  rw [join_eq]
  exact key w 0
theorem splitLoop (w : List ByteArray) : ∀ (l : List ByteArray) (i : Nat), words_Split_l1 (some (w, true)) l i = if anyE l then some ([], false) else some (w, true)
  | [], _ => by simp [words_Split_l1, anyE]
  | y :: l, i => by
    have ih := splitLoop w l (i + 1)
    rw [words_Split_l1]
    unfold anyE at ih ⊢
    by_cases h : y = k_empty
    · rw [if_pos (decide_eq_true h), List.any_cons, decide_eq_true h]; rfl
    · rw [if_neg (by simpa using h), ih, List.any_cons, decide_eq_false h]; rfl
def wordsT (line : ByteArray) : List ByteArray := Lib.splitB k__20 0 (Lib.countB line k__20) line
theorem split_is (line : ByteArray) (h : line.size ≤ 4294967280) : strings_Split line k__20 = some (wordsT line) := by
  unfold strings_Split
  rw [chk_pos (by simp only [Bool.and_eq_true, decide_eq_true_eq]; exact ⟨by omega, by decide⟩)]
  rfl
theorem wordsT_size (line : ByteArray) : ∀ y ∈ wordsT line, y.size ≤ line.size := pieces _ _ line
theorem wSplit_is (line : ByteArray) (h : line.size ≤ 4294967280) : words_Split line = if anyE (wordsT line) then some ([], false) else some (wordsT line, true) := by
  unfold words_Split
  rw [split_is line h]
  simp only [Option.bind_some, join_eq]
  exact splitLoop _ _ 0
theorem itoa_is (n : Int) (h0 : -1000000000000000000 ≤ n) (h1 : n ≤ 1000000000000000000) : ∃ s, strconv_Itoa n = some s ∧ s.size ≤ 21 ∧ s.data.toList = Lib.itoa n := by
  unfold strconv_Itoa
  rw [chk_pos (by simp only [Bool.and_eq_true, decide_eq_true_eq]; omega)]
  refine ⟨_, rfl, ?_, rfl⟩
  have := Lib.itoa_length_le n (by omega) (by omega)
  rw [size_list]
  exact this
theorem enc_size (r : Int) : (Utf8.encode r).size ≤ 4 := by
  unfold Utf8.encode
  generalize (if Utf8.valid r = true then r.toNat else Utf8.runeError) = c
  dsimp only
  by_cases h1 : c < 0x80
  · rw [if_pos h1]; exact (by decide : (1 : Nat) ≤ 4)
  · rw [if_neg h1]
    by_cases h2 : c < 0x800
    · rw [if_pos h2]; exact (by decide : (2 : Nat) ≤ 4)
    · rw [if_neg h2]
      by_cases h3 : c < 0x10000
      · rw [if_pos h3]; exact (by decide : (3 : Nat) ≤ 4)
      · rw [if_neg h3]; exact (by decide : (4 : Nat) ≤ 4)
theorem scut_size {s : ByteArray} {l h : Int} : (scut s l h).size ≤ s.size := by
  unfold scut
  rw [ByteArray.size_extract]
  omega
section
variable {L : List Int} (hL : LongL L) {a : Int} (h0 : 0 ≤ a) (h1 : a ≤ 1000000000)
include hL h0 h1
theorem changed_dr (t k : ByteArray) (ht : t.size ≤ 10000000) (hk : k.size ≤ 1000) : Dr a 3 (fun u => u.size ≤ t.size + k.size + 4) (Stream_Changed L a t k) := by
  unfold Stream_Changed
  by_cases hc : ((decide (t = k_empty)) || (decide (k = k_empty))) = true
  · rw [if_pos hc]
    exact ⟨k, a, rfl, by omega, by omega, by omega⟩
  · rw [if_neg hc]
    simp only [Bool.not_eq_true, Bool.or_eq_false_iff, decide_eq_false_iff_not] at hc
    have hpos : ∀ {s : ByteArray}, ¬ s = k_empty → 0 < s.size := by
      intro s hs
      rcases Nat.eq_zero_or_pos s.size with h | h
      · refine absurd (bytes_ext ?_) hs
        rw [size_list] at h
        rw [List.length_eq_zero_iff.1 h]
        rfl
      · exact h
    have p1 := hpos hc.1
    have p2 := hpos hc.2
    obtain ⟨v1, b1, e1, g1, g2, g3, g4⟩ := next_dr hL (a := a) (by omega) (by omega) (t.size : Int) (by omega)
    obtain ⟨v2, b2, e2, g5, g6, g7, g8⟩ := next_dr hL (a := b1) (by omega) (by omega) (k.size : Int) (by omega)
    obtain ⟨v3, b3, e3, g9, g10, _⟩ := next_dr hL (a := b2) (by omega) (by omega) 3 (by omega)
    rw [e1]; simp only [Option.bind_some]
    rw [e2]; simp only [Option.bind_some]
    rw [chk_pos (inB_iff.2 (by omega)), e3]; simp only [Option.bind_some]
    have s1 := scut_size (s := t) (l := 0) (h := v1)
    have w1 : W (v1 + 1) = v1 + 1 := W_in (by omega) (by omega)
    have s2 := scut_size (s := t) (l := v1 + 1) (h := t.size)
    have s3 := scut_size (s := t) (l := v1) (h := t.size)
    have se := enc_size (IntKind.wrap .i32 (sbyte k v2))
    have t1 : (scut t 0 v1).size + (scut t (v1 + 1) t.size).size ≤ t.size := by
      unfold scut; rw [ByteArray.size_extract, ByteArray.size_extract]; omega
    have t2 : (scut t 0 v1).size + (scut t v1 t.size).size ≤ t.size := by
      unfold scut; rw [ByteArray.size_extract, ByteArray.size_extract]; omega
    rw [w1]
    by_cases hr0 : v3 = 0
    · rw [if_pos (decide_eq_true hr0), chk_pos (cutB_iff.2 (by omega)), chk_pos (decide_eq_true (by omega)), chk_pos (cutB_iff.2 (by omega)), chk_pos (decide_eq_true (by rw [ByteArray.size_append]; omega))]
      exact ⟨_, b3, rfl, by omega, by omega, by show (_ : ByteArray).size ≤ _; rw [ByteArray.size_append, ByteArray.size_append]; omega⟩
    · rw [if_neg (by simpa using hr0)]
      by_cases hr1 : v3 = 1
      · rw [if_pos (decide_eq_true hr1), chk_pos (cutB_iff.2 (by omega)), chk_pos (decide_eq_true (by omega)), chk_pos (cutB_iff.2 (by omega)), chk_pos (decide_eq_true (by rw [ByteArray.size_append]; omega))]
        exact ⟨_, b3, rfl, by omega, by omega, by show (_ : ByteArray).size ≤ _; rw [ByteArray.size_append, ByteArray.size_append]; omega⟩
      · rw [if_neg (by simpa using hr1), chk_pos (cutB_iff.2 (by omega)), chk_pos (cutB_iff.2 (by omega)), chk_pos (decide_eq_true (by omega))]
        exact ⟨_, b3, rfl, by omega, by omega, by show (_ : ByteArray).size ≤ _; rw [ByteArray.size_append]; omega⟩
end
end Go.Proofs.YtpfommakhgkmeaaGreatDoor
