/- The plain law of DeedTexts. No program stands here but its twins. -/
import Derived.Test.YtpfommakhgkmeaaGreatDoorPRightDeeds
import Derived.Test.YtpfommakhgkmeaaGreatDoorPDeedText
import Derived.Test.YtpfommakhgkmeaaGreatDoorPMet
namespace Go.Proofs.YtpfommakhgkmeaaGreatDoor
open Go
theorem num1D (a : Int) (s1 : ByteArray) (h1 : strconv_Itoa a = some s1) (w1 : Wd s1) : tumbref2_numbers [a] = some s1 := by
  obtain ⟨s, e1, e2, _⟩ := strJoin_is [s1] (fm w1 (fun _ hz => by cases hz)) (by simp)
  unfold tumbref2_numbers
  simp only [joinR, tumbref2_numbers_l1, h1, Option.bind_some, List.nil_append]
  rw [chk_pos (by rfl), e1]
  simp only [Option.bind_some, Option.some.injEq]
  apply bytes_ext
  rw [e2]
  simp [Lib.join_one]
theorem num2D (a b : Int) (s1 s2 : ByteArray) (h1 : strconv_Itoa a = some s1) (h2 : strconv_Itoa b = some s2) (w1 : Wd s1) (w2 : Wd s2) : tumbref2_numbers [a, b] = some (s1 ++ k__20 ++ s2) := by
  obtain ⟨s, e1, e2, _⟩ := strJoin_is [s1, s2] (fm w1 (fm w2 (fun _ hz => by cases hz))) (by simp)
  unfold tumbref2_numbers
  simp only [joinR, tumbref2_numbers_l1, h1, h2, Option.bind_some, List.nil_append, List.cons_append]
  rw [chk_pos (by rfl), chk_pos (by rfl), e1]
  simp only [Option.bind_some, Option.some.injEq]
  apply bytes_ext
  rw [e2]
  simp [Lib.join, List.intercalate, List.intersperse, ByteArray.data_append, k__20]
theorem word20 : k_enter_20 = k_enter ++ k__20 ∧ k_scratch_20 = k_scratch ++ k__20 ∧ k_swum_20 = k_swum ++ k__20 ∧ k_undo_20 = k_undo ++ k__20 := by decide +kernel
theorem small {m n : Nat} (h : m ≤ 200000) (k : n ≤ 200000) : decide (m + n < 1073741824) = true := decide_eq_true (by omega)
structure LineB (d : GDeed) (s : ByteArray) : Prop where
  size : s.size ≤ 410
  txt : ∀ (j : ByteArray → Bool → Option (ByteArray × Int)) (ys : List GDeed) (i : Nat) (x : ByteArray) (b : Bool), x.size ≤ 100000 → meet_Text_l1 j (d :: ys) i x b = meet_Text_l1 j ys (i + 1) (x ++ (s ++ k__0a)) true
  ref : ∀ (j : ByteArray → Option ByteArray) (ys : List GDeed) (i : Nat) (x : ByteArray), x.size ≤ 100000 → tumbref2_DeedLines_l1 j (d :: ys) i x = tumbref2_DeedLines_l1 j ys (i + 1) (x ++ (s ++ k__0a))
theorem lineB_ex (d : GDeed) (h : DG d) : ∃ s, LineB d s := by
  obtain ⟨sn, e1, w1, _⟩ := itoa_wd d.No (by have := h.no; omega) (by have := h.no; omega)
  obtain ⟨sa, e2, w2, _⟩ := itoa_wd d.At (by have := h.at_; omega) (by have := h.at_; omega)
  have r1 := num2D d.No d.At sn sa e1 e2 w1 w2
  have ws := wd_key h.site
  have k1 : k__20.size = 1 := rfl
  have k2 : k__0a.size = 1 := rfl
  obtain ⟨m1, m2, m3, m4⟩ := kind_nth
  obtain ⟨v1, v2, v3, v4⟩ := wd_kinds
  obtain ⟨t1, t2, t3, t4⟩ := word20
  have sz : ∀ (x s : ByteArray), s.size ≤ 410 → x.size ≤ 100000 → decide (s.size + k__0a.size < 1073741824) = true ∧ decide (x.size + (s ++ k__0a).size ≤ 140737488355328) = true := fun x s h1 h2 => by
    rw [ByteArray.size_append]
    exact ⟨decide_eq_true (by omega), decide_eq_true (by omega)⟩
  have b1 := ws.short; have b2 := w1.short; have b3 := w2.short
  rcases h.kind with hk | hk | hk | hk
  · obtain ⟨q1, q2⟩ := h.who (by omega)
    obtain ⟨_, u2⟩ := undash_dash (h.club hk)
    obtain ⟨st, e3, w3, _⟩ := itoa_wd d.Time (h.time (.inl hk)).1 (by have := (h.time (.inl hk)).2; omega)
    obtain ⟨s, hs, hs1, hs2, _⟩ := strJoin_is [d.Site, sn, sa, k_enter, d.Who, words_Dash d.Club, d.Race, st] (fm ws (fm w1 (fm w2 (fm v1 (fm (wd_key q1) (fm u2 (fm (wd_key q2) (fm w3 (fun _ hz => by cases hz))))))))) (by simp)
    have b4 := (wd_key q1).short; have b5 := u2.short; have b6 := (wd_key q2).short; have b7 := w3.short; have b8 : k_enter_20.size = 6 := rfl
    refine ⟨s, hs2, ?_, ?_⟩
    · intro j ys i x b h2
      obtain ⟨z1, z2⟩ := sz x s hs2 h2
      rw [meet_Text_l1]
      simp only [hk, e1, e2, e3, joinR, Option.bind_some, m1, decide_true, if_true]
      rw [chk_pos (by decide), chk_pos (by rfl)]
      simp only [List.cons_append, List.nil_append, hs, Option.bind_some]
      rw [chk_pos z1, chk_pos z2]
    · intro j ys i x h2
      rw [tumbref2_DeedLines_l1, r1]
      simp only [Option.bind_some, joinR, hk, decide_true, if_true, num1D d.Time st e3 w3, show tumbref2_dash d.Club = words_Dash d.Club from rfl]
      rw [chk_pos (by apply small <;> (try simp only [ByteArray.size_append]) <;> omega), chk_pos (by apply small <;> (try simp only [ByteArray.size_append]) <;> omega), chk_pos (by apply small <;> (try simp only [ByteArray.size_append]) <;> omega), chk_pos (by apply small <;> (try simp only [ByteArray.size_append]) <;> omega),
        chk_pos (by apply small <;> (try simp only [ByteArray.size_append]) <;> omega), chk_pos (by apply small <;> (try simp only [ByteArray.size_append]) <;> omega), chk_pos (by apply small <;> (try simp only [ByteArray.size_append]) <;> omega), chk_pos (by apply small <;> (try simp only [ByteArray.size_append]) <;> omega), chk_pos (by apply small <;> (try simp only [ByteArray.size_append]) <;> omega), chk_pos (by apply small <;> (try simp only [ByteArray.size_append]) <;> omega),
        chk_pos (by apply small <;> (try simp only [ByteArray.size_append]) <;> omega), chk_pos (by apply small <;> (try simp only [ByteArray.size_append]) <;> omega), chk_pos (by apply small <;> (try simp only [ByteArray.size_append]) <;> omega)]
      congr 1
      apply bytes_ext
      rw [t1]
      simp [Lib.join, List.intercalate, List.intersperse, ByteArray.data_append, k__20, hs1]
  · obtain ⟨q1, q2⟩ := h.who (by omega)
    obtain ⟨s, hs, hs1, hs2, _⟩ := strJoin_is [d.Site, sn, sa, k_scratch, d.Who, d.Race] (fm ws (fm w1 (fm w2 (fm v2 (fm (wd_key q1) (fm (wd_key q2) (fun _ hz => by cases hz))))))) (by simp)
    have b4 := (wd_key q1).short; have b6 := (wd_key q2).short; have b8 : k_scratch_20.size = 8 := rfl
    refine ⟨s, hs2, ?_, ?_⟩
    · intro j ys i x b h2
      obtain ⟨z1, z2⟩ := sz x s hs2 h2
      rw [meet_Text_l1]
      simp only [hk, e1, e2, joinR, Option.bind_some, m2, decide_true, if_true, show decide ((2 : Int) = 1) = false from rfl, Bool.false_eq_true, if_false]
      rw [chk_pos (by decide), chk_pos (by rfl)]
      simp only [List.cons_append, List.nil_append, hs, Option.bind_some]
      rw [chk_pos z1, chk_pos z2]
    · intro j ys i x h2
      rw [tumbref2_DeedLines_l1, r1]
      simp only [Option.bind_some, joinR, hk, decide_true, if_true, show decide ((2 : Int) = 1) = false from rfl, Bool.false_eq_true, if_false]
      rw [chk_pos (by apply small <;> (try simp only [ByteArray.size_append]) <;> omega), chk_pos (by apply small <;> (try simp only [ByteArray.size_append]) <;> omega), chk_pos (by apply small <;> (try simp only [ByteArray.size_append]) <;> omega), chk_pos (by apply small <;> (try simp only [ByteArray.size_append]) <;> omega),
        chk_pos (by apply small <;> (try simp only [ByteArray.size_append]) <;> omega), chk_pos (by apply small <;> (try simp only [ByteArray.size_append]) <;> omega), chk_pos (by apply small <;> (try simp only [ByteArray.size_append]) <;> omega), chk_pos (by apply small <;> (try simp only [ByteArray.size_append]) <;> omega), chk_pos (by apply small <;> (try simp only [ByteArray.size_append]) <;> omega)]
      congr 1
      apply bytes_ext
      rw [t2]
      simp [Lib.join, List.intercalate, List.intersperse, ByteArray.data_append, k__20, hs1]
  · obtain ⟨q1, q2⟩ := h.who (by omega)
    obtain ⟨st, e3, w3, _⟩ := itoa_wd d.Time (h.time (.inr hk)).1 (by have := (h.time (.inr hk)).2; omega)
    obtain ⟨sf, e4, w4, _⟩ := itoa_wd d.Fault (h.fault hk).1 (by have := (h.fault hk).2; omega)
    obtain ⟨s, hs, hs1, hs2, _⟩ := strJoin_is [d.Site, sn, sa, k_swum, d.Who, d.Race, st, sf] (fm ws (fm w1 (fm w2 (fm v3 (fm (wd_key q1) (fm (wd_key q2) (fm w3 (fm w4 (fun _ hz => by cases hz))))))))) (by simp)
    have b4 := (wd_key q1).short; have b6 := (wd_key q2).short; have b7 := w3.short; have b9 := w4.short; have b8 : k_swum_20.size = 5 := rfl
    refine ⟨s, hs2, ?_, ?_⟩
    · intro j ys i x b h2
      obtain ⟨z1, z2⟩ := sz x s hs2 h2
      rw [meet_Text_l1]
      simp only [hk, e1, e2, e3, e4, joinR, Option.bind_some, m3, decide_true, if_true, show decide ((3 : Int) = 1) = false from rfl, show decide ((3 : Int) = 2) = false from rfl, Bool.false_eq_true, if_false]
      rw [chk_pos (by decide), chk_pos (by rfl)]
      simp only [List.cons_append, List.nil_append, hs, Option.bind_some]
      rw [chk_pos z1, chk_pos z2]
    · intro j ys i x h2
      rw [tumbref2_DeedLines_l1, r1]
      simp only [Option.bind_some, joinR, hk, decide_true, if_true, num2D d.Time d.Fault st sf e3 e4 w3 w4, show decide ((3 : Int) = 1) = false from rfl, show decide ((3 : Int) = 2) = false from rfl, Bool.false_eq_true, if_false]
      rw [chk_pos (by apply small <;> (try simp only [ByteArray.size_append]) <;> omega), chk_pos (by apply small <;> (try simp only [ByteArray.size_append]) <;> omega), chk_pos (by apply small <;> (try simp only [ByteArray.size_append]) <;> omega), chk_pos (by apply small <;> (try simp only [ByteArray.size_append]) <;> omega),
        chk_pos (by apply small <;> (try simp only [ByteArray.size_append]) <;> omega), chk_pos (by apply small <;> (try simp only [ByteArray.size_append]) <;> omega), chk_pos (by apply small <;> (try simp only [ByteArray.size_append]) <;> omega), chk_pos (by apply small <;> (try simp only [ByteArray.size_append]) <;> omega), chk_pos (by apply small <;> (try simp only [ByteArray.size_append]) <;> omega), chk_pos (by apply small <;> (try simp only [ByteArray.size_append]) <;> omega),
        chk_pos (by apply small <;> (try simp only [ByteArray.size_append]) <;> omega)]
      congr 1
      apply bytes_ext
      rw [t3]
      simp [Lib.join, List.intercalate, List.intersperse, ByteArray.data_append, k__20, hs1]
  · obtain ⟨q1, q2, q3⟩ := h.of_ hk
    obtain ⟨st, e3, w3, _⟩ := itoa_wd d.Other (by omega) (by omega)
    obtain ⟨s, hs, hs1, hs2, _⟩ := strJoin_is [d.Site, sn, sa, k_undo, d.Of, st] (fm ws (fm w1 (fm w2 (fm v4 (fm (wd_key q1) (fm w3 (fun _ hz => by cases hz))))))) (by simp)
    have b4 := (wd_key q1).short; have b7 := w3.short; have b8 : k_undo_20.size = 5 := rfl
    refine ⟨s, hs2, ?_, ?_⟩
    · intro j ys i x b h2
      obtain ⟨z1, z2⟩ := sz x s hs2 h2
      rw [meet_Text_l1]
      simp only [hk, e1, e2, e3, joinR, Option.bind_some, m4, decide_true, if_true, show decide ((4 : Int) = 1) = false from rfl, show decide ((4 : Int) = 2) = false from rfl, show decide ((4 : Int) = 3) = false from rfl, Bool.false_eq_true, if_false]
      rw [chk_pos (by decide), chk_pos (by rfl)]
      simp only [List.cons_append, List.nil_append, hs, Option.bind_some]
      rw [chk_pos z1, chk_pos z2]
    · intro j ys i x h2
      rw [tumbref2_DeedLines_l1, r1]
      simp only [Option.bind_some, joinR, hk, num1D d.Other st e3 w3, show decide ((4 : Int) = 1) = false from rfl, show decide ((4 : Int) = 2) = false from rfl, show decide ((4 : Int) = 3) = false from rfl, Bool.false_eq_true, if_false]
      rw [chk_pos (by apply small <;> (try simp only [ByteArray.size_append]) <;> omega), chk_pos (by apply small <;> (try simp only [ByteArray.size_append]) <;> omega), chk_pos (by apply small <;> (try simp only [ByteArray.size_append]) <;> omega), chk_pos (by apply small <;> (try simp only [ByteArray.size_append]) <;> omega),
        chk_pos (by apply small <;> (try simp only [ByteArray.size_append]) <;> omega), chk_pos (by apply small <;> (try simp only [ByteArray.size_append]) <;> omega), chk_pos (by apply small <;> (try simp only [ByteArray.size_append]) <;> omega), chk_pos (by apply small <;> (try simp only [ByteArray.size_append]) <;> omega), chk_pos (by apply small <;> (try simp only [ByteArray.size_append]) <;> omega)]
      congr 1
      apply bytes_ext
      rw [t4]
      simp [Lib.join, List.intercalate, List.intersperse, ByteArray.data_append, k__20, hs1]
theorem textsB_l (j : ByteArray → Bool → Option (ByteArray × Int)) (jr : ByteArray → Option ByteArray) : ∀ (ys : List GDeed) (i k : Nat) (x : ByteArray) (b : Bool), (∀ d ∈ ys, DG d) → x.size + 411 * ys.length ≤ 90000 →
    ∃ t b', meet_Text_l1 j ys i x b = j t b' ∧ tumbref2_DeedLines_l1 jr ys k x = jr t ∧ t.size ≤ x.size + 411 * ys.length
  | [], i, k, x, b, _, _ => ⟨x, b, rfl, rfl, by simp⟩
  | d :: ys, i, k, x, b, hd, hx => by
    obtain ⟨s, hs⟩ := lineB_ex d (hd d List.mem_cons_self)
    have h1 := hs.size
    have hk : k__0a.size = 1 := rfl
    simp only [List.length_cons] at hx
    obtain ⟨t, b', i1, i2, i3⟩ := textsB_l j jr ys (i + 1) (k + 1) (x ++ (s ++ k__0a)) true (fun z hz => hd z (List.mem_cons_of_mem _ hz)) (by rw [ByteArray.size_append, ByteArray.size_append]; omega)
    rw [ByteArray.size_append, ByteArray.size_append] at i3
    exact ⟨t, b', by rw [hs.txt j ys i x b (by omega), i1], by rw [hs.ref jr ys k x (by omega), i2], by simp only [List.length_cons]; omega⟩
theorem textsB {l : List GDeed} (h : DsG l) (hl : l.length ≤ 200) : ∃ t, meet_Text l = some (t, 0) ∧ tumbref2_DeedLines l = some t ∧ t.size ≤ 411 * l.length := by
  obtain ⟨t, b', i1, i2, i3⟩ := textsB_l (fun x1 _ => if decide (200000 < (x1.size : Int)) then some (k_empty, 2) else some (x1, 0)) (fun x1 => some x1) l 0 0 k_empty false h.each (by have : k_empty.size = 0 := rfl; omega)
  have h0 : k_empty.size = 0 := rfl
  refine ⟨t, ?_, ?_, by omega⟩
  · unfold meet_Text
    rw [h.chk]
    simp only [Option.bind_some, joinR, decide_true, Bool.not_true, Bool.false_eq_true, if_false]
    have he : ByteArray.empty = k_empty := rfl
    rw [he, i1, if_neg (by simp only [decide_eq_true_eq]; omega)]
  · unfold tumbref2_DeedLines
    rw [joinR]
    exact i2
theorem idxK (v : ByteArray) : slices_Index_string meet_kinds v = if v = k_enter then 0 else if v = k_scratch then 1 else if v = k_swum then 2 else if v = k_undo then 3 else -1 := by
  unfold slices_Index_string meet_kinds
  simp only [joinR, slices_Index_string_l1, decide_eq_true_eq]
  rfl
theorem lenK (v : ByteArray) : mgetD (mput (mput (mput (mput ([] : List (ByteArray × Int)) k_enter 8) k_scratch 6) k_swum 8) k_undo 6) v 0 = if v = k_enter then 8 else if v = k_scratch then 6 else if v = k_swum then 8 else if v = k_undo then 6 else 0 := by
  have e : mput (mput (mput (mput ([] : List (ByteArray × Int)) k_enter 8) k_scratch 6) k_swum 8) k_undo 6 = [(k_enter, 8), (k_scratch, 6), (k_swum, 8), (k_undo, 6)] := by decide +kernel
  rw [e]
  unfold mgetD mget
  simp only [mfind]
  split
  · rfl
  · split
    · rfl
    · split
      · rfl
      · split <;> rfl
theorem numIn1 (a : ByteArray) (n : Int) (ok : Bool) (h : tumbref2_Number a 15 = some (n, ok)) : tumbref2_numbersIn [a] 15 = some ([n], ok) := by
  unfold tumbref2_numbersIn
  simp only [joinR, tumbref2_numbersIn_l1, h, Option.bind_some]
  rw [chk_pos (by rfl)]
  rfl
theorem numIn2 (a b : ByteArray) (m n : Int) (o1 o2 : Bool) (h1 : tumbref2_Number a 15 = some (m, o1)) (h2 : tumbref2_Number b 15 = some (n, o2)) : tumbref2_numbersIn [a, b] 15 = some ([m, n], o1 && o2) := by
  unfold tumbref2_numbersIn
  simp only [joinR, tumbref2_numbersIn_l1, h1, h2, Option.bind_some]
  rw [chk_pos (by rfl), chk_pos (by rfl)]
  rfl
theorem numsW (a b : ByteArray) (m n : Int) (o1 o2 : Bool) (h1 : words_Number a 15 = some (m, o1)) (h2 : words_Number b 15 = some (n, o2)) : words_Numbers [a, b] 15 = if o1 && o2 then some ([m, n], true) else some ([], false) := by
  unfold words_Numbers
  simp only [joinR, words_Numbers_l1, h1, h2, Option.bind_some]
  cases o1 with
  | false => rfl
  | true =>
    rw [if_neg (by simp), chk_pos (by rfl)]
    cases o2 with
    | false => rfl
    | true => rw [if_neg (by simp), chk_pos (by rfl)]; rfl
theorem six {α : Type} {l : List α} (h : l.length = 6) : ∃ a0 a1 a2 a3 a4 a5, l = [a0, a1, a2, a3, a4, a5] := by
  match l, h with
  | [a0, a1, a2, a3, a4, a5], _ => exact ⟨a0, a1, a2, a3, a4, a5, rfl⟩
theorem eight {α : Type} {l : List α} (h : l.length = 8) : ∃ a0 a1 a2 a3 a4 a5 a6 a7, l = [a0, a1, a2, a3, a4, a5, a6, a7] := by
  match l, h with
  | [a0, a1, a2, a3, a4, a5, a6, a7], _ => exact ⟨a0, a1, a2, a3, a4, a5, a6, a7, rfl⟩
theorem wkD : W (0 + 1) = 1 ∧ W (1 + 1) = 2 ∧ W (2 + 1) = 3 ∧ W (3 + 1) = 4 ∧ W (-1 + 1) = 0 := by decide
theorem distK : k_scratch ≠ k_enter ∧ k_swum ≠ k_enter ∧ k_swum ≠ k_scratch ∧ k_undo ≠ k_enter ∧ k_undo ≠ k_scratch ∧ k_undo ≠ k_swum := by decide +kernel
def Both (x : List GDeed) (o1 o2 : Option (Bool × List GDeed)) : Prop := ∃ b x' y', o1 = some (b, x') ∧ o2 = some (b, y') ∧ (b = true → x' = y' ∧ x'.length ≤ x.length + 1)
theorem both_no {x x1 x2 : List GDeed} : Both x (some (false, x1)) (some (false, x2)) := ⟨false, x1, x2, rfl, rfl, fun h => by cases h⟩
theorem both_same {x : List GDeed} {b : Bool} {d d' : GDeed} (h : b = true → d = d') : Both x (some (b, x ++ [d])) (some (b, x ++ [d'])) := ⟨b, _, _, rfl, rfl, fun e => ⟨by rw [h e], by simp⟩⟩
theorem m_no {line : ByteArray} {w : List ByteArray} {x : List GDeed} (hw : words_Split line = some (w, true)) (hl : 4 ≤ w.length) (hn : words_Numbers (cut w 1 3) 15 = some ([], false)) : meet_Read_c1 line x = some (false, x) := by
  unfold meet_Read_c1
  rw [hw]
  simp only [Option.bind_some]
  rw [if_neg (by simp; omega), chk_pos (cutB_iff.2 (by omega)), hn]
  rfl
theorem m_yes {line : ByteArray} {w : List ByteArray} {x : List GDeed} {m n : Int} {r : Bool × ByteArray × ByteArray × ByteArray × Int × Int × ByteArray × Int} (hw : words_Split line = some (w, true)) (hl : 4 ≤ w.length) (hn : words_Numbers (cut w 1 3) 15 = some ([m, n], true)) (hx : room x.length = true)
    (hr : meet_readRest (nth w 0) m n (W ((slices_Index_string meet_kinds (nth w 3)) + 1)) k_empty k_empty k_empty 0 0 k_empty 0 (cut w 4 (w.length : Int)) = some r) :
    meet_Read_c1 line x = some (r.1, x ++ [GDeed.mk (nth w 0) m n (W ((slices_Index_string meet_kinds (nth w 3)) + 1)) r.2.1 r.2.2.1 r.2.2.2.1 r.2.2.2.2.1 r.2.2.2.2.2.1 r.2.2.2.2.2.2.1 r.2.2.2.2.2.2.2]) := by
  have hr' : meet_readRest (nth w 0) (nth [m, n] 0) (nth [m, n] 1) (W ((slices_Index_string meet_kinds (nth w 3)) + 1)) k_empty k_empty k_empty 0 0 k_empty 0 (cut w 4 (w.length : Int)) = some r := hr
  unfold meet_Read_c1
  rw [hw]
  simp only [Option.bind_some]
  rw [if_neg (by simp; omega), chk_pos (cutB_iff.2 (by omega)), hn]
  simp only [Option.bind_some, joinR]
  rw [if_neg (by simp), chk_pos (inB_iff.2 (by omega)), chk_pos (by rfl), chk_pos (by rfl), chk_pos (inB_iff.2 (by omega)), chk_pos (cutB_iff.2 (by omega)), hr']
  simp only [Option.bind_some]
  rw [chk_pos hx]
  rfl
theorem rr_none {s : ByteArray} {m n k : Int} {b : List ByteArray} (h : ∀ q : Int, k = q → (q = 1 ∨ q = 3 → b.length ≠ 4) ∧ (q = 2 ∨ q = 4 → b.length ≠ 2)) : ∃ r, meet_readRest s m n k k_empty k_empty k_empty 0 0 k_empty 0 b = some r ∧ r.1 = false := by
  obtain ⟨h1, h2⟩ := h k rfl
  unfold meet_readRest
  refine ⟨(false, k_empty, k_empty, k_empty, 0, 0, k_empty, 0), ?_, rfl⟩
  rw [if_neg (by simp; intro e; have := h1 (.inl e); omega), if_neg (by simp; intro e; have := h2 (.inl e); omega), if_neg (by simp; intro e; have := h1 (.inr e); omega), if_neg (by simp; intro e; have := h2 (.inr e); omega)]
theorem rr1 {s b0 b1 b2 b3 : ByteArray} {m n u : Int} {o : Bool} (h : words_Number b3 15 = some (u, o)) : meet_readRest s m n 1 k_empty k_empty k_empty 0 0 k_empty 0 [b0, b1, b2, b3] = some (o, b0, words_Undash b1, b2, u, 0, k_empty, 0) := by
  have h' : words_Number (nth [b0, b1, b2, b3] 3) 15 = some (u, o) := h
  unfold meet_readRest
  rw [if_pos (by simp), chk_pos (by rfl), h']
  simp only [Option.bind_some]
  rw [chk_pos (by rfl), chk_pos (by rfl), chk_pos (by rfl)]
  rfl
theorem rr2 {s b0 b1 : ByteArray} {m n : Int} : meet_readRest s m n 2 k_empty k_empty k_empty 0 0 k_empty 0 [b0, b1] = some (true, b0, k_empty, b1, 0, 0, k_empty, 0) := by
  unfold meet_readRest
  rw [if_neg (by simp), if_pos (by simp), chk_pos (by rfl), chk_pos (by rfl)]
  rfl
theorem rr3 {s b0 b1 b2 b3 : ByteArray} {m n u v : Int} {o o' : Bool} (h1 : words_Number b2 15 = some (u, o)) (h2 : words_Number b3 15 = some (v, o')) : ∃ r, meet_readRest s m n 3 k_empty k_empty k_empty 0 0 k_empty 0 [b0, b1, b2, b3] = some r ∧ r.1 = (o && o') ∧ ((o && o') = true → r = (true, b0, k_empty, b1, u, v, k_empty, 0)) := by
  have hc : cut [b0, b1, b2, b3] 2 (([b0, b1, b2, b3].length : Nat) : Int) = [b2, b3] := rfl
  unfold meet_readRest
  rw [if_neg (by simp), if_neg (by simp), if_pos (by simp), chk_pos (by rfl), hc, numsW b2 b3 u v o o' h1 h2]
  cases hoo : (o && o') with
  | false => exact ⟨_, rfl, rfl, fun h => by cases h⟩
  | true =>
    simp only [if_true, Option.bind_some, Bool.not_true, Bool.false_eq_true, if_false]
    rw [chk_pos (by rfl), chk_pos (by rfl), chk_pos (by rfl), chk_pos (by rfl)]
    exact ⟨_, rfl, rfl, fun _ => rfl⟩
theorem rr4 {s b0 b1 : ByteArray} {m n u : Int} {o : Bool} (h : words_Number b1 15 = some (u, o)) : meet_readRest s m n 4 k_empty k_empty k_empty 0 0 k_empty 0 [b0, b1] = some (o, k_empty, k_empty, k_empty, 0, 0, b0, u) := by
  have h' : words_Number (nth [b0, b1] 1) 15 = some (u, o) := h
  unfold meet_readRest
  rw [if_neg (by simp), if_neg (by simp), if_neg (by simp), if_pos (by simp), chk_pos (by rfl), h']
  simp only [Option.bind_some]
  rw [chk_pos (by rfl)]
  rfl
theorem r_no {line : ByteArray} {w : List ByteArray} {x : List GDeed} {m n : Int} {b : Bool} (hw : tumbref2_Words line = some (w, true)) (hl : 6 ≤ w.length) (hn : tumbref2_numbersIn (cut w 1 3) 15 = some ([m, n], b))
    (hk : ¬ (w.length : Int) = if nth w 3 = k_enter then 8 else if nth w 3 = k_scratch then 6 else if nth w 3 = k_swum then 8 else if nth w 3 = k_undo then 6 else 0) : tumbref2_DeedsRead_c1 line x = some (false, x) := by
  unfold tumbref2_DeedsRead_c1
  rw [hw]
  simp only [Option.bind_some]
  rw [if_neg (by simp; omega), chk_pos (cutB_iff.2 (by omega)), hn]
  simp only [Option.bind_some]
  rw [chk_pos (inB_iff.2 (by omega)), chk_pos (by rfl), chk_pos (by rfl), chk_pos (inB_iff.2 (by omega)), lenK, if_pos (by simpa using hk)]
theorem r6a {line a0 a1 a2 a3 a4 a5 : ByteArray} {x : List GDeed} {m n : Int} {b : Bool} (hw : tumbref2_Words line = some ([a0, a1, a2, a3, a4, a5], true)) (hn : tumbref2_numbersIn [a1, a2] 15 = some ([m, n], b)) (hx : room x.length = true) (hk : a3 = k_scratch) :
    tumbref2_DeedsRead_c1 line x = some (b, x ++ [GDeed.mk a0 m n 2 a4 k_empty a5 0 0 k_empty 0]) := by
  subst hk
  have hn' : tumbref2_numbersIn (cut [a0, a1, a2, k_scratch, a4, a5] 1 3) 15 = some ([m, n], b) := hn
  have c3 : nth [a0, a1, a2, k_scratch, a4, a5] 3 = k_scratch := rfl
  obtain ⟨d1, d2, d3, d4, d5, d6⟩ := distK
  unfold tumbref2_DeedsRead_c1
  rw [hw]
  simp only [Option.bind_some]
  rw [if_neg (by simp), chk_pos (by rfl), hn']
  simp only [Option.bind_some, joinR, c3]
  rw [chk_pos (by rfl), chk_pos (by rfl), chk_pos (by rfl), chk_pos (by rfl), lenK, if_neg (by rw [if_neg d1, if_pos rfl]; simp), chk_pos (by rfl), if_neg (by simpa using d1), if_pos (by simp), chk_pos (by rfl), chk_pos (by rfl), chk_pos hx]
  rw [Bool.and_true]
  rfl
theorem r6b {line a0 a1 a2 a3 a4 a5 : ByteArray} {x : List GDeed} {m n u : Int} {b o : Bool} (hw : tumbref2_Words line = some ([a0, a1, a2, a3, a4, a5], true)) (hn : tumbref2_numbersIn [a1, a2] 15 = some ([m, n], b)) (hu : tumbref2_Number a5 15 = some (u, o)) (hx : room x.length = true) (hk : a3 = k_undo) :
    tumbref2_DeedsRead_c1 line x = some (b && o, x ++ [GDeed.mk a0 m n 4 k_empty k_empty k_empty 0 0 a4 u]) := by
  subst hk
  have hn' : tumbref2_numbersIn (cut [a0, a1, a2, k_undo, a4, a5] 1 3) 15 = some ([m, n], b) := hn
  have c3 : nth [a0, a1, a2, k_undo, a4, a5] 3 = k_undo := rfl
  have c4 : cut [a0, a1, a2, k_undo, a4, a5] 5 (([a0, a1, a2, k_undo, a4, a5].length : Nat) : Int) = [a5] := rfl
  obtain ⟨d1, d2, d3, d4, d5, d6⟩ := distK
  unfold tumbref2_DeedsRead_c1
  rw [hw]
  simp only [Option.bind_some]
  rw [if_neg (by simp), chk_pos (by rfl), hn']
  simp only [Option.bind_some, joinR, c3]
  rw [chk_pos (by rfl), chk_pos (by rfl), chk_pos (by rfl), chk_pos (by rfl), lenK, if_neg (by rw [if_neg d4, if_neg d5, if_neg d6, if_pos rfl]; simp), chk_pos (by rfl), if_neg (by simpa using d4), if_neg (by simpa using d5), if_neg (by simpa using d6), chk_pos (by rfl), c4, numIn1 a5 u o hu]
  simp only [Option.bind_some]
  rw [chk_pos (by rfl), chk_pos (by rfl), chk_pos hx]
  rfl
theorem r8a {line a0 a1 a2 a3 a4 a5 a6 a7 : ByteArray} {x : List GDeed} {m n u : Int} {b o : Bool} (hw : tumbref2_Words line = some ([a0, a1, a2, a3, a4, a5, a6, a7], true)) (hn : tumbref2_numbersIn [a1, a2] 15 = some ([m, n], b)) (hu : tumbref2_Number a7 15 = some (u, o)) (hx : room x.length = true) (hk : a3 = k_enter) :
    tumbref2_DeedsRead_c1 line x = some (b && o, x ++ [GDeed.mk a0 m n 1 a4 (tumbref2_undash a5) a6 u 0 k_empty 0]) := by
  subst hk
  have hn' : tumbref2_numbersIn (cut [a0, a1, a2, k_enter, a4, a5, a6, a7] 1 3) 15 = some ([m, n], b) := hn
  have c3 : nth [a0, a1, a2, k_enter, a4, a5, a6, a7] 3 = k_enter := rfl
  have c4 : cut [a0, a1, a2, k_enter, a4, a5, a6, a7] 7 (([a0, a1, a2, k_enter, a4, a5, a6, a7].length : Nat) : Int) = [a7] := rfl
  unfold tumbref2_DeedsRead_c1
  rw [hw]
  simp only [Option.bind_some]
  rw [if_neg (by simp), chk_pos (by rfl), hn']
  simp only [Option.bind_some, joinR, c3]
  rw [chk_pos (by rfl), chk_pos (by rfl), chk_pos (by rfl), chk_pos (by rfl), lenK, if_neg (by rw [if_pos rfl]; simp), chk_pos (by rfl), if_pos (by simp), chk_pos (by rfl), c4, numIn1 a7 u o hu]
  simp only [Option.bind_some]
  rw [chk_pos (by rfl), chk_pos (by rfl), chk_pos (by rfl), chk_pos (by rfl), chk_pos hx]
  rfl
theorem r8b {line a0 a1 a2 a3 a4 a5 a6 a7 : ByteArray} {x : List GDeed} {m n u v : Int} {b o o' : Bool} (hw : tumbref2_Words line = some ([a0, a1, a2, a3, a4, a5, a6, a7], true)) (hn : tumbref2_numbersIn [a1, a2] 15 = some ([m, n], b)) (hu : tumbref2_Number a6 15 = some (u, o)) (hv : tumbref2_Number a7 15 = some (v, o')) (hx : room x.length = true) (hk : a3 = k_swum) :
    tumbref2_DeedsRead_c1 line x = some (b && (o && o'), x ++ [GDeed.mk a0 m n 3 a4 k_empty a5 u v k_empty 0]) := by
  subst hk
  have hn' : tumbref2_numbersIn (cut [a0, a1, a2, k_swum, a4, a5, a6, a7] 1 3) 15 = some ([m, n], b) := hn
  have c3 : nth [a0, a1, a2, k_swum, a4, a5, a6, a7] 3 = k_swum := rfl
  have c4 : cut [a0, a1, a2, k_swum, a4, a5, a6, a7] 6 (([a0, a1, a2, k_swum, a4, a5, a6, a7].length : Nat) : Int) = [a6, a7] := rfl
  obtain ⟨d1, d2, d3, d4, d5, d6⟩ := distK
  unfold tumbref2_DeedsRead_c1
  rw [hw]
  simp only [Option.bind_some]
  rw [if_neg (by simp), chk_pos (by rfl), hn']
  simp only [Option.bind_some, joinR, c3]
  rw [chk_pos (by rfl), chk_pos (by rfl), chk_pos (by rfl), chk_pos (by rfl), lenK, if_neg (by rw [if_neg d2, if_neg d3, if_pos rfl]; simp), chk_pos (by rfl), if_neg (by simpa using d2), if_neg (by simpa using d3), if_pos (by simp), chk_pos (by rfl), c4, numIn2 a6 a7 u v o o' hu hv]
  simp only [Option.bind_some]
  rw [chk_pos (by rfl), chk_pos (by rfl), chk_pos (by rfl), chk_pos (by rfl), chk_pos hx]
  rfl
theorem Both.eq {x : List GDeed} {o1 o2 p1 p2 : Option (Bool × List GDeed)} (h : Both x p1 p2) (e1 : o1 = p1) (e2 : o2 = p2) : Both x o1 o2 := by subst e1 e2; exact h
theorem lineD_both (line : ByteArray) (x : List GDeed) (hl : line.size ≤ 200000) (hx : x.length ≤ 200000) : Both x (meet_Read_c1 line x) (tumbref2_DeedsRead_c1 line x) := by
  have hr : room x.length = true := by unfold room; exact decide_eq_true (by omega)
  have hsz := wordsT_size line
  have hws := wSplit_is line (by omega)
  have hwr : tumbref2_Words line = some (wordsT line, !anyE (wordsT line)) := by
    unfold tumbref2_Words
    rw [split_is line (by omega)]
    simp only [Option.bind_some, emptyIn]
  generalize wordsT line = w at *
  obtain ⟨k1, k2, k3, k4, k5⟩ := wkD
  obtain ⟨d1, d2, d3, d4, d5, d6⟩ := distK
  cases hE : anyE w with
  | true =>
    rw [hE] at hws hwr
    unfold meet_Read_c1 tumbref2_DeedsRead_c1
    rw [hws, hwr]
    exact both_no
  | false =>
    rw [hE] at hws hwr
    simp only [Bool.false_eq_true, if_false, Bool.not_false] at hws hwr
    by_cases h4 : w.length < 4
    · refine (both_no (x1 := x) (x2 := x)).eq ?_ ?_
      · unfold meet_Read_c1
        rw [hws]
        simp only [Option.bind_some]
        rw [if_pos (by simp; omega)]
      · unfold tumbref2_DeedsRead_c1
        rw [hwr]
        simp only [Option.bind_some]
        rw [if_pos (by simp; omega)]
    · have hcl : (cut w 1 3).length = 2 := by unfold cut; simp; omega
      obtain ⟨a1, a2, hc⟩ : ∃ a1 a2, cut w 1 3 = [a1, a2] := by
        match hq : cut w 1 3, hcl with
        | [a1, a2], _ => exact ⟨a1, a2, rfl⟩
      have hcm : ∀ y ∈ cut w 1 3, y ∈ w := fun y hy => by
        unfold cut at hy
        exact List.take_subset _ _ (List.drop_subset _ _ hy)
      rw [hc] at hcm
      obtain ⟨n1, n1', o1, e1, f1, g1⟩ := number_both a1 (by have := hsz a1 (hcm a1 (by simp)); omega) 15 (by omega)
      obtain ⟨n2, n2', o2, e2, f2, g2⟩ := number_both a2 (by have := hsz a2 (hcm a2 (by simp)); omega) 15 (by omega)
      have hN := numsW a1 a2 n1 n2 o1 o2 e1 e2
      have hN' := numIn2 a1 a2 n1' n2' o1 o2 f1 f2
      by_cases h6 : w.length < 6
      · have hR : tumbref2_DeedsRead_c1 line x = some (false, x) := by
          unfold tumbref2_DeedsRead_c1
          rw [hwr]
          simp only [Option.bind_some]
          rw [if_pos (by simp; omega)]
        cases hoo : (o1 && o2) with
        | false =>
          rw [hoo] at hN
          exact both_no.eq (m_no hws (by omega) (by rw [hc]; exact hN)) hR
        | true =>
          rw [hoo] at hN
          obtain ⟨r, hr1, hr2⟩ := rr_none (s := nth w 0) (m := n1) (n := n2) (k := W ((slices_Index_string meet_kinds (nth w 3)) + 1)) (b := cut w 4 (w.length : Int)) (fun q _ => by
            have hb : (cut w 4 (w.length : Int)).length = w.length - 4 := by unfold cut; simp
            rw [hb]
            exact ⟨fun _ => by omega, fun _ => by omega⟩)
          have hM := m_yes (x := x) hws (by omega) (by rw [hc]; exact hN) hr hr1
          rw [hr2] at hM
          exact both_no.eq hM hR
      · by_cases hk : (w.length : Int) = if nth w 3 = k_enter then 8 else if nth w 3 = k_scratch then 6 else if nth w 3 = k_swum then 8 else if nth w 3 = k_undo then 6 else 0
        · by_cases h8 : w.length = 8
          · obtain ⟨a0, b1, b2, a3, a4, a5, a6, a7, rfl⟩ := eight h8
            obtain ⟨rfl, rfl⟩ : b1 = a1 ∧ b2 = a2 := by
              have : [b1, b2] = [a1, a2] := hc
              simpa using this
            have c3 : nth [a0, b1, b2, a3, a4, a5, a6, a7] 3 = a3 := rfl
            have c4 : cut [a0, b1, b2, a3, a4, a5, a6, a7] 4 (([a0, b1, b2, a3, a4, a5, a6, a7].length : Nat) : Int) = [a4, a5, a6, a7] := rfl
            rw [c3, h8] at hk
            obtain ⟨n6, n6', o6, e6, f6, g6⟩ := number_both a6 (by have := hsz a6 (by simp); omega) 15 (by omega)
            obtain ⟨n7, n7', o7, e7, f7, g7⟩ := number_both a7 (by have := hsz a7 (by simp); omega) 15 (by omega)
            by_cases q1 : a3 = k_enter
            · have hR := r8a (x := x) hwr hN' f7 hr q1
              cases hoo : (o1 && o2) with
              | false =>
                rw [hoo] at hN hR
                exact both_no.eq (m_no hws (by omega) (by rw [hc]; exact hN)) hR
              | true =>
                rw [hoo] at hN hR
                obtain ⟨rfl, rfl⟩ := (Bool.and_eq_true _ _).mp hoo
                obtain ⟨rfl, _⟩ := g1 rfl
                obtain ⟨rfl, _⟩ := g2 rfl
                have hi : W (slices_Index_string meet_kinds (nth [a0, b1, b2, a3, a4, a5, a6, a7] 3) + 1) = 1 := by rw [c3, idxK, if_pos q1, k1]
                have hM := m_yes (x := x) hws (by omega) (by rw [hc]; exact hN) hr (by rw [hi, c4]; exact rr1 e7)
                rw [hi] at hM
                rw [Bool.true_and] at hR
                exact (both_same fun h => by obtain ⟨rfl, _⟩ := g7 h; rfl).eq hM hR
            · have q3 : a3 = k_swum := by
                rw [if_neg q1] at hk
                by_cases h1 : a3 = k_scratch
                · rw [if_pos h1] at hk; exact absurd hk (by decide)
                · rw [if_neg h1] at hk
                  by_cases h2 : a3 = k_swum
                  · exact h2
                  · rw [if_neg h2] at hk
                    split at hk <;> exact absurd hk (by decide)
              have hR := r8b (x := x) hwr hN' f6 f7 hr q3
              cases hoo : (o1 && o2) with
              | false =>
                rw [hoo] at hN hR
                exact both_no.eq (m_no hws (by omega) (by rw [hc]; exact hN)) hR
              | true =>
                rw [hoo] at hN hR
                obtain ⟨rfl, rfl⟩ := (Bool.and_eq_true _ _).mp hoo
                obtain ⟨rfl, _⟩ := g1 rfl
                obtain ⟨rfl, _⟩ := g2 rfl
                have hi : W (slices_Index_string meet_kinds (nth [a0, b1, b2, a3, a4, a5, a6, a7] 3) + 1) = 3 := by rw [c3, idxK, if_neg q1, if_neg (by rw [q3]; exact d3), if_pos q3, k3]
                obtain ⟨r, hr1, hr2, hr3⟩ := rr3 (s := nth [a0, b1, b2, a3, a4, a5, a6, a7] 0) (b0 := a4) (b1 := a5) (m := n1) (n := n2) e6 e7
                have hM := m_yes (x := x) hws (by omega) (by rw [hc]; exact hN) hr (by rw [hi, c4]; exact hr1)
                rw [hi, hr2] at hM
                rw [Bool.true_and] at hR
                refine (both_same fun h => ?_).eq hM hR
                rw [hr3 h]
                obtain ⟨h6', h7'⟩ := (Bool.and_eq_true _ _).mp h
                obtain ⟨rfl, _⟩ := g6 h6'
                obtain ⟨rfl, _⟩ := g7 h7'
                rfl
          · have h6' : w.length = 6 := by
              split at hk
              · omega
              · split at hk
                · omega
                · split at hk
                  · omega
                  · split at hk <;> omega
            obtain ⟨a0, b1, b2, a3, a4, a5, rfl⟩ := six h6'
            obtain ⟨rfl, rfl⟩ : b1 = a1 ∧ b2 = a2 := by
              have : [b1, b2] = [a1, a2] := hc
              simpa using this
            have c3 : nth [a0, b1, b2, a3, a4, a5] 3 = a3 := rfl
            have c4 : cut [a0, b1, b2, a3, a4, a5] 4 (([a0, b1, b2, a3, a4, a5].length : Nat) : Int) = [a4, a5] := rfl
            rw [c3, h6'] at hk
            have q1 : ¬ a3 = k_enter := fun e => by rw [if_pos e] at hk; exact absurd hk (by decide)
            rw [if_neg q1] at hk
            obtain ⟨n5, n5', o5, e5, f5, g5⟩ := number_both a5 (by have := hsz a5 (by simp); omega) 15 (by omega)
            by_cases q2 : a3 = k_scratch
            · have hR := r6a (x := x) hwr hN' hr q2
              cases hoo : (o1 && o2) with
              | false =>
                rw [hoo] at hN hR
                exact both_no.eq (m_no hws (by omega) (by rw [hc]; exact hN)) hR
              | true =>
                rw [hoo] at hN hR
                obtain ⟨rfl, rfl⟩ := (Bool.and_eq_true _ _).mp hoo
                obtain ⟨rfl, _⟩ := g1 rfl
                obtain ⟨rfl, _⟩ := g2 rfl
                have hi : W (slices_Index_string meet_kinds (nth [a0, b1, b2, a3, a4, a5] 3) + 1) = 2 := by rw [c3, idxK, if_neg q1, if_pos q2, k2]
                have hM := m_yes (x := x) hws (by omega) (by rw [hc]; exact hN) hr (by rw [hi, c4]; exact rr2)
                rw [hi] at hM
                exact (both_same fun _ => rfl).eq hM hR
            · rw [if_neg q2] at hk
              have q3 : ¬ a3 = k_swum := fun e => by rw [if_pos e] at hk; exact absurd hk (by decide)
              rw [if_neg q3] at hk
              have q4 : a3 = k_undo := by
                by_cases h : a3 = k_undo
                · exact h
                · rw [if_neg h] at hk; exact absurd hk (by decide)
              have hR := r6b (x := x) hwr hN' f5 hr q4
              cases hoo : (o1 && o2) with
              | false =>
                rw [hoo] at hN hR
                exact both_no.eq (m_no hws (by omega) (by rw [hc]; exact hN)) hR
              | true =>
                rw [hoo] at hN hR
                obtain ⟨rfl, rfl⟩ := (Bool.and_eq_true _ _).mp hoo
                obtain ⟨rfl, _⟩ := g1 rfl
                obtain ⟨rfl, _⟩ := g2 rfl
                have hi : W (slices_Index_string meet_kinds (nth [a0, b1, b2, a3, a4, a5] 3) + 1) = 4 := by rw [c3, idxK, if_neg q1, if_neg q2, if_neg q3, if_pos q4, k4]
                have hM := m_yes (x := x) hws (by omega) (by rw [hc]; exact hN) hr (by rw [hi, c4]; exact rr4 e5)
                rw [hi] at hM
                rw [Bool.true_and] at hR
                exact (both_same fun h => by obtain ⟨rfl, _⟩ := g5 h; rfl).eq hM hR
        · have hR := r_no (x := x) hwr (by omega) (by rw [hc]; exact hN') hk
          cases hoo : (o1 && o2) with
          | false =>
            rw [hoo] at hN
            exact both_no.eq (m_no hws (by omega) (by rw [hc]; exact hN)) hR
          | true =>
            rw [hoo] at hN
            obtain ⟨r, hr1, hr2⟩ := rr_none (s := nth w 0) (m := n1) (n := n2) (k := W ((slices_Index_string meet_kinds (nth w 3)) + 1)) (b := cut w 4 (w.length : Int)) (fun q hq => by
              have hb : (cut w 4 (w.length : Int)).length = w.length - 4 := by unfold cut; simp
              rw [hb]
              rw [idxK] at hq
              by_cases q1 : nth w 3 = k_enter
              · rw [if_pos q1, k1] at hq
                rw [if_pos q1] at hk
                exact ⟨fun _ => by omega, fun h => by omega⟩
              · rw [if_neg q1] at hq hk
                by_cases q2 : nth w 3 = k_scratch
                · rw [if_pos q2, k2] at hq
                  rw [if_pos q2] at hk
                  exact ⟨fun _ => by omega, fun h => by omega⟩
                · rw [if_neg q2] at hq hk
                  by_cases q3 : nth w 3 = k_swum
                  · rw [if_pos q3, k3] at hq
                    rw [if_pos q3] at hk
                    exact ⟨fun _ => by omega, fun h => by omega⟩
                  · rw [if_neg q3] at hq hk
                    by_cases q4 : nth w 3 = k_undo
                    · rw [if_pos q4, k4] at hq
                      rw [if_pos q4] at hk
                      exact ⟨fun _ => by omega, fun h => by omega⟩
                    · rw [if_neg q4, k5] at hq
                      exact ⟨fun _ => by omega, fun h => by omega⟩)
            have hM := m_yes (x := x) hws (by omega) (by rw [hc]; exact hN) hr hr1
            rw [hr2] at hM
            exact both_no.eq hM hR
theorem readD_both (t : ByteArray) : ∃ b i f, meet_Read t = some (b, i, f) ∧ tumbref2_DeedsRead t = some (b, i, f) := by
  unfold meet_Read tumbref2_DeedsRead
  by_cases h : 200000 < (t.size : Int)
  · rw [if_pos (decide_eq_true h), if_pos (decide_eq_true h)]
    exact ⟨_, _, _, rfl, rfl⟩
  · rw [if_neg (by simpa using h), if_neg (by simpa using h)]
    unfold words_Lines_meet_Read_c1 tumbref2_Lines_tumbref2_DeedsRead_c1
    simp only [joinR]
    obtain ⟨n, ok, x', y', e1, e2, e3⟩ := lines_both meet_Read_c1 tumbref2_DeedsRead_c1 200000 (by omega) (fun line x h1 h2 => lineD_both line x h1 h2) (fun x1 => some (0, true, x1)) (fun x1 => some (0, true, x1))
      (words_Lines_meet_Read_c1_l1 fun x1 => some (0, true, x1)) (tumbref2_Lines_tumbref2_DeedsRead_c1_l1 fun x1 => some (0, true, x1)) (fun _ _ _ _ => rfl) (fun _ _ _ _ => rfl) 200000 4611686018427387904 [] t 0 (by omega) (by omega) (by simp)
    rw [e1, e2]
    cases ok with
    | false =>
      simp only [Bool.false_eq_true, if_false, Option.bind_some, Bool.not_false, if_true]
      exact ⟨_, _, _, rfl, rfl⟩
    | true =>
      obtain ⟨rfl, _⟩ := e3 rfl
      simp only [if_true, Option.bind_some, Bool.not_true, Bool.false_eq_true, if_false]
      obtain ⟨e, c1, c2, _⟩ := deeds_both x'
      rw [c1, c2]
      simp only [Option.bind_some]
      by_cases he : e = 0
      · simp only [he, decide_true, Bool.not_true, Bool.false_eq_true, if_false]
        exact ⟨_, _, _, rfl, rfl⟩
      · simp only [he, decide_false, Bool.not_false, if_true]
        exact ⟨_, _, _, rfl, rfl⟩
section
variable {L : List Int} (hL : LongL L)
include hL
theorem textDd_loop (r3 : Int × Int) (hr : r3.1 ≤ 2) (j1 : Int → ByteArray → Option (ByteArray × Int)) : ∀ (m : Nat) (a : Int) (t : ByteArray) (i : Int), 0 ≤ i → i ≤ r3.1 → r3.1 - i < (m : Int) → 0 ≤ a → a + 3 * m ≤ 1000000 → t.size + 100 * m ≤ 100000 →
    ∃ b u, Stream_DeedText_l1 r3 L j1 m a t i = j1 b u
  | 0, a, t, i, h0, h0', h1, h2, h3, h4 => by omega
  | m + 1, a, t, i, h0, h0', h1, h2, h3, h4 => by
    rw [Stream_DeedText_l1]
    by_cases hc : i < r3.1
    · rw [if_pos (decide_eq_true hc)]
      obtain ⟨u, b, e, g1, g2, g3⟩ := changed_dr hL (a := a) h2 (by omega) t k__20_0a0_2d9sra (by omega) (by decide)
      have hk : k__20_0a0_2d9sra.size = 8 := rfl
      rw [e, W_in (by omega) (by omega)]
      simp only [Option.bind_some]
      exact textDd_loop r3 hr j1 m b u (i + 1) (by omega) (by omega) (by omega) (by omega) (by omega) (by omega)
    · rw [if_neg (by simpa using hc)]
      exact ⟨a, t, rfl⟩
theorem deedText_ok {a : Int} (ha : 0 ≤ a) (ha' : a ≤ 5000) : ∃ t b, Stream_DeedText L a = some (t, b) := by
  obtain ⟨n, b0, e0, p0, q0, n1, n2⟩ := range_dr hL (a := a) (by omega) (by omega) 0 4 (by omega) (by omega) (by omega)
  obtain ⟨x, b, e, g1, g2, g3, g4⟩ := rightDeeds_dr hL n (by omega) (by omega) (a := b0) (by omega) (by omega)
  obtain ⟨u, _, e1, z1⟩ := textsB g4 (by omega)
  obtain ⟨v, b2, e2, p2, q2, m2⟩ := pick_dr hL (a := b) (by omega) (by omega) [0, 0, 1, 2] (by simp) (by simp)
  simp only [List.mem_cons, List.not_mem_nil, or_false] at m2
  unfold Stream_DeedText
  rw [e0]; simp only [Option.bind_some]
  rw [e]; simp only [Option.bind_some]
  rw [e1]; simp only [Option.bind_some]
  rw [e2]; simp only [Option.bind_some, joinR]
  obtain ⟨b3, u', e3⟩ := textDd_loop hL (v, b2) (by show v ≤ 2; omega) (fun x1 x2 => some (x2, x1)) ((v - 0).toNat + 2) b2 u 0 (by omega) (by show 0 ≤ v; omega) (by show v - 0 < _; omega) (by omega) (by omega) (by omega)
  exact ⟨u', b3, e3⟩
end
theorem plain_DeedTexts (l : List Int) (hl : l.length ≤ 9223372036854775807) : tumblaw2_DeedTexts l = some true := by
  have hL : LongL l := by unfold LongL; omega
  obtain ⟨n, a0, e0, p0, q0, n1, n2⟩ := range_dr hL (a := 0) (by omega) (by omega) 0 6 (by omega) (by omega) (by omega)
  obtain ⟨x, a1, e1, p1, q1, x1⟩ := deeds_dr hL n (by omega) (by omega) (a := a0) (by omega) (by omega)
  obtain ⟨t, a2, e2⟩ := deedText_ok hL (a := a1) (by omega) (by omega)
  obtain ⟨b, i, f, r1, r2⟩ := readD_both t
  obtain ⟨e, c1, c2, c3⟩ := deeds_both x
  unfold tumblaw2_DeedTexts
  rw [e0]; simp only [Option.bind_some]
  rw [e1]; simp only [Option.bind_some]
  rw [e2]; simp only [Option.bind_some]
  rw [c2, r1, r2]; simp only [Option.bind_some, joinR]
  by_cases he : e = 0
  · obtain ⟨u, u1, u2, _⟩ := textsB (c3 he) (by omega)
    subst he
    rw [u1, u2]
    simp only [Option.bind_some, decide_true, if_true, Bool.and_self, Bool.true_and, eqDeed_is, met_ok]
  · have ht : meet_Text x = some (k_empty, e) := by
      unfold meet_Text
      rw [c1]
      simp only [Option.bind_some]
      rw [if_pos (by simpa using he)]
    rw [ht]
    simp only [Option.bind_some]
    rw [if_neg (by simpa using he)]
    simp only [Option.bind_some, decide_true, if_true, Bool.and_self, Bool.true_and, eqDeed_is, met_ok]
end Go.Proofs.YtpfommakhgkmeaaGreatDoor
