/- Deeds that are written are read again. Conditions: right deeds, at most twelve. No program stands here but its twins. -/
import Derived.Test.YtnmojfimananjaaGreatDoorPItoaT
import Derived.Test.YtnmojfimananjaaGreatDoorPDeedMerge
namespace Go.Proofs.YtnmojfimananjaaGreatDoor
open Go
/-- A word of a line: not empty, short, without blanks and line ends. -/
structure Wd (s : ByteArray) : Prop where
  pos : 1 ≤ s.size
  short : s.size ≤ 40
  sp : (32 : UInt8) ∉ s.data.toList
  nl : (10 : UInt8) ∉ s.data.toList
theorem key_no (c : UInt8) (h : k_abcdefghijkl_h0e2e2c.data.toList.contains c = false) {l : List UInt8} (hl : l.all (fun b => k_abcdefghijkl_h0e2e2c.data.toList.contains b) = true) : c ∉ l := fun hm => by
  rw [List.all_eq_true] at hl
  rw [hl c hm] at h
  cases h
theorem isKey_all {s : ByteArray} (h : words_IsKey s = some true) : (1 ≤ s.size ∧ s.size ≤ 40) ∧ s.data.toList.all (fun b => k_abcdefghijkl_h0e2e2c.data.toList.contains b) = true ∧ 97 ≤ sbyte s 0 := by
  by_cases hs : 1 ≤ s.size ∧ s.size ≤ 40
  · have hwin : (decide (1 ≤ (s.size : Int)) && decide ((s.size : Int) ≤ 40)) = true := by simp; omega
    have hb0 : inB 0 s.size = true := inB_iff.2 ⟨by omega, by omega⟩
    have htrim : strings_Trim s k_abcdefghijkl_h0e2e2c = some ⟨(Lib.trimS s.data.toList k_abcdefghijkl_h0e2e2c.data.toList).toArray⟩ := by
      unfold strings_Trim
      rw [chk_pos (by simp; omega), chk_pos (by decide +kernel), chk_pos ascii_key]
    have htr : decide ((⟨(Lib.trimS s.data.toList k_abcdefghijkl_h0e2e2c.data.toList).toArray⟩ : ByteArray) = k_empty) = s.data.toList.all fun b => k_abcdefghijkl_h0e2e2c.data.toList.contains b := by
      rw [Bool.eq_iff_iff, decide_eq_true_eq, empty_iff, trim_nil]
    unfold words_IsKey at h
    simp only [join_eq, hwin, if_true, Bool.true_and, chk_pos hb0] at h
    by_cases g1 : 97 ≤ sbyte s 0
    · simp only [g1, decide_true, if_true, Bool.true_and] at h
      by_cases g2 : sbyte s 0 ≤ 122
      · simp only [g2, decide_true, if_true, Bool.true_and, htrim, Option.bind_some, htr, Option.some.injEq] at h
        exact ⟨hs, h, g1⟩
      · simp only [g2, decide_false, Bool.false_eq_true, if_false, Bool.false_and, Option.some.injEq] at h
    · simp only [g1, decide_false, Bool.false_eq_true, if_false, Bool.false_and, Option.some.injEq] at h
  · have hwin : (decide (1 ≤ (s.size : Int)) && decide ((s.size : Int) ≤ 40)) = false := by simp; omega
    unfold words_IsKey at h
    simp only [join_eq, hwin, Bool.false_eq_true, if_false, Bool.false_and, Option.some.injEq] at h
theorem wd_key {s : ByteArray} (h : words_IsKey s = some true) : Wd s := by
  obtain ⟨h1, h2, _⟩ := isKey_all h
  exact ⟨h1.1, h1.2, key_no 32 (by decide +kernel) h2, key_no 10 (by decide +kernel) h2⟩
theorem key_dash {s : ByteArray} (h : words_IsKey s = some true) : s ≠ k__2d ∧ s ≠ k_empty := by
  obtain ⟨h1, _, h3⟩ := isKey_all h
  refine ⟨?_, ?_⟩
  · rintro rfl; exact absurd h3 (by decide +kernel)
  · rintro rfl; exact absurd h1.1 (by decide +kernel)
theorem wd_dash : Wd k__2d := ⟨by decide +kernel, by decide +kernel, by decide +kernel, by decide +kernel⟩
theorem itoa_wd (n : Int) (h0 : 0 ≤ n) (h1 : n < 1000000000000000) : ∃ s, strconv_Itoa n = some s ∧ Wd s ∧ words_Number s 15 = some (n, true) := by
  obtain ⟨s, e, hs, hd⟩ := itoa_is n (by omega) (by omega)
  have hi : Lib.itoa n = Lib.decDigits n.toNat := by unfold Lib.itoa; rw [if_neg (by omega)]
  rw [hi] at hd
  have hall := itoa_dgs (u := n.toNat)
  rw [← hd] at hall
  have hno : ∀ c : UInt8, k_0123456789.data.toList.contains c = false → c ∉ s.data.toList := fun c hc hm => by
    rw [List.all_eq_true] at hall
    rw [hall c hm] at hc; cases hc
  have hpos : 1 ≤ s.size := by
    rw [size_list, hd]
    exact List.length_pos_iff.2 digits_pos
  refine ⟨s, e, ⟨hpos, by omega, hno 32 (by decide +kernel), hno 10 (by decide +kernel)⟩, ?_⟩
  have := number_itoa (u := n.toNat) (by omega) s hd
  rw [show ((n.toNat : Nat) : Int) = n by omega] at this
  exact this
/-! ### A line: words with blanks between -/
theorem sp20 : k__20.data.toList = [32] := rfl
theorem nl0a : k__0a.data.toList = [10] := rfl
theorem spl_words : ∀ (x : List UInt8) (r : List (List UInt8)), (32 : UInt8) ∉ x → (∀ y ∈ r, (32 : UInt8) ∉ y) → spl 32 (Lib.join (x :: r) [32]) = x :: r
  | x, [], h, _ => by rw [Lib.join_one, spl_none h]
  | x, y :: r, h, hr => by
    have e : Lib.join (x :: y :: r) [32] = x ++ 32 :: Lib.join (y :: r) [32] := by
      rw [Lib.join_cons, Lib.join_cons]; simp [Lib.joinTail]
    rw [e, spl_some _ h, spl_words y r (hr y List.mem_cons_self) fun z hz => hr z (List.mem_cons_of_mem _ hz)]
theorem words_split (line : ByteArray) (ws : List ByteArray) (hne : ws ≠ []) (hw : ∀ w ∈ ws, Wd w) (hl : line.data.toList = Lib.join (ws.map (·.data.toList)) [32]) (hs : line.size ≤ 4294967280) : words_Split line = some (ws, true) := by
  have h1 : wordsT line = ws := by
    apply map_data_inj
    have : (wordsT line).map (·.data.toList) = spl 32 line.data.toList := by
      unfold wordsT
      rw [Lib.splitB_data]; rfl
    rw [this, hl]
    cases ws with
    | nil => exact absurd rfl hne
    | cons x r =>
      rw [List.map_cons]
      exact spl_words _ _ (hw x List.mem_cons_self).sp fun y hy => by
        obtain ⟨z, hz, rfl⟩ := List.mem_map.1 hy
        exact (hw z (List.mem_cons_of_mem _ hz)).sp
  rw [wSplit_is line hs, h1]
  have : anyE ws = false := by
    unfold anyE
    rw [List.any_eq_false]
    intro y hy
    have := (hw y hy).pos
    simp only [decide_eq_true_eq]
    rintro rfl
    exact absurd this (by decide)
  rw [this]
  rfl
theorem join_lt : ∀ (ws : List ByteArray), (∀ w ∈ ws, Wd w) → (Lib.join (ws.map (·.data.toList)) [32]).length ≤ 41 * ws.length ∧ (10 : UInt8) ∉ Lib.join (ws.map (·.data.toList)) [32]
  | [], _ => by simp [Lib.join_nil]
  | [x], h => by
    have hx := h x List.mem_cons_self
    have := size_list x
    have := hx.short
    simp only [List.map_cons, List.map_nil, Lib.join_one, List.length_singleton]
    exact ⟨by omega, hx.nl⟩
  | x :: y :: r, h => by
    have hx := h x List.mem_cons_self
    have e : Lib.join ((x :: y :: r).map (·.data.toList)) [32] = x.data.toList ++ 32 :: Lib.join ((y :: r).map (·.data.toList)) [32] := by
      simp only [List.map_cons]
      rw [Lib.join_cons, Lib.join_cons]; simp [Lib.joinTail]
    obtain ⟨i1, i2⟩ := join_lt (y :: r) fun w hw => h w (List.mem_cons_of_mem _ hw)
    have := size_list x
    have := hx.short
    rw [e]
    refine ⟨by simp only [List.length_append, List.length_cons] at i1 ⊢; omega, ?_⟩
    rw [List.mem_append, List.mem_cons]
    rintro (h1 | h1 | h1)
    · exact hx.nl h1
    · exact absurd h1 (by decide)
    · exact i2 h1
theorem strJoin_is (ws : List ByteArray) (hw : ∀ w ∈ ws, Wd w) (hl : ws.length ≤ 10) : ∃ s, strings_Join ws k__20 = some s ∧ s.data.toList = Lib.join (ws.map (·.data.toList)) [32] ∧ s.size ≤ 410 ∧ (10 : UInt8) ∉ s.data.toList := by
  obtain ⟨h1, h2⟩ := join_lt ws hw
  unfold strings_Join
  rw [sp20, chk_pos (by simp only [Bool.and_eq_true, decide_eq_true_eq]; omega)]
  exact ⟨_, rfl, rfl, by rw [size_list]; show (Lib.join _ _).length ≤ 410; omega, h2⟩
theorem fm {α : Type} {p : α → Prop} {x : α} {l : List α} (h : p x) (k : ∀ y ∈ l, p y) : ∀ y ∈ x :: l, p y := List.forall_mem_cons.2 ⟨h, k⟩
/-- The words of a deed's line. -/
structure LineOf (d : GDeed) (ws : List ByteArray) : Prop where
  wd : ∀ w ∈ ws, Wd w
  ne : ws ≠ []
  len : ws.length ≤ 10
  txt : ∀ (j : ByteArray → Bool → Option (ByteArray × Int)) (ys : List GDeed) (i : Nat) (x : ByteArray) (b : Bool) (s : ByteArray), strings_Join ws k__20 = some s → s.size ≤ 410 → x.size ≤ 100000 → meet_Text_l1 j (d :: ys) i x b = meet_Text_l1 j ys (i + 1) (x ++ (s ++ k__0a)) true
  rd : ∀ (line : ByteArray) (acc : List GDeed), words_Split line = some (ws, true) → acc.length ≤ 1000 → meet_Read_c1 line acc = some (true, acc ++ [d])
theorem undash_dash {s : ByteArray} (h : s = k_empty ∨ words_IsKey s = some true) : words_Undash (words_Dash s) = s ∧ Wd (words_Dash s) := by
  rcases h with rfl | h
  · exact ⟨by decide +kernel, by rw [show words_Dash k_empty = k__2d by decide +kernel]; exact wd_dash⟩
  · obtain ⟨h1, h2⟩ := key_dash h
    have e : words_Dash s = s := by unfold words_Dash; rw [if_neg (by simpa using h2)]
    rw [e]
    refine ⟨?_, wd_key h⟩
    unfold words_Undash
    rw [if_neg (by simpa using h1)]
theorem nums2 (a b : ByteArray) (m n : Int) (h1 : words_Number a 15 = some (m, true)) (h2 : words_Number b 15 = some (n, true)) : words_Numbers [a, b] 15 = some ([m, n], true) := by
  unfold words_Numbers
  simp only [join_eq, words_Numbers_l1, h1, h2, Option.bind_some, Bool.not_true, Bool.false_eq_true, if_false]
  rw [chk_pos (by rfl), chk_pos (by rfl)]
  rfl
theorem room_small {α : Type} {l : List α} {n : Nat} (h : l.length ≤ n) (hn : n ≤ 1000000) : room l.length = true := by unfold room; exact decide_eq_true (by omega)
theorem kind_ix : slices_Index_string meet_kinds k_enter = 0 ∧ slices_Index_string meet_kinds k_scratch = 1 ∧ slices_Index_string meet_kinds k_swum = 2 ∧ slices_Index_string meet_kinds k_undo = 3 := by decide +kernel
theorem kind_nth : nth meet_kinds (W (1 - 1)) = k_enter ∧ nth meet_kinds (W (2 - 1)) = k_scratch ∧ nth meet_kinds (W (3 - 1)) = k_swum ∧ nth meet_kinds (W (4 - 1)) = k_undo := by decide +kernel
theorem wd_kinds : Wd k_enter ∧ Wd k_scratch ∧ Wd k_swum ∧ Wd k_undo := ⟨⟨by decide +kernel, by decide +kernel, by decide +kernel, by decide +kernel⟩, ⟨by decide +kernel, by decide +kernel, by decide +kernel, by decide +kernel⟩, ⟨by decide +kernel, by decide +kernel, by decide +kernel, by decide +kernel⟩, ⟨by decide +kernel, by decide +kernel, by decide +kernel, by decide +kernel⟩⟩
theorem wk : W (0 + 1) = 1 ∧ W (1 + 1) = 2 ∧ W (2 + 1) = 3 ∧ W (3 + 1) = 4 := by decide
theorem line_ex (d : GDeed) (h : DG d) : ∃ ws, LineOf d ws := by
  have hf := h.form
  obtain ⟨sn, e1, w1, n1⟩ := itoa_wd d.No (by have := h.no; omega) (by have := h.no; omega)
  obtain ⟨sa, e2, w2, n2⟩ := itoa_wd d.At (by have := h.at_; omega) (by have := h.at_; omega)
  have ws := wd_key h.site
  have sz : ∀ (x s : ByteArray), s.size ≤ 410 → x.size ≤ 100000 → decide (s.size + k__0a.size < 1073741824) = true ∧ decide (x.size + (s ++ k__0a).size ≤ 140737488355328) = true := fun x s h1 h2 => by
    have h3 : k__0a.size = 1 := rfl
    rw [ByteArray.size_append]
    exact ⟨decide_eq_true (by omega), decide_eq_true (by omega)⟩
  obtain ⟨m1, m2, m3, m4⟩ := kind_nth
  obtain ⟨x1, x2, x3, x4⟩ := kind_ix
  obtain ⟨v1, v2, v3, v4⟩ := wd_kinds
  rcases h.kind with hk | hk | hk | hk
  · obtain ⟨q1, q2⟩ := h.who (by omega)
    obtain ⟨u1, u2⟩ := undash_dash (h.club hk)
    obtain ⟨st, e3, w3, n3⟩ := itoa_wd d.Time (h.time (.inl hk)).1 (by have := (h.time (.inl hk)).2; omega)
    rw [if_pos hk] at hf
    refine ⟨[d.Site, sn, sa, k_enter, d.Who, words_Dash d.Club, d.Race, st], ?_, by simp, by simp, ?_, ?_⟩
    · exact (fm ws (fm w1 (fm w2 (fm v1 (fm (wd_key q1) (fm u2 (fm (wd_key q2) (fm w3 (fun _ hz => by cases hz)))))))))
    · intro j ys i x b s hs h1 h2
      obtain ⟨z1, z2⟩ := sz x s h1 h2
      rw [meet_Text_l1]
      simp only [hk, e1, e2, e3, join_eq, Option.bind_some, m1, decide_true, if_true]
      rw [chk_pos (by rfl), chk_pos (by rfl)]
      simp only [List.cons_append, List.nil_append, hs, Option.bind_some]
      rw [chk_pos z1, chk_pos z2]
    · intro line acc hl ha
      unfold meet_Read_c1
      have c1 : cut [d.Site, sn, sa, k_enter, d.Who, words_Dash d.Club, d.Race, st] 1 3 = [sn, sa] := rfl
      have c2 : cut [d.Site, sn, sa, k_enter, d.Who, words_Dash d.Club, d.Race, st] 4 (([d.Site, sn, sa, k_enter, d.Who, words_Dash d.Club, d.Race, st].length : Nat) : Int) = [d.Who, words_Dash d.Club, d.Race, st] := rfl
      have c3 : nth [d.Site, sn, sa, k_enter, d.Who, words_Dash d.Club, d.Race, st] 3 = k_enter := rfl
      rw [hl]
      simp only [Option.bind_some, c1, c2, c3, nums2 sn sa _ _ n1 n2, x1]
      rw [if_neg (by simp), chk_pos (by rfl), if_neg (by simp)]
      simp only [join_eq]
      rw [chk_pos (by rfl), chk_pos (by rfl), chk_pos (by rfl), chk_pos (by rfl), chk_pos (by rfl)]
      unfold meet_readRest
      simp only [wk.1, wk.2.1, wk.2.2.1, wk.2.2.2]
      rw [if_pos (by simp), chk_pos (by rfl)]
      have c4 : nth [d.Who, words_Dash d.Club, d.Race, st] 3 = st := rfl
      rw [c4, n3]
      simp only [Option.bind_some]
      rw [chk_pos (by rfl), chk_pos (by rfl), chk_pos (by rfl)]
      simp only [Option.bind_some]
      rw [chk_pos (room_small ha (by omega))]
      congr 4
      rw [hk] at hf
      refine Eq.trans ?_ hf.symm
      have c5 : nth [d.Who, words_Dash d.Club, d.Race, st] 1 = words_Dash d.Club := rfl
      rw [c5, u1]
      rfl
  · obtain ⟨q1, q2⟩ := h.who (by omega)
    rw [if_neg (by omega), if_neg (by omega), if_neg (by omega)] at hf
    refine ⟨[d.Site, sn, sa, k_scratch, d.Who, d.Race], ?_, by simp, by simp, ?_, ?_⟩
    · exact (fm ws (fm w1 (fm w2 (fm v2 (fm (wd_key q1) (fm (wd_key q2) (fun _ hz => by cases hz)))))))
    · intro j ys i x b s hs h1 h2
      obtain ⟨z1, z2⟩ := sz x s h1 h2
      rw [meet_Text_l1]
      simp only [hk, e1, e2, join_eq, Option.bind_some, m2, decide_true, if_true, show decide ((2 : Int) = 1) = false from rfl, Bool.false_eq_true, if_false]
      rw [chk_pos (by rfl), chk_pos (by rfl)]
      simp only [List.cons_append, List.nil_append, hs, Option.bind_some]
      rw [chk_pos z1, chk_pos z2]
    · intro line acc hl ha
      unfold meet_Read_c1
      have c1 : cut [d.Site, sn, sa, k_scratch, d.Who, d.Race] 1 3 = [sn, sa] := rfl
      have c2 : cut [d.Site, sn, sa, k_scratch, d.Who, d.Race] 4 (([d.Site, sn, sa, k_scratch, d.Who, d.Race].length : Nat) : Int) = [d.Who, d.Race] := rfl
      have c3 : nth [d.Site, sn, sa, k_scratch, d.Who, d.Race] 3 = k_scratch := rfl
      rw [hl]
      simp only [Option.bind_some, c1, c2, c3, nums2 sn sa _ _ n1 n2, x2]
      rw [if_neg (by simp), chk_pos (by rfl), if_neg (by simp)]
      simp only [join_eq]
      rw [chk_pos (by rfl), chk_pos (by rfl), chk_pos (by rfl), chk_pos (by rfl), chk_pos (by rfl)]
      unfold meet_readRest
      simp only [wk.1, wk.2.1, wk.2.2.1, wk.2.2.2]
      rw [if_neg (by simp), if_pos (by simp), chk_pos (by rfl), chk_pos (by rfl)]
      simp only [Option.bind_some]
      rw [chk_pos (room_small ha (by omega))]
      congr 4
      rw [hk] at hf
      exact hf.symm
  · obtain ⟨q1, q2⟩ := h.who (by omega)
    obtain ⟨st, e3, w3, n3⟩ := itoa_wd d.Time (h.time (.inr hk)).1 (by have := (h.time (.inr hk)).2; omega)
    obtain ⟨sf, e4, w4, n4⟩ := itoa_wd d.Fault (h.fault hk).1 (by have := (h.fault hk).2; omega)
    rw [if_neg (by omega), if_pos hk] at hf
    refine ⟨[d.Site, sn, sa, k_swum, d.Who, d.Race, st, sf], ?_, by simp, by simp, ?_, ?_⟩
    · exact (fm ws (fm w1 (fm w2 (fm v3 (fm (wd_key q1) (fm (wd_key q2) (fm w3 (fm w4 (fun _ hz => by cases hz)))))))))
    · intro j ys i x b s hs h1 h2
      obtain ⟨z1, z2⟩ := sz x s h1 h2
      rw [meet_Text_l1]
      simp only [hk, e1, e2, e3, e4, join_eq, Option.bind_some, m3, decide_true, if_true, show decide ((3 : Int) = 1) = false from rfl, show decide ((3 : Int) = 2) = false from rfl, Bool.false_eq_true, if_false]
      rw [chk_pos (by rfl), chk_pos (by rfl)]
      simp only [List.cons_append, List.nil_append, hs, Option.bind_some]
      rw [chk_pos z1, chk_pos z2]
    · intro line acc hl ha
      unfold meet_Read_c1
      have c1 : cut [d.Site, sn, sa, k_swum, d.Who, d.Race, st, sf] 1 3 = [sn, sa] := rfl
      have c2 : cut [d.Site, sn, sa, k_swum, d.Who, d.Race, st, sf] 4 (([d.Site, sn, sa, k_swum, d.Who, d.Race, st, sf].length : Nat) : Int) = [d.Who, d.Race, st, sf] := rfl
      have c3 : nth [d.Site, sn, sa, k_swum, d.Who, d.Race, st, sf] 3 = k_swum := rfl
      rw [hl]
      simp only [Option.bind_some, c1, c2, c3, nums2 sn sa _ _ n1 n2, x3]
      rw [if_neg (by simp), chk_pos (by rfl), if_neg (by simp)]
      simp only [join_eq]
      rw [chk_pos (by rfl), chk_pos (by rfl), chk_pos (by rfl), chk_pos (by rfl), chk_pos (by rfl)]
      unfold meet_readRest
      simp only [wk.1, wk.2.1, wk.2.2.1, wk.2.2.2]
      rw [if_neg (by simp), if_neg (by simp), if_pos (by simp), chk_pos (by rfl)]
      have c4 : cut [d.Who, d.Race, st, sf] 2 (([d.Who, d.Race, st, sf].length : Nat) : Int) = [st, sf] := rfl
      rw [c4, nums2 st sf _ _ n3 n4]
      simp only [Option.bind_some, Bool.not_true, Bool.false_eq_true, if_false]
      rw [chk_pos (by rfl), chk_pos (by rfl), chk_pos (by rfl), chk_pos (by rfl)]
      simp only [Option.bind_some]
      rw [chk_pos (room_small ha (by omega))]
      congr 4
      rw [hk] at hf
      exact hf.symm
  · obtain ⟨q1, q2, q3⟩ := h.of_ hk
    obtain ⟨st, e3, w3, n3⟩ := itoa_wd d.Other (by omega) (by omega)
    rw [if_neg (by omega), if_neg (by omega), if_pos hk] at hf
    refine ⟨[d.Site, sn, sa, k_undo, d.Of, st], ?_, by simp, by simp, ?_, ?_⟩
    · exact (fm ws (fm w1 (fm w2 (fm v4 (fm (wd_key q1) (fm w3 (fun _ hz => by cases hz)))))))
    · intro j ys i x b s hs h1 h2
      obtain ⟨z1, z2⟩ := sz x s h1 h2
      rw [meet_Text_l1]
      simp only [hk, e1, e2, e3, join_eq, Option.bind_some, m4, decide_true, if_true, show decide ((4 : Int) = 1) = false from rfl, show decide ((4 : Int) = 2) = false from rfl, show decide ((4 : Int) = 3) = false from rfl, Bool.false_eq_true, if_false]
      rw [chk_pos (by rfl), chk_pos (by rfl)]
      simp only [List.cons_append, List.nil_append, hs, Option.bind_some]
      rw [chk_pos z1, chk_pos z2]
    · intro line acc hl ha
      unfold meet_Read_c1
      have c1 : cut [d.Site, sn, sa, k_undo, d.Of, st] 1 3 = [sn, sa] := rfl
      have c2 : cut [d.Site, sn, sa, k_undo, d.Of, st] 4 (([d.Site, sn, sa, k_undo, d.Of, st].length : Nat) : Int) = [d.Of, st] := rfl
      have c3 : nth [d.Site, sn, sa, k_undo, d.Of, st] 3 = k_undo := rfl
      rw [hl]
      simp only [Option.bind_some, c1, c2, c3, nums2 sn sa _ _ n1 n2, x4]
      rw [if_neg (by simp), chk_pos (by rfl), if_neg (by simp)]
      simp only [join_eq]
      rw [chk_pos (by rfl), chk_pos (by rfl), chk_pos (by rfl), chk_pos (by rfl), chk_pos (by rfl)]
      unfold meet_readRest
      simp only [wk.1, wk.2.1, wk.2.2.1, wk.2.2.2]
      rw [if_neg (by simp), if_neg (by simp), if_neg (by simp), if_pos (by simp), chk_pos (by rfl)]
      have c4 : nth [d.Of, st] 1 = st := rfl
      rw [c4, n3]
      simp only [Option.bind_some]
      rw [chk_pos (by rfl)]
      simp only [Option.bind_some]
      rw [chk_pos (room_small ha (by omega))]
      congr 4
      rw [hk] at hf
      exact hf.symm
theorem cut_line (s r : ByteArray) (hs : (10 : UInt8) ∉ s.data.toList) (h : (s ++ (k__0a ++ r)).size ≤ 4294967280) : strings_Cut (s ++ (k__0a ++ r)) k__0a = some (s, r, true) := by
  have e : (s ++ (k__0a ++ r)).data.toList = s.data.toList ++ 10 :: r.data.toList := by simp [ByteArray.data_append, k__0a]
  unfold strings_Cut
  rw [chk_pos (decide_eq_true (by omega)), e, nl0a]
  have hi := ib_some r.data.toList hs
  unfold Lib.cut
  rw [hi, if_pos (by omega)]
  refine congrArg some (Prod.ext (bytes_ext ?_) (Prod.ext (bytes_ext ?_) rfl))
  · simp
  · show List.drop (((s.data.toList.length : Nat) : Int).toNat + [(10 : UInt8)].length) _ = _
    generalize s.data.toList = l
    simp
theorem text_l (j : ByteArray → Bool → Option (ByteArray × Int)) (jr : List GDeed → Option (Int × Bool × List GDeed)) : ∀ (ys : List GDeed) (i : Nat) (x : ByteArray) (b : Bool), (∀ d ∈ ys, DG d) → x.size + 411 * ys.length ≤ 90000 →
    ∃ t b', meet_Text_l1 j ys i x b = j (x ++ t) b' ∧ t.size ≤ 411 * ys.length ∧ ∀ (m : Nat) (acc : List GDeed) (k : Int), ys.length < m → acc.length + ys.length ≤ 1000 → words_Lines_meet_Read_c1_l1 jr m acc t k = jr (acc ++ ys)
  | [], i, x, b, _, _ => ⟨ByteArray.empty, b, by rw [meet_Text_l1]; simp, by simp, fun m acc k hm _ => by
      cases m with
      | zero => simp at hm
      | succ m =>
        rw [words_Lines_meet_Read_c1_l1, if_neg (by decide), List.append_nil]⟩
  | d :: ys, i, x, b, hd, hx => by
    obtain ⟨ws, hw⟩ := line_ex d (hd d List.mem_cons_self)
    obtain ⟨s, hs, hs1, hs2, hs3⟩ := strJoin_is ws hw.wd hw.len
    have hk : k__0a.size = 1 := rfl
    simp only [List.length_cons] at hx
    have hsz : (x ++ (s ++ k__0a)).size + 411 * ys.length ≤ 90000 := by rw [ByteArray.size_append, ByteArray.size_append]; omega
    obtain ⟨t, b', i1, i2, i3⟩ := text_l j jr ys (i + 1) (x ++ (s ++ k__0a)) true (fun z hz => hd z (List.mem_cons_of_mem _ hz)) hsz
    refine ⟨s ++ (k__0a ++ t), b', ?_, ?_, ?_⟩
    · rw [hw.txt j ys i x b s hs hs2 (by omega), i1]
      congr 1
      apply bytes_ext
      simp [ByteArray.data_append]
    · rw [ByteArray.size_append, ByteArray.size_append]
      simp only [List.length_cons]
      omega
    · intro m acc k hm hl
      simp only [List.length_cons] at hm hl
      cases m with
      | zero => omega
      | succ m =>
        have hszt : (s ++ (k__0a ++ t)).size ≤ 4294967280 := by rw [ByteArray.size_append, ByteArray.size_append]; omega
        have hne : ¬ (s ++ (k__0a ++ t)) = k_empty := fun e => by
          have := congrArg ByteArray.size e
          rw [ByteArray.size_append, ByteArray.size_append, hk] at this
          have : k_empty.size = 0 := rfl
          omega
        have hrd := hw.rd s acc (words_split s ws hw.ne hw.wd hs1 (by omega)) (by omega)
        rw [words_Lines_meet_Read_c1_l1, if_pos (by simpa using hne), cut_line s t hs3 hszt]
        simp only [Option.bind_some, join_eq, Bool.not_true, Bool.false_eq_true, if_false, hrd]
        rw [i3 m (acc ++ [d]) _ (by omega) (by simp; omega)]
        simp
/-- What is written is read. -/
theorem text_read {l : List GDeed} (h : DsG l) (hl : l.length ≤ 200) : ∃ t, meet_Text l = some (t, 0) ∧ meet_Read t = some (l, 0, 0) := by
  have hc := h.chk
  obtain ⟨t, b', i1, i2, i3⟩ := text_l (fun x1 _ => if decide (200000 < (x1.size : Int)) then some (k_empty, 2) else some (x1, 0)) (fun x1 => some (0, true, x1)) l 0 ByteArray.empty false h.each (by simp; omega)
  have hsz : (ByteArray.empty ++ t).size = t.size := by simp
  refine ⟨ByteArray.empty ++ t, ?_, ?_⟩
  · unfold meet_Text
    rw [hc]
    simp only [Option.bind_some, join_eq, decide_true, Bool.not_true, Bool.false_eq_true, if_false]
    rw [i1]
    rw [if_neg (by simp only [decide_eq_true_eq]; omega)]
  · have e : ByteArray.empty ++ t = t := by simp
    rw [e]
    unfold meet_Read words_Lines_meet_Read_c1
    rw [if_neg (by simp only [decide_eq_true_eq]; omega)]
    simp only [join_eq]
    rw [i3 4611686018427387904 [] 0 (by omega) (by simp; omega)]
    simp only [Option.bind_some, List.nil_append, Bool.not_true, Bool.false_eq_true, if_false, hc, decide_true]
end Go.Proofs.YtnmojfimananjaaGreatDoor
