/- Deeds that are written are read again. Conditions: right deeds, at most twelve. No program stands here but its twins. -/
import Derived.Test.YtpfommakhgkmeaaGreatDoorPItoaT
import Derived.Test.YtpfommakhgkmeaaGreatDoorPDeedMerge
namespace Go.Proofs.YtpfommakhgkmeaaGreatDoor
open Go
structure Wd (s : ByteArray) : Prop where
  pos : 1 ≤ s.size
  short : s.size ≤ 40
  sp : (32 : UInt8) ∉ s.data.toList
  nl : (10 : UInt8) ∉ s.data.toList
theorem key_no (c : UInt8) (h : k_abcdefghijkl_h0e2e2c.data.toList.contains c = false) {l : List UInt8} (hl : l.all (fun b => k_abcdefghijkl_h0e2e2c.data.toList.contains b) = true) : c ∉ l := fun hm => by
  rw [List.all_eq_true] at hl
  rw [hl c hm] at h
  cases h
theorem isKey_all {s : ByteArray} (h : words_IsKey s = some true) : (1 ≤ s.size ∧ s.size ≤ 40) ∧ s.data.toList.all (fun b => k_abcdefghijkl_h0e2e2c.data.toList.contains b) = true ∧ 97 ≤ sbyte s 0 := by
  by_cases hs : 1 ≤ s.size ∧ s.size ≤ 40
  · have hwin : (decide (1 ≤ (s.size : Int)) && decide ((s.size : Int) ≤ 40)) = true := by simp; omega
    have hb0 : inB 0 s.size = true := inB_iff.2 ⟨by omega, by omega⟩
    have htrim : strings_Trim s k_abcdefghijkl_h0e2e2c = some ⟨(Lib.trimS s.data.toList k_abcdefghijkl_h0e2e2c.data.toList).toArray⟩ := by
      unfold strings_Trim
      rw [chk_pos (by simp; omega), chk_pos (by decide +kernel), chk_pos ascii_key]
    have htr : decide ((⟨(Lib.trimS s.data.toList k_abcdefghijkl_h0e2e2c.data.toList).toArray⟩ : ByteArray) = k_empty) = s.data.toList.all fun b => k_abcdefghijkl_h0e2e2c.data.toList.contains b := by
      rw [Bool.eq_iff_iff, decide_eq_true_eq, empty_iff, trim_nil]
    unfold words_IsKey at h
    simp only [join_eq, hwin, if_true, Bool.true_and, chk_pos hb0] at h
    by_cases g1 : 97 ≤ sbyte s 0
    · simp only [g1, decide_true, if_true, Bool.true_and] at h
      by_cases g2 : sbyte s 0 ≤ 122
      · simp only [g2, decide_true, if_true, Bool.true_and, htrim, Option.bind_some, htr, Option.some.injEq] at h
        exact ⟨hs, h, g1⟩
      · simp only [g2, decide_false, Bool.false_eq_true, if_false, Bool.false_and, Option.some.injEq] at h
    · simp only [g1, decide_false, Bool.false_eq_true, if_false, Bool.false_and, Option.some.injEq] at h
  · have hwin : (decide (1 ≤ (s.size : Int)) && decide ((s.size : Int) ≤ 40)) = false := by simp; omega
    unfold words_IsKey at h
    simp only [join_eq, hwin, Bool.false_eq_true, if_false, Bool.false_and, Option.some.injEq] at h
theorem wd_key {s : ByteArray} (h : words_IsKey s = some true) : Wd s := by
  obtain ⟨h1, h2, _⟩ := isKey_all h
  exact ⟨h1.1, h1.2, key_no 32 (by decide +kernel) h2, key_no 10 (by decide +kernel) h2⟩
theorem key_dash {s : ByteArray} (h : words_IsKey s = some true) : s ≠ k__2d ∧ s ≠ k_empty := by
  obtain ⟨h1, _, h3⟩ := isKey_all h
  refine ⟨?_, ?_⟩
  · rintro rfl; exact absurd h3 (by decide +kernel)
  · rintro rfl; exact absurd h1.1 (by decide +kernel)
theorem wd_dash : Wd k__2d := ⟨by decide +kernel, by decide +kernel, by decide +kernel, by decide +kernel⟩
theorem itoa_wd (n : Int) (h0 : 0 ≤ n) (h1 : n < 1000000000000000) : ∃ s, strconv_Itoa n = some s ∧ Wd s ∧ words_Number s 15 = some (n, true) := by
  obtain ⟨s, e, hs, hd⟩ := itoa_is n (by omega) (by omega)
  have hi : Lib.itoa n = Lib.decDigits n.toNat := by unfold Lib.itoa; rw [if_neg (by omega)]
  rw [hi] at hd
  have hall := itoa_dgs (u := n.toNat)
  rw [← hd] at hall
  have hno : ∀ c : UInt8, k_0123456789.data.toList.contains c = false → c ∉ s.data.toList := fun c hc hm => by
    rw [List.all_eq_true] at hall
    rw [hall c hm] at hc; cases hc
  have hpos : 1 ≤ s.size := by
    rw [size_list, hd]
    exact List.length_pos_iff.2 digits_pos
  refine ⟨s, e, ⟨hpos, by omega, hno 32 (by decide +kernel), hno 10 (by decide +kernel)⟩, ?_⟩
  have := number_itoa (u := n.toNat) (by omega) s hd
  rw [show ((n.toNat : Nat) : Int) = n by omega] at this
  exact this
theorem sp20 : k__20.data.toList = [32] := rfl
theorem join_lt : ∀ (ws : List ByteArray), (∀ w ∈ ws, Wd w) → (Lib.join (ws.map (·.data.toList)) [32]).length ≤ 41 * ws.length ∧ (10 : UInt8) ∉ Lib.join (ws.map (·.data.toList)) [32]
  | [], _ => by simp [Lib.join_nil]
  | [x], h => by
    have hx := h x List.mem_cons_self
    have := size_list x
    have := hx.short
    simp only [List.map_cons, List.map_nil, Lib.join_one, List.length_singleton]
    exact ⟨by omega, hx.nl⟩
  | x :: y :: r, h => by
    have hx := h x List.mem_cons_self
    have e : Lib.join ((x :: y :: r).map (·.data.toList)) [32] = x.data.toList ++ 32 :: Lib.join ((y :: r).map (·.data.toList)) [32] := by
      simp only [List.map_cons]
      rw [Lib.join_cons, Lib.join_cons]; simp [Lib.joinTail]
    obtain ⟨i1, i2⟩ := join_lt (y :: r) fun w hw => h w (List.mem_cons_of_mem _ hw)
    have := size_list x
    have := hx.short
    rw [e]
    refine ⟨by simp only [List.length_append, List.length_cons] at i1 ⊢; omega, ?_⟩
    rw [List.mem_append, List.mem_cons]
    rintro (h1 | h1 | h1)
    · exact hx.nl h1
    · exact absurd h1 (by decide)
    · exact i2 h1
theorem strJoin_is (ws : List ByteArray) (hw : ∀ w ∈ ws, Wd w) (hl : ws.length ≤ 10) : ∃ s, strings_Join ws k__20 = some s ∧ s.data.toList = Lib.join (ws.map (·.data.toList)) [32] ∧ s.size ≤ 410 ∧ (10 : UInt8) ∉ s.data.toList := by
  obtain ⟨h1, h2⟩ := join_lt ws hw
  unfold strings_Join
  rw [sp20, chk_pos (by simp only [Bool.and_eq_true, decide_eq_true_eq]; omega)]
  exact ⟨_, rfl, rfl, by rw [size_list]; show (Lib.join _ _).length ≤ 410; omega, h2⟩
theorem fm {α : Type} {p : α → Prop} {x : α} {l : List α} (h : p x) (k : ∀ y ∈ l, p y) : ∀ y ∈ x :: l, p y := List.forall_mem_cons.2 ⟨h, k⟩
structure LineOf (d : GDeed) (ws : List ByteArray) : Prop where
  wd : ∀ w ∈ ws, Wd w
  ne : ws ≠ []
  len : ws.length ≤ 10
  txt : ∀ (j : ByteArray → Bool → Option (ByteArray × Int)) (ys : List GDeed) (i : Nat) (x : ByteArray) (b : Bool) (s : ByteArray), strings_Join ws k__20 = some s → s.size ≤ 410 → x.size ≤ 100000 → meet_Text_l1 j (d :: ys) i x b = meet_Text_l1 j ys (i + 1) (x ++ (s ++ k__0a)) true
  rd : ∀ (line : ByteArray) (acc : List GDeed), words_Split line = some (ws, true) → acc.length ≤ 1000 → meet_Read_c1 line acc = some (true, acc ++ [d])
theorem undash_dash {s : ByteArray} (h : s = k_empty ∨ words_IsKey s = some true) : words_Undash (words_Dash s) = s ∧ Wd (words_Dash s) := by
  rcases h with rfl | h
  · exact ⟨by decide +kernel, by rw [show words_Dash k_empty = k__2d by decide +kernel]; exact wd_dash⟩
  · obtain ⟨h1, h2⟩ := key_dash h
    have e : words_Dash s = s := by unfold words_Dash; rw [if_neg (by simpa using h2)]
    rw [e]
    refine ⟨?_, wd_key h⟩
    unfold words_Undash
    rw [if_neg (by simpa using h1)]
theorem kind_nth : nth meet_kinds (W (1 - 1)) = k_enter ∧ nth meet_kinds (W (2 - 1)) = k_scratch ∧ nth meet_kinds (W (3 - 1)) = k_swum ∧ nth meet_kinds (W (4 - 1)) = k_undo := by decide +kernel
theorem wd_kinds : Wd k_enter ∧ Wd k_scratch ∧ Wd k_swum ∧ Wd k_undo := ⟨⟨by decide +kernel, by decide +kernel, by decide +kernel, by decide +kernel⟩, ⟨by decide +kernel, by decide +kernel, by decide +kernel, by decide +kernel⟩, ⟨by decide +kernel, by decide +kernel, by decide +kernel, by decide +kernel⟩, ⟨by decide +kernel, by decide +kernel, by decide +kernel, by decide +kernel⟩⟩
end Go.Proofs.YtpfommakhgkmeaaGreatDoor
