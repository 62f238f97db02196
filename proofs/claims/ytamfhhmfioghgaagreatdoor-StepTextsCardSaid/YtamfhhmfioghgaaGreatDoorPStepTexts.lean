/- The plain law of StepTexts. No program stands here but its twins. -/
import Derived.Test.YtamfhhmfioghgaaGreatDoorPText
import Derived.Test.YtamfhhmfioghgaaGreatDoorPRecS
import Derived.Test.YtamfhhmfioghgaaGreatDoorPStepsM
namespace Go.Proofs.YtamfhhmfioghgaaGreatDoor
open Go
theorem recordedT_ok : tumblaw2_recorded = some true := by decide +kernel
theorem joinT {κ R : Type} (K : κ) (f : κ → R) : Join K f = f K := rfl
theorem idx3 (a b c v : ByteArray) : slices_Index_string [a, b, c] v = if v = a then 0 else if v = b then 1 else if v = c then 2 else -1 := by
  unfold slices_Index_string
  simp only [joinT, slices_Index_string_l1, decide_eq_true_eq]
  rfl
theorem idx4 (a b c d v : ByteArray) : slices_Index_string [a, b, c, d] v = if v = a then 0 else if v = b then 1 else if v = c then 2 else if v = d then 3 else -1 := by
  unfold slices_Index_string
  simp only [joinT, slices_Index_string_l1, decide_eq_true_eq]
  rfl
theorem kindIdx (v : ByteArray) (hv : v ≠ k_empty) : ∃ p : Int, slices_Index_string record_kinds v = p ∧ (slices_Index_string tumbref2_stepWords v = if p < 0 then -1 else p + 1) ∧ -1 ≤ p ∧ p ≤ 2 := by
  unfold record_kinds tumbref2_stepWords
  rw [idx3, idx4, if_neg hv]
  by_cases h1 : v = k_swum
  · rw [if_pos h1, if_pos h1]
    exact ⟨0, rfl, rfl, by omega, by omega⟩
  · rw [if_neg h1, if_neg h1]
    by_cases h2 : v = k_ratified
    · rw [if_pos h2, if_pos h2]
      exact ⟨1, rfl, rfl, by omega, by omega⟩
    · rw [if_neg h2, if_neg h2]
      by_cases h3 : v = k_void
      · rw [if_pos h3, if_pos h3]
        exact ⟨2, rfl, rfl, by omega, by omega⟩
      · rw [if_neg h3, if_neg h3]
        exact ⟨-1, rfl, rfl, by omega, by omega⟩
theorem lineS_both (line : ByteArray) (x : List GStep) (hl : line.size ≤ 200000) (hx : x.length ≤ 200000) : ∃ b x' y', record_Read_c1 line x = some (b, x') ∧ tumbref2_StepsRead_c1 line x = some (b, y') ∧ (b = true → x' = y' ∧ x'.length ≤ x.length + 1) := by
  have hr : room x.length = true := by unfold room; exact decide_eq_true (by omega)
  unfold record_Read_c1 record_readStep tumbref2_StepsRead_c1 tumbref2_Words
  rw [wSplit_is line (by omega), split_is line (by omega)]
  have hsz := wordsT_size line
  generalize wordsT line = w at *
  simp only [Option.bind_some, emptyIn, chk_pos hr]
  cases hE : anyE w with
  | true =>
    simp only [if_true, Option.bind_some, Bool.not_false, Bool.not_true, Bool.true_or]
    exact ⟨false, _, x, rfl, rfl, fun h => by cases h⟩
  | false =>
    simp only [Bool.false_eq_true, if_false, Option.bind_some, Bool.not_true, Bool.not_false, Bool.false_or]
    by_cases h3 : (w.length : Int) < 3
    · simp only [h3, decide_true, if_true, Option.bind_some]
      exact ⟨false, _, x, rfl, rfl, fun h => by cases h⟩
    · simp only [h3, decide_false, Bool.false_eq_true, if_false]
      have i0 : inB 0 w.length = true := inB_iff.2 (by omega)
      have i1 : inB 1 w.length = true := inB_iff.2 (by omega)
      have i2 : inB 2 w.length = true := inB_iff.2 (by omega)
      have hmem : ∀ (k : Nat), k < w.length → nth w (k : Int) ∈ w := fun k hk => by
        have : nth w (k : Int) = w[k] := by simp [nth, List.getD, List.getElem?_eq_getElem hk]
        rw [this]; exact List.getElem_mem hk
      obtain ⟨n, n', ok, e1, e2, e3⟩ := number_both (nth w 0) (by have := hsz _ (hmem 0 (by omega)); rw [Int.natCast_zero] at this; omega) 15 (by omega)
      have hne : nth w 1 ≠ k_empty := fun h => by
        have h1 := hmem 1 (by omega)
        rw [show ((1 : Nat) : Int) = 1 from rfl, h] at h1
        unfold anyE at hE
        rw [List.any_eq_false] at hE
        exact hE k_empty h1 (by simp)
      obtain ⟨p, q1, q2, q3, q4⟩ := kindIdx (nth w 1) hne
      rw [e1, e2, q1, q2]
      simp only [Option.bind_some, joinT, chk_pos i0, chk_pos i1, chk_pos i2]
      have hW : W (p + 1) = p + 1 := W_in (by omega) (by omega)
      rw [hW]
      by_cases hp : p < 0
      · have hp1 : p = -1 := by omega
        subst hp1
        simp only [show (-1 : Int) < 0 by omega, if_true, show ((-1 : Int) + 1) = 0 by omega, show ¬ ((0 : Int) = 1) by omega, decide_false, Bool.not_false, Bool.or_true, Int.lt_irrefl, Bool.and_false, Bool.false_and, Option.bind_some, show (-1 : Int) < 1 by omega, decide_true]
        exact ⟨false, _, x, rfl, rfl, fun h => by cases h⟩
      · simp only [hp, if_false]
        rw [if_neg (show ¬ decide (p + 1 < 1) = true by simp; omega)]
        by_cases hk : p = 0
        · subst hk
          simp only [show ((0 : Int) + 1) = 1 by omega, decide_true, Bool.not_true, Bool.or_false, Int.lt_irrefl, decide_false, Bool.false_eq_true, if_false]
          have hnums := fun (h8 : (w.length : Int) = 8) => nums_both 15 (by omega) (cut w 6 (w.length : Int)) (fun y hy => by
            have : y ∈ w := by
              unfold cut at hy
              exact List.take_subset _ _ (List.drop_subset _ _ hy)
            have := hsz y this
            omega) (by unfold cut; simp; omega)
          cases ok with
          | false =>
            simp only [Bool.not_false, if_true, Option.bind_some, Bool.false_and]
            by_cases h8 : (w.length : Int) = 8
            · obtain ⟨ns, ns', ok2, a1, a2, a3, _⟩ := hnums h8
              have hc : cutB 6 (w.length : Int) w.length = true := cutB_iff.2 (by omega)
              have a3' : ns'.length = 2 := by rw [a3]; unfold cut; simp; omega
              have j3 : inB 3 w.length = true := inB_iff.2 (by omega)
              have j4 : inB 4 w.length = true := inB_iff.2 (by omega)
              have j5 : inB 5 w.length = true := inB_iff.2 (by omega)
              have z0 : inB 0 ns'.length = true := inB_iff.2 (by omega)
              have z1 : inB 1 ns'.length = true := inB_iff.2 (by omega)
              simp only [h8, decide_true, Bool.not_true, Bool.false_eq_true, if_false]
              rw [h8] at a2 hc
              rw [chk_pos hc, a2]
              simp only [Option.bind_some, chk_pos j3, chk_pos j4, chk_pos j5, chk_pos z0, chk_pos z1]
              exact ⟨false, _, _, rfl, rfl, fun h => by cases h⟩
            · simp only [h8, decide_false, Bool.not_false, if_true]
              exact ⟨false, _, x, rfl, rfl, fun h => by cases h⟩
          | true =>
            simp only [Bool.not_true, Bool.false_eq_true, if_false, Bool.true_and]
            by_cases h8 : (w.length : Int) = 8
            · obtain ⟨ns, ns', ok2, a1, a2, a3, a4⟩ := hnums h8
              have hc : cutB 6 (w.length : Int) w.length = true := cutB_iff.2 (by omega)
              have a3' : ns'.length = 2 := by rw [a3]; unfold cut; simp; omega
              have j3 : inB 3 w.length = true := inB_iff.2 (by omega)
              have j4 : inB 4 w.length = true := inB_iff.2 (by omega)
              have j5 : inB 5 w.length = true := inB_iff.2 (by omega)
              have z0 : inB 0 ns'.length = true := inB_iff.2 (by omega)
              have z1 : inB 1 ns'.length = true := inB_iff.2 (by omega)
              simp only [h8, decide_true, Bool.not_true, Bool.false_eq_true, if_false]
              rw [h8] at a1 a2 hc
              rw [chk_pos hc, chk_pos hc, a1, a2]
              simp only [Option.bind_some, chk_pos j3, chk_pos j4, chk_pos j5, chk_pos z0, chk_pos z1]
              cases ok2 with
              | false =>
                simp only [Bool.not_false, if_true, Option.bind_some]
                exact ⟨false, _, _, rfl, rfl, fun h => by cases h⟩
              | true =>
                obtain ⟨rfl, _⟩ := a4 rfl
                obtain ⟨rfl, _⟩ := e3 rfl
                simp only [if_true, Bool.not_true, Bool.false_eq_true, if_false, chk_pos z0, chk_pos z1, Option.bind_some]
                exact ⟨true, _, _, rfl, rfl, fun _ => ⟨rfl, by simp⟩⟩
            · simp only [h8, decide_false, Bool.not_false, if_true, Option.bind_some]
              exact ⟨false, _, x, rfl, rfl, fun h => by cases h⟩
        · rw [if_pos (show ((!ok) || !decide (p + 1 = 1)) = true by simp; right; omega), if_pos (show decide (1 < p + 1) = true by simp; omega)]
          simp only [Option.bind_some, show decide (0 < p + 1) = true from decide_eq_true (by omega), Bool.and_true]
          refine ⟨_, _, _, rfl, rfl, fun h => ?_⟩
          have hok : ok = true := by
            rw [Bool.and_eq_true] at h
            exact h.1
          obtain ⟨rfl, _⟩ := e3 hok
          exact ⟨rfl, by simp⟩
theorem readS_both (t : ByteArray) : ∃ b i f, record_Read t = some (b, i, f) ∧ tumbref2_StepsRead t = some (b, i, f) := by
  unfold record_Read tumbref2_StepsRead
  by_cases h : 200000 < (t.size : Int)
  · rw [if_pos (decide_eq_true h), if_pos (decide_eq_true h)]
    exact ⟨_, _, _, rfl, rfl⟩
  · rw [if_neg (by simpa using h), if_neg (by simpa using h)]
    unfold words_Lines_record_Read_c1 tumbref2_Lines_tumbref2_StepsRead_c1
    simp only [joinT]
    obtain ⟨n, ok, x', y', e1, e2, e3⟩ := lines_both record_Read_c1 tumbref2_StepsRead_c1 200000 (by omega) (fun line x h1 h2 => lineS_both line x h1 h2) (fun x1 => some (0, true, x1)) (fun x1 => some (0, true, x1))
      (words_Lines_record_Read_c1_l1 fun x1 => some (0, true, x1)) (tumbref2_Lines_tumbref2_StepsRead_c1_l1 fun x1 => some (0, true, x1)) (fun _ _ _ _ => rfl) (fun _ _ _ _ => rfl) 200000 4611686018427387904 [] t 0 (by omega) (by omega) (by simp)
    rw [e1, e2]
    cases ok with
    | false =>
      simp only [Bool.false_eq_true, if_false, Option.bind_some, Bool.not_false, if_true]
      exact ⟨_, _, _, rfl, rfl⟩
    | true =>
      obtain ⟨rfl, _⟩ := e3 rfl
      simp only [if_true, Option.bind_some, Bool.not_true, Bool.false_eq_true, if_false]
      obtain ⟨e, c1, c2, _⟩ := steps_both x'
      rw [c1, c2]
      simp only [Option.bind_some]
      by_cases he : e = 0
      · simp only [he, decide_true, Bool.not_true, Bool.false_eq_true, if_false]
        exact ⟨_, _, _, rfl, rfl⟩
      · simp only [he, decide_false, Bool.not_false, if_true]
        exact ⟨_, _, _, rfl, rfl⟩
theorem keyT_small {s : ByteArray} (h : words_IsKey s = some true) : s.size ≤ 40 := by
  obtain ⟨b, h1, h2⟩ := isKey_eq s
  rw [h] at h1
  obtain rfl := Option.some.inj h1
  by_cases hs : 1 ≤ s.size ∧ s.size ≤ 40
  · exact hs.2
  · have hin : tumbref2_in (s.size : Int) 1 40 = false := by unfold tumbref2_in; simp; omega
    unfold tumbref2_Key at h2
    simp only [joinT, hin, Bool.false_eq_true, if_false, Bool.false_and] at h2
    cases h2
def StT (y : GStep) : Prop := StG y ∧ y.Id.size ≤ 40 ∧ (y.Kind = 1 → y.Who.size ≤ 40 ∧ y.Race.size ≤ 40 ∧ y.Club.size ≤ 40 ∧ 0 ≤ y.Age ∧ y.Age ≤ 150)
theorem step_T {x : GStep} (h : record_checkStep x = some 0) : StT x := by
  obtain ⟨e, h1, _, h3⟩ := step_both x
  have he : e = 0 := by rw [h] at h1; exact (Option.some.inj h1).symm
  have hg := h3 he
  obtain ⟨b1, k1, _⟩ := isKey_eq x.Id
  obtain ⟨b2, k2, _⟩ := isKey_eq x.Who
  obtain ⟨b3, k3, _⟩ := isKey_eq x.Race
  obtain ⟨b4, k4, _⟩ := isKey_eq x.Club
  unfold record_checkStep at h
  rw [k1, k2, k3, k4] at h
  simp only [joinT, Option.bind_some] at h
  split at h
  · cases h
  · split at h
    · cases h
    · cases b1 with
      | false => simp at h
      | true =>
        refine ⟨hg, keyT_small k1, fun hk => ?_⟩
        simp only [Bool.not_true, Bool.false_eq_true, if_false, hk, decide_true] at h
        have hem : k_empty.size = 0 := rfl
        by_cases hcl : x.Club = k_empty
        · cases b2 <;> cases b3 <;> simp only [hcl, decide_true, Bool.not_true, Bool.not_false, Bool.false_and, Bool.true_or, Bool.or_true, Bool.or_false, Bool.false_or, if_true, Bool.false_eq_true, if_false] at h
          · cases h
          · cases h
          · cases h
          · split at h
            · cases h
            · rename_i hh
              simp only [Bool.not_eq_true, Bool.or_eq_false_iff, Bool.not_eq_false'] at hh
              have hw := hh.1
              unfold words_Within at hw
              simp only [Bool.and_eq_true, decide_eq_true_eq] at hw
              exact ⟨keyT_small k2, keyT_small k3, by rw [hcl, hem]; omega, hw.1, hw.2⟩
        · cases b2 <;> cases b3 <;> cases b4 <;> simp only [hcl, decide_false, Bool.not_true, Bool.not_false, Bool.true_and, Bool.true_or, Bool.or_true, Bool.or_false, Bool.false_or, if_true, Bool.false_eq_true, if_false] at h
          case true.true.true =>
            split at h
            · cases h
            · rename_i hh
              simp only [Bool.not_eq_true, Bool.or_eq_false_iff, Bool.not_eq_false'] at hh
              have hw := hh.1
              unfold words_Within at hw
              simp only [Bool.and_eq_true, decide_eq_true_eq] at hw
              exact ⟨keyT_small k2, keyT_small k3, keyT_small k4, hw.1, hw.2⟩
          all_goals cases h
theorem sp_list : k__20.data.toList = [32] := rfl
theorem num1_is (a : Int) (s1 : ByteArray) (h1 : strconv_Itoa a = some s1) (hs : s1.size ≤ 21) : tumbref2_numbers [a] = some s1 := by
  have e1 := size_list s1
  unfold tumbref2_numbers
  simp only [joinT, tumbref2_numbers_l1, h1, Option.bind_some, List.length_nil, List.nil_append]
  rw [chk_pos (by decide)]
  have hj : Lib.join ([s1].map (·.data.toList)) k__20.data.toList = s1.data.toList := by
    rw [sp_list]; simp [Lib.join, List.intercalate, List.intersperse]
  unfold strings_Join
  rw [hj, chk_pos (by simp; omega)]
  rfl
theorem num2_is (a b : Int) (s1 s2 : ByteArray) (h1 : strconv_Itoa a = some s1) (h2 : strconv_Itoa b = some s2) (hs : s1.size ≤ 21 ∧ s2.size ≤ 21) : tumbref2_numbers [a, b] = some (s1 ++ k__20 ++ s2) := by
  have e1 := size_list s1
  have e2 := size_list s2
  unfold tumbref2_numbers
  simp only [joinT, tumbref2_numbers_l1, h1, h2, Option.bind_some, List.length_nil, List.length_append, List.length_singleton, List.nil_append]
  rw [chk_pos (by decide), chk_pos (by decide)]
  have hl : ([s1] ++ [s2]) = [s1, s2] := rfl
  have hj : Lib.join ([s1, s2].map (·.data.toList)) k__20.data.toList = s1.data.toList ++ 32 :: s2.data.toList := by
    rw [sp_list]; simp [Lib.join, List.intercalate, List.intersperse]
  unfold strings_Join
  rw [hl, hj, chk_pos (by simp; omega)]
  simp only [Option.bind_some]
  congr 1
  apply bytes_ext
  simp [ByteArray.data_append, k__20]
theorem join3_is (a b c : ByteArray) (ha : a.size ≤ 40) (hb : b.size ≤ 40) (hc : c.size ≤ 40) : strings_Join [a, b, c] k__20 = some (a ++ k__20 ++ b ++ k__20 ++ c) := by
  have e1 := size_list a
  have e2 := size_list b
  have e3 := size_list c
  have hj : Lib.join ([a, b, c].map (·.data.toList)) k__20.data.toList = a.data.toList ++ 32 :: (b.data.toList ++ 32 :: c.data.toList) := by
    rw [sp_list]; simp [Lib.join, List.intercalate, List.intersperse]
  unfold strings_Join
  rw [hj, chk_pos (by simp; omega)]
  congr 1
  apply bytes_ext
  simp [ByteArray.data_append, k__20]
theorem join8_is (a b c d e f g h : ByteArray) (ha : a.size ≤ 40) (hb : b.size ≤ 40) (hc : c.size ≤ 40) (hd : d.size ≤ 40) (he : e.size ≤ 40) (hf : f.size ≤ 40) (hg : g.size ≤ 40) (hh : h.size ≤ 40) :
    strings_Join [a, b, c, d, e, f, g, h] k__20 = some (a ++ k__20 ++ b ++ k__20 ++ c ++ k__20 ++ d ++ k__20 ++ e ++ k__20 ++ f ++ k__20 ++ g ++ k__20 ++ h) := by
  have e1 := size_list a
  have e2 := size_list b
  have e3 := size_list c
  have e4 := size_list d
  have e5 := size_list e
  have e6 := size_list f
  have e7 := size_list g
  have e8 := size_list h
  have hj : Lib.join ([a, b, c, d, e, f, g, h].map (·.data.toList)) k__20.data.toList = a.data.toList ++ 32 :: (b.data.toList ++ 32 :: (c.data.toList ++ 32 :: (d.data.toList ++ 32 :: (e.data.toList ++ 32 :: (f.data.toList ++ 32 :: (g.data.toList ++ 32 :: h.data.toList)))))) := by
    rw [sp_list]; simp [Lib.join, List.intercalate, List.intersperse]
  unfold strings_Join
  rw [hj, chk_pos (by simp; omega)]
  congr 1
  apply bytes_ext
  simp [ByteArray.data_append, k__20]
theorem kindWord {k : Int} (h1 : 1 ≤ k) (h3 : k ≤ 3) : inB (W (k - 1)) record_kinds.length = true ∧ inB k tumbref2_stepWords.length = true ∧ nth tumbref2_stepWords k = nth record_kinds (W (k - 1)) ∧ (nth record_kinds (W (k - 1))).size ≤ 40 := by
  have hc : k = 1 ∨ k = 2 ∨ k = 3 := by omega
  rcases hc with rfl | rfl | rfl <;> decide +kernel
theorem dash_both (s : ByteArray) (hs : s.size ≤ 40) : tumbref2_dash s = words_Dash s ∧ (words_Dash s).size ≤ 40 := by
  refine ⟨rfl, ?_⟩
  unfold words_Dash
  split
  · decide
  · exact hs
theorem textS_loops : ∀ (ys : List GStep) (i i' : Nat) (b : ByteArray) (d : Bool), (∀ y ∈ ys, StT y) → b.size + 400 * ys.length ≤ 1000000 →
    ∃ u d', (∀ j1 : ByteArray → Bool → Option (ByteArray × Int), record_Text_l1 j1 ys i b d = j1 u d') ∧ (∀ j1 : ByteArray → Option ByteArray, tumbref2_StepLines_l1 j1 ys i' b = j1 u) ∧ u.size ≤ b.size + 400 * ys.length
  | [], i, i', b, d, _, _ => ⟨b, d, fun _ => rfl, fun _ => rfl, by simp⟩
  | y :: ys, i, i', b, d, hs, hb => by
    simp only [List.length_cons] at hb
    obtain ⟨⟨g1, g2, g3⟩, g4, g5⟩ := hs y List.mem_cons_self
    obtain ⟨s1, a1, z1, _⟩ := itoa_is y.At (by omega) (by omega)
    have n1 := num1_is y.At s1 a1 z1
    obtain ⟨w1, w2, w3, w4⟩ := kindWord g2.1 g2.2
    have k1 : k__20.size = 1 := rfl
    have k2 : k__0a.size = 1 := rfl
    have hs' : ∀ z ∈ ys, StT z := fun z hz => hs z (List.mem_cons_of_mem _ hz)
    by_cases hk : y.Kind = 1
    · obtain ⟨p1, p2, p3, p4, p5⟩ := g5 hk
      have hti := g3 hk
      obtain ⟨d1, d2⟩ := dash_both y.Club p3
      obtain ⟨s2, a2, z2, _⟩ := itoa_is y.Age (by omega) (by omega)
      obtain ⟨s3, a3, z3, _⟩ := itoa_is y.Time (by omega) (by omega)
      have n2 := num2_is y.Age y.Time s2 s3 a2 a3 ⟨z2, z3⟩
      have hj := join8_is s1 (nth record_kinds (W (y.Kind - 1))) y.Id y.Who (words_Dash y.Club) y.Race s2 s3 (by omega) w4 g4 p1 d2 p2 (by omega) (by omega)
      generalize hkw : nth record_kinds (W (y.Kind - 1)) = kw at *
      generalize hdc : words_Dash y.Club = dc at *
      have hsz : (b ++ (s1 ++ k__20 ++ kw ++ k__20 ++ y.Id ++ k__20 ++ y.Who ++ k__20 ++ dc ++ k__20 ++ y.Race ++ k__20 ++ s2 ++ k__20 ++ s3 ++ k__0a)).size ≤ b.size + 400 := by
        simp only [ByteArray.size_append, k1, k2]; omega
      obtain ⟨u, d', q1, q2, q3⟩ := textS_loops ys (i + 1) (i' + 1) _ true hs' (show (b ++ (s1 ++ k__20 ++ kw ++ k__20 ++ y.Id ++ k__20 ++ y.Who ++ k__20 ++ dc ++ k__20 ++ y.Race ++ k__20 ++ s2 ++ k__20 ++ s3 ++ k__0a)).size + 400 * ys.length ≤ 1000000 by omega)
      refine ⟨u, d', fun j1 => ?_, fun j1 => ?_, by simp only [List.length_cons]; omega⟩
      · rw [record_Text_l1, a1]
        simp only [Option.bind_some, joinT, hkw, hdc, chk_pos w1]
        rw [if_pos (decide_eq_true hk), a2, a3]
        simp only [Option.bind_some, List.cons_append, List.nil_append]
        rw [chk_pos (show room [s1, kw, y.Id].length = true from (by decide : room 3 = true)), hj]
        simp only [Option.bind_some]
        rw [chk_pos (decide_eq_true (by simp only [ByteArray.size_append, k1, k2]; omega)), chk_pos (decide_eq_true (by simp only [ByteArray.size_append, k1, k2]; omega))]
        exact q1 j1
      · rw [tumbref2_StepLines_l1, n1]
        simp only [Option.bind_some, joinT, w3, d1, chk_pos w2]
        rw [chk_pos (decide_eq_true (by omega)), chk_pos (decide_eq_true (by simp only [ByteArray.size_append, k1]; omega)), chk_pos (decide_eq_true (by simp only [ByteArray.size_append, k1]; omega)), chk_pos (decide_eq_true (by simp only [ByteArray.size_append, k1]; omega)), chk_pos (decide_eq_true (by simp only [ByteArray.size_append, k1]; omega)),
          if_pos (decide_eq_true hk), n2]
        simp only [Option.bind_some]
        rw [chk_pos (decide_eq_true (by omega)), chk_pos (decide_eq_true (by simp only [ByteArray.size_append, k1]; omega)), chk_pos (decide_eq_true (by simp only [ByteArray.size_append, k1]; omega)), chk_pos (decide_eq_true (by simp only [ByteArray.size_append, k1]; omega)), chk_pos (decide_eq_true (by simp only [ByteArray.size_append, k1]; omega)),
          chk_pos (decide_eq_true (by simp only [ByteArray.size_append, k1]; omega)), chk_pos (decide_eq_true (by simp only [ByteArray.size_append, k1]; omega)), chk_pos (decide_eq_true (by simp only [ByteArray.size_append, k1]; omega)), chk_pos (decide_eq_true (by simp only [ByteArray.size_append, k1, k2]; omega))]
        have he : b ++ (s1 ++ k__20 ++ kw ++ k__20 ++ y.Id) ++ (k__20 ++ y.Who ++ k__20 ++ dc ++ k__20 ++ y.Race ++ k__20 ++ (s2 ++ k__20 ++ s3)) ++ k__0a = b ++ (s1 ++ k__20 ++ kw ++ k__20 ++ y.Id ++ k__20 ++ y.Who ++ k__20 ++ dc ++ k__20 ++ y.Race ++ k__20 ++ s2 ++ k__20 ++ s3 ++ k__0a) := by
          simp only [ByteArray.append_assoc]
        rw [he]
        exact q2 j1
    · have hj := join3_is s1 (nth record_kinds (W (y.Kind - 1))) y.Id (by omega) w4 g4
      generalize hkw : nth record_kinds (W (y.Kind - 1)) = kw at *
      obtain ⟨u, d', q1, q2, q3⟩ := textS_loops ys (i + 1) (i' + 1) (b ++ (s1 ++ k__20 ++ kw ++ k__20 ++ y.Id ++ k__0a)) true hs' (by simp only [ByteArray.size_append, k1, k2]; omega)
      simp only [ByteArray.size_append, k1, k2] at q3
      refine ⟨u, d', fun j1 => ?_, fun j1 => ?_, by simp only [List.length_cons]; omega⟩
      · rw [record_Text_l1, a1]
        simp only [Option.bind_some, joinT, hkw, chk_pos w1]
        rw [if_neg (by simpa using hk), hj]
        simp only [Option.bind_some]
        rw [chk_pos (decide_eq_true (by simp only [ByteArray.size_append, k1, k2]; omega)), chk_pos (decide_eq_true (by simp only [ByteArray.size_append, k1, k2]; omega))]
        exact q1 j1
      · rw [tumbref2_StepLines_l1, n1]
        simp only [Option.bind_some, joinT, w3, chk_pos w2]
        rw [chk_pos (decide_eq_true (by omega)), chk_pos (decide_eq_true (by simp only [ByteArray.size_append, k1]; omega)), chk_pos (decide_eq_true (by simp only [ByteArray.size_append, k1]; omega)), chk_pos (decide_eq_true (by simp only [ByteArray.size_append, k1]; omega)), chk_pos (decide_eq_true (by simp only [ByteArray.size_append, k1]; omega)),
          if_neg (by simpa using hk), chk_pos (decide_eq_true (by simp only [ByteArray.size_append, k1, k2]; omega))]
        have he : b ++ (s1 ++ k__20 ++ kw ++ k__20 ++ y.Id) ++ k__0a = b ++ (s1 ++ k__20 ++ kw ++ k__20 ++ y.Id ++ k__0a) := by
          simp only [ByteArray.append_assoc]
        rw [he]
        exact q2 j1
theorem linesS_is (x : List GStep) (hs : ∀ y ∈ x, StT y) (hl : x.length ≤ 400) : ∃ u, tumbref2_StepLines x = some u ∧ u.size ≤ 400 * x.length ∧ (record_CheckSteps x = some 0 → record_Text x = some (u, 0)) := by
  obtain ⟨u, d, h1, h2, h3⟩ := textS_loops x 0 0 k_empty false hs (by show 0 + 400 * x.length ≤ 1000000; omega)
  have h3' : u.size ≤ 400 * x.length := by have : k_empty.size = 0 := rfl; omega
  refine ⟨u, ?_, h3', fun hc => ?_⟩
  · unfold tumbref2_StepLines
    rw [joinT]
    exact h2 _
  · unfold record_Text
    rw [hc]
    simp only [Option.bind_some, decide_true, Bool.not_true, Bool.false_eq_true, if_false, joinT]
    have he : ByteArray.empty = k_empty := rfl
    rw [he, h1, if_neg (by simp; omega)]
section
variable {L : List Int} (hL : LongL L)
include hL
theorem textSt_loop (r3 : Int × Int) (hr : r3.1 ≤ 2) (j1 : Int → ByteArray → Option (ByteArray × Int)) : ∀ (m : Nat) (a : Int) (t : ByteArray) (i : Int), 0 ≤ i → i ≤ r3.1 → r3.1 - i < (m : Int) → 0 ≤ a → a + 3 * m ≤ 1000000 → t.size + 100 * m ≤ 100000 →
    ∃ b u, Stream_StepText_l1 r3 L j1 m a t i = j1 b u
  | 0, a, t, i, h0, h0', h1, h2, h3, h4 => by omega
  | m + 1, a, t, i, h0, h0', h1, h2, h3, h4 => by
    rw [Stream_StepText_l1]
    by_cases hc : i < r3.1
    · rw [if_pos (decide_eq_true hc)]
      obtain ⟨u, b, e, g1, g2, g3⟩ := changed_dr hL (a := a) h2 (by omega) t k__20_0a0_2d9ivr (by omega) (by decide)
      have hk : k__20_0a0_2d9ivr.size = 8 := rfl
      rw [e, W_in (by omega) (by omega)]
      simp only [Option.bind_some]
      exact textSt_loop r3 hr j1 m b u (i + 1) (by omega) (by omega) (by omega) (by omega) (by omega) (by omega)
    · rw [if_neg (by simpa using hc)]
      exact ⟨a, t, rfl⟩
theorem stepText_ok {a : Int} (ha : 0 ≤ a) (ha' : a ≤ 5000) : ∃ t b, Stream_StepText L a = some (t, b) := by
  obtain ⟨n, b0, e0, p0, q0, n1, n2⟩ := range_dr hL (a := a) (by omega) (by omega) 0 4 (by omega) (by omega) (by omega)
  obtain ⟨x, b, e, g1, g2, g3, g4⟩ := rightSteps_dr hL n (by omega) (by omega) (a := b0) (by omega) (by omega)
  have hT : ∀ y ∈ x, StT y := fun y hy => step_T ((check_up g4).2.2.2 y hy)
  obtain ⟨u, e1, z1, _⟩ := linesS_is x hT (by omega)
  obtain ⟨v, b2, e2, p2, q2, m2⟩ := pick_dr hL (a := b) (by omega) (by omega) [0, 0, 1, 2] (by simp) (by simp)
  simp only [List.mem_cons, List.not_mem_nil, or_false] at m2
  unfold Stream_StepText
  rw [e0]; simp only [Option.bind_some]
  rw [e]; simp only [Option.bind_some]
  rw [e1]; simp only [Option.bind_some]
  rw [e2]; simp only [Option.bind_some, joinT]
  obtain ⟨b3, u', e3⟩ := textSt_loop hL (v, b2) (by show v ≤ 2; omega) (fun x1 x2 => some (x2, x1)) ((v - 0).toNat + 2) b2 u 0 (by omega) (by show 0 ≤ v; omega) (by show v - 0 < _; omega) (by omega) (by omega) (by omega)
  exact ⟨u', b3, e3⟩
end
theorem eqStepT_is (l : List GStep) : slices_Equal_Step l l = some true := by
  unfold slices_Equal_Step
  rw [if_neg (by simp), joinT]
  exact eq_l l (slices_Equal_Step_l1 l (some true)) (fun _ => rfl) (fun _ _ _ => rfl) l [] rfl
theorem plain_StepTexts (l : List Int) (hl : l.length ≤ 9223372036854775807) : tumblaw2_StepTexts l = some true := by
  have hL : LongL l := by unfold LongL; omega
  obtain ⟨n, a0, e0, p0, q0, n1, n2⟩ := range_dr hL (a := 0) (by omega) (by omega) 0 6 (by omega) (by omega) (by omega)
  obtain ⟨x, a1, e1, p1, q1, x1⟩ := steps_dr hL n (by omega) (by omega) (a := a0) (by omega) (by omega)
  obtain ⟨t, a2, e2⟩ := stepText_ok hL (a := a1) (by omega) (by omega)
  obtain ⟨b, i, f, r1, r2⟩ := readS_both t
  obtain ⟨e, c1, c2, _⟩ := steps_both x
  unfold tumblaw2_StepTexts
  rw [e0]; simp only [Option.bind_some]
  rw [e1]; simp only [Option.bind_some]
  rw [e2]; simp only [Option.bind_some]
  rw [c2, r1, r2]; simp only [Option.bind_some, joinT]
  by_cases he : e = 0
  · subst he
    obtain ⟨u, u1, _, u3⟩ := linesS_is x (fun y hy => step_T ((check_up c1).2.2.2 y hy)) (by omega)
    rw [u3 c1, u1]
    simp only [Option.bind_some, decide_true, if_true, Bool.and_self, Bool.true_and, eqStepT_is, recordedT_ok]
  · have ht : record_Text x = some (k_empty, e) := by
      unfold record_Text
      rw [c1]
      simp only [Option.bind_some]
      rw [if_pos (by simpa using he)]
    rw [ht]
    simp only [Option.bind_some]
    rw [if_neg (by simpa using he)]
    simp only [Option.bind_some, decide_true, if_true, Bool.and_self, Bool.true_and, eqStepT_is, recordedT_ok]
end Go.Proofs.YtamfhhmfioghgaaGreatDoor
