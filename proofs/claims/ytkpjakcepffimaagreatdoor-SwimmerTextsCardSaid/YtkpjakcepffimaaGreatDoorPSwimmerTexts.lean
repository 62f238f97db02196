/- The plain law of SwimmerTexts. No program stands here but its twins. -/
import Derived.Test.YtkpjakcepffimaaGreatDoorPSplitT
import Derived.Test.YtkpjakcepffimaaGreatDoorPList
import Derived.Test.YtkpjakcepffimaaGreatDoorPSwim
import Derived.Test.YtkpjakcepffimaaGreatDoorPSwimS
import Derived.Test.YtkpjakcepffimaaGreatDoorPDayOf
import Derived.Test.YtkpjakcepffimaaGreatDoorPDayFor
namespace Go.Proofs.YtkpjakcepffimaaGreatDoor
open Go
theorem datedT_ok : tumblaw2_dated = some true := by decide +kernel
theorem four {l : List UInt8} (h : l.length = 4) : ∃ x0 x1 x2 x3, l = [x0, x1, x2, x3] := by
  match l, h with
  | [x0, x1, x2, x3], _ => exact ⟨x0, x1, x2, x3, rfl⟩
theorem two {l : List UInt8} (h : l.length = 2) : ∃ x0 x1, l = [x0, x1] := by
  match l, h with
  | [x0, x1], _ => exact ⟨x0, x1, rfl⟩
theorem rd_step (j : List Int → Option (Int × Bool)) (y : ByteArray) (ys : List ByteArray) (i : Nat) (x : List Int) (h1 : 1 ≤ y.size) (h2 : y.size ≤ 15) (hx : x.length ≤ 10) :
    swimmer_readDate_l1 j (y :: ys) i x = if dgs y.data.toList then (strconv_Atoi y).bind (fun n => swimmer_readDate_l1 j ys (i + 1) (x ++ [n])) else some (0, false) := by
  obtain ⟨t, e, ht⟩ := trimDig y (by omega)
  have hr : room x.length = true := by unfold room; exact decide_eq_true (by omega)
  rw [swimmer_readDate_l1, e]
  simp only [Option.bind_some, chk_pos hr]
  cases hd : dgs y.data.toList with
  | true =>
    rw [hd] at ht
    rw [ht, if_neg (by simp), if_pos rfl]
  | false =>
    rw [hd] at ht
    rw [ht, if_pos (by simp), if_neg (by simp)]
theorem readDate_ten (s : ByteArray) {x0 x1 x2 x3 x4 x5 x6 x7 x8 x9 : UInt8} (hl : s.data.toList = [x0, x1, x2, x3, x4, x5, x6, x7, x8, x9]) :
    ∃ pa pb pc : ByteArray, pa.data.toList = [x0, x1, x2, x3] ∧ pb.data.toList = [x5, x6] ∧ pc.data.toList = [x8, x9] ∧
      swimmer_readDate s = if x4 = 45 ∧ x7 = 45 then swimmer_readDate_l1 (fun x1 => Chk (inB 0 x1.length) (Chk (inB 1 x1.length) (Chk (inB 2 x1.length) (Option.bind (swimmer_DayOf (GDate.mk (nth x1 0) (nth x1 1) (nth x1 2))) (fun r3 => some (r3.1, decide (r3.2 = 0))))))) [pa, pb, pc] 0 [] else some (0, false) := by
  have hs : s.size = 10 := by rw [size_list, hl]; rfl
  have b4 : sbyte s 4 = (x4.toNat : Int) := by unfold sbyte; rw [hl]; rfl
  have b7 : sbyte s 7 = (x7.toNat : Int) := by unfold sbyte; rw [hl]; rfl
  have d1 : (scut s 0 4).data.toList = [x0, x1, x2, x3] := by unfold scut; rw [Lib.extract_data, hl]; rfl
  have d2 : (scut s 5 7).data.toList = [x5, x6] := by unfold scut; rw [Lib.extract_data, hl]; rfl
  have d3 : (scut s 8 (s.size : Int)).data.toList = [x8, x9] := by unfold scut; rw [Lib.extract_data, hl, hs]; rfl
  have byte : ∀ x : UInt8, decide ((x.toNat : Int) = 45) = decide (x = 45) := fun x => by
    by_cases hx : x = 45
    · subst hx; rfl
    · rw [decide_eq_false hx, decide_eq_false fun e => hx (UInt8.toNat_inj.1 (by rw [show (45 : UInt8).toNat = 45 from rfl]; omega))]
  refine ⟨_, _, _, d1, d2, d3, ?_⟩
  unfold swimmer_readDate
  have h10 : decide ((s.size : Int) = 10) = true := decide_eq_true (by omega)
  simp only [join_eq, h10, Bool.not_true, Bool.false_eq_true, if_false, Bool.false_or]
  rw [chk_pos (inB_iff.2 (by omega)), b4, byte]
  by_cases h4 : x4 = 45
  · rw [decide_eq_true h4]
    simp only [Bool.not_true, Bool.false_eq_true, if_false, Bool.false_or]
    rw [chk_pos (inB_iff.2 (by omega)), b7, byte]
    by_cases h7 : x7 = 45
    · rw [decide_eq_true h7, if_pos (⟨h4, h7⟩ : x4 = 45 ∧ x7 = 45)]
      simp only [Bool.not_true, Bool.false_eq_true, if_false]
      rw [chk_pos (cutB_iff.2 (by omega)), chk_pos (cutB_iff.2 (by omega)), chk_pos (cutB_iff.2 (by omega))]
    · rw [decide_eq_false h7, if_neg (show ¬ (x4 = 45 ∧ x7 = 45) from fun h => h7 h.2)]
      simp only [Bool.not_false, if_true]
  · rw [decide_eq_false h4, if_neg (show ¬ (x4 = 45 ∧ x7 = 45) from fun h => h4 h.1)]
    simp only [Bool.not_false, if_true, Bool.true_or]
theorem readDate_dt {s a b c : ByteArray} (h : Dt s a b c) : ∃ y m d, strconv_Atoi a = some y ∧ strconv_Atoi b = some m ∧ strconv_Atoi c = some d ∧
    swimmer_readDate s = some ((dayD ⟨y, m, d⟩).1, decide ((dayD ⟨y, m, d⟩).2 = 0)) := by
  obtain ⟨l1, l2, l3⟩ := h.len
  obtain ⟨g1, g2, g3⟩ := h.dig
  obtain ⟨x0, x1, x2, x3, ea⟩ := four (l := a.data.toList) (by rw [← size_list]; exact l1)
  obtain ⟨x5, x6, eb⟩ := two (l := b.data.toList) (by rw [← size_list]; exact l2)
  obtain ⟨x8, x9, ec⟩ := two (l := c.data.toList) (by rw [← size_list]; exact l3)
  have hl : s.data.toList = [x0, x1, x2, x3, 45, x5, x6, 45, x8, x9] := by rw [h.is, ea, eb, ec]; rfl
  obtain ⟨pa, pb, pc, q1, q2, q3, e⟩ := readDate_ten s hl
  obtain rfl : pa = a := bytes_ext (q1.trans ea.symm)
  obtain rfl : pb = b := bytes_ext (q2.trans eb.symm)
  obtain rfl : pc = c := bytes_ext (q3.trans ec.symm)
  obtain ⟨y, ey⟩ := atoiDig pa g1 (by omega) (by omega)
  obtain ⟨m, em⟩ := atoiDig pb g2 (by omega) (by omega)
  obtain ⟨d, ed⟩ := atoiDig pc g3 (by omega) (by omega)
  refine ⟨y, m, d, ey, em, ed, ?_⟩
  rw [e, if_pos ⟨rfl, rfl⟩, rd_step _ _ _ _ _ (by omega) (by omega) (by simp), if_pos g1, ey, Option.bind_some, rd_step _ _ _ _ _ (by omega) (by omega) (by simp), if_pos g2, em, Option.bind_some,
    rd_step _ _ _ _ _ (by omega) (by omega) (by simp), if_pos g3, ed, Option.bind_some, swimmer_readDate_l1]
  simp only [List.nil_append, List.cons_append]
  rw [chk_pos (show inB 0 [y, m, d].length = true from (by decide : inB 0 3 = true)), chk_pos (show inB 1 [y, m, d].length = true from (by decide : inB 1 3 = true)), chk_pos (show inB 2 [y, m, d].length = true from (by decide : inB 2 3 = true))]
  have n0 : nth [y, m, d] 0 = y := rfl
  have n1 : nth [y, m, d] 1 = m := rfl
  have n2 : nth [y, m, d] 2 = d := rfl
  rw [n0, n1, n2, dayOf_ok, Option.bind_some]
theorem readDate_no {s : ByteArray} (h : ∀ a b c, ¬ Dt s a b c) : ∃ n, swimmer_readDate s = some (n, false) := by
  by_cases h10 : (s.size : Int) = 10
  · obtain ⟨x0, x1, x2, x3, x4, x5, x6, x7, x8, x9, hl⟩ := ten (l := s.data.toList) (by rw [← size_list]; omega)
    obtain ⟨pa, pb, pc, q1, q2, q3, e⟩ := readDate_ten s hl
    have z1 : pa.size = 4 := by rw [size_list, q1]; rfl
    have z2 : pb.size = 2 := by rw [size_list, q2]; rfl
    have z3 : pc.size = 2 := by rw [size_list, q3]; rfl
    rw [e]
    by_cases h47 : x4 = 45 ∧ x7 = 45
    · rw [if_pos h47, rd_step _ _ _ _ _ (by omega) (by omega) (by simp)]
      by_cases g1 : dgs pa.data.toList = true
      · obtain ⟨y, ey⟩ := atoiDig pa g1 (by omega) (by omega)
        rw [if_pos g1, ey, Option.bind_some, rd_step _ _ _ _ _ (by omega) (by omega) (by simp)]
        by_cases g2 : dgs pb.data.toList = true
        · obtain ⟨m, em⟩ := atoiDig pb g2 (by omega) (by omega)
          rw [if_pos g2, em, Option.bind_some, rd_step _ _ _ _ _ (by omega) (by omega) (by simp)]
          by_cases g3 : dgs pc.data.toList = true
          · refine absurd (⟨?_, ⟨z1, z2, z3⟩, g1, g2, g3⟩ : Dt s pa pb pc) (h pa pb pc)
            rw [hl, q1, q2, q3, h47.1, h47.2]
            rfl
          · rw [if_neg g3]; exact ⟨0, rfl⟩
        · rw [if_neg g2]; exact ⟨0, rfl⟩
      · rw [if_neg g1]; exact ⟨0, rfl⟩
    · rw [if_neg h47]; exact ⟨0, rfl⟩
  · unfold swimmer_readDate
    simp only [join_eq, decide_eq_false h10, Bool.not_false, if_true, Bool.true_or]
    exact ⟨0, rfl⟩
theorem fm_ne : ¬ k_f = k_m ∧ ¬ k_m = k_f := by decide
theorem idx_f : strings_Index k__20fm k_f = some 1 := by decide +kernel
theorem idx_m : strings_Index k__20fm k_m = some 2 := by decide +kernel
theorem prog_line (line : ByteArray) (x : List GSwimmer) (w : List ByteArray) (hw : words_Split line = some (w, true)) (h3 : (w.length : Int) = 3) (hr : room x.length = true) {n : Int} {ok : Bool} (hd : swimmer_readDate (nth w 2) = some (n, ok)) :
    ∃ x', swimmer_Read_c1 line x = some (ok && (decide (nth w 1 = k_f) || decide (nth w 1 = k_m)), x') ∧ x' = x ++ [GSwimmer.mk (nth w 0) (if nth w 1 = k_m then 2 else 1) n] := by
  have i0 : inB 0 w.length = true := inB_iff.2 (by omega)
  have i1 : inB 1 w.length = true := inB_iff.2 (by omega)
  have i2 : inB 2 w.length = true := inB_iff.2 (by omega)
  refine ⟨_, ?_, rfl⟩
  unfold swimmer_Read_c1
  rw [hw]
  simp only [Option.bind_some, h3, decide_true, Bool.not_true, Bool.or_self, Bool.false_eq_true, if_false, join_eq, chk_pos i0, chk_pos i1, chk_pos i2, hd, chk_pos hr]
  by_cases hm : nth w 1 = k_m
  · have hf : ¬ nth w 1 = k_f := fun e => fm_ne.1 (e.symm.trans hm)
    cases ok <;> simp [hm, fm_ne.2]
  · by_cases hf : nth w 1 = k_f
    · cases ok <;> simp [hf, fm_ne.1]
    · cases ok <;> simp [hf, hm]
theorem lineW_both (line : ByteArray) (x : List GSwimmer) (hl : line.size ≤ 200000) (hx : x.length ≤ 200000) : ∃ b x' y', swimmer_Read_c1 line x = some (b, x') ∧ tumbref2_SwimmersRead_c1 line x = some (b, y') ∧ (b = true → x' = y' ∧ x'.length ≤ x.length + 1) := by
  have hr : room x.length = true := by unfold room; exact decide_eq_true (by omega)
  have hws := wSplit_is line (by omega)
  have hp := prog_line line x (wordsT line)
  unfold tumbref2_SwimmersRead_c1 tumbref2_Words
  rw [split_is line (by omega)]
  have hsz := wordsT_size line
  have hbad : (anyE (wordsT line) = true ∨ ¬ ((wordsT line).length : Int) = 3) → swimmer_Read_c1 line x = some (false, x) := fun h => by
    unfold swimmer_Read_c1
    rw [hws]
    by_cases hE : anyE (wordsT line) = true
    · rw [hE]
      simp only [if_true, Option.bind_some, Bool.not_false, Bool.true_or]
    · have h3 : ¬ ((wordsT line).length : Int) = 3 := h.resolve_left hE
      simp only [hE, Bool.false_eq_true, if_false, Option.bind_some, Bool.not_true, Bool.false_or, h3, decide_false, Bool.not_false, if_true]
  generalize wordsT line = w at *
  simp only [Option.bind_some, emptyIn, join_eq]
  cases hE : anyE w with
  | true =>
    simp only [Bool.not_true, Bool.not_false, Bool.true_or, if_true]
    exact ⟨false, x, x, hbad (.inl hE), rfl, fun h => by cases h⟩
  | false =>
    rw [hE] at hws
    simp only [Bool.false_eq_true, if_false] at hws
    by_cases h3 : (w.length : Int) = 3
    · have i0 : inB 0 w.length = true := inB_iff.2 (by omega)
      have i1 : inB 1 w.length = true := inB_iff.2 (by omega)
      have i2 : inB 2 w.length = true := inB_iff.2 (by omega)
      have hmem : nth w 2 ∈ w := by
        have : nth w 2 = w[2]'(by omega) := by simp [nth, List.getD, List.getElem?_eq_getElem (show 2 < w.length by omega)]
        rw [this]; exact List.getElem_mem _
      have hs2 := hsz _ hmem
      simp only [h3, decide_true, Bool.not_true, Bool.not_false, Bool.or_self, Bool.false_eq_true, if_false, Bool.false_or, chk_pos i0, chk_pos i1, chk_pos i2]
      by_cases hdt : ∃ a b c, Dt (nth w 2) a b c
      · obtain ⟨a, b, c, hD⟩ := hdt
        obtain ⟨y, m, d, ey, em, ed, erd⟩ := readDate_dt hD
        obtain ⟨x', e, hx'⟩ := hp hws h3 hr erd
        obtain ⟨l1, l2, l3⟩ := hD.len
        have j0 : inB 0 [a, b, c].length = true := (by decide : inB 0 3 = true)
        have j1 : inB 1 [a, b, c].length = true := (by decide : inB 1 3 = true)
        have j2 : inB 2 [a, b, c].length = true := (by decide : inB 2 3 = true)
        have n0 : nth [a, b, c] 0 = a := rfl
        have n1 : nth [a, b, c] 1 = b := rfl
        have n2 : nth [a, b, c] 2 = c := rfl
        have q3 : decide (([a, b, c].length : Int) = 3) = true := rfl
        have qa : decide ((a.size : Int) = 4) = true := decide_eq_true (by omega)
        have qb : decide ((b.size : Int) = 2) = true := decide_eq_true (by omega)
        have qc : decide ((c.size : Int) = 2) = true := decide_eq_true (by omega)
        have s1 : decide (a.size + b.size < 1073741824) = true := decide_eq_true (by omega)
        have s2 : decide ((a ++ b).size + c.size < 1073741824) = true := decide_eq_true (by rw [ByteArray.size_append]; omega)
        have hon : tumbref2_only ((a ++ b) ++ c) k_0123456789 = some true := by
          rw [only_eq _ _ (by rw [ByteArray.size_append, ByteArray.size_append]; omega)]
          obtain ⟨g1, g2, g3⟩ := hD.dig
          unfold dgs at g1 g2 g3
          simp only [ByteArray.data_append, Array.toList_append, List.all_append, g1, g2, g3, Bool.and_self]
        rw [splitDash_is _ (by omega), hD.split]
        simp only [Option.bind_some, q3, qa, qb, qc, n0, n1, n2, chk_pos j0, chk_pos j1, chk_pos j2, chk_pos s1, chk_pos s2, hon, Bool.not_true, Bool.false_eq_true, if_false, ey, em, ed, dayFor_ok, chk_pos hr]
        rw [e]
        by_cases hf : nth w 1 = k_f
        · simp only [hf, decide_true, Bool.not_true, Bool.false_and, Bool.false_eq_true, if_false, idx_f, Option.bind_some, Bool.true_or, Bool.and_true]
          refine ⟨_, _, _, rfl, rfl, fun _ => ⟨?_, by rw [hx']; simp⟩⟩
          rw [hx', hf, if_neg fm_ne.1]
        · by_cases hm : nth w 1 = k_m
          · simp only [hm, fm_ne.2, decide_false, decide_true, Bool.not_false, Bool.not_true, Bool.and_false, Bool.true_and, Bool.false_eq_true, if_false, if_true, idx_m, Option.bind_some, Bool.false_or, Bool.and_true]
            refine ⟨_, _, _, rfl, rfl, fun _ => ⟨?_, by rw [hx']; simp⟩⟩
            rw [hx', hm, if_pos rfl]
          · simp only [hf, hm, decide_false, Bool.not_false, Bool.and_self, if_true, Bool.or_self, Bool.and_false]
            exact ⟨false, _, x, rfl, rfl, fun h => by cases h⟩
      · have hno : ∀ a b c, ¬ Dt (nth w 2) a b c := fun a b c h => hdt ⟨a, b, c, h⟩
        obtain ⟨n, erd⟩ := readDate_no hno
        obtain ⟨x', e, hx'⟩ := hp hws h3 hr erd
        rw [e]
        simp only [Bool.false_and]
        refine ⟨false, x', x, rfl, ?_, fun h => by cases h⟩
        rw [splitDash_is _ (by omega)]
        have hof := fun a b c => Dt.of_split (s := nth w 2) (a := a) (b := b) (c := c)
        have hpc := pieces k__2d (Lib.countB (nth w 2) k__2d) (nth w 2)
        generalize Lib.splitB k__2d 0 (Lib.countB (nth w 2) k__2d) (nth w 2) = r at *
        have hj3 : ∀ z : Option (Bool × List GSwimmer), (if true = true then (some (false, x) : Option (Bool × List GSwimmer)) else z) = some (false, x) := fun z => if_pos rfl
        have fin : ∀ A : Option (Bool × List GSwimmer), A = some (false, x) → (if (!decide (nth w 1 = k_f)) = true then (if ((!decide (nth w 1 = k_f)) && (!decide (nth w 1 = k_m))) = true then some (false, x) else A) else (if ((!decide (nth w 1 = k_f)) && true) = true then some (false, x) else A)) = some (false, x) := fun A hA => by
          rw [hA]; simp
        refine fin _ ?_
        simp only [Option.bind_some]
        by_cases hr3 : (r.length : Int) = 3
        · obtain ⟨a, b, c, rfl⟩ : ∃ a b c, r = [a, b, c] := by
            match r, hr3 with
            | [a, b, c], _ => exact ⟨a, b, c, rfl⟩
            | [], h => simp at h
            | [_], h => simp at h
            | [_, _], h => simp at h
            | _ :: _ :: _ :: _ :: _, h => simp at h; omega
          have z0 := hpc a (by simp)
          have z1 := hpc b (by simp)
          have z2 := hpc c (by simp)
          have j0 : inB 0 [a, b, c].length = true := (by decide : inB 0 3 = true)
          have j1 : inB 1 [a, b, c].length = true := (by decide : inB 1 3 = true)
          have j2 : inB 2 [a, b, c].length = true := (by decide : inB 2 3 = true)
          have n0 : nth [a, b, c] 0 = a := rfl
          have n1 : nth [a, b, c] 1 = b := rfl
          have n2 : nth [a, b, c] 2 = c := rfl
          have q3 : decide (([a, b, c].length : Int) = 3) = true := rfl
          have s1 : decide (a.size + b.size < 1073741824) = true := decide_eq_true (by omega)
          have s2 : decide ((a ++ b).size + c.size < 1073741824) = true := decide_eq_true (by rw [ByteArray.size_append]; omega)
          have hon : tumbref2_only ((a ++ b) ++ c) k_0123456789 = some (dgs ((a ++ b) ++ c).data.toList) := only_eq _ _ (by rw [ByteArray.size_append, ByteArray.size_append]; omega)
          simp only [q3, n0, n1, n2, chk_pos j0, chk_pos j1, chk_pos j2, chk_pos s1, chk_pos s2, hon, Bool.not_true, Bool.false_eq_true, if_false, if_true, Option.bind_some]
          by_cases ha : (a.size : Int) = 4
          · by_cases hb : (b.size : Int) = 2
            · by_cases hc : (c.size : Int) = 2
              · have hg : dgs ((a ++ b) ++ c).data.toList = false := by
                  cases hg : dgs ((a ++ b) ++ c).data.toList with
                  | false => rfl
                  | true => exact absurd (hof a b c rfl ⟨by omega, by omega, by omega⟩ hg) (hno a b c)
                simp only [ha, hb, hc, hg, decide_true, Bool.not_true, Bool.not_false, Bool.false_eq_true, if_false, if_true]
              · simp only [ha, hb, hc, decide_true, decide_false, Bool.not_true, Bool.not_false, Bool.false_eq_true, if_false, if_true]
            · simp only [ha, hb, decide_true, decide_false, Bool.not_true, Bool.not_false, Bool.false_eq_true, if_false, if_true]
          · simp only [ha, decide_false, Bool.not_false, if_true]
        · simp only [hr3, decide_false, Bool.not_false, if_true]
    · simp only [h3, decide_false, Bool.not_true, Bool.not_false, Bool.or_true, if_true, Bool.false_or, Bool.true_or]
      exact ⟨false, x, x, hbad (.inr h3), rfl, fun h => by cases h⟩
theorem clipW (l : List GSwimmer) : slices_Clip_Swimmer l = some l := by
  unfold slices_Clip_Swimmer
  rw [chk_pos (cutB_iff.2 (by omega))]
  unfold cut
  simp
theorem readW_both (t : ByteArray) : ∃ b i f, swimmer_Read t = some (b, i, f) ∧ tumbref2_SwimmersRead t = some (b, i, f) := by
  unfold swimmer_Read tumbref2_SwimmersRead
  by_cases h : 200000 < (t.size : Int)
  · rw [if_pos (decide_eq_true h), if_pos (decide_eq_true h)]
    exact ⟨_, _, _, rfl, rfl⟩
  · rw [if_neg (by simpa using h), if_neg (by simpa using h)]
    unfold words_Lines_swimmer_Read_c1 tumbref2_Lines_tumbref2_SwimmersRead_c1
    simp only [join_eq]
    obtain ⟨n, ok, x', y', e1, e2, e3⟩ := lines_both swimmer_Read_c1 tumbref2_SwimmersRead_c1 200000 (by omega) (fun line x h1 h2 => lineW_both line x h1 h2) (fun x1 => some (0, true, x1)) (fun x1 => some (0, true, x1))
      (words_Lines_swimmer_Read_c1_l1 fun x1 => some (0, true, x1)) (tumbref2_Lines_tumbref2_SwimmersRead_c1_l1 fun x1 => some (0, true, x1)) (fun _ _ _ _ => rfl) (fun _ _ _ _ => rfl) 200000 4611686018427387904 [] t 0 (by omega) (by omega) (by simp)
    rw [e1, e2]
    cases ok with
    | false =>
      simp only [Bool.false_eq_true, if_false, Option.bind_some, Bool.not_false, if_true]
      exact ⟨_, _, _, rfl, rfl⟩
    | true =>
      obtain ⟨rfl, _⟩ := e3 rfl
      simp only [if_true, Option.bind_some, Bool.not_true, Bool.false_eq_true, if_false]
      obtain ⟨e, c1, c2, _⟩ := swim_eq x'
      rw [c1, c2]
      simp only [Option.bind_some, clipW]
      by_cases he : e = 0
      · simp only [he, decide_true, Bool.not_true, Bool.false_eq_true, if_false]
        exact ⟨_, _, _, rfl, rfl⟩
      · simp only [he, decide_false, Bool.not_false, if_true]
        exact ⟨_, _, _, rfl, rfl⟩
theorem padded_both (n many : Int) (h0 : -1000000 ≤ n) (h1 : n ≤ 1000000) (h2 : 0 ≤ many) (h3 : many ≤ 4) : ∃ u, swimmer_padded n many = some u ∧ tumbref2_padded n many = some u ∧ u.size ≤ 30 := by
  obtain ⟨s, e, hs, _⟩ := itoa_is n (by omega) (by omega)
  unfold swimmer_padded tumbref2_padded
  rw [e]
  simp only [Option.bind_some]
  rw [W_in (by omega) (by omega)]
  have hq : 0 ≤ imax 0 (many - (s.size : Int)) ∧ imax 0 (many - (s.size : Int)) ≤ 4 := by
    unfold imax
    split <;> omega
  generalize imax 0 (many - (s.size : Int)) = q at *
  have hk : k_0.size = 1 := rfl
  have hrep : ∃ r, strings_Repeat k_0 q = some r ∧ r.size ≤ 4 := by
    unfold strings_Repeat
    rw [chk_pos (by simp only [Bool.and_eq_true, decide_eq_true_eq]; omega)]
    refine ⟨_, rfl, ?_⟩
    rw [size_list]
    simp only [List.toList_toArray, Lib.repeatL_length]
    have : k_0.data.toList.length = 1 := rfl
    rw [this]
    omega
  obtain ⟨r, er, hr⟩ := hrep
  rw [er]
  simp only [Option.bind_some]
  rw [chk_pos (decide_eq_true (by omega))]
  exact ⟨_, rfl, rfl, by rw [ByteArray.size_append]; omega⟩
def SwT (y : GSwimmer) : Prop := y.Key.size ≤ 40 ∧ SGood y
theorem textW_loops : ∀ (ys : List GSwimmer) (i i' : Nat) (b : ByteArray) (d : Bool), (∀ y ∈ ys, SwT y) → b.size + 200 * ys.length ≤ 100000 →
    ∃ u d', (∀ j1 : ByteArray → Bool → Option (ByteArray × Int), swimmer_Text_l1 j1 ys i b d = j1 u d') ∧ (∀ j1 : ByteArray → Option ByteArray, tumbref2_SwimmerLines_l1 j1 ys i' b = j1 u) ∧ u.size ≤ b.size + 200 * ys.length
  | [], i, i', b, d, _, _ => ⟨b, d, fun _ => rfl, fun _ => rfl, by simp⟩
  | y :: ys, i, i', b, d, hs, hb => by
    simp only [List.length_cons] at hb
    obtain ⟨g1, g2, g3, g4⟩ := hs y List.mem_cons_self
    obtain ⟨g, f1, f2, hI⟩ := dates_eq g3 (by omega : y.Born ≤ 4001)
    have hy := year_rng hI (by omega) (by omega)
    have hml := ml_rng g.Year g.Month
    have hm1 := hI.m1
    have hm2 := hI.m12
    have hd1 := hI.d1
    have hd2 := hI.dl
    obtain ⟨p1, a1, b1, z1⟩ := padded_both g.Year 4 (by omega) (by omega) (by omega) (by omega)
    obtain ⟨p2, a2, b2, z2⟩ := padded_both g.Month 2 (by omega) (by omega) (by omega) (by omega)
    obtain ⟨p3, a3, b3, z3⟩ := padded_both g.Day 2 (by omega) (by omega) (by omega) (by omega)
    have k1 : k__20.size = 1 := rfl
    have k2 : k__0a.size = 1 := rfl
    have k3 : k__2d.size = 1 := rfl
    have hs' : ∀ z ∈ ys, SwT z := fun z hz => hs z (List.mem_cons_of_mem _ hz)
    have step : ∀ sx : ByteArray, sx.size = 1 → (if decide (y.Sex = 2) = true then k_m else k_f) = sx → scut k__20fm y.Sex (W (y.Sex + 1)) = sx → cutB y.Sex (W (y.Sex + 1)) k__20fm.size = true →
        ∃ u d', (∀ j1 : ByteArray → Bool → Option (ByteArray × Int), swimmer_Text_l1 j1 (y :: ys) i b d = j1 u d') ∧ (∀ j1 : ByteArray → Option ByteArray, tumbref2_SwimmerLines_l1 j1 (y :: ys) i' b = j1 u) ∧ u.size ≤ b.size + 200 * (ys.length + 1) := by
      intro sx hsx e1 e2 e3
      obtain ⟨u, d', q1, q2, q3⟩ := textW_loops ys (i + 1) (i' + 1) (b ++ (((((((((y.Key ++ k__20) ++ sx) ++ k__20) ++ p1) ++ k__2d) ++ p2) ++ k__2d) ++ p3) ++ k__0a)) true hs' (by simp only [ByteArray.size_append, k1, k2, k3]; omega)
      simp only [ByteArray.size_append, k1, k2, k3] at q3
      refine ⟨u, d', fun j1 => ?_, fun j1 => ?_, by omega⟩
      · have hx : ∀ F : ByteArray → Option (ByteArray × Int), Join F (fun j2 => if decide (y.Sex = 2) = true then j2 k_m else j2 k_f) = F sx := fun F => by
          rw [join_eq, ← e1]; split <;> rfl
        rw [swimmer_Text_l1, hx, f1]
        simp only [Option.bind_some, a1, a2, a3]
        rw [chk_pos (decide_eq_true (by omega)), chk_pos (decide_eq_true (by simp only [ByteArray.size_append, k1]; omega)), chk_pos (decide_eq_true (by simp only [ByteArray.size_append, k1]; omega)), chk_pos (decide_eq_true (by simp only [ByteArray.size_append, k1]; omega)),
          chk_pos (decide_eq_true (by simp only [ByteArray.size_append, k1, k3]; omega)), chk_pos (decide_eq_true (by simp only [ByteArray.size_append, k1, k3]; omega)), chk_pos (decide_eq_true (by simp only [ByteArray.size_append, k1, k3]; omega)), chk_pos (decide_eq_true (by simp only [ByteArray.size_append, k1, k3]; omega)),
          chk_pos (decide_eq_true (by simp only [ByteArray.size_append, k1, k2, k3]; omega)), chk_pos (decide_eq_true (by simp only [ByteArray.size_append, k1, k2, k3]; omega))]
        exact q1 j1
      · rw [tumbref2_SwimmerLines_l1, f2]
        simp only [Option.bind_some, b1, b2, b3, e2, chk_pos e3]
        rw [chk_pos (decide_eq_true (by omega)), chk_pos (decide_eq_true (by simp only [ByteArray.size_append, k1]; omega)), chk_pos (decide_eq_true (by simp only [ByteArray.size_append, k1]; omega)), chk_pos (decide_eq_true (by simp only [ByteArray.size_append, k1]; omega)),
          chk_pos (decide_eq_true (by simp only [ByteArray.size_append, k1, k3]; omega)), chk_pos (decide_eq_true (by simp only [ByteArray.size_append, k1, k3]; omega)), chk_pos (decide_eq_true (by simp only [ByteArray.size_append, k1, k3]; omega)), chk_pos (decide_eq_true (by simp only [ByteArray.size_append, k1, k3]; omega)),
          chk_pos (decide_eq_true (by simp only [ByteArray.size_append, k1, k2, k3]; omega)), chk_pos (decide_eq_true (by simp only [ByteArray.size_append, k1, k2, k3]; omega))]
        exact q2 j1
    rcases g2 with h | h
    · exact step k_f rfl (by rw [if_neg (by simp; omega)]) (by rw [h]; decide +kernel) (by rw [h]; decide +kernel)
    · exact step k_m rfl (by rw [if_pos (decide_eq_true h)]) (by rw [h]; decide +kernel) (by rw [h]; decide +kernel)
theorem linesW_is (x : List GSwimmer) (hs : ∀ y ∈ x, SwT y) (hl : x.length ≤ 100) : ∃ u, tumbref2_SwimmerLines x = some u ∧ u.size ≤ 200 * x.length ∧ (swimmer_CheckSwimmers x = some 0 → swimmer_Text x = some (u, 0)) := by
  obtain ⟨u, d, h1, h2, h3⟩ := textW_loops x 0 0 k_empty false hs (by show 0 + 200 * x.length ≤ 100000; omega)
  have h3' : u.size ≤ 200 * x.length := by have : k_empty.size = 0 := rfl; omega
  refine ⟨u, ?_, h3', fun hc => ?_⟩
  · unfold tumbref2_SwimmerLines
    rw [join_eq]
    exact h2 _
  · unfold swimmer_Text
    rw [hc]
    simp only [Option.bind_some, decide_true, Bool.not_true, Bool.false_eq_true, if_false, join_eq]
    have he : ByteArray.empty = k_empty := rfl
    rw [he, h1, if_neg (by simp; omega)]
theorem keyW_small {s : ByteArray} (h : words_IsKey s = some true) : s.size ≤ 40 := by
  obtain ⟨b, h1, h2⟩ := isKey_eq s
  rw [h] at h1
  obtain rfl := Option.some.inj h1
  by_cases hs : 1 ≤ s.size ∧ s.size ≤ 40
  · exact hs.2
  · have hin : tumbref2_in (s.size : Int) 1 40 = false := by unfold tumbref2_in; simp; omega
    unfold tumbref2_Key at h2
    simp only [join_eq, hin, Bool.false_eq_true, if_false, Bool.false_and] at h2
    cases h2
theorem keysW (l : List GSwimmer) (hl : l.length ≤ 1000) : ∀ (ys : List GSwimmer) (dn : List GSwimmer), l = dn ++ ys → swimmer_CheckSwimmers_l1 l (some 0) ys dn.length = some 0 → ∀ y ∈ ys, y.Key.size ≤ 40
  | [], _, _, _, y, hy => by cases hy
  | z :: ys, dn, hd, h, y, hy => by
    have hlen : l.length = dn.length + (ys.length + 1) := by rw [hd]; simp
    rw [swimmer_CheckSwimmers_l1] at h
    obtain ⟨b, hk, _⟩ := isKey_eq z.Key
    rw [hk] at h
    simp only [Option.bind_some, join_eq] at h
    cases b with
    | false => simp at h
    | true =>
      have key : swimmer_CheckSwimmers_l1 l (some 0) ys (dn.length + 1) = some 0 := by
        simp only [Bool.not_true, Bool.false_eq_true, if_false] at h
        have inner : ∀ c : Bool, (if c = true then (some 7 : Option Int) else if (!decide (z.Sex = 1) && !decide (z.Sex = 2) || !swimmer_isDay z.Born) = true then some 1 else swimmer_CheckSwimmers_l1 l (some 0) ys (dn.length + 1)) = some 0 → swimmer_CheckSwimmers_l1 l (some 0) ys (dn.length + 1) = some 0 := fun c hc => by
          split at hc
          · cases hc
          · split at hc
            · cases hc
            · exact hc
        by_cases h0 : (0 : Int) < (dn.length : Int)
        · rw [if_pos (decide_eq_true h0), W_in (by omega) (by omega), chk_pos (inB_iff.2 (by omega))] at h
          exact inner _ h
        · rw [if_neg (by simpa using h0)] at h
          exact inner _ h
      rcases List.mem_cons.1 hy with rfl | hy
      · exact keyW_small hk
      · exact keysW l hl ys (dn ++ [z]) (by rw [hd]; simp) (by rw [List.length_append]; exact key) y hy
theorem check_T {x : List GSwimmer} (hl : x.length ≤ 100) (h : swimmer_CheckSwimmers x = some 0) : ∀ y ∈ x, SwT y := fun y hy => by
  obtain ⟨e, c1, _, c3⟩ := swim_eq x
  have he : e = 0 := by rw [h] at c1; exact (Option.some.inj c1).symm
  refine ⟨?_, c3 he y hy⟩
  unfold swimmer_CheckSwimmers at h
  rw [if_neg (by simp; omega), join_eq] at h
  exact keysW x (by omega) x [] rfl h y hy
section
variable {L : List Int} (hL : LongL L)
include hL
theorem rightW_l : ∀ (ys : List ByteArray) (i : Nat) (x1 : List GSwimmer) (a : Int), 0 ≤ a → a + 3 * ys.length ≤ 1000000000000 → x1.length + ys.length ≤ 1000 → (∀ y ∈ ys, y.size ≤ 40) → (∀ y ∈ x1, SwT y) →
    ∃ x b, Stream_RightSwimmers_l1 L (fun x a => some (x, a)) ys i x1 a = some (x, b) ∧ a ≤ b ∧ b ≤ a + 3 * ys.length ∧ x.length ≤ x1.length + ys.length ∧ ∀ y ∈ x, SwT y
  | [], i, x1, a, _, _, _, _, hT => ⟨x1, a, rfl, Int.le_refl _, by simp, by simp, hT⟩
  | y :: ys, i, x1, a, h0, h1, h2, hk, hT => by
    have hk' : ∀ z ∈ ys, z.size ≤ 40 := fun z hz => hk z (List.mem_cons_of_mem _ hz)
    rw [Stream_RightSwimmers_l1]
    simp only [List.length_cons] at h1 h2 ⊢
    obtain ⟨f, b, e, g1, g2, _⟩ := flip_dr hL h0 (by omega) 8 (by omega)
    rw [e]; simp only [Option.bind_some, join_eq]
    cases f with
    | true =>
      rw [if_pos rfl]
      obtain ⟨x, c, e', g3, g4, g5, g6⟩ := rightW_l ys (i + 1) x1 b (by omega) (by omega) (by omega) hk' hT
      exact ⟨x, c, e', by omega, by omega, by omega, g6⟩
    | false =>
      rw [if_neg (by simp)]
      obtain ⟨s, b2, e2, g3, g4, m1⟩ := pick_dr hL (a := b) (by omega) (by omega) [1, 2] (by simp) (by simp)
      rw [e2]; simp only [Option.bind_some]
      obtain ⟨t, b3, e3, g5, g6, m2⟩ := pick_dr hL (a := b2) (by omega) (by omega) [59, 0, (-1), (-307), (-3653), (-5000), 365, 1520] (by simp) (by simp)
      rw [e3]; simp only [Option.bind_some]
      rw [chk_pos (by unfold room; simp; omega)]
      simp only [List.mem_cons, List.not_mem_nil, or_false] at m1 m2
      obtain ⟨x, c, e', g7, g8, g9, g10⟩ := rightW_l ys (i + 1) (x1 ++ [GSwimmer.mk y s t]) b3 (by omega) (by omega) (by simp; omega) hk' (fun z hz => by
        rcases List.mem_append.1 hz with hz | hz
        · exact hT z hz
        · obtain rfl := List.mem_singleton.1 hz
          exact ⟨hk y List.mem_cons_self, m1, by show -40000 ≤ t; omega, by show t ≤ 4000; omega⟩)
      simp only [List.length_append, List.length_singleton] at g9
      exact ⟨x, c, e', by omega, by omega, by omega, g10⟩
theorem rightW_dr {a : Int} (h0 : 0 ≤ a) (h1 : a ≤ 100000000) : Dr a 18 (fun x => x.length ≤ 6 ∧ ∀ y ∈ x, SwT y) (Stream_RightSwimmers L a) := by
  unfold Stream_RightSwimmers
  simp only [join_eq]
  obtain ⟨x, c, e', g7, g8, g9, g10⟩ := rightW_l hL [k_ann, k_bea, k_cid, k_dan, k_eve, k_fox] 0 [] a h0 (by simp; omega) (by simp) (by decide +kernel) (by simp)
  exact ⟨x, c, e', g7, by simp at g8; omega, by simpa using g9, g10⟩
theorem textSw_loop (r3 : Int × Int) (hr : r3.1 ≤ 2) (j1 : Int → ByteArray → Option (ByteArray × Int)) : ∀ (m : Nat) (a : Int) (t : ByteArray) (i : Int), 0 ≤ i → i ≤ r3.1 → r3.1 - i < (m : Int) → 0 ≤ a → a + 3 * m ≤ 1000000 → t.size + 100 * m ≤ 100000 →
    ∃ b u, Stream_SwimmerText_l1 r3 L j1 m a t i = j1 b u
  | 0, a, t, i, h0, h0', h1, h2, h3, h4 => by omega
  | m + 1, a, t, i, h0, h0', h1, h2, h3, h4 => by
    rw [Stream_SwimmerText_l1]
    by_cases hc : i < r3.1
    · rw [if_pos (decide_eq_true hc)]
      obtain ⟨u, b, e, g1, g2, g3⟩ := changed_dr hL (a := a) h2 (by omega) t k__20_0a0_2d912fm (by omega) (by decide)
      have hk : k__20_0a0_2d912fm.size = 9 := rfl
      rw [e, W_in (by omega) (by omega)]
      simp only [Option.bind_some]
      exact textSw_loop r3 hr j1 m b u (i + 1) (by omega) (by omega) (by omega) (by omega) (by omega) (by omega)
    · rw [if_neg (by simpa using hc)]
      exact ⟨a, t, rfl⟩
theorem swimText_ok {a : Int} (ha : 0 ≤ a) (ha' : a ≤ 5000) : ∃ t b, Stream_SwimmerText L a = some (t, b) := by
  obtain ⟨x, b, e, g1, g2, g3, g4⟩ := rightW_dr hL (a := a) ha (by omega)
  unfold Stream_SwimmerText
  rw [e]; simp only [Option.bind_some]
  have hmin : imin (x.length : Int) 3 = if 3 < (x.length : Int) then 3 else (x.length : Int) := rfl
  have hm0 : 0 ≤ imin (x.length : Int) 3 := by rw [hmin]; split <;> omega
  have hm1 : imin (x.length : Int) 3 ≤ x.length := by rw [hmin]; split <;> omega
  generalize imin (x.length : Int) 3 = q at *
  have hcl : (cut x 0 q).length ≤ 6 := by unfold cut; simp; omega
  obtain ⟨u, e1, z1, _⟩ := linesW_is (cut x 0 q) (fun y hy => g4 y (by
    unfold cut at hy
    exact List.take_subset _ _ (List.drop_subset _ _ hy))) (by omega)
  obtain ⟨v, b2, e2, p2, q2, m2⟩ := pick_dr hL (a := b) (by omega) (by omega) [0, 0, 1, 2] (by simp) (by simp)
  simp only [List.mem_cons, List.not_mem_nil, or_false] at m2
  rw [chk_pos (cutB_iff.2 (by omega)), e1]; simp only [Option.bind_some]
  rw [e2]; simp only [Option.bind_some, join_eq]
  obtain ⟨b3, u', e3⟩ := textSw_loop hL (v, b2) (by show v ≤ 2; omega) (fun x1 x2 => some (x2, x1)) ((v - 0).toNat + 2) b2 u 0 (by omega) (by show 0 ≤ v; omega) (by show v - 0 < _; omega) (by omega) (by omega) (by omega)
  exact ⟨u', b3, e3⟩
end
theorem eqSwT_is (l : List GSwimmer) : slices_Equal_Swimmer l l = some true := by
  unfold slices_Equal_Swimmer
  rw [if_neg (by simp), join_eq]
  exact eq_l l (slices_Equal_Swimmer_l1 l (some true)) (fun _ => rfl) (fun _ _ _ => rfl) l [] rfl
theorem plain_SwimmerTexts (l : List Int) (hl : l.length ≤ 9223372036854775807) : tumblaw2_SwimmerTexts l = some true := by
  have hL : LongL l := by unfold LongL; omega
  obtain ⟨x, a1, e1, p1, q1, hx⟩ := swimmers_dr hL (a := 0) (by omega) (by omega)
  obtain ⟨t, a2, e2⟩ := swimText_ok hL (a := a1) (by omega) (by omega)
  obtain ⟨b, i, f, r1, r2⟩ := readW_both t
  obtain ⟨e, c1, c2, c3⟩ := swim_eq x
  unfold tumblaw2_SwimmerTexts
  rw [e1]; simp only [Option.bind_some]
  rw [e2]; simp only [Option.bind_some]
  rw [c2, r1, r2]; simp only [Option.bind_some, join_eq]
  by_cases he : e = 0
  · subst he
    obtain ⟨u, u1, _, u3⟩ := linesW_is x (check_T (by omega) c1) (by omega)
    rw [u3 c1, u1]
    simp only [Option.bind_some, decide_true, if_true, Bool.and_self, Bool.true_and, eqSwT_is, datedT_ok]
  · have ht : swimmer_Text x = some (k_empty, e) := by
      unfold swimmer_Text
      rw [c1]
      simp only [Option.bind_some]
      rw [if_pos (by simpa using he)]
    rw [ht]
    simp only [Option.bind_some]
    rw [if_neg (by simpa using he)]
    simp only [Option.bind_some, decide_true, if_true, Bool.and_self, Bool.true_and, eqSwT_is, datedT_ok]
end Go.Proofs.YtkpjakcepffimaaGreatDoor
