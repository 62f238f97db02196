/- Words that are cut at a dash: dates that are read. Conditions: the string is not long. No program stands here but its twins. -/
import Derived.Test.YtpfommakhgkmeaaGreatDoorPText
import Derived.Lib.Split
namespace Go.Proofs.YtpfommakhgkmeaaGreatDoor
open Go
theorem ib_none {c : UInt8} : ∀ {l : List UInt8}, c ∉ l → Lib.index l [c] = -1 := by
  intro l h
  rw [Lib.index_one]
  induction l with
  | nil => rfl
  | cons b l ih =>
    unfold Lib.indexByte
    have hb : (b == c) = false := by
      rw [beq_eq_false_iff_ne]; rintro rfl; exact h List.mem_cons_self
    rw [hb, ih fun hm => h (List.mem_cons_of_mem _ hm)]
    rfl
theorem ib_some {c : UInt8} : ∀ {p : List UInt8} (r : List UInt8), c ∉ p → Lib.index (p ++ c :: r) [c] = (p.length : Int) := by
  intro p r h
  rw [Lib.index_one]
  induction p with
  | nil => unfold Lib.indexByte; simp
  | cons b p ih =>
    rw [List.cons_append]
    unfold Lib.indexByte
    have hb : (b == c) = false := by
      rw [beq_eq_false_iff_ne]; rintro rfl; exact h List.mem_cons_self
    rw [hb, ih fun hm => h (List.mem_cons_of_mem _ hm)]
    have hne : (((p.length : Int)) == -1) = false := by rw [beq_eq_false_iff_ne]; omega
    rw [hne]
    simp
abbrev spl (c : UInt8) (l : List UInt8) : List (List UInt8) := Lib.splitK [c] 0 (Lib.count l [c]) l
theorem spl_none {c : UInt8} {l : List UInt8} (h : c ∉ l) : spl c l = [l] := by
  unfold spl
  rw [Lib.count_miss (ib_none h)]
  rfl
theorem spl_some {c : UInt8} {p : List UInt8} (r : List UInt8) (h : c ∉ p) : spl c (p ++ c :: r) = p :: spl c r := by
  have hi := ib_some r h
  have hd : (p ++ c :: r).drop (p.length + [c].length) = r := by simp
  unfold spl
  rw [Lib.count_hit (by simp) hi, hd, Nat.add_comm, Lib.splitK]
  have hne : (Lib.index (p ++ c :: r) [c] == -1) = false := by rw [hi, beq_eq_false_iff_ne]; omega
  rw [hne, hi]
  simp only [Bool.false_eq_true, if_false, Int.toNat_natCast, Nat.add_zero, hd]
  congr 1
  simp
def dgs (l : List UInt8) : Bool := l.all fun b => k_0123456789.data.toList.contains b
theorem dgs_no {l : List UInt8} (h : dgs l = true) : (45 : UInt8) ∉ l := fun hm => by
  unfold dgs at h
  rw [List.all_eq_true] at h
  exact absurd (h 45 hm) (by decide +kernel)
structure Dt (s a b c : ByteArray) : Prop where
  is : s.data.toList = a.data.toList ++ 45 :: (b.data.toList ++ 45 :: c.data.toList)
  len : a.size = 4 ∧ b.size = 2 ∧ c.size = 2
  dig : dgs a.data.toList = true ∧ dgs b.data.toList = true ∧ dgs c.data.toList = true
theorem splitDash_data (s : ByteArray) : (Lib.splitB k__2d 0 (Lib.countB s k__2d) s).map (·.data.toList) = spl 45 s.data.toList := by
  rw [Lib.splitB_data]
  rfl
theorem map_data_inj {l k : List ByteArray} (h : l.map (·.data.toList) = k.map (·.data.toList)) : l = k := by
  induction l generalizing k with
  | nil => cases k with
    | nil => rfl
    | cons => cases h
  | cons a l ih => cases k with
    | nil => cases h
    | cons b k =>
      obtain ⟨h1, h2⟩ := List.cons.inj h
      rw [bytes_ext h1, ih h2]
theorem Dt.split {s a b c : ByteArray} (h : Dt s a b c) : Lib.splitB k__2d 0 (Lib.countB s k__2d) s = [a, b, c] := by
  apply map_data_inj
  rw [splitDash_data, h.is, spl_some _ (dgs_no h.dig.1), spl_some _ (dgs_no h.dig.2.1), spl_none (dgs_no h.dig.2.2)]
  rfl
theorem ten {l : List UInt8} (h : l.length = 10) : ∃ x0 x1 x2 x3 x4 x5 x6 x7 x8 x9, l = [x0, x1, x2, x3, x4, x5, x6, x7, x8, x9] := by
  match l, h with
  | [x0, x1, x2, x3, x4, x5, x6, x7, x8, x9], _ => exact ⟨x0, x1, x2, x3, x4, x5, x6, x7, x8, x9, rfl⟩
theorem trimDig (p : ByteArray) (h : p.size ≤ 4294967280) : ∃ t, strings_Trim p k_0123456789 = some t ∧ decide (t = k_empty) = dgs p.data.toList := by
  unfold strings_Trim
  rw [chk_pos (decide_eq_true (by omega)), chk_pos (by decide), chk_pos ascii_dig]
  exact ⟨_, rfl, trim_nil'⟩
end Go.Proofs.YtpfommakhgkmeaaGreatDoor
