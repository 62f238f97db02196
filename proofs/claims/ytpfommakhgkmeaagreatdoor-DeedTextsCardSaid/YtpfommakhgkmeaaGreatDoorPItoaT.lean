/- Numbers that are written are read again. No program stands here but its twins. -/
import Derived.Test.YtpfommakhgkmeaaGreatDoorPSplitT
import Derived.Lib.ItoaNum
namespace Go.Proofs.YtpfommakhgkmeaaGreatDoor
open Go
theorem dig_fin : ∀ d : Fin 10, Lib.digitVal (UInt8.ofNat (48 + d.val)) = some d.val ∧ k_0123456789.data.toList.contains (UInt8.ofNat (48 + d.val)) = true := by decide +kernel
theorem dec_digits : ∀ (n u : Nat), u ≤ n → Lib.decFrom 0 (Lib.decDigits u) = some u ∧ (Lib.decDigits u).all (fun b => k_0123456789.data.toList.contains b) = true
  | n, u, hu => by
    by_cases h : u < 10
    · have hd := dig_fin ⟨u, h⟩
      rw [Lib.decDigits, dif_pos h]
      refine ⟨?_, by simpa using hd.2⟩
      have h1 := hd.1
      simp only at h1
      unfold Lib.decFrom
      rw [h1]
      simp [Lib.decFrom]
    · have hd := dig_fin ⟨u % 10, Nat.mod_lt _ (by decide)⟩
      match n, hu with
      | 0, hu => omega
      | n + 1, hu =>
        obtain ⟨i1, i2⟩ := dec_digits n (u / 10) (by omega)
        rw [Lib.decDigits, dif_neg h]
        refine ⟨?_, ?_⟩
        · have h1 := hd.1
          simp only at h1
          rw [decFrom_app, i1]
          simp only [Option.bind_some, h1, Option.map_some, Option.some.injEq]
          omega
        · rw [List.all_append, i2]
          simpa using hd.2
theorem digits_len {u : Nat} (h : u < 1000000000000000) : (Lib.decDigits u).length ≤ 15 := by
  rw [Lib.decDigits_length]
  rcases Nat.lt_or_ge (Lib.nDigits u) 16 with h1 | h1
  · omega
  · exfalso
    have key : ∀ (k u : Nat), k + 1 ≤ Lib.nDigits u → 10 ^ k ≤ u ∨ k = 0 := by
      intro k
      induction k with
      | zero => intro u _; exact .inr rfl
      | succ k ih =>
        intro u hu
        by_cases h10 : u < 10
        · rw [Lib.nDigits_small h10] at hu; omega
        · rw [Lib.nDigits_big h10] at hu
          rcases ih (u / 10) (by omega) with h2 | h2
          · exact .inl (by rw [Nat.pow_succ]; omega)
          · subst h2; exact .inl (by simp; omega)
    rcases key 15 u h1 with h2 | h2
    · have : (10 : Nat) ^ 15 = 1000000000000000 := by decide
      omega
    · omega
theorem number_itoa {u : Nat} (hu : u < 1000000000000000) (s : ByteArray) (hs : s.data.toList = Lib.decDigits u) : words_Number s 15 = some ((u : Int), true) := by
  obtain ⟨i1, i2⟩ := dec_digits u u (Nat.le_refl _)
  have hlen := digits_len hu
  have hne : Lib.decDigits u ≠ [] := digits_pos
  have hsz := size_list s
  rw [hs] at hsz
  have hpre : Lib.hasPrefix s.data.toList k__2d.data.toList = false ∧ Lib.trimPrefix s.data.toList k__2d.data.toList = s.data.toList := by
    rw [dash_list]
    rcases trimPre s.data.toList with ⟨_, d, h2, _⟩ | h
    · exfalso
      rw [hs] at h2
      rw [h2, List.all_cons, Bool.and_eq_true] at i2
      exact absurd i2.1 (by decide +kernel)
    · exact h
  have hself : (⟨(Lib.trimPrefix s.data.toList k__2d.data.toList).toArray⟩ : ByteArray) = s := bytes_ext (by rw [hpre.2])
  have hcp : strings_CutPrefix s k__2d = (s, false) := by unfold strings_CutPrefix; rw [hself, hpre.1]
  have hpos : 1 ≤ s.size := by have := List.length_pos_iff.2 hne; omega
  have hem : decide (s = k_empty) = false := decide_eq_false fun e => by rw [e] at hpos; exact absurd hpos (by decide)
  have h15 : decide ((15 : Int) < (s.size : Int)) = false := decide_eq_false (by omega)
  obtain ⟨t, ht, htd⟩ := trimDig s (by omega)
  have htd' : decide (t = k_empty) = true := by rw [htd]; unfold dgs; rw [hs]; exact i2
  obtain ⟨b, r, hbr⟩ : ∃ b r, Lib.decDigits u = b :: r := by
    cases hd : Lib.decDigits u with
    | nil => exact absurd hd hne
    | cons b r => exact ⟨b, r, rfl⟩
  have hin : inB 0 s.size = true := inB_iff.2 (by omega)
  have hz : (decide (sbyte s 0 = 48) && !decide (s = k_0)) = false := by
    have hb := sbyte_get (s := s) (j := 0) (u := b) (by rw [hs, hbr]; rfl)
    rw [Int.natCast_zero] at hb
    rw [hb]
    by_cases h48 : b = 48
    · subst h48
      obtain ⟨h1, h2⟩ := digits_head u u r (Nat.le_refl _) hbr
      have : s = k_0 := bytes_ext (by rw [hs, hbr, h2]; rfl)
      rw [decide_eq_true this]
      simp
    · have : decide ((b.toNat : Int) = 48) = false := decide_eq_false fun e => h48 (UInt8.toNat_inj.1 (by have h2 : (48 : UInt8).toNat = 48 := rfl; omega))
      rw [this]; rfl
  have hat : strconv_Atoi s = some (u : Int) := by
    unfold strconv_Atoi
    rw [chk_pos (decide_eq_true (by omega)), hs, hbr]
    rw [hbr] at i1 i2
    rw [List.all_cons, Bool.and_eq_true] at i2
    obtain ⟨x, hx⟩ := Option.isSome_iff_exists.1 (by rw [← digit_eq]; exact i2.1)
    obtain ⟨_, _, hx3⟩ := digit_of hx
    unfold Lib.atoi
    have h1 : (b == 45) = false := by
      simp only [beq_eq_false_iff_ne]; rintro rfl; have : (45 : UInt8).toNat = 48 + x := hx3; have h45 : (45 : UInt8).toNat = 45 := rfl; omega
    have h2 : (b == 43) = false := by
      simp only [beq_eq_false_iff_ne]; rintro rfl; have : (43 : UInt8).toNat = 48 + x := hx3; have h43 : (43 : UInt8).toNat = 43 := rfl; omega
    have hn : Lib.decNat (b :: r) = some u := by unfold Lib.decNat; exact i1
    simp only [h1, h2, hn, Bool.false_eq_true, if_false, Option.map_some]
  unfold words_Number
  simp only [hcp, hem, h15, ht, hz, hin, htd', hat, join_eq, Bool.or_self, Bool.or_false, Bool.false_or, Bool.not_true, Bool.false_eq_true, if_false, Option.bind_some, chk_pos]
theorem itoa_dgs {u : Nat} : (Lib.decDigits u).all (fun b => k_0123456789.data.toList.contains b) = true := (dec_digits u u (Nat.le_refl _)).2
end Go.Proofs.YtpfommakhgkmeaaGreatDoor
