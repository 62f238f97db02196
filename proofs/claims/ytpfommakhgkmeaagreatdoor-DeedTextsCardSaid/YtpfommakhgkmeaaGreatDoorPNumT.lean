/- Numbers that are written and read: the program's reading and the reference's come to the same. Conditions: the string is not long. No program stands here but its twins. -/
import Derived.Test.YtpfommakhgkmeaaGreatDoorPKey2
import Derived.Lib.ItoaLen
import Derived.Lib.Atoi
namespace Go.Proofs.YtpfommakhgkmeaaGreatDoor
open Go
theorem digit_eq (u : UInt8) : k_0123456789.data.toList.contains u = (Lib.digitVal u).isSome := by
  have key : ∀ n : Fin 256, k_0123456789.data.toList.contains (UInt8.ofNat n.val) = (Lib.digitVal (UInt8.ofNat n.val)).isSome := by decide +kernel
  have h := key ⟨u.toNat, u.toNat_lt⟩
  simpa using h
theorem digit_of {u : UInt8} {d : Nat} (h : Lib.digitVal u = some d) : d < 10 ∧ u = UInt8.ofNat (48 + d) ∧ u.toNat = 48 + d := by
  unfold Lib.digitVal at h
  split at h
  · rename_i hc
    obtain rfl := Option.some.inj h
    have h1 : 48 + (u.toNat - 48) = u.toNat := by omega
    refine ⟨by omega, ?_, by omega⟩
    rw [h1]; simp
  · cases h
theorem decFrom_app (b : UInt8) : ∀ (p : List UInt8) (acc : Nat), Lib.decFrom acc (p ++ [b]) = (Lib.decFrom acc p).bind fun m => (Lib.digitVal b).map fun d => m * 10 + d
  | [], acc => by
    rw [List.nil_append]
    unfold Lib.decFrom
    cases Lib.digitVal b <;> simp [Lib.decFrom]
  | c :: p, acc => by
    rw [List.cons_append]
    unfold Lib.decFrom
    cases Lib.digitVal c with
    | none => rfl
    | some d => exact decFrom_app b p (acc * 10 + d)
theorem snocI {α : Type} {Q : List α → Prop} (h0 : Q []) (h1 : ∀ l y, Q l → Q (l ++ [y])) (l : List α) : Q l := by
  have key : ∀ r : List α, Q r.reverse := by
    intro r
    induction r with
    | nil => exact h0
    | cons y r ih => rw [List.reverse_cons]; exact h1 _ _ ih
  have := key l.reverse
  rwa [List.reverse_reverse] at this
theorem dec_some {l : List UInt8} (h : l.all (fun b => k_0123456789.data.toList.contains b) = true) : ∃ m, Lib.decFrom 0 l = some m ∧ m < 10 ^ l.length := by
  induction l using snocI with
  | h0 => exact ⟨0, rfl, by simp⟩
  | h1 p b ih =>
    rw [List.all_append, Bool.and_eq_true] at h
    obtain ⟨m, e, hm⟩ := ih h.1
    have hb : (Lib.digitVal b).isSome = true := by have := h.2; simp only [List.all_cons, List.all_nil, Bool.and_true] at this; rwa [digit_eq] at this
    obtain ⟨d, hd⟩ := Option.isSome_iff_exists.1 hb
    refine ⟨m * 10 + d, by rw [decFrom_app, e, hd]; rfl, ?_⟩
    have := (digit_of hd).1
    rw [List.length_append, List.length_singleton, Nat.pow_succ]
    omega
theorem digits_pos {u : Nat} : Lib.decDigits u ≠ [] := by
  rw [Lib.decDigits]
  split
  · simp
  · simp
theorem digits_head : ∀ (n u : Nat) (r : List UInt8), u ≤ n → Lib.decDigits u = 48 :: r → u = 0 ∧ r = []
  | 0, u, r, hu, h => by
    obtain rfl : u = 0 := by omega
    rw [Lib.decDigits, dif_pos (by decide)] at h
    exact ⟨rfl, by have := (List.cons.inj h).2; exact this.symm⟩
  | n + 1, u, r, hu, h => by
    rw [Lib.decDigits] at h
    split at h
    · rename_i h10
      have h1 := (List.cons.inj h).1
      have h2 := (List.cons.inj h).2
      refine ⟨?_, h2.symm⟩
      have h3 := congrArg UInt8.toNat h1
      simp at h3
      omega
    · rename_i h10
      cases hd : Lib.decDigits (u / 10) with
      | nil => exact absurd hd digits_pos
      | cons a q =>
        rw [hd, List.cons_append] at h
        have h1 := (List.cons.inj h).1
        subst h1
        have := digits_head n (u / 10) q (by omega) hd
        omega
theorem dec_pos {b : UInt8} {l : List UInt8} {m : Nat} (hb : b ≠ 48) (h : Lib.decFrom 0 (b :: l) = some m) : 1 ≤ m := by
  have key : ∀ (l : List UInt8) (acc m : Nat), 1 ≤ acc → Lib.decFrom acc l = some m → 1 ≤ m := by
    intro l
    induction l with
    | nil => intro acc m ha h; simp only [Lib.decFrom, Option.some.injEq] at h; omega
    | cons c l ih =>
      intro acc m ha h
      unfold Lib.decFrom at h
      cases hc : Lib.digitVal c with
      | none => rw [hc] at h; cases h
      | some d => rw [hc] at h; exact ih _ m (by omega) h
  unfold Lib.decFrom at h
  cases hc : Lib.digitVal b with
  | none => rw [hc] at h; cases h
  | some d =>
    rw [hc] at h
    obtain ⟨_, h2, _⟩ := digit_of hc
    refine key l _ m ?_ h
    rcases Nat.eq_zero_or_pos d with h0 | h0
    · subst h0; exact absurd h2 hb
    · omega
theorem digits_back (l : List UInt8) : ∀ (b : UInt8) (r : List UInt8) (m : Nat), l = b :: r → (b ≠ 48 ∨ r = []) → Lib.decFrom 0 l = some m → Lib.decDigits m = l := by
  induction l using snocI with
  | h0 => intro b r m h; cases h
  | h1 p c ih =>
    intro b r m he hb h
    rw [decFrom_app] at h
    cases hp : Lib.decFrom 0 p with
    | none => rw [hp] at h; cases h
    | some q =>
      rw [hp] at h
      cases hc : Lib.digitVal c with
      | none => rw [hc] at h; cases h
      | some d =>
        rw [hc] at h
        obtain rfl : q * 10 + d = m := by simpa using h
        obtain ⟨h1, h2, _⟩ := digit_of hc
        cases p with
        | nil =>
          have hq : q = 0 := by simpa [Lib.decFrom] using hp.symm
          subst hq
          rw [Lib.decDigits, dif_pos (by omega)]
          simp [h2]
        | cons b' p' =>
          have hbb : b' = b := (List.cons.inj he).1
          subst hbb
          have hr : r ≠ [] := by
            have := (List.cons.inj he).2
            intro h; rw [h] at this; simp at this
          have hb48 : b' ≠ 48 := hb.resolve_right hr
          have hq := dec_pos hb48 hp
          have hi := ih b' p' q rfl (.inl hb48) hp
          rw [Lib.decDigits, dif_neg (by omega), show (q * 10 + d) / 10 = q by omega, show (q * 10 + d) % 10 = d by omega, hi, h2]
theorem bytes_ext {s t : ByteArray} (h : s.data.toList = t.data.toList) : s = t := by
  obtain ⟨s⟩ := s
  obtain ⟨t⟩ := t
  simp only at h
  congr
  exact Array.toList_inj.1 h
theorem trim_nil' {l cs : List UInt8} : decide ((⟨(Lib.trimS l cs).toArray⟩ : ByteArray) = k_empty) = l.all (fun b => cs.contains b) := by
  cases h : l.all (fun b => cs.contains b) with
  | true => exact decide_eq_true ((empty_iff _).2 (trim_nil.2 h))
  | false => exact decide_eq_false fun e => by rw [trim_nil.1 ((empty_iff _).1 e)] at h; cases h
theorem ascii_dig : (k_0123456789.data.toList.all fun b => decide (b.toNat < 128)) = true := by decide +kernel
theorem dash_list : k__2d.data.toList = [45] := rfl
theorem trimPre (l : List UInt8) : (Lib.hasPrefix l [45] = true ∧ ∃ d, l = 45 :: d ∧ Lib.trimPrefix l [45] = d) ∨ (Lib.hasPrefix l [45] = false ∧ Lib.trimPrefix l [45] = l) := by
  cases h : Lib.hasPrefix l [45] with
  | true =>
    refine .inl ⟨rfl, ?_⟩
    have h2 : [45] <+: l := by simpa [Lib.hasPrefix] using h
    obtain ⟨d, hd⟩ := h2
    exact ⟨d, hd.symm, by unfold Lib.trimPrefix; rw [h, ← hd]; rfl⟩
  | false => exact .inr ⟨rfl, by unfold Lib.trimPrefix; rw [h]; rfl⟩
theorem atoi_dig {l d : List UInt8} (neg : Bool) (hl : l = if neg then 45 :: d else d) (hd : d ≠ []) (hdig : d.all (fun b => k_0123456789.data.toList.contains b) = true) (hlen : d.length ≤ 15) :
    ∃ n : Int, Lib.atoi l = some n ∧ -1000000000000000 ≤ n ∧ n ≤ 1000000000000000 ∧ decide (Lib.itoa n = l) = !(decide (d.head? = some 48) && (!decide (d = [48]) || neg)) := by
  obtain ⟨m, hm, hm2⟩ := dec_some hdig
  have hm3 : m ≤ 1000000000000000 := by
    have : 10 ^ d.length ≤ 10 ^ 15 := Nat.pow_le_pow_right (by decide) hlen
    omega
  obtain ⟨b, r, hbr⟩ : ∃ b r, d = b :: r := by
    cases d with
    | nil => exact absurd rfl hd
    | cons b r => exact ⟨b, r, rfl⟩
  have hn : Lib.decNat d = some m := by unfold Lib.decNat; rw [hbr] at hm ⊢; exact hm
  have hb : (Lib.digitVal b).isSome = true := by rw [hbr, List.all_cons, Bool.and_eq_true] at hdig; rw [← digit_eq]; exact hdig.1
  obtain ⟨x, hx⟩ := Option.isSome_iff_exists.1 hb
  obtain ⟨_, _, hx3⟩ := digit_of hx
  have hiff : (Lib.decDigits m = d) ↔ ¬ (b = 48 ∧ r ≠ []) := by
    constructor
    · rintro h ⟨h1, h2⟩
      rw [hbr, h1] at h
      exact h2 (digits_head m m r (Nat.le_refl _) h).2
    · intro h
      refine digits_back d b r m hbr ?_ hm
      by_cases h1 : b = 48
      · refine .inr ?_
        cases r with
        | nil => rfl
        | cons c r => exact absurd ⟨h1, by simp⟩ h
      · exact .inl h1
  cases neg with
  | false =>
    simp only [Bool.false_eq_true, if_false] at hl
    subst hl
    refine ⟨(m : Int), ?_, by omega, by omega, ?_⟩
    · rw [hbr] at hn ⊢
      unfold Lib.atoi
      have h1 : (b == 45) = false := by
        simp only [beq_eq_false_iff_ne]; rintro rfl; have : (45 : UInt8).toNat = 48 + x := hx3; have h45 : (45 : UInt8).toNat = 45 := rfl; omega
      have h2 : (b == 43) = false := by
        simp only [beq_eq_false_iff_ne]; rintro rfl; have : (43 : UInt8).toNat = 48 + x := hx3; have h43 : (43 : UInt8).toNat = 43 := rfl; omega
      simp only [h1, h2, hn, Bool.false_eq_true, if_false, Option.map_some]
    · have hi : Lib.itoa (m : Int) = Lib.decDigits m := by unfold Lib.itoa; rw [if_neg (by omega)]; simp
      rw [hi]
      simp only [hiff]
      rw [hbr]
      by_cases h1 : b = 48 <;> by_cases h2 : r = [] <;> simp [h1, h2]
  | true =>
    simp only [if_true] at hl
    subst hl
    refine ⟨-(m : Int), ?_, by omega, by omega, ?_⟩
    · unfold Lib.atoi
      simp only [beq_self_eq_true, if_true, hn]
      rfl
    · rw [hbr]
      by_cases h1 : b = 48
      · have hne : ¬ Lib.itoa (-(m : Int)) = 45 :: b :: r := by
          intro h
          unfold Lib.itoa at h
          split at h
          · have h3 : Lib.decDigits (-(m : Int)).natAbs = b :: r := (List.cons.inj h).2
            rw [h1, show (-(m : Int)).natAbs = m by omega] at h3
            have := (digits_head m m r (Nat.le_refl _) h3).1
            omega
          · rename_i h4
            have h0 : m = 0 := by omega
            subst h0
            rw [show (-((0 : Nat) : Int)).toNat = 0 by rfl, Lib.decDigits, dif_pos (by decide)] at h
            have := (List.cons.inj h).1
            exact absurd this (by decide)
        rw [decide_eq_false hne]
        simp [h1]
      · have hm1 : 1 ≤ m := dec_pos h1 (by rw [← hbr]; exact hm)
        have he : Lib.itoa (-(m : Int)) = 45 :: b :: r := by
          unfold Lib.itoa
          rw [if_pos (by omega), show (-(m : Int)).natAbs = m by omega, hiff.2 (fun h => h1 h.1), hbr]
        rw [decide_eq_true he]
        simp [h1]
theorem number_both (s : ByteArray) (hs : s.size ≤ 4294967280) (most : Int) (hm : most ≤ 15) : ∃ n n' ok, words_Number s most = some (n, ok) ∧ tumbref2_Number s most = some (n', ok) ∧ (ok = true → n = n' ∧ -1000000000000000 ≤ n ∧ n ≤ 1000000000000000) := by
  have hsz := size_list s
  unfold words_Number tumbref2_Number strings_CutPrefix strings_TrimPrefix
  rw [dash_list]
  have key : ∀ (neg : Bool) (d : List UInt8), s.data.toList = (if neg then 45 :: d else d) → Lib.trimPrefix s.data.toList [45] = d → Lib.hasPrefix s.data.toList [45] = neg → d.length ≤ s.size →
      ∃ n n' ok, (Join (fun (c1 : Bool) => Join (fun (c2 : Bool) => if c2 then some (0, false) else Option.bind (strconv_Atoi s) (fun r2 => some (r2, true))) (fun j2 =>
        if c1 then j2 (c1 || true) else Chk (inB 0 (⟨d.toArray⟩ : ByteArray).size) (j2 (c1 || ((decide ((sbyte (⟨d.toArray⟩ : ByteArray) 0) = 48)) && ((!decide ((⟨d.toArray⟩ : ByteArray) = k_0)) || neg)))))) (fun j1 =>
        if ((decide ((⟨d.toArray⟩ : ByteArray) = k_empty)) || (decide (most < ((⟨d.toArray⟩ : ByteArray).size : Int)))) then j1 (((decide ((⟨d.toArray⟩ : ByteArray) = k_empty)) || (decide (most < ((⟨d.toArray⟩ : ByteArray).size : Int)))) || true) else Option.bind (strings_Trim (⟨d.toArray⟩ : ByteArray) k_0123456789) (fun r1 =>
        j1 (((decide ((⟨d.toArray⟩ : ByteArray) = k_empty)) || (decide (most < ((⟨d.toArray⟩ : ByteArray).size : Int)))) || (!decide (r1 = k_empty)))))) = some (n, ok) ∧
      (Join (fun (c1 : Bool) => if c1 then some (0, false) else Option.bind (strconv_Atoi s) (fun r2 => Join (fun (c2 : Bool) => some (r2, c2)) (fun j2 => if true then Option.bind (strconv_Itoa r2) (fun r3 => j2 (true && (decide (r3 = s)))) else j2 (true && true)))) (fun j1 =>
        if ((decide ((⟨d.toArray⟩ : ByteArray) = k_empty)) || (decide (most < ((⟨d.toArray⟩ : ByteArray).size : Int)))) then j1 (((decide ((⟨d.toArray⟩ : ByteArray) = k_empty)) || (decide (most < ((⟨d.toArray⟩ : ByteArray).size : Int)))) || true) else Option.bind (tumbref2_only (⟨d.toArray⟩ : ByteArray) k_0123456789) (fun r1 =>
        j1 (((decide ((⟨d.toArray⟩ : ByteArray) = k_empty)) || (decide (most < ((⟨d.toArray⟩ : ByteArray).size : Int)))) || (!r1))))) = some (n', ok) ∧ (ok = true → n = n' ∧ -1000000000000000 ≤ n ∧ n ≤ 1000000000000000) := by
    intro neg d h1 h2 h3 hdl
    have hds : (⟨d.toArray⟩ : ByteArray).size = d.length := by simp [ByteArray.size]
    simp only [join_eq]
    by_cases hc : ((decide ((⟨d.toArray⟩ : ByteArray) = k_empty)) || (decide (most < ((⟨d.toArray⟩ : ByteArray).size : Int)))) = true
    · rw [if_pos hc, if_pos hc]
      simp only [hc, Bool.true_or, if_true]
      exact ⟨0, 0, false, rfl, rfl, fun h => by cases h⟩
    · rw [if_neg hc, if_neg hc]
      simp only [Bool.not_eq_true] at hc
      simp only [hc, Bool.false_or]
      rw [Bool.or_eq_false_iff] at hc
      have hd0 : d ≠ [] := fun h => by
        have := of_decide_eq_false hc.1
        exact this ((empty_iff d).2 h)
      have hd15 : d.length ≤ 15 := by
        have := of_decide_eq_false hc.2
        rw [hds] at this
        omega
      have honly := only_eq (⟨d.toArray⟩ : ByteArray) k_0123456789 (by rw [hds]; omega)
      have htrim : strings_Trim (⟨d.toArray⟩ : ByteArray) k_0123456789 = some ⟨(Lib.trimS d k_0123456789.data.toList).toArray⟩ := by
        unfold strings_Trim
        rw [chk_pos (decide_eq_true (by rw [hds]; omega)), chk_pos (by decide), chk_pos ascii_dig]
      rw [honly, htrim]
      simp only [Option.bind_some, trim_nil']
      cases hdig : d.all (fun b => k_0123456789.data.toList.contains b) with
      | false =>
        simp only [Bool.not_false, if_true, Bool.true_or]
        exact ⟨0, 0, false, rfl, rfl, fun h => by cases h⟩
      | true =>
        obtain ⟨n, a1, a2, a3, a4⟩ := atoi_dig neg h1 hd0 hdig hd15
        have hsl : s.size ≤ 18 := by
          have := congrArg List.length h1
          rw [← hsz] at this
          cases neg <;> simp at this <;> omega
        have hat : strconv_Atoi s = some n := by
          unfold strconv_Atoi
          rw [chk_pos (decide_eq_true hsl), a1]
        have hit : strconv_Itoa n = some ⟨(Lib.itoa n).toArray⟩ := by
          unfold strconv_Itoa
          rw [chk_pos (by simp; omega)]
        have hin : inB 0 (⟨d.toArray⟩ : ByteArray).size = true := inB_iff.2 (by rw [hds]; have := List.length_pos_iff.2 hd0; omega)
        have heq : decide ((⟨(Lib.itoa n).toArray⟩ : ByteArray) = s) = decide (Lib.itoa n = s.data.toList) := by
          apply decide_eq_decide.2
          constructor
          · intro h; rw [← h]
          · intro h; exact bytes_ext h
        have hk0 : decide ((⟨d.toArray⟩ : ByteArray) = k_0) = decide (d = [48]) := by
          apply decide_eq_decide.2
          constructor
          · intro h; have := congrArg (fun b : ByteArray => b.data.toList) h; simpa [k_0] using this
          · intro h; subst h; rfl
        have hhd : decide (sbyte (⟨d.toArray⟩ : ByteArray) 0 = 48) = decide (d.head? = some 48) := by
          cases d with
          | nil => exact absurd rfl hd0
          | cons b r =>
            have hb := sbyte_get (s := ⟨(b :: r).toArray⟩) (j := 0) (u := b) rfl
            rw [Int.natCast_zero] at hb
            rw [hb]
            apply decide_eq_decide.2
            simp only [List.head?_cons, Option.some.injEq]
            constructor
            · intro h
              have : b.toNat = (48 : UInt8).toNat := by have h48 : (48 : UInt8).toNat = 48 := rfl; omega
              exact UInt8.toNat_inj.1 this
            · rintro rfl; rfl
        simp only [Bool.not_true, Bool.false_eq_true, if_false, hat, hit, Option.bind_some, if_true, Bool.true_and, heq, a4, hk0, hhd, Bool.false_or]
        rw [chk_pos hin]
        cases (decide (d.head? = some 48) && (!decide (d = [48]) || neg)) with
        | true => exact ⟨_, _, _, rfl, rfl, fun h => by cases h⟩
        | false => exact ⟨_, _, _, rfl, rfl, fun _ => ⟨rfl, a2, a3⟩⟩
  rcases trimPre s.data.toList with ⟨h1, d, h2, h3⟩ | ⟨h1, h2⟩
  · rw [h1, h3]
    exact key true d (by rw [h2]; rfl) h3 h1 (by rw [hsz, h2]; simp)
  · rw [h1, h2]
    exact key false s.data.toList rfl h2 h1 (by rw [hsz]; exact Nat.le_refl _)
end Go.Proofs.YtpfommakhgkmeaaGreatDoor
