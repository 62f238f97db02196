/- The plain law of RelaysMade: what is wrong with a squad, the fastest relay, and the law. No program stands here but its twins. -/
import Derived.Test.YtmngaaffadcccaaGreatDoorPErrs
import Derived.Test.YtmngaaffadcccaaGreatDoorPRaces
import Derived.Test.YtmngaaffadcccaaGreatDoorPMoves
import Derived.Test.YtmngaaffadcccaaGreatDoorPAge
import Derived.Test.YtmngaaffadcccaaGreatDoorPSquads
import Derived.Test.YtmngaaffadcccaaGreatDoorPLegsR
import Derived.Test.YtmngaaffadcccaaGreatDoorPMoveS2
import Derived.Test.YtmngaaffadcccaaGreatDoorPSwimS
import Derived.Test.YtmngaaffadcccaaGreatDoorPEntryS
namespace Go.Proofs.YtmngaaffadcccaaGreatDoor
open Go
theorem swimmerOf_key (key : ByteArray) : ∀ (ys : List GSwimmer) (i : Nat), (tumbref2_swimmerOf_l1 key ((GSwimmer.mk k_empty 0 0), false) ys i).2 = true → (tumbref2_swimmerOf_l1 key ((GSwimmer.mk k_empty 0 0), false) ys i).1.Key = key
  | [], _, h => by cases h
  | y :: ys, i, h => by
    rw [tumbref2_swimmerOf_l1] at h ⊢
    by_cases hk : y.Key = key
    · simp [hk]
    · simp only [hk, decide_false, Bool.false_eq_true, if_false] at h ⊢
      exact swimmerOf_key key ys (i + 1) h
section
variable (s : List GSwimmer) (m : List GMove) (b : GBounds) (r : List GRace) (x : GSquad)
/-- The swimmer of a key. -/
def sw (k : ByteArray) : GSwimmer := (tumbref2_swimmerOf s k).1
/-- There is such a swimmer, and is born by the meet's day. -/
def swok (k : ByteArray) : Bool := (tumbref2_swimmerOf s k).2 && decide ((sw s k).Born ≤ b.Day)
/-- The race of the squad. -/
def rc : GRace := (tumbref2_raceOf r x.Race).1
def misC (k : ByteArray) : Bool := !decide (tumbref2_ClubFor m k b.Day = x.Club)
def misS (k : ByteArray) : Bool := !decide ((sw s k).Sex = (rc r x).Sex)
def misA (k : ByteArray) : Bool := !(tumbref2_in ((swimmer_age (sw s k) b.Day b.Age).getD 0) (rc r x).Young (rc r x).Old)
/-- How many men. -/
def men : List ByteArray → Int
  | [] => 0
  | k :: ks => (if (sw s k).Sex = 1 then 1 else 0) + men ks
variable (hs : swimmer_CheckSwimmers s = some 0) (hsg : ∀ y ∈ s, SGood y) (hd : b.Day ≤ 4000) (ha : b.Age = 1 ∨ b.Age = 2)
include hsg hd ha in
theorem sw_age {k : ByteArray} (h : swok s b k = true) : swimmer_age (sw s k) b.Day b.Age = some ((swimmer_age (sw s k) b.Day b.Age).getD 0) ∧ tumbref2_AgeFor (sw s k) b.Day b.Age = some ((swimmer_age (sw s k) b.Day b.Age).getD 0) := by
  unfold swok at h
  rw [Bool.and_eq_true, decide_eq_true_eq] at h
  have hm : sw s k ∈ s := swimmerOf_mem k s 0 h.1
  obtain ⟨n, e1, e2⟩ := age_eq (sw s k) b.Day b.Age (hsg _ hm).2.1 h.2 hd ha
  rw [e1, e2]; exact ⟨rfl, rfl⟩
include hs in
theorem wrong_l1 (j : List GSwimmer → Option (ByteArray × Int)) : ∀ (ys : List ByteArray) (i : Nat) (x1 : List GSwimmer), x1.length + ys.length ≤ 1000 →
    swimmer_Wrong_l1 s b j ys i x1 = if ys.all (swok s b) then j (x1 ++ ys.map (sw s)) else some (k_who, 0)
  | [], _, x1, _ => by simp [swimmer_Wrong_l1]
  | y :: ys, i, x1, h => by
    rw [swimmer_Wrong_l1, swimmerOf_eq s y b.Day hs]
    simp only [Option.bind_some, List.length_cons] at h ⊢
    by_cases hk : (tumbref2_swimmerOf s y).2 = true ∧ (tumbref2_swimmerOf s y).1.Born ≤ b.Day
    · have ho : swok s b y = true := by unfold swok sw; simp [hk.1, hk.2]
      rw [if_pos hk]
      simp only [Bool.not_true, Bool.false_eq_true, if_false]
      rw [chk_pos (by unfold room; simp; omega), wrong_l1 j ys (i + 1) _ (by simp; omega)]
      simp [ho, sw]
    · have ho : swok s b y = false := by
        unfold swok sw
        rcases Classical.em ((tumbref2_swimmerOf s y).2 = true) with h1 | h1
        · have : ¬ (tumbref2_swimmerOf s y).1.Born ≤ b.Day := fun h2 => hk ⟨h1, h2⟩
          simp [this]
        · simp [h1]
      rw [if_neg hk]
      simp [ho]
include hsg hd ha in
theorem wrong_l2 (t : Bool) (j : Int → Bool → Bool → Option (ByteArray × Int)) : ∀ (ys : List ByteArray) (i : Nat) (n : Int) (u v : Bool), ys.all (swok s b) = true → 0 ≤ n → n + ys.length ≤ 1000 →
    swimmer_Wrong_l2 m b x (rc r x, t) j (ys.map (sw s)) i n u v = if ys.any (misC m b x) then some (k_club, 0) else j (n + men s ys) (u || ys.any (misS s r x)) (v || ys.any (misA s b r x))
  | [], _, n, u, v, _, _, _ => by simp [swimmer_Wrong_l2, men]
  | y :: ys, i, n, u, v, h, h0, h1 => by
    rw [List.all_cons, Bool.and_eq_true] at h
    simp only [List.length_cons] at h1
    rw [List.map_cons, swimmer_Wrong_l2]
    have hkey : (sw s y).Key = y := by
      have := h.1; unfold swok at this; rw [Bool.and_eq_true] at this
      exact swimmerOf_key y s 0 this.1
    rw [hkey, club_eq, show (!decide (tumbref2_ClubFor m y b.Day = x.Club)) = misC m b x y from rfl]
    by_cases hc : misC m b x y = true
    · rw [if_pos hc, List.any_cons, hc, Bool.true_or, if_pos rfl]
    · rw [if_neg hc]
      simp only [Bool.not_eq_true] at hc
      rw [List.any_cons, hc, Bool.false_or]
      simp only [join_eq]
      rw [(sw_age s b hsg hd ha h.1).1]
      simp only [Option.bind_some]
      have hsx : (!decide ((sw s y).Sex = (rc r x).Sex)) = misS s r x y := rfl
      have hag : (!(words_Within ((swimmer_age (sw s y) b.Day b.Age).getD 0) (rc r x).Young (rc r x).Old)) = misA s b r x y := rfl
      rw [hsx, hag]
      have go : ∀ (n' : Int) (v' : Bool), n' = n + (if (sw s y).Sex = 1 then 1 else 0) → v' = (v || misA s b r x y) → swimmer_Wrong_l2 m b x (rc r x, t) j (ys.map (sw s)) (i + 1) n' (u || misS s r x y) v' = if ys.any (misC m b x) then some (k_club, 0) else j (n + men s (y :: ys)) (u || (y :: ys).any (misS s r x)) (v || (y :: ys).any (misA s b r x)) := by
        intro n' v' hn hv
        rw [wrong_l2 t j ys (i + 1) n' _ v' h.2 (by split at hn <;> omega) (by split at hn <;> omega), hn, hv, List.any_cons, List.any_cons, Bool.or_assoc, Bool.or_assoc, men, Int.add_assoc]
      by_cases hm : (sw s y).Sex = 1
      · rw [if_pos (decide_eq_true hm), W_in (by omega) (by omega)]
        cases v with
        | true => rw [if_pos rfl]; exact go _ _ (by rw [if_pos hm]) rfl
        | false => rw [if_neg (by simp)]; exact go _ _ (by rw [if_pos hm]) rfl
      · rw [if_neg (by simpa using hm)]
        cases v with
        | true => rw [if_pos rfl]; exact go _ _ (by rw [if_neg hm]; omega) rfl
        | false => rw [if_neg (by simp)]; exact go _ _ (by rw [if_neg hm]; omega) rfl
/-- One step of the reference. -/
theorem ref_bad (j : Bool → Bool → Bool → Bool → Int → Option ByteArray) (y : ByteArray) (ys : List ByteArray) (i : Nat) (x1 x2 x3 x4 : Bool) (x5 : Int) (h : swok s b y = false) :
    tumbref2_WrongOf_l1 s b r x m j (y :: ys) i x1 x2 x3 x4 x5 = tumbref2_WrongOf_l1 s b r x m j ys (i + 1) true x2 x3 x4 x5 := by
  rw [tumbref2_WrongOf_l1, join_eq, if_pos]
  unfold swok sw at h
  rcases Classical.em ((tumbref2_swimmerOf s y).2 = true) with h1 | h1
  · rw [h1, Bool.true_and, decide_eq_false_iff_not] at h
    simp only [Bool.or_eq_true, decide_eq_true_eq]
    right; omega
  · simp [h1]
include hsg hd ha in
theorem ref_step (j : Bool → Bool → Bool → Bool → Int → Option ByteArray) (y : ByteArray) (ys : List ByteArray) (i : Nat) (x1 x2 x3 x4 : Bool) (x5 : Int) (h : swok s b y = true) (h0 : 0 ≤ x5) (h1 : x5 ≤ 1000) :
    tumbref2_WrongOf_l1 s b r x m j (y :: ys) i x1 x2 x3 x4 x5 = tumbref2_WrongOf_l1 s b r x m j ys (i + 1) x1 (x2 || misC m b x y) (x3 || (!decide ((rc r x).Sex = 0) && misS s r x y)) (x4 || misA s b r x y) (x5 + (if (sw s y).Sex = 1 then 1 else 0)) := by
  rw [tumbref2_WrongOf_l1]
  simp only [join_eq]
  have hn : ¬ ((!((tumbref2_swimmerOf s y).2)) || (decide (b.Day < (((tumbref2_swimmerOf s y).1).Born)))) = true := by
    unfold swok sw at h
    rw [Bool.and_eq_true, decide_eq_true_eq] at h
    simp only [h.1, Bool.not_true, Bool.false_or, decide_eq_true_eq]
    omega
  rw [if_neg hn]
  have hage := (sw_age s b hsg hd ha h).2
  unfold sw at hage
  rw [hage]
  simp only [Option.bind_some]
  have e1 : (if ((tumbref2_swimmerOf s y).1).Sex = 1 then W (x5 + 1) else x5) = x5 + (if (sw s y).Sex = 1 then 1 else 0) := by
    unfold sw
    split
    · rw [W_in (by omega) (by omega)]
    · omega
  have hC : (!decide (tumbref2_ClubFor m y b.Day = x.Club)) = misC m b x y := rfl
  have hA : (!(tumbref2_in ((swimmer_age (sw s y) b.Day b.Age).getD 0) (rc r x).Young (rc r x).Old)) = misA s b r x y := rfl
  have hS : (!decide (((tumbref2_swimmerOf s y).1).Sex = (((tumbref2_raceOf r x.Race).1).Sex))) = misS s r x y := rfl
  unfold sw at hA
  unfold rc at hA ⊢
  rw [hC, hA, hS]
  rw [← e1]
  cases x2 <;> cases x4 <;> by_cases hm : ((tumbref2_swimmerOf s y).1).Sex = 1 <;> simp [hm]
include hsg hd ha in
theorem ref_true (j : Bool → Bool → Bool → Bool → Int → Option ByteArray) : ∀ (ys : List ByteArray) (i : Nat) (x1 x2 x3 x4 : Bool) (x5 : Int), 0 ≤ x5 → x5 + ys.length ≤ 1000 → (x1 = true ∨ ys.all (swok s b) = false) →
    ∃ y2 y3 y4 y5, tumbref2_WrongOf_l1 s b r x m j ys i x1 x2 x3 x4 x5 = j true y2 y3 y4 y5
  | [], i, x1, x2, x3, x4, x5, _, _, h => by
    rcases h with rfl | h
    · exact ⟨x2, x3, x4, x5, rfl⟩
    · simp at h
  | y :: ys, i, x1, x2, x3, x4, x5, h0, h1, h => by
    simp only [List.length_cons] at h1
    cases ho : swok s b y with
    | false => rw [ref_bad s m b r x j y ys i x1 x2 x3 x4 x5 ho]; exact ref_true j ys (i + 1) _ _ _ _ _ h0 (by omega) (.inl rfl)
    | true =>
      rw [ref_step s m b r x hsg hd ha j y ys i x1 x2 x3 x4 x5 ho h0 (by omega)]
      refine ref_true j ys (i + 1) _ _ _ _ _ (by split <;> omega) (by split <;> omega) ?_
      rcases h with h | h
      · exact .inl h
      · right; rw [List.all_cons, ho, Bool.true_and] at h; exact h
include hsg hd ha in
theorem ref_good (j : Bool → Bool → Bool → Bool → Int → Option ByteArray) : ∀ (ys : List ByteArray) (i : Nat) (x1 x2 x3 x4 : Bool) (x5 : Int), 0 ≤ x5 → x5 + ys.length ≤ 1000 → ys.all (swok s b) = true →
    tumbref2_WrongOf_l1 s b r x m j ys i x1 x2 x3 x4 x5 = j x1 (x2 || ys.any (misC m b x)) (x3 || (!decide ((rc r x).Sex = 0) && ys.any (misS s r x))) (x4 || ys.any (misA s b r x)) (x5 + men s ys)
  | [], i, x1, x2, x3, x4, x5, _, _, _ => by simp [tumbref2_WrongOf_l1, men]
  | y :: ys, i, x1, x2, x3, x4, x5, h0, h1, h => by
    rw [List.all_cons, Bool.and_eq_true] at h
    simp only [List.length_cons] at h1
    rw [ref_step s m b r x hsg hd ha j y ys i x1 x2 x3 x4 x5 h.1 h0 (by omega), ref_good j ys (i + 1) _ _ _ _ _ (by split <;> omega) (by split <;> omega) h.2]
    rw [List.any_cons, List.any_cons, List.any_cons, men, Bool.or_assoc, Bool.or_assoc, Bool.or_assoc, Int.add_assoc, Bool.and_or_distrib_left]
include hs hsg hd ha in
theorem wrong_body (hw : x.Who.length = 4) : ∃ w, tumbref2_WrongOf r s m b x = some w ∧
    (Option.bind (swimmer_raceOf r x.Race) (fun r3 => if ((!r3.2) || (!decide (r3.1.Legs = 4))) then some (k_race, 0) else
      Join (fun (x1 : List GSwimmer) => Join (fun (x2 : Int) (x3 : Bool) (x4 : Bool) => Join (fun (x7 : Bool) => if x7 then some (k_sex, (0 : Int)) else if x4 then some (k_age, 0) else some (k_empty, 0)) (fun j5 =>
        if ((!decide (r3.1.Sex = 0)) && x3) then j5 ((!decide (r3.1.Sex = 0)) && x3) else j5 ((decide (r3.1.Sex = 0)) && (!decide (x2 = 2))))) (fun j2 => swimmer_Wrong_l2 m b x r3 j2 x1 0 0 false false)) (fun j1 => swimmer_Wrong_l1 s b j1 x.Who 0 ([] : List GSwimmer)))) = some (w, 0) := by
  rw [raceOf_eq]
  simp only [Option.bind_some, join_eq]
  unfold tumbref2_WrongOf
  split
  · exact ⟨k_race, rfl, rfl⟩
  · simp only [join_eq]
    rw [wrong_l1 s b hs _ x.Who 0 [] (by simp; omega), List.nil_append]
    cases hall : x.Who.all (swok s b) with
    | false =>
      obtain ⟨y2, y3, y4, y5, e⟩ := ref_true s m b r x hsg hd ha (fun (x1 : Bool) (x2 : Bool) (x3 : Bool) (x4 : Bool) (x5 : Int) =>
        if x1 then some k_who else if x2 then some k_club else if (x3 || ((decide ((((tumbref2_raceOf r x.Race).1).Sex) = 0)) && (!decide (x5 = 2)))) then some k_sex else if x4 then some k_age else some k_empty) x.Who 0 false false false false 0 (by omega) (by omega) (.inr hall)
      exact ⟨k_who, e, rfl⟩
    | true =>
      have h1 := wrong_l2 s m b r x hsg hd ha (tumbref2_raceOf r x.Race).2 (fun (x2 : Int) (x3 : Bool) (x4 : Bool) =>
        if ((!decide ((rc r x).Sex = 0)) && x3) then (if ((!decide ((rc r x).Sex = 0)) && x3) then some (k_sex, (0 : Int)) else if x4 then some (k_age, 0) else some (k_empty, 0)) else (if ((decide ((rc r x).Sex = 0)) && (!decide (x2 = 2))) then some (k_sex, 0) else if x4 then some (k_age, 0) else some (k_empty, 0))) x.Who 0 0 false false hall (by omega) (by omega)
      have h2 := ref_good s m b r x hsg hd ha (fun (x1 : Bool) (x2 : Bool) (x3 : Bool) (x4 : Bool) (x5 : Int) =>
        if x1 then some k_who else if x2 then some k_club else if (x3 || ((decide ((((tumbref2_raceOf r x.Race).1).Sex) = 0)) && (!decide (x5 = 2)))) then some k_sex else if x4 then some k_age else some k_empty) x.Who 0 false false false false 0 (by omega) (by omega) hall
      rw [if_pos rfl]
      have hsx : ((tumbref2_raceOf r x.Race).1).Sex = (rc r x).Sex := rfl
      simp only [hsx, Bool.false_or, Int.zero_add, Bool.false_eq_true, if_false] at h1 h2
      refine ⟨if x.Who.any (misC m b x) then k_club else if ((!decide ((rc r x).Sex = 0) && x.Who.any (misS s r x)) || (decide ((rc r x).Sex = 0) && !decide (men s x.Who = 2))) then k_sex else if x.Who.any (misA s b r x) then k_age else k_empty, h2.trans ?_, h1.trans ?_⟩
      · split
        · rfl
        · split
          · rfl
          · split <;> rfl
      · generalize x.Who.any (misC m b x) = C
        generalize x.Who.any (misS s r x) = S
        generalize x.Who.any (misA s b r x) = A
        generalize decide ((rc r x).Sex = 0) = Z
        generalize decide (men s x.Who = 2) = N
        cases C <;> cases S <;> cases A <;> cases Z <;> cases N <;> rfl
end
/-- One list of names is before another one, at some place. -/
def Bef (b f : List ByteArray) : Prop := ∃ p u v, b[p]? = some u ∧ f[p]? = some v ∧ b.take p = f.take p ∧ cB u v < 0
theorem get_lt {α : Type} {l : List α} {p : Nat} {u : α} (h : l[p]? = some u) : p < l.length := by
  rcases Nat.lt_or_ge p l.length with h1 | h1
  · exact h1
  · rw [List.getElem?_eq_none h1] at h; cases h
theorem Bef.app {b f : List ByteArray} (h : Bef b f) (r : List ByteArray) : Bef b (f ++ r) := by
  obtain ⟨p, u, v, h1, h2, h3, h4⟩ := h
  have := get_lt h2
  exact ⟨p, u, v, h1, by rw [List.getElem?_append_left this]; exact h2, by rw [List.take_append_of_le_length (by omega)]; exact h3, h4⟩
theorem cmp_eq0 (s : ByteArray) : cmp_Compare_string s s = 0 := by
  unfold cmp_Compare_string cmp_isNaN_string
  rw [sless_cb, cB_refl]; simp
theorem cmp_gt {u v : ByteArray} (h : cB u v < 0) : cmp_Compare_string v u = 1 := by
  unfold cmp_Compare_string cmp_isNaN_string
  have h1 := cB_flip v u
  have hne : v ≠ u := fun e => by rw [e, cB_refl] at h; omega
  have h2 : Sless v u = false := by rw [sless_cb, decide_eq_false_iff_not]; omega
  simp [h2, hne]
theorem cmp_l {b f : List ByteArray} {p : Nat} {u v : ByteArray} (h1 : b[p]? = some u) (h2 : f[p]? = some v) (h3 : b.take p = f.take p) (h4 : cB u v < 0) (j : Option Int) : ∀ (ys dn : List ByteArray), f = dn ++ ys → dn.length ≤ p → slices_Compare_string_l1 b j ys dn.length = some 1
  | [], dn, h, hd => by
    have := get_lt h2
    rw [h] at this; simp at this; omega
  | y :: ys, dn, h, hd => by
    have hb := get_lt h1
    have hy : f[dn.length]? = some y := by rw [h]; simp
    rw [slices_Compare_string_l1, if_neg (by simp; omega), chk_pos (inB_iff.2 (by omega))]
    by_cases e : dn.length = p
    · have hn : nth b (dn.length : Int) = u := by unfold nth; rw [Int.toNat_natCast, List.getD, e, h1]; rfl
      have hv : y = v := by rw [e] at hy; rw [h2] at hy; exact (Option.some.inj hy).symm
      rw [hn, hv, cmp_gt h4]; rfl
    · have hbd : b[dn.length]? = some y := by
        have e1 : (b.take p)[dn.length]? = b[dn.length]? := by rw [List.getElem?_take, if_pos (by omega)]
        have e2 : (f.take p)[dn.length]? = f[dn.length]? := by rw [List.getElem?_take, if_pos (by omega)]
        rw [← e1, h3, e2]; exact hy
      have hn : nth b (dn.length : Int) = y := by unfold nth; rw [Int.toNat_natCast, List.getD, hbd]; rfl
      rw [hn, cmp_eq0, if_neg (by simp)]
      have ih := cmp_l h1 h2 h3 h4 j ys (dn ++ [y]) (by rw [h]; simp) (by simp; omega)
      rw [List.length_append, List.length_singleton] at ih
      exact ih
theorem cmp_is {b f : List ByteArray} (h : Bef b f) : slices_Compare_string f b = some 1 := by
  obtain ⟨p, u, v, h1, h2, h3, h4⟩ := h
  unfold slices_Compare_string
  simp only [join_eq]
  exact cmp_l h1 h2 h3 h4 _ f [] rfl (by simp)
theorem prefix_eq {s : ByteArray} (hs : 1 ≤ s.size) : strings_HasPrefix s k_x = some (decide (sbyte s 0 = 120)) := by
  have hsz := size_list s
  obtain ⟨u, r, hl⟩ : ∃ u r, s.data.toList = u :: r := by
    cases h : s.data.toList with
    | nil => rw [h] at hsz; exact absurd hsz (by show ¬ s.size = 0; omega)
    | cons u r => exact ⟨u, r, rfl⟩
  have hu : sbyte s 0 = (u.toNat : Int) := sbyte_get (j := 0) (by rw [hl]; rfl)
  have hcut : (scut s 0 1).data.toList = [u] := by
    unfold scut
    simp [hl]
  have hx : k_x.size = 1 := by decide +kernel
  have heq : decide (scut s 0 1 = k_x) = decide ((u.toNat : Int) = 120) := by
    rw [decide_eq_decide]
    constructor
    · intro h
      rw [h] at hcut
      have hk : k_x.data.toList = [120] := by decide +kernel
      rw [hk] at hcut
      injection hcut with h1 _
      rw [← h1]; rfl
    · intro h
      have hu' : u = 120 := UInt8.toNat_inj.1 (by have : (120 : UInt8).toNat = 120 := rfl; omega)
      subst hu'
      have hk : k_x.data.toList = [120] := by decide +kernel
      have : (scut s 0 1).data = k_x.data := by rw [← Array.toList_inj, hcut, hk]
      cases h1 : scut s 0 1; cases h2 : k_x
      rw [h1, h2] at this
      simp only at this
      rw [this]
  unfold strings_HasPrefix stringslite_HasPrefix
  simp only [join_eq, hx]
  rw [if_pos (decide_eq_true (by omega)), chk_pos (cutB_iff.2 (by omega)), Option.bind_some]
  simp only [Int.natCast_one, heq, hu]
  rw [decide_eq_true (show (1 : Int) ≤ (s.size : Int) by omega), Bool.true_and]
theorem legs_size : ∀ (ys : List GLeg) (i : Nat) (last : ByteArray), tumbref2_LegsFault_l1 (some 0) ys i last = some 0 → ∀ y ∈ ys, 1 ≤ y.Who.size
  | [], _, _, _ => fun _ h => by cases h
  | y :: ys, i, last, h => by
    rw [tumbref2_LegsFault_l1] at h
    obtain ⟨b, _, e2⟩ := isKey_eq y.Who
    rw [e2, Option.bind_some] at h
    cases b with
    | false => rw [if_pos (by simp)] at h; cases h
    | true =>
      rw [if_neg (by simp)] at h
      split at h
      · cases h
      · split at h
        · cases h
        · split at h
          · cases h
          · intro z hz
            rcases List.mem_cons.1 hz with rfl | hz
            · exact key_size e2
            · exact legs_size ys (i + 1) y.Who h z hz
abbrev PF := List GLeg → Int → List ByteArray → List ByteArray → Int → Bool → Int → Int → Option (List ByteArray × List ByteArray × Int × Bool)
abbrev RF := List ByteArray → Int → Int → Int → List ByteArray → Int → List GLeg → Option (List ByteArray × Int)
/-- Both searches from one state on. -/
def TB (l : List GLeg) (b : Int) (f : PF) (h : RF) (d : Nat) : Prop :=
  ∀ (now names : List ByteArray) (bs g s : Int), now.length + d = 4 → 0 ≤ s → s ≤ 360000 * now.length → 0 ≤ g → g ≤ now.length → ¬ (0 < b ∧ b < g) → (names = [] ∨ (names.length = 4 ∧ Bef names now)) →
    ∃ names' bs', f l b now names bs (!names.isEmpty) g s = some (now, names', bs', !names'.isEmpty) ∧ h now s g b names bs l = some (names', bs') ∧ (names' = names ∨ (names'.length = 4 ∧ ∃ r, names' = now ++ r))
theorem both_loop {l : List GLeg} (hl : LGood l) (hsz : ∀ y ∈ l, 1 ≤ y.Who.size) (b : Int) (f : PF) (h : RF) (d : Nat) (hf : TB l b f h d) (hcut : ∀ now s g names bs, 0 < b → b < g → h now s g b names bs l = some (names, bs))
    (now : List ByteArray) (g s : Int) (hd : now.length + (d + 1) = 4) (hs0 : 0 ≤ s) (hs1 : s ≤ 360000 * now.length) (hg0 : 0 ≤ g) (hg1 : g ≤ now.length) :
    ∀ (ys : List GLeg) (i : Nat) (bs : Int) (names : List ByteArray), (∀ y ∈ ys, y ∈ l) → ys.Pairwise (fun x y => cB x.Who y.Who < 0) → (names = [] ∨ (names.length = 4 ∧ (Bef names now ∨ ∃ u r, names = now ++ u :: r ∧ ∀ y ∈ ys, cB u y.Who < 0))) →
      ∃ names' bs', crew_try_l1 now f l b s g (fun x4 x5 x6 x7 => some (x6, x7, x4, x5)) ys i bs (!names.isEmpty) now names = some (now, names', bs', !names'.isEmpty) ∧
        tumbref2_FastestOf_c1_l1 now h s b l g (fun x3 x4 => some (x3, x4)) ys i names bs = some (names', bs') ∧ (names' = names ∨ (names'.length = 4 ∧ ∃ r, names' = now ++ r))
  | [], i, bs, names, _, _, _ => ⟨names, bs, rfl, rfl, .inl rfl⟩
  | y :: ys, i, bs, names, hy, hp, hinv => by
    have hyl := hy y List.mem_cons_self
    have h4 := hl.four y hyl
    have hin : inB (now.length : Int) y.Times.length = true := inB_iff.2 (by omega)
    have htr := hl.rng y hyl _ (nth_mem hin)
    have hwho := hsz y hyl
    obtain ⟨p1, p2⟩ := List.pairwise_cons.1 hp
    have hys : ∀ z ∈ ys, z ∈ l := fun z hz => hy z (List.mem_cons_of_mem _ hz)
    have hinv' : names = [] ∨ (names.length = 4 ∧ (Bef names now ∨ ∃ u r, names = now ++ u :: r ∧ ∀ y ∈ ys, cB u y.Who < 0)) := by
      rcases hinv with h1 | ⟨h1, h2 | ⟨u, r, h2, h3⟩⟩
      · exact .inl h1
      · exact .inr ⟨h1, .inl h2⟩
      · exact .inr ⟨h1, .inr ⟨u, r, h2, fun z hz => h3 z (List.mem_cons_of_mem _ hz)⟩⟩
    have skip := both_loop hl hsz b f h d hf hcut now g s hd hs0 hs1 hg0 hg1 ys (i + 1) bs names hys p2 hinv'
    rw [crew_try_l1, tumbref2_FastestOf_c1_l1]
    simp only [join_eq, prefix_eq hwho, Option.bind_some]
    have hb0 : inB 0 y.Who.size = true := inB_iff.2 (by omega)
    -- with so many guests
    have key : ∀ g' : Int, 0 ≤ g' → g' ≤ now.length + 1 → ∃ names' bs', (Chk (inB (now.length : Int) y.Times.length) (if decide (nth y.Times (now.length : Int) = 0) = true then (if true = true then Chk (inB (now.length : Int) y.Times.length) (crew_try_l1 now f l b s g (fun x4 x5 x6 x7 => some (x6, x7, x4, x5)) ys (i + 1) bs (!names.isEmpty) now names) else (if slices_Contains_string now y.Who = true then crew_try_l1 now f l b s g (fun x4 x5 x6 x7 => some (x6, x7, x4, x5)) ys (i + 1) bs (!names.isEmpty) now names
        else Chk (room now.length) (Chk (inB (now.length : Int) y.Times.length) (Option.bind (f l b (now ++ [y.Who]) names bs (!names.isEmpty) g' (W (s + nth y.Times (now.length : Int)))) (fun r4 => Chk (cutB 0 (now.length : Int) r4.1.length) (crew_try_l1 now f l b s g (fun x4 x5 x6 x7 => some (x6, x7, x4, x5)) ys (i + 1) r4.2.2.1 r4.2.2.2 (cut r4.1 (0 : Int) (now.length : Int)) r4.2.1))))))
        else if decide (0 < b) = true then (if decide (b < g') = true then Chk (inB (now.length : Int) y.Times.length) (crew_try_l1 now f l b s g (fun x4 x5 x6 x7 => some (x6, x7, x4, x5)) ys (i + 1) bs (!names.isEmpty) now names) else (if slices_Contains_string now y.Who = true then crew_try_l1 now f l b s g (fun x4 x5 x6 x7 => some (x6, x7, x4, x5)) ys (i + 1) bs (!names.isEmpty) now names
        else Chk (room now.length) (Chk (inB (now.length : Int) y.Times.length) (Option.bind (f l b (now ++ [y.Who]) names bs (!names.isEmpty) g' (W (s + nth y.Times (now.length : Int)))) (fun r4 => Chk (cutB 0 (now.length : Int) r4.1.length) (crew_try_l1 now f l b s g (fun x4 x5 x6 x7 => some (x6, x7, x4, x5)) ys (i + 1) r4.2.2.1 r4.2.2.2 (cut r4.1 (0 : Int) (now.length : Int)) r4.2.1))))))
        else if false = true then Chk (inB (now.length : Int) y.Times.length) (crew_try_l1 now f l b s g (fun x4 x5 x6 x7 => some (x6, x7, x4, x5)) ys (i + 1) bs (!names.isEmpty) now names) else (if slices_Contains_string now y.Who = true then crew_try_l1 now f l b s g (fun x4 x5 x6 x7 => some (x6, x7, x4, x5)) ys (i + 1) bs (!names.isEmpty) now names
        else Chk (room now.length) (Chk (inB (now.length : Int) y.Times.length) (Option.bind (f l b (now ++ [y.Who]) names bs (!names.isEmpty) g' (W (s + nth y.Times (now.length : Int)))) (fun r4 => Chk (cutB 0 (now.length : Int) r4.1.length) (crew_try_l1 now f l b s g (fun x4 x5 x6 x7 => some (x6, x7, x4, x5)) ys (i + 1) r4.2.2.1 r4.2.2.2 (cut r4.1 (0 : Int) (now.length : Int)) r4.2.1)))))))
        = some (now, names', bs', !names'.isEmpty) ∧
        (Chk (inB (now.length : Int) y.Times.length) (if ((decide ((nth y.Times (now.length : Int)) = 0)) || (slices_Contains_string now y.Who)) = true then tumbref2_FastestOf_c1_l1 now h s b l g (fun x3 x4 => some (x3, x4)) ys (i + 1) names bs
          else Chk (inB 0 y.Who.size) (Option.bind (slices_Clone_string now) (fun r4 => Chk (room r4.length) (Option.bind (h (r4 ++ [y.Who]) (W (s + (nth y.Times (now.length : Int)))) g' b names bs l) (fun r5 => tumbref2_FastestOf_c1_l1 now h s b l g (fun x3 x4 => some (x3, x4)) ys (i + 1) r5.1 r5.2)))))) = some (names', bs') ∧ (names' = names ∨ (names'.length = 4 ∧ ∃ r, names' = now ++ r)) := by
      intro g' k0 k1
      simp only [chk_pos hin, if_true, Bool.false_eq_true, if_false]
      by_cases h0 : nth y.Times (now.length : Int) = 0
      · rw [if_pos (decide_eq_true h0), if_pos (by simp [h0])]
        exact skip
      · rw [if_neg (by simpa using h0)]
        by_cases hc : slices_Contains_string now y.Who = true
        · rw [if_pos (show ((decide ((nth y.Times (now.length : Int)) = 0)) || (slices_Contains_string now y.Who)) = true by rw [hc]; simp)]
          simp only [hc, if_true, ite_self]
          exact skip
        · simp only [Bool.not_eq_true] at hc
          rw [if_neg (show ¬ ((decide ((nth y.Times (now.length : Int)) = 0)) || (slices_Contains_string now y.Who)) = true by rw [hc]; simp [h0]), chk_pos hb0]
          have hclone : slices_Clone_string now = some now := by unfold slices_Clone_string; rw [chk_pos (by simp; omega), List.nil_append]
          have hroom : room now.length = true := by unfold room; simp; omega
          simp only [hclone, Option.bind_some, chk_pos hroom]
          have hwS : W (s + nth y.Times (now.length : Int)) = s + nth y.Times (now.length : Int) := W_in (by omega) (by omega)
          simp only [hwS, hc, Bool.false_eq_true, if_false]
          by_cases hg : 0 < b ∧ b < g'
          · rw [if_pos (decide_eq_true hg.1), if_pos (decide_eq_true hg.2), hcut _ _ _ _ _ hg.1 hg.2, Option.bind_some]
            exact skip
          · have hbef : names = [] ∨ (names.length = 4 ∧ Bef names (now ++ [y.Who])) := by
              rcases hinv with h1 | ⟨h1, h2 | ⟨u, r, h2, h3⟩⟩
              · exact .inl h1
              · exact .inr ⟨h1, h2.app _⟩
              · refine .inr ⟨h1, now.length, u, y.Who, by rw [h2]; simp, by simp, by rw [h2]; simp, h3 y List.mem_cons_self⟩
            obtain ⟨n1, b1, e1, e2, e3⟩ := hf (now ++ [y.Who]) names bs g' (s + nth y.Times (now.length : Int)) (by simp; omega) (by omega) (by simp; omega) k0 (by simp; omega) hg hbef
            have hcut2 : cut (now ++ [y.Who]) (0 : Int) (now.length : Int) = now := by simp [cut]
            have hinv1 : n1 = [] ∨ (n1.length = 4 ∧ (Bef n1 now ∨ ∃ u r, n1 = now ++ u :: r ∧ ∀ y ∈ ys, cB u y.Who < 0)) := by
              rcases e3 with rfl | ⟨q1, r, q2⟩
              · exact hinv'
              · exact .inr ⟨q1, .inr ⟨y.Who, r, by rw [q2]; simp, p1⟩⟩
            obtain ⟨n2, b2, w1, w2, w3⟩ := both_loop hl hsz b f h d hf hcut now g s hd hs0 hs1 hg0 hg1 ys (i + 1) b1 n1 hys p2 hinv1
            have hprog : Option.bind (f l b (now ++ [y.Who]) names bs (!names.isEmpty) g' (s + nth y.Times (now.length : Int))) (fun r4 => Chk (cutB 0 (now.length : Int) r4.1.length) (crew_try_l1 now f l b s g (fun x4 x5 x6 x7 => some (x6, x7, x4, x5)) ys (i + 1) r4.2.2.1 r4.2.2.2 (cut r4.1 (0 : Int) (now.length : Int)) r4.2.1)) = some (now, n2, b2, !n2.isEmpty) := by
              rw [e1, Option.bind_some, chk_pos (cutB_iff.2 (by simp; omega))]
              simp only [hcut2]
              exact w1
            refine ⟨n2, b2, ?_, by rw [e2, Option.bind_some]; exact w2, ?_⟩
            · by_cases hb : 0 < b
              · rw [if_pos (decide_eq_true hb), if_neg (by simp; omega)]; exact hprog
              · rw [if_neg (by simpa using hb)]; exact hprog
            · rcases w3 with rfl | w3
              · rcases e3 with rfl | ⟨q1, r, q2⟩
                · exact .inl rfl
                · exact .inr ⟨q1, y.Who :: r, by rw [q2]; simp⟩
              · exact .inr w3
    simp only [chk_pos hb0, chk_pos hin, Bool.false_eq_true, if_true, if_false] at key ⊢
    by_cases hx : sbyte y.Who 0 = 120
    · simp only [hx, decide_true, if_true]
      rw [W_in (by omega) (by omega)]
      exact key (g + 1) (by omega) (by omega)
    · simp only [hx, decide_false, Bool.false_eq_true, if_false]
      exact key g (by omega) (by omega)
theorem both_spec {l : List GLeg} (hl : LGood l) (hsz : ∀ y ∈ l, 1 ≤ y.Who.size) (b : Int) : ∀ (d m : Nat), d < m → TB l b (crew_try m) (tumbref2_FastestOf_c1 m) d
  | d, 0, h => by omega
  | 0, m + 1, _ => by
    intro now names bs g s hd _ _ _ _ hg hinv
    have h4 : now.length = 4 := by omega
    have hne : now.isEmpty = false := by
      cases now with
      | nil => simp at h4
      | cons a r => rfl
    show ∃ names' bs', crew_try_s (crew_try m) l b now names bs (!names.isEmpty) g s = some (now, names', bs', !names'.isEmpty) ∧ tumbref2_FastestOf_c1_s (tumbref2_FastestOf_c1 m) now s g b names bs l = some (names', bs') ∧ _
    unfold crew_try_s tumbref2_FastestOf_c1_s slices_Clone_string
    rw [if_neg (show ¬ ((decide (0 < b)) && (decide (b < g))) = true by simp only [Bool.and_eq_true, decide_eq_true_eq]; exact hg), if_pos (by simp [h4]), if_pos (by simp [h4])]
    simp only [join_eq, Bool.not_not]
    rw [chk_pos (by simp; omega)]
    simp only [Option.bind_some, List.nil_append, hne, Bool.not_false]
    by_cases hc : (names.isEmpty || decide (s < bs)) = true
    · rw [if_pos hc, if_pos hc, hc]
      exact ⟨now, s, by simp [hne], by simp [Chk], .inr ⟨h4, [], by simp⟩⟩
    · rw [if_neg hc, if_neg hc]
      simp only [Bool.not_eq_true] at hc
      refine ⟨names, bs, rfl, ?_, .inl rfl⟩
      by_cases hs : s = bs
      · have hb : Bef names now := by
          rcases hinv with h1 | ⟨_, h1⟩
          · rw [h1] at hc; simp at hc
          · exact h1
        rw [if_pos (decide_eq_true hs), cmp_is hb]
        simp [hc]
      · rw [if_neg (by simpa using hs)]
        simp [hc, hs]
  | d + 1, m + 1, h => by
    intro now names bs g s hd hs0 hs1 hg0 hg1 hg hinv
    show ∃ names' bs', crew_try_s (crew_try m) l b now names bs (!names.isEmpty) g s = some (now, names', bs', !names'.isEmpty) ∧ tumbref2_FastestOf_c1_s (tumbref2_FastestOf_c1 m) now s g b names bs l = some (names', bs') ∧ _
    unfold crew_try_s tumbref2_FastestOf_c1_s
    rw [if_neg (show ¬ ((decide (0 < b)) && (decide (b < g))) = true by simp only [Bool.and_eq_true, decide_eq_true_eq]; exact hg), if_neg (by simp; omega), if_neg (by simp; omega)]
    simp only [join_eq]
    refine both_loop hl hsz b (crew_try m) (tumbref2_FastestOf_c1 m) d (both_spec hl hsz b d m (by omega)) (fun now s g names bs h1 h2 => ?_) now g s hd hs0 hs1 hg0 hg1 l 0 bs names (fun _ h => h) hl.sort ?_
    · obtain ⟨m, rfl⟩ : ∃ q, m = q + 1 := ⟨m - 1, by omega⟩
      show tumbref2_FastestOf_c1_s (tumbref2_FastestOf_c1 m) now s g b names bs l = _
      unfold tumbref2_FastestOf_c1_s
      rw [if_pos (by simp [h1, h2])]
    · rcases hinv with h1 | ⟨h1, h2⟩
      · exact .inl h1
      · exact .inr ⟨h1, .inl h2⟩
/-- Both answer alike. -/
theorem fast_both {l : List GLeg} (hc : swimmer_CheckLegs l = some 0) (hf : tumbref2_LegsFault l = some 0) (hl : LGood l) (b : Int) (hb0 : 0 ≤ b) (hb1 : b ≤ 4) : ∃ names bs fd, swimmer_Fastest l b = some (names, bs, fd, 0) ∧ tumbref2_FastestOf l b = some (names, bs, fd) := by
  have hsz : ∀ y ∈ l, 1 ≤ y.Who.size := by
    unfold tumbref2_LegsFault at hf
    split at hf
    · cases hf
    · simp only [join_eq] at hf
      exact legs_size l 0 k_empty hf
  obtain ⟨n, bs, e1, e2, _⟩ := both_spec hl hsz b 4 16 (by omega) [] [] 0 0 0 rfl (Int.le_refl _) (by simp) (Int.le_refl _) (by simp) (by omega) (.inl rfl)
  unfold swimmer_Fastest tumbref2_FastestOf
  have hw : words_Within b 0 4 = true := by unfold words_Within; simp [hb0, hb1]
  rw [hc, e2]
  simp only [Option.bind_some, decide_true, Bool.not_true, Bool.false_eq_true, if_false, hw]
  have e1' : crew_try 16 l b [] [] 0 false 0 0 = some ([], n, bs, !n.isEmpty) := e1
  rw [e1']
  exact ⟨n, bs, !n.isEmpty, rfl, rfl⟩
theorem dated_ok : tumblaw2_dated = some true := by decide +kernel
theorem eq_str (l : List ByteArray) : ∀ (ys dn : List ByteArray), l = dn ++ ys → slices_Equal_string_l1 l (some true) ys dn.length = some true := by
  intro ys
  induction ys with
  | nil => intro dn _; rfl
  | cons y ys ih =>
    intro dn h
    rw [slices_Equal_string_l1]
    have hn : nth l (dn.length : Int) = y := by unfold nth; rw [h]; simp
    rw [chk_pos (by rw [inB_iff, h]; simp; omega), hn, if_neg (by simp)]
    have := ih (dn ++ [y]) (by rw [h]; simp)
    rwa [List.length_append, List.length_singleton] at this
theorem equal_str (l : List ByteArray) : slices_Equal_string l l = some true := by
  unfold slices_Equal_string
  rw [if_neg (by simp)]
  exact eq_str l l [] rfl
theorem bounds_eq (b : GBounds) : swimmer_checkBounds b = tumbref2_BoundsFault b := by
  unfold swimmer_checkBounds tumbref2_BoundsFault
  have hw : words_Within = tumbref2_in := rfl
  have hd : swimmer_isDay b.Day = tumbref2_Day b.Day := rfl
  have hway : swimmer_isWay b.Age = tumbref2_in b.Age 1 2 := by
    unfold swimmer_isWay tumbref2_in
    by_cases g1 : b.Age = 1
    · simp [g1]
    · by_cases g2 : b.Age = 2
      · simp [g2]
      · have : (decide (1 ≤ b.Age) && decide (b.Age ≤ 2)) = false := by simp; omega
        simp [g1, g2, this]
  rw [hw, hd, hway]
theorem bounds_good {b : GBounds} (h : tumbref2_BoundsFault b = 0) : b.Day ≤ 4000 ∧ (b.Age = 1 ∨ b.Age = 2) := by
  unfold tumbref2_BoundsFault at h
  split at h
  · cases h
  · split at h
    · cases h
    · split at h
      · cases h
      · rename_i h1 h2 h3
        unfold tumbref2_in at h2; unfold tumbref2_Day tumbref2_in at h3
        simp at h2 h3
        omega
/-- Wrong, as the law asks. -/
theorem wrong_law (r : List GRace) (s : List GSwimmer) (m : List GMove) (b : GBounds) (x : GSquad) : ∃ e1 e2 e3 e5 w, tumblaw2_racesFault r = some e1 ∧ tumbref2_SwimmersFault s = some e2 ∧ tumbref2_MovesFault m = some e3 ∧ tumbref2_SquadsFault [x] = some e5 ∧
    swimmer_Wrong r s m b x = some (w, tumblaw2_errs [e1, e2, e3, tumbref2_BoundsFault b, e5]) ∧ (tumblaw2_errs [e1, e2, e3, tumbref2_BoundsFault b, e5] = 0 → tumbref2_WrongOf r s m b x = some w) ∧ (tumblaw2_errs [e1, e2, e3, tumbref2_BoundsFault b, e5] ≠ 0 → w = k_empty) := by
  obtain ⟨e1, a1, a2⟩ := races_eq r
  obtain ⟨e2, b1, b2, b3⟩ := swim_eq s
  obtain ⟨e3, c1, c2, _⟩ := moves_eq m
  obtain ⟨e5, d1, d2, d3⟩ := squads_eq [x] (by simp)
  unfold swimmer_Wrong swimmer_checkMeet
  rw [a1, b1, c1, d1, bounds_eq]
  simp only [Option.bind_some, errs_cons, errs_nil]
  by_cases h1 : e1 = 0
  · by_cases h2 : e2 = 0
    · by_cases h3 : e3 = 0
      · by_cases h4 : tumbref2_BoundsFault b = 0
        · by_cases h5 : e5 = 0
          · obtain ⟨g1, g2⟩ := bounds_good h4
            obtain ⟨w, z1, z2⟩ := wrong_body s m b r x (by rw [b1, h2]) (b3 h2) g1 g2 (d3 h5 x List.mem_cons_self)
            refine ⟨e1, e2, e3, e5, w, a2, b2, c2, d2, ?_, fun _ => z1, fun h => by simp [h1, h2, h3, h4, h5] at h⟩
            simp only [h1, h2, h3, h4, h5, decide_true, Bool.not_true, Bool.false_eq_true, if_false, ne_eq, not_true_eq_false, Option.bind_some]
            exact z2
          · exact ⟨e1, e2, e3, e5, k_empty, a2, b2, c2, d2, by simp [h1, h2, h3, h4, h5], fun h => by simp [h1, h2, h3, h4, h5] at h, fun _ => rfl⟩
        · exact ⟨e1, e2, e3, e5, k_empty, a2, b2, c2, d2, by simp [h1, h2, h3, h4], fun h => by simp [h1, h2, h3, h4] at h, fun _ => rfl⟩
      · exact ⟨e1, e2, e3, e5, k_empty, a2, b2, c2, d2, by simp [h1, h2, h3], fun h => by simp [h1, h2, h3] at h, fun _ => rfl⟩
    · exact ⟨e1, e2, e3, e5, k_empty, a2, b2, c2, d2, by simp [h1, h2], fun h => by simp [h1, h2] at h, fun _ => rfl⟩
  · exact ⟨e1, e2, e3, e5, k_empty, a2, b2, c2, d2, by simp [h1], fun h => by simp [h1] at h, fun _ => rfl⟩
/-- The fastest, as the law asks. -/
theorem fast_law (l : List GLeg) (b : Int) : ∃ e names bs fd, swimmer_CheckLegs l = some e ∧ tumbref2_LegsFault l = some e ∧ swimmer_Fastest l b = some (names, bs, fd, tumblaw2_errs [e, tumblaw2_when (decide (b < 0) || decide (4 < b)) 1]) ∧
    (tumblaw2_errs [e, tumblaw2_when (decide (b < 0) || decide (4 < b)) 1] = 0 → tumbref2_FastestOf l b = some (names, bs, fd)) ∧ (tumblaw2_errs [e, tumblaw2_when (decide (b < 0) || decide (4 < b)) 1] ≠ 0 → names = [] ∧ bs = 0 ∧ fd = false) := by
  obtain ⟨e, h1, h2, h3⟩ := legs_eq l
  simp only [errs_cons, errs_nil]
  by_cases he : e = 0
  · subst he
    by_cases hb : 0 ≤ b ∧ b ≤ 4
    · obtain ⟨n, bs, fd, w1, w2⟩ := fast_both h1 h2 (h3 rfl) b hb.1 hb.2
      have hw : tumblaw2_when (decide (b < 0) || decide (4 < b)) 1 = 0 := by
        unfold tumblaw2_when
        rw [if_neg (by simp; omega)]
      refine ⟨0, n, bs, fd, h1, h2, by rw [hw]; simpa using w1, fun _ => w2, fun h => by rw [hw] at h; simp at h⟩
    · have hw : tumblaw2_when (decide (b < 0) || decide (4 < b)) 1 = 1 := by
        unfold tumblaw2_when
        rw [if_pos (by simp; omega)]
      refine ⟨0, [], 0, false, h1, h2, ?_, fun h => by rw [hw] at h; simp at h, fun _ => ⟨rfl, rfl, rfl⟩⟩
      unfold swimmer_Fastest
      have hin : words_Within b 0 4 = false := by unfold words_Within; simp; omega
      rw [h1, hw, hin]; simp
  · refine ⟨e, [], 0, false, h1, h2, ?_, fun h => by simp [he] at h, fun _ => ⟨rfl, rfl, rfl⟩⟩
    unfold swimmer_Fastest
    rw [h1]; simp [he]
theorem spoilt_len {L : List Int} (hL : LongL L) {a : Int} (h0 : 0 ≤ a) (h1 : a ≤ 100000) : Dr a 40 (fun x => x.length ≤ 3) (Stream_SpoiltRaces L a) := by
  unfold Stream_SpoiltRaces
  obtain ⟨x, b, e, g1, g2, g3⟩ := meetRaces_dr hL h0 (by omega)
  rw [e]; simp only [Option.bind_some, join_eq]
  by_cases hx : 0 < (x.length : Int)
  · rw [if_pos (decide_eq_true hx)]
    obtain ⟨f, b1, e1, g4, g5, _⟩ := flip_dr hL (a := b) (by omega) (by omega) 12 (by omega)
    rw [e1]; simp only [Option.bind_some]
    cases f with
    | false => rw [if_neg (by simp)]; exact ⟨x, b1, rfl, by omega, by omega, g3⟩
    | true =>
      rw [if_pos rfl]
      obtain ⟨i, b2, e2, g6, g7, g8⟩ := next_dr hL (a := b1) (by omega) (by omega) (x.length : Int) (by omega)
      rw [e2]; simp only [Option.bind_some]
      rw [chk_pos (inB_iff.2 ⟨g8.1, by omega⟩)]
      obtain ⟨s, b3, e3, g9, g10, _⟩ := some_dr hL (a := b2) (by omega) (by omega) [(nth x i).Key, k_empty, k_ra] (by simp) (by simp)
      rw [e3]; simp only [Option.bind_some]
      obtain ⟨t, b4, e4, g11, g12, _⟩ := odd_dr hL (a := b3) (by omega) (by omega) 1 4 (by omega) (by omega) (by omega)
      rw [e4]; simp only [Option.bind_some]
      obtain ⟨u, b5, e5, g13, g14, _⟩ := pick_dr hL (a := b4) (by omega) (by omega) [25, 50, 33] (by simp) (by simp)
      rw [e5]; simp only [Option.bind_some]
      obtain ⟨v, b6, e6, g15, g16, _⟩ := pick_dr hL (a := b5) (by omega) (by omega) [0, 1, 2, 3] (by simp) (by simp)
      rw [e6]; simp only [Option.bind_some]
      exact ⟨_, _, rfl, by omega, by omega, by simpa using g3⟩
  · rw [if_neg (by simpa using hx), if_neg (by simp)]
    exact ⟨x, b, rfl, by omega, by omega, g3⟩
theorem races_l {L : List Int} (hL : LongL L) (j : List GRace → Int → Option Bool) (hj : ∀ x a, 0 ≤ a → a ≤ 1000 → j x a = some true) : ∀ (ys : List GRace) (i : Nat) (x : List GRace) (a : Int), i + ys.length = x.length → x.length ≤ 100 → 0 ≤ a → a + 2 * ys.length ≤ 1000 → tumblaw2_RelaysMade_l1 L j ys i x a = some true
  | [], i, x, a, _, _, h0, h1 => hj x a h0 (by simpa using h1)
  | y :: ys, i, x, a, hi, hx, h0, h1 => by
    simp only [List.length_cons] at hi h1
    rw [tumblaw2_RelaysMade_l1]
    obtain ⟨f, b, e, g1, g2, _⟩ := flip_dr hL (a := a) (by omega) (by omega) 2 (by omega)
    rw [join_eq, e]; simp only [Option.bind_some]
    rw [join_eq]
    cases f with
    | false => rw [if_neg (by simp)]; exact races_l hL j hj ys (i + 1) x b (by omega) hx (by omega) (by omega)
    | true =>
      rw [if_pos rfl]
      obtain ⟨v, c, e2, g3, g4, _⟩ := pick_dr hL (a := b) (by omega) (by omega) [99, 5] (by simp) (by simp)
      rw [e2]; simp only [Option.bind_some]
      have hin : inB (i : Int) x.length = true := inB_iff.2 (by omega)
      rw [chk_pos hin, chk_pos (by rw [List.length_set]; exact hin)]
      simp only [join_eq]
      rw [chk_pos (by rw [List.length_set, List.length_set]; exact hin)]
      exact races_l hL j hj ys (i + 1) _ c (by rw [List.length_set, List.length_set, List.length_set]; omega) (by rw [List.length_set, List.length_set, List.length_set]; omega) (by omega) (by omega)
theorem pick_move {F : List GMove → Option Bool} (h : ∀ x, F x = some true) (f : Bool) (l : List Int) (a : Int) (m : List GMove) : Join F (fun j1 => if f then Option.bind (Stream_OneClub l a) (fun r7 => j1 r7) else j1 m) = some true := by
  obtain ⟨one, e⟩ := oneClub_ok l a
  rw [join_eq]
  cases f with
  | true => rw [if_pos rfl, e]; exact h one
  | false => rw [if_neg (by simp)]; exact h m
theorem plain_RelaysMade (l : List Int) (hl : l.length ≤ 9223372036854775807) : tumblaw2_RelaysMade l = some true := by
  have hL : LongL l := by unfold LongL; omega
  obtain ⟨r, a1, e1, p1, q1, hr⟩ := spoilt_len hL (a := 0) (by omega) (by omega)
  obtain ⟨s, a2, e2, p2, q2, _⟩ := swimmers_dr hL (a := a1) (by omega) (by omega)
  obtain ⟨m, a3, e3, p3, q3, _⟩ := moves_dr hL (a := a2) (by omega) (by omega)
  obtain ⟨b, a4, e4, p4, q4, _⟩ := bounds_dr hL (a := a3) (by omega) (by omega)
  obtain ⟨q, a5, e5, p5, q5, _⟩ := squad_dr hL (a := a4) (by omega) (by omega)
  obtain ⟨f, a6, e6, p6, q6, _⟩ := flip_dr hL (a := a5) (by omega) (by omega) 2 (by omega)
  unfold tumblaw2_RelaysMade
  rw [e1]; simp only [Option.bind_some]
  rw [e2]; simp only [Option.bind_some]
  rw [e3]; simp only [Option.bind_some]
  rw [e4]; simp only [Option.bind_some]
  rw [e5]; simp only [Option.bind_some]
  rw [e6]; simp only [Option.bind_some]
  refine pick_move (fun m => ?_) f l a6 m
  rw [join_eq]
  refine races_l hL _ (fun x2 x3 k0 k1 => ?_) r 0 r a6 (by simp) (by omega) (by omega) (by omega)
  obtain ⟨f1, f2, f3, f5, w, t1, t2, t3, t4, t5, t6, t7⟩ := wrong_law x2 s m b q
  obtain ⟨q2, c1, v1, _, _, _⟩ := squad_dr hL (a := x3) (by omega) (by omega)
  obtain ⟨g, c2, v2, _, _, _⟩ := legs_dr hL (a := c1) (by omega) (by omega)
  obtain ⟨k, c3, v3, _, _, _⟩ := pick_dr hL (a := c2) (by omega) (by omega) [0, 0, 1, 2, 4, 5, (-1)] (by simp) (by simp)
  obtain ⟨eq, u1, u2, _⟩ := squads_eq [q, q2] (by simp)
  obtain ⟨e, names, bs, fd, o1, o2, o3, o4, o5⟩ := fast_law g k
  rw [t1, t2, t3, t4, t5]
  simp only [Option.bind_some, join_eq, v1, v2, v3, u1, u2, o1, o2, o3, dated_ok, decide_true, Bool.not_true, Bool.false_eq_true, if_false, if_true, Bool.true_and, Bool.and_true]
  have hend : (if decide (tumblaw2_errs [e, tumblaw2_when (decide (k < 0) || decide (4 < k)) 1] = 0) = true then
      (tumbref2_FastestOf g k).bind fun r25 => (slices_Equal_string names r25.fst).bind fun r28 =>
        if (r28 && decide (bs = r25.snd.fst) && decide (fd = r25.snd.snd)) = true then some (r28 && decide (bs = r25.snd.fst) && decide (fd = r25.snd.snd)) else some (r28 && decide (bs = r25.snd.fst) && decide (fd = r25.snd.snd))
      else (slices_Equal_string names []).bind fun r28 => if (r28 && decide (bs = 0) && decide (fd = false)) = true then some (r28 && decide (bs = 0) && decide (fd = false)) else some (r28 && decide (bs = 0) && decide (fd = false))) = some true := by
    by_cases h : tumblaw2_errs [e, tumblaw2_when (decide (k < 0) || decide (4 < k)) 1] = 0
    · rw [if_pos (decide_eq_true h), o4 h]; simp [equal_str]
    · obtain ⟨rfl, rfl, rfl⟩ := o5 h
      rw [if_neg (by simpa using h)]; simp [equal_str]
  by_cases h : tumblaw2_errs [f1, f2, f3, tumbref2_BoundsFault b, f5] = 0
  · rw [if_pos (decide_eq_true h), t6 h]
    simp only [Option.bind_some, decide_true, Bool.not_true, Bool.false_eq_true, if_false]
    exact hend
  · have hw := t7 h
    rw [if_neg (by simpa using h)]
    simp only [hw, decide_true, Bool.not_true, Bool.false_eq_true, if_false]
    exact hend
end Go.Proofs.YtmngaaffadcccaaGreatDoor
