/- The plain law of ClubsMoves. No program stands here but its twins. -/
import Derived.Test.YtoojifenkcnjdaaDoorPMembers
import Derived.Test.YtoojifenkcnjdaaDoorPErrs
import Derived.Test.YtoojifenkcnjdaaDoorPRace
import Derived.Test.YtoojifenkcnjdaaDoorPMoveS2
import Derived.Test.YtoojifenkcnjdaaDoorPMeetRaceS
import Derived.Test.YtoojifenkcnjdaaDoorPMeetDayS
import Derived.Test.YtoojifenkcnjdaaDoorPAge
namespace Go.Proofs.YtoojifenkcnjdaaDoor
open Go
theorem dated_ok : tumblaw2_dated = some true := by decide +kernel
theorem eq_str (l : List ByteArray) : ∀ (ys dn : List ByteArray), l = dn ++ ys → slices_Equal_string_l1 l (some true) ys dn.length = some true := by
  intro ys
  induction ys with
  | nil => intro dn _; rfl
  | cons y ys ih =>
    intro dn h
    rw [slices_Equal_string_l1]
    have hn : nth l (dn.length : Int) = y := by unfold nth; rw [h]; simp
    rw [chk_pos (by rw [inB_iff, h]; simp; omega), hn, if_neg (by simp)]
    have := ih (dn ++ [y]) (by rw [h]; simp)
    rwa [List.length_append, List.length_singleton] at this
theorem equal_str (l : List ByteArray) : slices_Equal_string l l = some true := by
  unfold slices_Equal_string
  rw [if_neg (by simp)]
  exact eq_str l l [] rfl
/-- What is asked of moves, a key and a day. -/
theorem checkClub_eq (l : List GMove) (key : ByteArray) (day : Int) : ∃ e f, tumbref2_MovesFault l = some e ∧ swimmer_CheckMoves l = some e ∧ tumblaw2_nameFault key = some f ∧ swimmer_checkClub l key day = some (tumblaw2_errs [e, f, tumblaw2_when (!(tumbref2_Day day)) 1]) ∧ (e = 0 → l.length ≤ 1000 ∧ MSorted l) := by
  obtain ⟨e, h1, h2, h3⟩ := moves_eq l
  obtain ⟨b, k1, k2⟩ := isKey_eq key
  refine ⟨e, tumblaw2_when (!b) 5, h2, h1, ?_, ?_, h3⟩
  · unfold tumblaw2_nameFault; rw [k2]; rfl
  · unfold swimmer_checkClub
    rw [h1, k1]
    simp only [Option.bind_some, errs_cons, errs_nil]
    have hd : swimmer_isDay day = tumbref2_Day day := rfl
    rw [hd]
    unfold tumblaw2_when
    by_cases he : e = 0
    · cases b <;> cases tumbref2_Day day <;> simp [he]
    · simp [he]
theorem clubAt_law (l : List GMove) (who : ByteArray) (day e f : Int) (h1 : swimmer_checkClub l who day = some (tumblaw2_errs [e, f, tumblaw2_when (!(tumbref2_Day day)) 1])) :
    swimmer_ClubAt l who day = some (if tumblaw2_errs [e, f, tumblaw2_when (!(tumbref2_Day day)) 1] = 0 then tumbref2_ClubFor l who day else k_empty, tumblaw2_errs [e, f, tumblaw2_when (!(tumbref2_Day day)) 1]) := by
  unfold swimmer_ClubAt
  rw [h1]
  simp only [Option.bind_some, club_eq]
  by_cases h : tumblaw2_errs [e, f, tumblaw2_when (!(tumbref2_Day day)) 1] = 0
  · simp [h]
  · simp [h]
theorem members_law (l : List GMove) (club : ByteArray) (day e f : Int) (h1 : swimmer_checkClub l club day = some (tumblaw2_errs [e, f, tumblaw2_when (!(tumbref2_Day day)) 1])) (h3 : e = 0 → l.length ≤ 1000 ∧ MSorted l) :
    ∃ x, swimmer_Members l club day = some (x, tumblaw2_errs [e, f, tumblaw2_when (!(tumbref2_Day day)) 1]) ∧ (tumblaw2_errs [e, f, tumblaw2_when (!(tumbref2_Day day)) 1] = 0 → tumbref2_MembersOf l club day = some x) ∧ (tumblaw2_errs [e, f, tumblaw2_when (!(tumbref2_Day day)) 1] ≠ 0 → x = []) := by
  unfold swimmer_Members tumbref2_MembersOf
  rw [h1]
  simp only [Option.bind_some, join_eq]
  by_cases h : tumblaw2_errs [e, f, tumblaw2_when (!(tumbref2_Day day)) 1] = 0
  · have he : e = 0 := by
      rw [errs_cons] at h
      by_cases he : e = 0
      · exact he
      · rw [if_pos he] at h; exact h
    obtain ⟨g1, g2⟩ := h3 he
    obtain ⟨z, z1, z2⟩ := members_loop l g1 g2 day club l [] [] rfl (by simp) (fun _ h => by cases h) (fun _ h => by cases h)
    rw [h]
    exact ⟨z, z1, fun _ => z2, fun h => (h rfl).elim⟩
  · exact ⟨[], by simp [h], fun h' => (h h').elim, fun _ => rfl⟩
theorem may_law (r : GRace) (p : GSwimmer) (day way : Int) : ∃ ok e f, swimmer_May r p day way = some (ok, tumblaw2_errs [e, f]) ∧ tumbref1_RaceFault r = some e ∧ tumbref2_AgeFault p day way = some f ∧
    (tumblaw2_errs [e, f] = 0 → tumbref2_MayFor r p day way = some ok) ∧ (tumblaw2_errs [e, f] ≠ 0 → ok = false) := by
  obtain ⟨e, r1, r2⟩ := race_eq r
  unfold swimmer_May
  rw [r1, r2]
  simp only [Option.bind_some, errs_cons, errs_nil]
  obtain ⟨f, c1, c2, c3⟩ := checkAge_eq p day way
  rw [c1, c2]
  simp only [Option.bind_some]
  by_cases he : e = 0
  · by_cases hf : f = 0
    · obtain ⟨n, n1, n2⟩ := c3 hf
      unfold swimmer_may tumbref2_MayFor
      rw [n1, n2]
      simp only [Option.bind_some, join_eq]
      have hw : words_Within n r.Young r.Old = tumbref2_in n r.Young r.Old := rfl
      by_cases s0 : r.Sex = 0
      · exact ⟨tumbref2_in n r.Young r.Old, 0, 0, by simp [he, hf, s0, hw], rfl.trans (by rw [he]), by rw [hf], fun _ => by simp [s0], fun h => by simp at h⟩
      · by_cases s1 : r.Sex = p.Sex
        · exact ⟨tumbref2_in n r.Young r.Old, 0, 0, by simp [he, hf, s0, s1, hw], rfl.trans (by rw [he]), by rw [hf], fun _ => by simp [s0, s1], fun h => by simp at h⟩
        · exact ⟨false, 0, 0, by simp [he, hf, s0, s1, hw], rfl.trans (by rw [he]), by rw [hf], fun _ => by simp [s0, s1], fun h => by simp at h⟩
    · exact ⟨false, e, f, by simp [he, hf], rfl, rfl, fun h => by simp [he, hf] at h, fun _ => rfl⟩
  · exact ⟨false, e, f, by simp [he], rfl, rfl, fun h => by simp [he] at h, fun _ => rfl⟩
theorem plain_ClubsMoves (l : List Int) (hl : l.length ≤ 9223372036854775807) : tumblaw2_ClubsMoves l = some true := by
  have hL : LongL l := by unfold LongL; omega
  obtain ⟨m, a1, e1, p1, q1, _⟩ := moves_dr hL (a := 0) (by omega) (by omega)
  obtain ⟨who, a2, e2, p2, q2, _⟩ := some_dr hL (a := a1) (by omega) (by omega) [k_ann, k_bea, k_cid, k_zed, k_empty] (by simp) (by simp)
  obtain ⟨club, a3, e3, p3, q3, _⟩ := some_dr hL (a := a2) (by omega) (by omega) [k_blue, k_red, k_zed, k_A] (by simp) (by simp)
  obtain ⟨day, a4, e4, p4, q4, _⟩ := meetDay_dr hL (a := a3) (by omega) (by omega)
  obtain ⟨r, a5, e5, p5, q5, _⟩ := meetRace_dr hL (a := a4) (by omega) (by omega) k_ra
  obtain ⟨sex, a6, e6, p6, q6, _⟩ := pick_dr hL (a := a5) (by omega) (by omega) [1, 2] (by simp) (by simp)
  obtain ⟨born, a7, e7, p7, q7, _⟩ := pick_dr hL (a := a6) (by omega) (by omega) [59, 0, (-1), (-3653)] (by simp) (by simp)
  obtain ⟨way, a8, e8, p8, q8, _⟩ := pick_dr hL (a := a7) (by omega) (by omega) [1, 2, 0] (by simp) (by simp)
  obtain ⟨fl, a9, e9, p9, q9, _⟩ := flip_dr hL (a := a8) (by omega) (by omega) 12 (by omega)
  obtain ⟨e, f, c1, c2, c3, c4, c5⟩ := checkClub_eq m who day
  obtain ⟨e', f', d1, d2, d3, d4, d5⟩ := checkClub_eq m club day
  obtain rfl : e' = e := Option.some.inj (d1.symm.trans c1)
  have hclub := clubAt_law m who day e' f c4
  obtain ⟨x, m1, m2, m3⟩ := members_law m club day e' f' d4 d5
  have may : ∀ c : Int, (Option.bind (swimmer_May (GRace.mk r.Key r.Metres r.Stroke c r.Legs r.Sex r.Young r.Old) (GSwimmer.mk k_ann sex born) day way) fun r18 => Option.bind (tumbref1_RaceFault (GRace.mk r.Key r.Metres r.Stroke c r.Legs r.Sex r.Young r.Old)) fun r19 =>
      Option.bind (tumbref2_AgeFault (GSwimmer.mk k_ann sex born) day way) fun r20 => Join (fun (c2 : Bool) => Join (fun (c4 : Bool) => some c4) (fun j7 => if c2 then Option.bind (tumblaw2_dated) (fun r22 => j7 (c2 && r22)) else j7 (c2 && true))) (fun j5 =>
        if (decide (r18.2 = (tumblaw2_errs [r19, r20]))) then Join (fun (c3 : Bool) => j5 ((decide (r18.2 = (tumblaw2_errs [r19, r20]))) && (decide (r18.1 = c3)))) (fun j6 =>
          if (decide ((tumblaw2_errs [r19, r20]) = 0)) then Option.bind (tumbref2_MayFor (GRace.mk r.Key r.Metres r.Stroke c r.Legs r.Sex r.Young r.Old) (GSwimmer.mk k_ann sex born) day way) (fun r21 => j6 ((decide ((tumblaw2_errs [r19, r20]) = 0)) && r21)) else j6 ((decide ((tumblaw2_errs [r19, r20]) = 0)) && true))
        else j5 ((decide (r18.2 = (tumblaw2_errs [r19, r20]))) && true))) = some true := by
    intro c
    obtain ⟨ok, g1, g2, t1, t2, t3, t4, t5⟩ := may_law (GRace.mk r.Key r.Metres r.Stroke c r.Legs r.Sex r.Young r.Old) (GSwimmer.mk k_ann sex born) day way
    rw [t1, t2, t3]
    simp only [Option.bind_some, join_eq, dated_ok, decide_true, if_true, Bool.true_and]
    by_cases h : tumblaw2_errs [g1, g2] = 0
    · rw [if_pos (decide_eq_true h), t4 h]; simp [h]
    · rw [if_neg (by simpa using h), t5 h]; simp [h]
  unfold tumblaw2_ClubsMoves
  rw [e1]; simp only [Option.bind_some]
  rw [e2]; simp only [Option.bind_some]
  rw [e3]; simp only [Option.bind_some]
  rw [e4]; simp only [Option.bind_some]
  rw [hclub, m1, c1, c3, d3, c2]
  simp only [Option.bind_some]
  have hk1 : ∀ k : ByteArray → Option Bool, (Join k fun j1 => if decide (tumblaw2_errs [e', f, tumblaw2_when (!(tumbref2_Day day)) 1] = 0) = true then j1 (tumbref2_ClubFor m who day) else j1 k_empty) = k (if tumblaw2_errs [e', f, tumblaw2_when (!(tumbref2_Day day)) 1] = 0 then tumbref2_ClubFor m who day else k_empty) := by
    intro k
    rw [join_eq]
    by_cases h : tumblaw2_errs [e', f, tumblaw2_when (!(tumbref2_Day day)) 1] = 0 <;> simp [h]
  have hk2 : ∀ k : List ByteArray → Option Bool, (Join k fun j2 => if decide (tumblaw2_errs [e', f', tumblaw2_when (!(tumbref2_Day day)) 1] = 0) = true then Option.bind (tumbref2_MembersOf m club day) (fun r10 => j2 r10) else j2 ([] : List ByteArray)) = k x := by
    intro k
    rw [join_eq]
    by_cases h : tumblaw2_errs [e', f', tumblaw2_when (!(tumbref2_Day day)) 1] = 0
    · rw [if_pos (decide_eq_true h), m2 h]; rfl
    · rw [if_neg (by simpa using h), m3 h]
  rw [hk1, hk2]
  simp only [join_eq, decide_true, Bool.not_true, Bool.or_false, Bool.or_self, Bool.false_eq_true, if_false, equal_str, Option.bind_some]
  rw [e5]; simp only [Option.bind_some]
  rw [e6]; simp only [Option.bind_some]
  rw [e7]; simp only [Option.bind_some]
  rw [e8]; simp only [Option.bind_some]
  rw [e9]; simp only [Option.bind_some]
  cases fl with
  | true => rw [if_pos rfl]; exact may 33
  | false => rw [if_neg (by simp)]; exact may r.Course
end Go.Proofs.YtoojifenkcnjdaaDoor
