/- The plain law of EntriesCount. No program stands here but its twins. -/
import Derived.Test.YtacfgpcommiihaaGreatDoorPRefused
import Derived.Test.YtacfgpcommiihaaGreatDoorPErrs
import Derived.Test.YtacfgpcommiihaaGreatDoorPMoveS2
import Derived.Test.YtacfgpcommiihaaGreatDoorPSwimS
import Derived.Test.YtacfgpcommiihaaGreatDoorPEntryS
namespace Go.Proofs.YtacfgpcommiihaaGreatDoor
open Go
theorem dated_ok : tumblaw2_dated = some true := by decide +kernel
theorem eq_int (l : List Int) : ∀ (ys dn : List Int), l = dn ++ ys → slices_Equal_int_l1 l (some true) ys dn.length = some true := by
  intro ys
  induction ys with
  | nil => intro dn _; rfl
  | cons y ys ih =>
    intro dn h
    rw [slices_Equal_int_l1]
    have hn : nth l (dn.length : Int) = y := by unfold nth; rw [h]; simp
    rw [chk_pos (by rw [inB_iff, h]; simp; omega), hn, if_neg (by simp)]
    have := ih (dn ++ [y]) (by rw [h]; simp)
    rwa [List.length_append, List.length_singleton] at this
theorem equal_int (l : List Int) : slices_Equal_int l l = some true := by
  unfold slices_Equal_int
  rw [if_neg (by simp)]
  exact eq_int l l [] rfl
theorem bounds_eq (b : GBounds) : swimmer_checkBounds b = tumbref2_BoundsFault b := by
  unfold swimmer_checkBounds tumbref2_BoundsFault
  have hw : words_Within = tumbref2_in := rfl
  have hd : swimmer_isDay b.Day = tumbref2_Day b.Day := rfl
  have hway : swimmer_isWay b.Age = tumbref2_in b.Age 1 2 := by
    unfold swimmer_isWay tumbref2_in
    by_cases g1 : b.Age = 1
    · simp [g1]
    · by_cases g2 : b.Age = 2
      · simp [g2]
      · have : (decide (1 ≤ b.Age) && decide (b.Age ≤ 2)) = false := by simp; omega
        simp [g1, g2, this]
  rw [hw, hd, hway]
theorem bounds_good {b : GBounds} (h : tumbref2_BoundsFault b = 0) : b.Day ≤ 4000 ∧ (b.Age = 1 ∨ b.Age = 2) := by
  unfold tumbref2_BoundsFault at h
  split at h
  · cases h
  · split at h
    · cases h
    · split at h
      · cases h
      · rename_i h1 h2 h3
        unfold tumbref2_in at h2; unfold tumbref2_Day tumbref2_in at h3
        simp at h2 h3
        omega
/-- Refused, as the law asks. -/
theorem refused_law (r : List GRace) (s : List GSwimmer) (m : List GMove) (b : GBounds) (l : List GEntry) : ∃ e1 e2 e3 e5 n, tumblaw2_racesFault r = some e1 ∧ tumbref2_SwimmersFault s = some e2 ∧ tumbref2_MovesFault m = some e3 ∧ tumbref2_EntriesFault l = some e5 ∧ swimmer_CheckEntries l = some e5 ∧
    swimmer_Refused r s m b l = some (n, tumblaw2_errs [e1, e2, e3, tumbref2_BoundsFault b, e5]) ∧ (tumblaw2_errs [e1, e2, e3, tumbref2_BoundsFault b, e5] = 0 → tumbref2_RefusedEntries r s m b l = some n) ∧ (tumblaw2_errs [e1, e2, e3, tumbref2_BoundsFault b, e5] ≠ 0 → n = []) := by
  obtain ⟨e1, a1, a2⟩ := races_eq r
  obtain ⟨e2, b1, b2, b3⟩ := swim_eq s
  obtain ⟨e3, c1, c2, _⟩ := moves_eq m
  obtain ⟨e5, d1, d2, d3⟩ := entries_eq l
  unfold swimmer_Refused swimmer_checkMeet
  rw [a1, b1, c1, d1, bounds_eq]
  simp only [Option.bind_some, errs_cons, errs_nil]
  by_cases h1 : e1 = 0
  · by_cases h2 : e2 = 0
    · by_cases h3 : e3 = 0
      · by_cases h4 : tumbref2_BoundsFault b = 0
        · by_cases h5 : e5 = 0
          · obtain ⟨g1, g2⟩ := bounds_good h4
            obtain ⟨z, z1, z2⟩ := refused_loop r s m b (by rw [b1, h2]) (b3 h2) g1 g2 l (d3 h5) l [] [] [] [] [] rfl (by simp) (by simp) (fun _ => by simp [mgetD, mget, mfind, cntW]) (fun _ _ => by simp [mgetD, mget, mfind, cntC])
            have z2' : tumbref2_RefusedEntries r s m b l = some z := z2
            refine ⟨e1, e2, e3, e5, z, a2, b2, c2, d2, rfl, ?_, fun _ => z2', fun h => by simp [h1, h2, h3, h4, h5] at h⟩
            simp only [h1, h2, h3, h4, h5, decide_true, Bool.not_true, Bool.false_eq_true, if_false, ne_eq, not_true_eq_false, Option.bind_some, join_eq]
            exact z1
          · exact ⟨e1, e2, e3, e5, [], a2, b2, c2, d2, rfl, by simp [h1, h2, h3, h4, h5], fun h => by simp [h1, h2, h3, h4, h5] at h, fun _ => rfl⟩
        · exact ⟨e1, e2, e3, e5, [], a2, b2, c2, d2, rfl, by simp [h1, h2, h3, h4], fun h => by simp [h1, h2, h3, h4] at h, fun _ => rfl⟩
      · exact ⟨e1, e2, e3, e5, [], a2, b2, c2, d2, rfl, by simp [h1, h2, h3], fun h => by simp [h1, h2, h3] at h, fun _ => rfl⟩
    · exact ⟨e1, e2, e3, e5, [], a2, b2, c2, d2, rfl, by simp [h1, h2], fun h => by simp [h1, h2] at h, fun _ => rfl⟩
  · exact ⟨e1, e2, e3, e5, [], a2, b2, c2, d2, rfl, by simp [h1], fun h => by simp [h1] at h, fun _ => rfl⟩
theorem spoilt_dr {L : List Int} (hL : LongL L) {a : Int} (h0 : 0 ≤ a) (h1 : a ≤ 100000) : Dr a 40 (fun _ => True) (Stream_SpoiltRaces L a) := by
  unfold Stream_SpoiltRaces
  obtain ⟨x, b, e, g1, g2, g3⟩ := meetRaces_dr hL h0 (by omega)
  rw [e]; simp only [Option.bind_some, join_eq]
  by_cases hx : 0 < (x.length : Int)
  · rw [if_pos (decide_eq_true hx)]
    obtain ⟨f, b1, e1, g4, g5, _⟩ := flip_dr hL (a := b) (by omega) (by omega) 12 (by omega)
    rw [e1]; simp only [Option.bind_some]
    cases f with
    | false => rw [if_neg (by simp)]; exact ⟨x, b1, rfl, by omega, by omega, trivial⟩
    | true =>
      rw [if_pos rfl]
      obtain ⟨i, b2, e2, g6, g7, g8⟩ := next_dr hL (a := b1) (by omega) (by omega) (x.length : Int) (by omega)
      rw [e2]; simp only [Option.bind_some]
      rw [chk_pos (inB_iff.2 ⟨g8.1, by omega⟩)]
      obtain ⟨s, b3, e3, g9, g10, _⟩ := some_dr hL (a := b2) (by omega) (by omega) [(nth x i).Key, k_empty, k_ra] (by simp) (by simp)
      rw [e3]; simp only [Option.bind_some]
      obtain ⟨t, b4, e4, g11, g12, _⟩ := odd_dr hL (a := b3) (by omega) (by omega) 1 4 (by omega) (by omega) (by omega)
      rw [e4]; simp only [Option.bind_some]
      obtain ⟨u, b5, e5, g13, g14, _⟩ := pick_dr hL (a := b4) (by omega) (by omega) [25, 50, 33] (by simp) (by simp)
      rw [e5]; simp only [Option.bind_some]
      obtain ⟨v, b6, e6, g15, g16, _⟩ := pick_dr hL (a := b5) (by omega) (by omega) [0, 1, 2, 3] (by simp) (by simp)
      rw [e6]; simp only [Option.bind_some]
      exact ⟨_, _, rfl, by omega, by omega, trivial⟩
  · rw [if_neg (by simpa using hx), if_neg (by simp)]
    exact ⟨x, b, rfl, by omega, by omega, trivial⟩
theorem plain_EntriesCount (l : List Int) (hl : l.length ≤ 9223372036854775807) : tumblaw2_EntriesCount l = some true := by
  have hL : LongL l := by unfold LongL; omega
  obtain ⟨r, a1, e1, p1, q1, _⟩ := spoilt_dr hL (a := 0) (by omega) (by omega)
  obtain ⟨s, a2, e2, p2, q2, _⟩ := swimmers_dr hL (a := a1) (by omega) (by omega)
  obtain ⟨m, a3, e3, p3, q3, _⟩ := moves_dr hL (a := a2) (by omega) (by omega)
  obtain ⟨b, a4, e4, p4, q4, _⟩ := bounds_dr hL (a := a3) (by omega) (by omega)
  obtain ⟨k, a5, e5, p5, q5, k1, k2⟩ := range_dr hL (a := a4) (by omega) (by omega) 0 14 (by omega) (by omega) (by omega)
  obtain ⟨x, a6, e6, p6, q6, _⟩ := entries_dr hL (a := a5) (by omega) (by omega) k (by omega) (by omega)
  obtain ⟨f, a7, e7, p7, q7, _⟩ := flip_dr hL (a := a6) (by omega) (by omega) 2 (by omega)
  obtain ⟨one, e8⟩ := oneClub_ok l a7
  have body : ∀ m : List GMove, (Option.bind (swimmer_Refused r s m b x) fun r9 => Option.bind (tumblaw2_racesFault r) fun r10 => Option.bind (tumbref2_SwimmersFault s) fun r11 => Option.bind (tumbref2_MovesFault m) fun r12 => Option.bind (tumbref2_EntriesFault x) fun r13 =>
      Join (fun (x2 : List Int) => Option.bind (swimmer_CheckEntries x) fun r15 => Option.bind (tumbref2_EntriesFault x) fun r16 => Join (fun (c1 : Bool) => Join (fun (c2 : Bool) => some c2) (fun j4 => if c1 then Option.bind (tumblaw2_dated) (fun r18 => j4 (c1 && r18)) else j4 (c1 && true))) (fun j3 =>
        if ((decide (r15 = r16)) && (decide (r9.2 = (tumblaw2_errs [r10, r11, r12, (tumbref2_BoundsFault b), r13])))) then Option.bind (slices_Equal_int r9.1 x2) (fun r17 => j3 (((decide (r15 = r16)) && (decide (r9.2 = (tumblaw2_errs [r10, r11, r12, (tumbref2_BoundsFault b), r13])))) && r17)) else j3 (((decide (r15 = r16)) && (decide (r9.2 = (tumblaw2_errs [r10, r11, r12, (tumbref2_BoundsFault b), r13])))) && true))) (fun j2 =>
      if decide ((tumblaw2_errs [r10, r11, r12, (tumbref2_BoundsFault b), r13]) = 0) then Option.bind (tumbref2_RefusedEntries r s m b x) (fun r14 => j2 r14) else j2 ([] : List Int))) = some true := by
    intro m
    obtain ⟨f1, f2, f3, f5, n, t1, t2, t3, t4, t5, t6, t7, t8⟩ := refused_law r s m b x
    rw [t1, t2, t3, t4, t5, t6]
    simp only [Option.bind_some, join_eq, dated_ok, decide_true, Bool.and_self, if_true, Bool.true_and]
    by_cases h : tumblaw2_errs [f1, f2, f3, tumbref2_BoundsFault b, f5] = 0
    · rw [if_pos (decide_eq_true h), t7 h]; simp [equal_int]
    · rw [if_neg (by simpa using h), t8 h]; simp [equal_int]
  unfold tumblaw2_EntriesCount
  rw [e1]; simp only [Option.bind_some]
  rw [e2]; simp only [Option.bind_some]
  rw [e3]; simp only [Option.bind_some]
  rw [e4]; simp only [Option.bind_some]
  rw [e5]; simp only [Option.bind_some]
  rw [e6]; simp only [Option.bind_some]
  rw [e7]; simp only [Option.bind_some]
  rw [join_eq]
  cases f with
  | true => rw [if_pos rfl, e8]; exact body one
  | false => rw [if_neg (by simp)]; exact body m
end Go.Proofs.YtacfgpcommiihaaGreatDoor
