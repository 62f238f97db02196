/- The plain law of SwimmersStay. No program stands here but its twins. -/
import Derived.Test.YtmoigiaomdkfiaaDoorPLegs
import Derived.Test.YtmoigiaomdkfiaaDoorPTopQualifiedEnter
import Derived.Test.YtmoigiaomdkfiaaDoorPMembersAreOfOneClub
namespace Go.Proofs.YtmoigiaomdkfiaaDoor
open Go
theorem marks_tot : ∀ (l : List GMark) (i : Nat), ∃ e, swimmer_CheckMarks_l1 (some 0) l i = some e
  | [], _ => ⟨0, rfl⟩
  | y :: l, i => by
    obtain ⟨b1, k1⟩ := isKey_tot y.Who
    obtain ⟨b2, k2⟩ := isKey_tot y.Race
    obtain ⟨e, h1⟩ := marks_tot l (i + 1)
    rw [swimmer_CheckMarks_l1, k1, k2, h1]
    simp only [Option.bind_some, joinR]
    cases b1 <;> cases b2 <;> simp only [Bool.not_true, Bool.not_false, Bool.or_true, Bool.true_or, Bool.or_self, Bool.false_eq_true, if_true, if_false]
    · exact ⟨5, rfl⟩
    · exact ⟨5, rfl⟩
    · exact ⟨5, rfl⟩
    · split
      · exact ⟨1, rfl⟩
      · exact ⟨e, rfl⟩
theorem best_tot (l : List GMark) : ∃ r, swimmer_Best l k_ra k_ann 0 10 = some r := by
  unfold swimmer_Best
  have h1 : ∃ e, swimmer_CheckMarks l = some e := by
    unfold swimmer_CheckMarks
    split
    · exact ⟨2, rfl⟩
    · exact marks_tot l 0
  obtain ⟨e, h1⟩ := h1
  have k1 : words_IsKey k_ra = some true := by decide +kernel
  have k2 : words_IsKey k_ann = some true := by decide +kernel
  rw [h1, k1, k2]
  simp only [Option.bind_some, joinR]
  split
  · exact ⟨_, rfl⟩
  · simp only [Bool.not_true, Bool.or_self, Bool.false_eq_true, if_false]
    split
    · exact ⟨_, rfl⟩
    · exact ⟨_, rfl⟩
theorem fast_tot (l : List GLeg) : ∃ r, swimmer_Fastest l 0 = some r := by
  obtain ⟨e, h1, h2⟩ := legs_tot l
  by_cases h : e = 0
  · subst h
    obtain ⟨n, b, f, hf, _⟩ := fast_is h1 (h2 rfl) 0 (by omega) (by omega)
    exact ⟨_, hf⟩
  · unfold swimmer_Fastest
    rw [h1]
    simp only [Option.bind_some]
    rw [if_pos (by simp [h])]
    exact ⟨_, rfl⟩
theorem spoilS_l (z : ByteArray) (j : List ByteArray → Option (List ByteArray)) (F : List ByteArray → Nat → List ByteArray → Option (List ByteArray)) (h0 : ∀ i x, F [] i x = j x) (h1 : ∀ y ys i x, F (y :: ys) i x = Chk (inB (i : Int) x.length) (F ys (i + 1) (x.set ((i : Int).toNat) z))) :
    ∀ (ys : List ByteArray) (i : Nat) (x : List ByteArray), i + ys.length ≤ x.length → ∃ x', F ys i x = j x'
  | [], i, x, _ => ⟨x, h0 i x⟩
  | y :: ys, i, x, h => by
    simp only [List.length_cons] at h
    obtain ⟨x', e⟩ := spoilS_l z j F h0 h1 ys (i + 1) (x.set ((i : Int).toNat) z) (by simp; omega)
    exact ⟨x', by rw [h1, chkT (inB_iff.2 (by omega)), e]⟩
theorem spoil_tot (m : List ByteArray) : ∃ x', tumbkeep2_spoil_string m = some x' := spoilS_l k_empty (fun x => some x) (tumbkeep2_spoil_string_l1 fun x => some x) (fun _ _ => rfl) (fun _ _ _ _ => rfl) m 0 m (by omega)
theorem eqMove_is (l : List GMove) : slices_Equal_Move l l = some true := by
  unfold slices_Equal_Move
  rw [if_neg (by simp), joinR]
  exact eq_l l (slices_Equal_Move_l1 l (some true)) (fun _ => rfl) (fun _ _ _ => rfl) l [] rfl
theorem eqMark_is (l : List GMark) : slices_Equal_Mark l l = some true := by
  unfold slices_Equal_Mark
  rw [if_neg (by simp), joinR]
  exact eq_l l (slices_Equal_Mark_l1 l (some true)) (fun _ => rfl) (fun _ _ _ => rfl) l [] rfl
theorem eqInts_is (l : List Int) : slices_Equal_int l l = some true := by
  unfold slices_Equal_int
  rw [if_neg (by simp), joinR]
  exact eq_l l (slices_Equal_int_l1 l (some true)) (fun _ => rfl) (fun _ _ _ => rfl) l [] rfl
theorem sameLeg (y : GLeg) : tumbkeep2_SwimmersStay_c1 y y = some true := by
  unfold tumbkeep2_SwimmersStay_c1
  simp [joinR, eqInts_is]
theorem sameLegs (l : List GLeg) : ∀ (ys dn : List GLeg), l = dn ++ ys → slices_EqualFunc_Leg_tumbkeep2_SwimmersStay_c1_l1 l (some true) ys dn.length = some true
  | [], _, _ => rfl
  | y :: ys, dn, e => by
    have hlen : l.length = dn.length + (ys.length + 1) := by rw [e]; simp
    have ih := sameLegs l ys (dn ++ [y]) (by rw [e]; simp)
    rw [List.length_append, List.length_singleton] at ih
    have hn : nth l (dn.length : Int) = y := by
      have : nth (dn ++ y :: ys) (dn.length : Int) = y := nth_mid dn y ys rfl
      rwa [← e] at this
    rw [slices_EqualFunc_Leg_tumbkeep2_SwimmersStay_c1_l1, chkT (inB_iff.2 (by omega)), hn, sameLeg, Option.bind_some, if_neg (by simp), ih]
theorem plain_SwimmersStay (l : List Int) (hl : l.length ≤ 9223372036854775807) : tumbkeep2_SwimmersStay l = some true := by
  have hL : LongL l := by unfold LongL; omega
  obtain ⟨x, a1, e1, p1, q1, hm, hR⟩ := right_dr hL (a := 0) (by omega) (by omega)
  have e2 : ∃ y a2, Stream_Marks l a1 6 = some (y, a2) ∧ a1 ≤ a2 ∧ a2 ≤ a1 + 200 := by
    unfold Stream_Marks
    simp only [joinR]
    obtain ⟨y, b, e, g1, g2, g3, _⟩ := marks_l hL 6 (by omega) (((6 : Int) - 0).toNat + 1) [] a1 0 (by omega) (by omega) (by omega) (by omega) (by omega) (by simp) (fun _ h => by cases h)
    exact ⟨y, b, e, g1, by omega⟩
  obtain ⟨y, a2, e2, p2, q2⟩ := e2
  obtain ⟨z, a3, e3, p3, q3, z1⟩ := legs_dr hL (a := a2) (by omega) (by omega)
  have hck := check_right (by omega) hR
  have hday : swimmer_isDay 60 = true := by decide +kernel
  obtain ⟨z1, y1, _, _⟩ := members_in x (by omega) 60 k_blue x [] [] rfl (by simp) (fun _ h => by cases h) (fun _ h => by cases h)
  have m1 : swimmer_Members x k_blue 60 = some (z1, 0) := by
    have hk : words_IsKey k_blue = some true := by decide +kernel
    have hc : swimmer_checkClub x k_blue 60 = some 0 := by unfold swimmer_checkClub; rw [hck, hk]; simp [hday]
    unfold swimmer_Members; rw [hc]; simp only [Option.bind_some, decide_true, Bool.not_true, Bool.false_eq_true, if_false, join_eq]; exact y1
  obtain ⟨t1, hs1⟩ := spoil_tot z1
  obtain ⟨r9, hb⟩ := best_tot y
  obtain ⟨r10, hf⟩ := fast_tot z
  obtain ⟨t2, hs2⟩ := spoil_tot r10.1
  have hE : slices_EqualFunc_Leg_tumbkeep2_SwimmersStay_c1 z z = some true := by
    unfold slices_EqualFunc_Leg_tumbkeep2_SwimmersStay_c1
    rw [if_neg (by simp), joinR]
    exact sameLegs z z [] rfl
  unfold tumbkeep2_SwimmersStay
  simp only [e1, e2, e3, m1, hs1, hb, hf, hs2, eqMove_is, eqMark_is, hE, ready_ok, Option.bind_some, joinR]
  rfl
end Go.Proofs.YtmoigiaomdkfiaaDoor
