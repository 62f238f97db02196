/- The plain law of SwimmersRest. No program stands here but its twins. -/
import Derived.Test.YtoffbgomfcmfmaaGreatDoorPRests
import Derived.Test.YtoffbgomfcmfmaaGreatDoorPCallsS
import Derived.Test.YtoffbgomfcmfmaaGreatDoorPItemS
import Derived.Test.YtoffbgomfcmfmaaGreatDoorPErrs
namespace Go.Proofs.YtoffbgomfcmfmaaGreatDoor
open Go
theorem timedS : tumblaw2_timed = some true := by decide +kernel
theorem eqRest_is (l : List GRest) : slices_Equal_Rest l l = some true := by
  unfold slices_Equal_Rest
  rw [if_neg (by simp), joinR]
  exact eq_l l (slices_Equal_Rest_l1 l (some true)) (fun _ => rfl) (fun _ _ _ => rfl) l [] rfl
theorem eqPair_is (l : List GPair) : slices_Equal_Pair l l = some true := by
  unfold slices_Equal_Pair
  rw [if_neg (by simp), joinR]
  exact eq_l l (slices_Equal_Pair_l1 l (some true)) (fun _ => rfl) (fun _ _ _ => rfl) l [] rfl
theorem mgetD_nil (p : GPair) : mgetD ([] : List (GPair × Bool)) p false = decide (p ∈ ([] : List GPair)) := by
  simp [mgetD, mget, mfind]
theorem ixN_mem : ∀ {l : List GItem} {key : ByteArray} {k : Nat}, ixN l key = some k → key ∈ l.map (·.Key)
  | [], _, _, h => by cases h
  | y :: ys, key, k, h => by
    rw [ixN] at h
    split at h
    · rename_i hk; rw [← hk]; simp
    · cases hq : ixN ys key with
      | none => rw [hq] at h; cases h
      | some q => exact List.mem_cons_of_mem _ (ixN_mem hq)
set_option maxHeartbeats 1000000 in
theorem plain_SwimmersRest (l : List Int) (hl : l.length ≤ 9223372036854775807) : tumblaw2_SwimmersRest l = some true := by
  have hL : LongL l := by unfold LongL; omega
  obtain ⟨x, a1, e1, p1, q1, hx5⟩ := items_dr hL (a := 0) (by omega) (by omega) 5 (by omega) (by omega)
  obtain ⟨t, a2, e2, p2, q2, _⟩ := pick_dr hL (a := a1) (by omega) (by omega) [0, 0, 30, 1000, (-1), 345686399999, 345686399700, 345686400000] (by simp) (by simp)
  obtain ⟨need, a3, e3, p3, q3, _⟩ := pick_dr hL (a := a2) (by omega) (by omega) [0, 50, 100, 200, (-1), 3600001] (by simp) (by simp)
  obtain ⟨c, a4, e4, p4, q4, hc15, hcn⟩ := calls_dr hL (a := a3) (by omega) (by omega) x hx5
  obtain ⟨who, a5, e5, p5, q5, _⟩ := some_dr hL (a := a4) (by omega) (by omega) [k_ann, k_bea, k_zed, k_empty] (by simp) (by simp)
  unfold tumblaw2_SwimmersRest
  have e2' : Stream_SessionStart l a1 = some (t, a2) := by unfold Stream_SessionStart; rw [e2]; rfl
  rw [e1]; simp only [Option.bind_some]
  rw [e2']; simp only [Option.bind_some]
  rw [e3]; simp only [Option.bind_some]
  rw [e4]; simp only [Option.bind_some]
  rw [e5]; simp only [Option.bind_some]
  obtain ⟨e, s1, s2, s3⟩ := swims_eq x c
  obtain ⟨b, k1, k2⟩ := isKey_eq who
  have hname : tumblaw2_nameFault who = some (tumblaw2_when (!b) 5) := by unfold tumblaw2_nameFault; rw [k2]; rfl
  by_cases he : e = 0
  · subst he
    obtain ⟨hi, hg, hd, hcl, hcv, hadj⟩ := s3 rfl
    obtain ⟨S, f, b1, b2, b3, _⟩ := begin_eq x t hg hi
    have hP := calls_pair hadj
    have hB : session_Both x c = some (isort ltP (allP c c []), 0) := by
      unfold session_Both
      rw [s1]
      simp only [Option.bind_some, decide_true, Bool.not_true, Bool.false_eq_true, if_false, joinR]
      obtain ⟨m', h1⟩ := both_out c hcl hP (fun (x1 : List GPair) (_ : List (GPair × Bool)) => Option.bind (slices_SortFunc_Pair_session_Both_c1 x1) fun r2 => some (r2, 0)) c [] [] [] rfl (by simp) (fun p => mgetD_nil p)
      rw [List.length_nil] at h1
      rw [h1]
      have hlen := (allP_good (K := x.map (·.Key)) c (fun z hz => by obtain ⟨k, y, h⟩ := hcv z hz; exact ixN_mem h.ix) c [] (fun z hz => by obtain ⟨k, y, h⟩ := hcv z hz; exact ixN_mem h.ix) ⟨by simp, fun _ h => by cases h⟩).len (by rw [List.length_map]; omega)
      rw [sortP_is _ hlen]
      rfl
    have hB2 : tumbref2_BothOf x c = some (isort ltP (allP c c [])) := by
      unfold tumbref2_BothOf
      rw [joinR]
      have h1 := bothOf_out c hcl (fun (x1 : List GPair) => Option.bind (slices_SortFunc_Pair_tumbref2_BothOf_c1 x1) fun r1 => some r1) c [] [] rfl (by simp)
      rw [List.length_nil] at h1
      rw [h1]
      have hlen := (allP_good (K := x.map (·.Key)) c (fun z hz => by obtain ⟨k, y, h⟩ := hcv z hz; exact ixN_mem h.ix) c [] (fun z hz => by obtain ⟨k, y, h⟩ := hcv z hz; exact ixN_mem h.ix) ⟨by simp, fun _ h => by cases h⟩).len (by rw [List.length_map]; omega)
      rw [sortQ_is _ hlen]
      rfl
    by_cases hf : f = 0
    · subst hf
      obtain ⟨t0, t1, rfl⟩ := b3 rfl
      have hlen := tt_len x t hg
      have hT : (tt x t).length ≤ 10000 := by omega
      have hcalls : ∀ w, session_calls (session_slots (tt x t)) c w = some (mine (tt x t) c w) := fun w => calls_is x hg hd c hcl hcv hadj t w (hcn w)
      have hcallsOf : ∀ w, tumbref2_CallsOf x c w t = some (mine (tt x t) c w) := fun w => callsOf_is x hg hi c t t0 t1 w
      have hR : session_Rests x c t = some (allR (tt x t) c (nb (c.map (·.Who))), 0) := by
        unfold session_Rests
        rw [s1, b1]
        simp only [Option.bind_some, decide_true, Bool.not_true, Bool.false_eq_true, if_false]
        rw [rests_is _ c hcl hT hcalls]
        rfl
      have hR2 := restsOf_is x (tt x t) c hcl t hT hcallsOf
      have hrl : (allR (tt x t) c (nb (c.map (·.Who)))).length < 1000000000 := by
        have h1 := allR_len (tt x t) c hT (nb (c.map (·.Who)))
        have h2 := nb_len (c.map (·.Who))
        rw [List.length_map] at h2
        omega
      generalize allR (tt x t) c (nb (c.map (·.Who))) = RR at hR hR2 hrl
      have hS2 : tumbref2_ShortOf x c t need = some (RR.filter fun z => !decide (need ≤ z.Long)) := by
        unfold tumbref2_ShortOf
        rw [hR2]
        simp only [Option.bind_some]
        rw [shortOf_is RR hrl]
        rfl
      have hS : session_Short x c t need = some (if (decide (need < 0) || decide (3600000 < need)) then ([], 1) else (RR.filter fun z => !decide (need ≤ z.Long), 0)) := by
        unfold session_Short words_Within
        rw [hR]
        simp only [Option.bind_some, decide_true, Bool.not_true, Bool.false_eq_true, if_false]
        by_cases hn : need < 0
        · simp [hn, show ¬ 0 ≤ need by omega]
        · by_cases hn2 : 3600000 < need
          · simp [hn, hn2, show ¬ need ≤ 3600000 by omega]
          · rw [short_is RR hrl]
            simp [hn, hn2, show 0 ≤ need by omega, show need ≤ 3600000 by omega]
      have hC : session_Calls x c who t = some (if b then (mine (tt x t) c who, 0) else ([], 5)) := by
        unfold session_Calls
        rw [s1, k1, b1]
        simp only [Option.bind_some, decide_true, Bool.not_true, Bool.false_eq_true, if_false]
        cases b with
        | false => rfl
        | true =>
          simp only [Bool.not_true, Bool.false_eq_true, if_false, if_true]
          rw [hcalls]
          rfl
      rw [hC, hR, hS, hB, s2]
      simp only [Option.bind_some, joinR, decide_true, if_true, b2, hname, s1, errs_cons, errs_nil, hcallsOf, hR2, hS2, hB2]
      cases b with
      | true =>
        cases hn : (decide (need < 0) || decide (3600000 < need)) with
        | true => simp [tumblaw2_when, equal_slot, eqRest_is, eqPair_is, timedS]
        | false => simp [tumblaw2_when, equal_slot, eqRest_is, eqPair_is, timedS]
      | false =>
        cases hn : (decide (need < 0) || decide (3600000 < need)) with
        | true => simp [tumblaw2_when, equal_slot, eqRest_is, eqPair_is, timedS]
        | false => simp [tumblaw2_when, equal_slot, eqRest_is, eqPair_is, timedS]
    · have hR : session_Rests x c t = some ([], f) := by
        unfold session_Rests
        rw [s1, b1]
        simp [hf]
      have hS : session_Short x c t need = some ([], f) := by
        unfold session_Short
        rw [hR]
        simp [hf]
      have hC : session_Calls x c who t = some (if b then ([], f) else ([], 5)) := by
        unfold session_Calls
        rw [s1, k1, b1]
        cases b <;> simp [hf]
      rw [hC, hR, hS, hB, s2]
      simp only [Option.bind_some, joinR, decide_true, if_true, b2, hname, s1, errs_cons, errs_nil, hB2]
      cases b <;> simp [tumblaw2_when, hf, equal_slot, eqRest_is, eqPair_is, timedS]
  · have hR : session_Rests x c t = some ([], e) := by
      unfold session_Rests
      rw [s1]
      simp [he]
    have hS : session_Short x c t need = some ([], e) := by
      unfold session_Short
      rw [hR]
      simp [he]
    have hC : session_Calls x c who t = some ([], e) := by
      unfold session_Calls
      rw [s1]
      simp [he]
    have hB : session_Both x c = some ([], e) := by
      unfold session_Both
      rw [s1]
      simp [he]
    rw [hC, hR, hS, hB, s2]
    have hde : decide (e = 0) = false := decide_eq_false he
    have E1 : ∀ n, tumblaw2_errs (e :: n) = e := fun n => by rw [errs_cons, if_pos he]
    simp only [Option.bind_some, hname, s1, E1, hde]
    rw [joinR, if_neg (by simp)]
    simp only [E1, hde]
    rw [joinR, if_neg (by simp)]
    dsimp only
    rw [joinR, if_neg (by simp)]
    dsimp only
    rw [joinR, if_neg (by simp)]
    dsimp only
    rw [joinR, if_neg (by simp)]
    dsimp only
    simp only [decide_true, Bool.and_true, Bool.true_and]
    rw [joinR, if_pos trivial, equal_slot, Option.bind_some]
    simp [joinR, eqRest_is, eqPair_is, timedS]
end Go.Proofs.YtoffbgomfcmfmaaGreatDoor
