/- The plain law of BetterWouldBe. No program stands here but its twins. -/
import Derived.Test.YtahhldfcmbgfpaaGreatDoorPRecB
import Derived.Test.YtahhldfcmbgfpaaGreatDoorPReady
namespace Go.Proofs.YtahhldfcmbgfpaaGreatDoor
open Go
theorem kerrs_cons (a : Int) (l : List Int) : tumbkeep2_errs (a :: l) = if a ≠ 0 then a else tumbkeep2_errs l := by
  have hl : ∀ (l : List Int) (i j : Nat), tumbkeep2_errs_l1 0 l i = tumbkeep2_errs_l1 0 l j := by
    intro l
    induction l with
    | nil => intro _ _; rfl
    | cons x l ih =>
      intro i j
      rw [tumbkeep2_errs_l1, tumbkeep2_errs_l1, ih (i + 1) (j + 1)]
  unfold tumbkeep2_errs
  rw [joinR, joinR, tumbkeep2_errs_l1, hl l (0 + 1) 0]
  by_cases h : a = 0 <;> simp [h]
theorem kerrs_nil : tumbkeep2_errs [] = 0 := rfl
theorem stepsAll_l (l : List GStep) : ∀ (ys : List GStep) (i : Nat), record_CheckSteps_l1 l (some 0) ys i = some 0 → ∀ s ∈ ys, record_checkStep s = some 0
  | [], _, _, s, hs => by cases hs
  | y :: ys, i, h, s, hs => by
    obtain ⟨e, e1, _, _⟩ := step_both y
    rw [record_CheckSteps_l1, e1] at h
    simp only [Option.bind_some, joinR] at h
    by_cases he : e = 0
    · subst he
      rw [if_neg (by simp)] at h
      have hr : record_CheckSteps_l1 l (some 0) ys (i + 1) = some 0 := by
        by_cases hi : 0 < (i : Int)
        · rw [if_pos (decide_eq_true hi)] at h
          by_cases hc : inB (W ((i : Int) - 1)) l.length = true
          · rw [chkT hc] at h
            split at h
            · cases h
            · exact h
          · rw [Bool.not_eq_true] at hc
            rw [hc] at h
            cases h
        · rw [if_neg (by simpa using hi), if_neg (by simp)] at h
          exact h
      rcases List.mem_cons.1 hs with rfl | hs
      · exact e1
      · exact stepsAll_l l ys (i + 1) hr s hs
    · rw [if_pos (by simpa using he)] at h
      exact absurd (Option.some.inj h) he
theorem stepsAll {l : List GStep} (h : record_CheckSteps l = some 0) : ∀ s ∈ l, record_checkStep s = some 0 := by
  unfold record_CheckSteps at h
  split at h
  · cases h
  · exact stepsAll_l l l 0 h
theorem stepsOk_l (l : List GStep) (hl : l.length ≤ 1000) (hg : ∀ s ∈ l, record_checkStep s = some 0) (ha : StAdj l) : ∀ (ys dn : List GStep), l = dn ++ ys → record_CheckSteps_l1 l (some 0) ys dn.length = some 0
  | [], _, _ => rfl
  | y :: ys, dn, e => by
    have hlen : l.length = dn.length + (ys.length + 1) := by rw [e]; simp
    have ih := stepsOk_l l hl hg ha ys (dn ++ [y]) (by rw [e]; simp)
    rw [List.length_append, List.length_singleton] at ih
    rw [record_CheckSteps_l1, hg y (by rw [e]; simp)]
    simp only [Option.bind_some, joinR]
    rw [ih, if_neg (by simp)]
    rcases List.eq_nil_or_concat dn with h0 | ⟨d, p, h0⟩
    · rw [h0]; simp
    · rw [List.concat_eq_append] at h0
      have hd2 : dn.length = d.length + 1 := by rw [h0]; simp
      have hn : nth l (W ((dn.length : Int) - 1)) = p := by
        rw [W_in (by omega) (by omega), e, h0]
        have : d ++ [p] ++ y :: ys = d ++ p :: (y :: ys) := by simp
        rw [this]
        exact nth_mid _ _ _ (by simp)
      have hle := ha d p y ys (by rw [e, h0]; simp)
      rw [if_pos (decide_eq_true (by omega)), hn, chkT (inB_iff.2 (by rw [W_in (by omega) (by omega)]; omega)), decide_eq_false (show ¬ 0 ≤ record_compare p y by omega), if_neg (by simp)]
theorem stepsOk {l : List GStep} (hl : l.length ≤ 1000) (hg : ∀ s ∈ l, record_checkStep s = some 0) (ha : StAdj l) : record_CheckSteps l = some 0 := by
  unfold record_CheckSteps
  rw [if_neg (by simp; omega), joinR]
  exact stepsOk_l l hl hg ha l [] rfl
theorem stf_none {id : ByteArray} : ∀ (l : List GStep), (∀ s ∈ l, s.Id ≠ id) → ∀ st : Int, l.foldl (fun st s => if (decide (s.Id = id) && tumbref2_follows st s.Kind) then s.Kind else st) st = st
  | [], _, _ => rfl
  | s :: l, h, st => by
    rw [List.foldl_cons, decide_eq_false (h s (by simp)), Bool.false_and, if_neg (by simp)]
    exact stf_none l (fun s hs => h s (List.mem_cons_of_mem _ hs)) st
theorem sel_sub {α : Type} (P : α → Nat → Bool) {y : α} : ∀ (l : List α) (i : Nat), y ∈ sel P (fun y _ => y) l i → y ∈ l
  | [], _, h => by cases h
  | x :: l, i, h => by
    unfold sel at h
    split at h
    · rcases List.mem_cons.1 h with rfl | h
      · exact List.mem_cons_self
      · exact List.mem_cons_of_mem _ (sel_sub P l (i + 1) h)
    · exact List.mem_cons_of_mem _ (sel_sub P l (i + 1) h)
/-- A step of a new Id: it is a record when it would be one. -/
theorem better (z : GKind) (x : List GStep) (y : GStep) (hk : y.Kind = 1) (hx : ∀ s ∈ x, s.Id ≠ y.Id) : ((recS (valS z (x ++ [y]))).any fun b => decide (b.Id = y.Id)) = wouldB z x y := by
  have h0 : stf x y.Id = 0 := stf_none x hx 0
  have hf : firsts (x ++ [y]) = firsts x ++ [y] := by rw [firsts_snoc, hk, h0]; rfl
  have hin : ∀ s ∈ firsts x, s.Id ≠ y.Id := fun s hs => hx s (sel_sub _ _ _ hs)
  have hs : ∀ s ∈ firsts x, stf (x ++ [y]) s.Id = stf x s.Id := fun s hs => by
    rw [stf_snoc, decide_eq_false (fun e => hin s hs e.symm), Bool.false_and, if_neg (by simp)]
  have hy : stf (x ++ [y]) y.Id = 1 := by
    rw [stf_snoc, h0, hk]
    simp [tumbref2_follows]
  have hv : valS z (x ++ [y]) = valS z x ++ if record_isFor z y then [GBest.mk z.Key y.Id y.Who y.Time y.At false] else [] := by
    unfold valS
    rw [hf, List.filter_append, List.map_append]
    congr 1
    · have h1 : (firsts x).filter (fun s => record_isFor z s && !decide (stf (x ++ [y]) s.Id = 3)) = (firsts x).filter fun s => record_isFor z s && !decide (stf x s.Id = 3) :=
        List.filter_congr fun s h => by rw [hs s h]
      rw [h1]
      exact List.map_congr_left fun s h => by rw [hs s (List.mem_filter.1 h).1]
    · cases hz : record_isFor z y <;> simp [hz, hy]
  have hvn : ∀ b ∈ valS z x, b.Id ≠ y.Id := by
    intro b hb
    unfold valS at hb
    obtain ⟨s, h1, rfl⟩ := List.mem_map.1 hb
    exact hin s (List.mem_filter.1 h1).1
  have hno : ∀ p : GBest → Bool, (((valS z x).filter p).any fun b => decide (b.Id = y.Id)) = false := fun p => List.any_eq_false.2 fun b hb => by
    have := hvn b (List.mem_filter.1 hb).1
    simpa using this
  unfold wouldB
  rw [hv]
  unfold recS
  cases hz : record_isFor z y with
  | false => simp only [Bool.false_eq_true, if_false, List.append_nil, Bool.false_and]; exact hno _
  | true =>
    simp only [if_true, Bool.true_and]
    rw [List.filter_append, List.any_append, hno, Bool.false_or]
    simp only [List.any_append, List.any_cons, List.any_nil, Int.lt_irrefl, decide_false, Bool.or_false]
    cases hany : (valS z x).any fun b => decide (b.Time < y.Time) <;> simp [hany]
theorem new_ok : ∀ w ∈ [k_ann, k_bea], ∀ c ∈ [k_blue, k_red, k_empty], ∀ r ∈ [k_ra, k_ra, k_rb], ∀ a ∈ [9, 10, 14, 15, 20], ∀ t ∈ [95, 96, 97, 100, 1, 2], record_checkStep (GStep.mk 200 1 k_new w c r a t) = some 0 := by decide +kernel
theorem new_id : ∀ s ∈ idsB, s ≠ k_new := by decide +kernel
theorem plain_BetterWouldBe (l : List Int) (hl : l.length ≤ 9223372036854775807) : tumbkeep2_BetterWouldBe l = some true := by
  have hL : LongL l := by unfold LongL; omega
  obtain ⟨k, a1, e1, p1, q1, k1, k2, k3⟩ := rightK_dr hL (a := 0) (by omega) (by omega)
  obtain ⟨n, a2, e2, p2, q2, n1, n2⟩ := range_dr hL (a := a1) (by omega) (by omega) 0 12 (by omega) (by omega) (by omega)
  obtain ⟨x, a3, e3, p3, q3, x1, x2, x3⟩ := rightB_dr hL n (by omega) (by omega) (a := a2) (by omega) (by omega)
  obtain ⟨y, a4, e4, p4, q4, y1, y2, y3, y4, y5, y6, y7, y8⟩ := swumStep_dr hL 200 (a := a3) (by omega) (by omega)
  unfold tumbkeep2_BetterWouldBe
  rw [e1]; simp only [Option.bind_some]
  rw [e2]; simp only [Option.bind_some]
  rw [e3]; simp only [Option.bind_some]
  rw [e4]; simp only [Option.bind_some]
  have hg0 : record_checkStep (GStep.mk y.At y.Kind k_new y.Who y.Club y.Race y.Age y.Time) = some 0 := by
    rw [y1, y2]
    exact new_ok _ y4 _ y5 _ y6 _ y7 _ y8
  generalize hy : GStep.mk y.At y.Kind k_new y.Who y.Club y.Race y.Age y.Time = s at hg0 ⊢
  have s1 : s.At = 200 := by rw [← hy]; exact y1
  have s2 : s.Kind = 1 := by rw [← hy]; exact y2
  have s3 : s.Id = k_new := by rw [← hy]
  obtain ⟨f', f1, _, f3⟩ := steps_both x
  have hf : f' = 0 := by rw [x2] at f1; exact (Option.some.inj f1).symm
  obtain ⟨_, hg, ha⟩ := f3 hf
  have hat : ∀ z ∈ x, z.At ≤ 100 := fun z hz => by
    have h1 := (x3 z hz).1
    have h2 := (hg z hz).1
    omega
  have hid : ∀ z ∈ x, z.Id ≠ s.Id := fun z hz => by rw [s3]; exact new_id _ (x3 z hz).2
  have hu : upS x 345686400000 = x := List.filter_eq_self.2 fun z hz => decide_eq_true (by have := hat z hz; omega)
  have hu2 : upS (x ++ [s]) 200 = x ++ [s] := List.filter_eq_self.2 fun z hz => by
    rcases List.mem_append.1 hz with hz | hz
    · exact decide_eq_true (by have := hat z hz; omega)
    · rw [List.mem_singleton] at hz; subst hz; exact decide_eq_true (by omega)
  have hadj : StAdj (x ++ [s]) := adj_snoc ha fun d p e => by
    have := hat p (by rw [e]; simp)
    rw [compare_is, if_pos (by omega)]
    decide
  have hx2 : record_CheckSteps (x ++ [s]) = some 0 := stepsOk (by simp; omega) (fun z hz => by
    rcases List.mem_append.1 hz with hz | hz
    · exact stepsAll x2 z hz
    · rw [List.mem_singleton] at hz; subst hz; exact hg0) hadj
  obtain ⟨S, w1, _, w3⟩ := Would_is k (by omega) x s k1 x2 hg0
  obtain ⟨H, h1, _, h3⟩ := Held_is k (by omega) (x ++ [s]) k_new 200 k1 hx2
  have hi1 : idF (upS x 345686400000) s.Id = 8 := by
    rw [hu]
    unfold idF hasS
    have : ((firsts x).any fun z => decide (z.Id = s.Id)) = false := List.any_eq_false.2 fun z hz => by
      have := hid z (sel_sub _ _ _ hz)
      simpa using this
    rw [this]
    rfl
  have h0 : stf x s.Id = 0 := stf_none x hid 0
  have hi2 : idF (upS (x ++ [s]) 200) k_new = 0 := by
    rw [hu2]
    unfold idF hasS
    have : ((firsts (x ++ [s])).any fun z => decide (z.Id = k_new)) = true := by
      rw [firsts_snoc, h0, s2]
      simp [s3]
    rw [this]
    rfl
  have z1 : baseF 0 0 (tumblaw2_errs [0, tumblaw2_when (!decide (s.Kind = 1)) 4, tumblaw2_when (decide (idF (upS x 345686400000) s.Id = 0)) 6]) = 0 := by
    rw [hi1, s2]
    decide +kernel
  have z2 : baseF 0 0 (tumblaw2_errs [tumblaw2_momentFault 200, idF (upS (x ++ [s]) 200) k_new]) = 0 := by
    rw [hi2]
    decide +kernel
  have hSH : S = H := by
    rw [w3 z1, h3 z2, hu, hu2]
    unfold heldS
    congr 1
    exact List.filter_congr fun z _ => by rw [← better z x s s2 hid, s3]
  rw [w1, z1]
  unfold slices_Clone_Step
  rw [chkT (by simp; omega)]
  simp only [Option.bind_some, joinR, List.nil_append]
  rw [chkT (by unfold room; simp; omega), h1, z2]
  simp only [Option.bind_some, kerrs_cons, kerrs_nil, ready_ok]
  rw [hSH, eqStr_is]
  simp
end Go.Proofs.YtahhldfcmbgfpaaGreatDoor
