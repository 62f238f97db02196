/- Each Go function computes its plain twin, by program. -/
import Derived.Test.YtkkaficomcpalaaGreatDoorWk2
namespace Go.Proofs.YtkkaficomcpalaaGreatDoor
open Go
set_option maxHeartbeats 8000000 in
set_option maxRecDepth 20000 in
theorem tumbref2_ScoredFault_ok (w : World) (U : Value) (Ae : List GScored) (Ag : Slc (view w []) 5 U (Ae.map GScored.enc)) (r : Int) (h : tumbref2_ScoredFault Ae = some r) :
    Calls Tryz.prog 12 [U].toArray w (Ret w [] fun _ v _ => v = iV r) := by
 refine f_enter [] [] Tryz.func12 rfl Tryz.ntmps12 rfl (by simp) (by simp [fps]) (by simp [fps]) fun a S => ?_
 unfold tumbref2_ScoredFault at h
 replace S := S.nk [] [(0, U)] [] rfl ⟨rfl, trivial⟩
 refine Fs (Fg (lv S (Ra rfl) rfl ?_));clear S;intro a S
 refine Ld (Tn (Fs (Fs (Fg (lv S (Rm (S.tm rfl)) rfl ?_)))));clear S;intro a S
 refine lv S (rn_lenT sl_29 (S.tm rfl) (slc_len Ag)) rfl ?_;clear S;intro a S
 refine lv S (rn_gtr (S.tm rfl) rfl) rfl ?_;clear S;intro a S
 refine Ld (Tn (f_cond (S.tm rfl) (fun hb1 => ?_) (fun hb1 => ?_)))
 ·replace h := iteT h hb1
  refine Fs (Fg (lv S (Ra rfl) rfl ?_));clear S;intro a S
  refine Ld (Tn (wp_ret (then_r ?_)))
  obtain rfl := Option.some.inj h
  exact f_ret S Tryz.results12 rfl rfl
 ·replace h := iteF h hb1
  refine wp_skip (Tn (Fs (Fs (Fg (lv S (Rm (S.tm rfl)) rfl ?_)))));clear S;intro a S
  refine lv S (rn_lenT sl_29 (S.tm rfl) (slc_len Ag)) rfl ?_;clear S;intro a S
  refine lv S (Rm rfl) rfl ?_;clear S;intro a S
  refine Ld (Tn ?_)
  replace S := S.nk [] [(0, U), (20, U), (21, iV (Ae.length : Int)), (22, iV 0)] [] rfl (subR rfl)
  obtain ⟨j1, hj1, h⟩ := joinE h
  refine f_join (fun a w' => j1 = some r ∧ Sx w [] nov [] [(0, U)] 171 a w') ?_ ?_
  ·refine wp_block (f_loop (fun (ys1 : List GScored) a w' => ∃ i1 : Nat, (∃ dn, Ae = dn ++ ys1 ∧ dn.length = i1) ∧ tumbref2_ScoredFault_l1 Ae j1 ys1 i1 = some r ∧ Sx w [] nov [] [(0, U), (20, U), (21, iV (Ae.length : Int)), (22, iV (i1 : Int))] 171 a w') List.length Ae ⟨0, ⟨[], rfl, rfl⟩, h, S.nf [] rfl (subR rfl)⟩ ?_)
   clear S h; rintro ys1 a w1 ⟨i1, ⟨dn, hd1, hi1⟩, h, S⟩
   cases ys1 with
   | nil =>
    rw [tumbref2_ScoredFault_l1.eq_1] at h
    refine Fs (Fg (lv S (rn_lss (S.tm rfl) (S.tm rfl)) rfl ?_));clear S;intro a S
    refine Ld ?_
    replace S := S.nk [] [(0, U), (20, U), (21, iV (Ae.length : Int)), (22, iV (i1 : Int)), (23, bV (decide ((i1 : Int) < (Ae.length : Int))))] [] rfl (subR rfl)
    refine Tn (Fs (wp_cond_false ((S.tm rfl).trans (congrArg Value.bool (rng_nil hd1 hi1))) (wp_exit (then_x (then_x (x_same ?_))))))
    refine Tn ?_
    exact ⟨h, S.nf [] rfl ⟨rfl, trivial⟩⟩
   | cons y1 ys1 =>
    rw [tumbref2_ScoredFault_l1.eq_2] at h
    refine Fs (Fg (lv S (rn_lss (S.tm rfl) (S.tm rfl)) rfl ?_));clear S;intro a S
    refine Ld ?_
    replace S := S.nk [] [(0, U), (20, U), (21, iV (Ae.length : Int)), (22, iV (i1 : Int)), (23, bV (decide ((i1 : Int) < (Ae.length : Int))))] [] rfl (subR rfl)
    refine Tn (Fs (wp_cond_true ((S.tm rfl).trans (congrArg Value.bool (rng_cons hd1 hi1))) (wp_skip (Tn (Fs (wp_block ?_))))))
    refine Fs (Fg (lv S (Rm (S.tm rfl)) rfl ?_));clear S;intro a S
    obtain ⟨b1, o1, hm1, hr1⟩ := rn_indexT (a := a) (x := .tmp 20) (y := .tmp 22) (ty := 0) sl_29 Ag (get_mid hd1 hi1) rfl (S.tm rfl) (S.tm rfl)
    refine lv S (hr1 _) rfl ?_;clear S;intro a S
    clear hr1
    refine lv S (rn_ldA Tryz.isAgg52 Tryz.sizeOf52 (off := o1) (o := 0) (part := (GScored.enc y1)) rfl rfl (S.tm rfl) (hm1.at S.emb0)) rfl ?_;clear S;intro a S
    refine l_alloc S Tryz.zeroValue52 (cs := [sV k_empty, sV k_empty, sV k_empty, iV 0, bV false]) rfl rfl ?_;clear S;intro a w3 b2 hz1 hk1 S
    refine lv S (Ra (S.tm rfl)) rfl ?_;clear S;intro a S
    refine l_store S (S.tm rfl) (S.tm rfl) (i := 0) (off := 0) rfl Tryz.sizeOf52 (vs := (GScored.enc y1)) rfl rfl rfl rfl ?_;clear S;intro w4 hk2 S
    refine Ld (Tn (wp_block (Fs (Fg (lv S (rn_fld fa_52_0 (S.tm rfl)) rfl ?_)))));clear S;intro a S
    refine lv S (rn_load Tryz.isAgg9 (S.tm rfl) (S.cell (i := 0) rfl rfl)) rfl ?_;clear S;intro a S
    obtain ⟨r1, hr2, h⟩ := bindE h
    refine l_enter S (fun _ => run_call (vs := [sV y1.Race]) ⟨(S.tm rfl), trivial⟩ Tryz.call36) (tumbref2_Key_ok _ y1.Race _ hr2) rfl ?_;clear S;intro v1 a w5 hv1 hk3 hn1 S
    subst hv1
    refine lv S (rn_not (S.tm rfl)) rfl ?_;clear S;intro a S
    refine lv S (Rm (S.tm rfl)) rfl ?_;clear S;intro a S
    obtain ⟨j2, hj2, h⟩ := joinE h
    refine f_cutm 5 (fun a w' => ∃ c1, j2 c1 = some r ∧ Keep [] w5 w' ∧ Sx w [] nov [.blk b2 (GScored.enc y1) 52] [(0, U), (3, iV (i1 : Int)), (4, .pointer (some ⟨b2, 0, none⟩)), (20, U), (21, iV (Ae.length : Int)), (22, iV (i1 : Int)), (37, bV c1)] 171 a w') ?_ ?_
    ·rcases Bool.eq_false_or_eq_true (!r1) with hb2 | hb2
     ·replace h := iteT h hb2
      iterate 4 (refine l_skip S rfl rfl rfl (neq_t hb2) rfl ?_ rfl;clear S;intro a S)
      refine lv S (rn_or_t true hb2 (S.tm rfl) rfl) rfl ?_;clear S;intro a S
      refine Ld (Tn ?_)
      exact ⟨_, h, Keep.refl _ _, S.nf [true] rfl (subR rfl)⟩
     ·replace h := iteF h hb2
      refine l_want S rfl rfl rfl hb2 (lv S (rn_fld fa_52_1 (S.tm rfl)) rfl ?_);clear S;intro a S
      refine l_want S rfl rfl rfl hb2 (lv S (rn_load Tryz.isAgg9 (S.tm rfl) (S.cell (i := 0) rfl rfl)) rfl ?_);clear S;intro a S
      refine l_want S rfl rfl rfl hb2 ?_
      obtain ⟨r2, hr3, h⟩ := bindE h
      refine l_enter S (fun _ => run_call (vs := [sV y1.Who]) ⟨(S.tm rfl), trivial⟩ Tryz.call36) (tumbref2_Key_ok _ y1.Who _ hr3) rfl ?_;clear S;intro v2 a w7 hv2 hk4 hn2 S
      subst hv2
      refine l_want S rfl rfl rfl hb2 (lv S (rn_not (S.tm rfl)) rfl ?_);clear S;intro a S
      refine lv S (rn_or_f hb2 (S.tm rfl) (S.tm rfl)) rfl ?_;clear S;intro a S
      refine Ld (Tn ?_)
      exact ⟨_, h, hk4, S.nf [true] rfl (subR rfl)⟩
    clear S h; rintro a w6 ⟨c1, h, hk5, S⟩; rw [hj2] at h; clear hj2 j2
    refine lv S (Rm (S.tm rfl)) rfl ?_;clear S;intro a S
    obtain ⟨j3, hj3, h⟩ := joinE h
    refine f_cutm 10 (fun a w' => ∃ c2, j3 c2 = some r ∧ Keep [] w6 w' ∧ Sx w [] nov [.blk b2 (GScored.enc y1) 52] [(0, U), (3, iV (i1 : Int)), (4, .pointer (some ⟨b2, 0, none⟩)), (20, U), (21, iV (Ae.length : Int)), (22, iV (i1 : Int)), (48, bV c2)] 171 a w') ?_ ?_
    ·rcases Bool.eq_false_or_eq_true c1 with hb3 | hb3
     ·replace h := iteT h hb3
      iterate 4 (refine l_skip S rfl rfl rfl (neq_t hb3) rfl ?_ rfl;clear S;intro a S)
      iterate 4 (refine l_skipU S rfl rfl rfl rfl ?_;clear S;intro a S)
      refine l_skip S rfl rfl rfl (neq_t hb3) rfl ?_ rfl;clear S;intro a S
      refine lv S (rn_or_t true hb3 (S.tm rfl) rfl) rfl ?_;clear S;intro a S
      refine Ld (Tn ?_)
      exact ⟨_, h, Keep.refl _ _, S.nf [true] rfl (subR rfl)⟩
     ·replace h := iteF h hb3
      refine l_want S rfl rfl rfl hb3 (lv S (rn_fld fa_52_2 (S.tm rfl)) rfl ?_);clear S;intro a S
      refine l_want S rfl rfl rfl hb3 (lv S (rn_load Tryz.isAgg9 (S.tm rfl) (S.cell (i := 0) rfl rfl)) rfl ?_);clear S;intro a S
      refine l_want S rfl rfl rfl hb3 (lv S (rn_sneq (S.tm rfl) rfl) rfl ?_);clear S;intro a S
      refine l_want S rfl rfl rfl hb3 (lv S (Rm (S.tm rfl)) rfl ?_);clear S;intro a S
      obtain ⟨j4, hj4, h⟩ := joinE h
      refine f_cutm 5 (fun a w' => ∃ c3, j4 c3 = some r ∧ Keep [] w6 w' ∧ Sx w [] nov [.blk b2 (GScored.enc y1) 52] [(0, U), (3, iV (i1 : Int)), (4, .pointer (some ⟨b2, 0, none⟩)), (20, U), (21, iV (Ae.length : Int)), (22, iV (i1 : Int)), (38, bV c1), (39, .pointer (some ⟨b2, 2, none⟩)), (40, sV y1.Club), (41, bV (!decide (y1.Club = k_empty))), (42, bV (!decide (y1.Club = k_empty))), (47, bV c3)] 171 a w') ?_ ?_
      ·rcases Bool.eq_false_or_eq_true (!decide (y1.Club = k_empty)) with hb4 | hb4
       ·replace h := iteT h hb4
        refine l_want S rfl rfl rfl hb4 (lv S (rn_fld fa_52_2 (S.tm rfl)) rfl ?_);clear S;intro a S
        refine l_want S rfl rfl rfl hb4 (lv S (rn_load Tryz.isAgg9 (S.tm rfl) (S.cell (i := 0) rfl rfl)) rfl ?_);clear S;intro a S
        refine l_want S rfl rfl rfl hb4 ?_
        obtain ⟨r3, hr4, h⟩ := bindE h
        refine l_enter S (fun _ => run_call (vs := [sV y1.Club]) ⟨(S.tm rfl), trivial⟩ Tryz.call36) (tumbref2_Key_ok _ y1.Club _ hr4) rfl ?_;clear S;intro v3 a w10 hv3 hk6 hn3 S
        subst hv3
        refine l_want S rfl rfl rfl hb4 (lv S (rn_not (S.tm rfl)) rfl ?_);clear S;intro a S
        refine l_want S rfl rfl rfl hb3 (lv S (rn_and_t hb4 (S.tm rfl) (S.tm rfl)) rfl ?_);clear S;intro a S
        refine Ld (Tn ?_)
        exact ⟨_, h, hk6, S.nf [true] rfl (subR rfl)⟩
       ·replace h := iteF h hb4
        iterate 4 (refine l_skip S rfl rfl rfl (neq_f hb4) rfl ?_ rfl;clear S;intro a S)
        refine l_want S rfl rfl rfl hb3 (lv S (rn_and_f true hb4 (S.tm rfl) rfl) rfl ?_);clear S;intro a S
        refine Ld (Tn ?_)
        exact ⟨_, h, Keep.refl _ _, S.nf [true] rfl (subR rfl)⟩
      clear S h; rintro a w9 ⟨c3, h, hk7, S⟩; rw [hj4] at h; clear hj4 j4
      refine lv S (rn_or_f hb3 (S.tm rfl) (S.tm rfl)) rfl ?_;clear S;intro a S
      refine Ld (Tn ?_)
      exact ⟨_, h, hk7, S.nf [true] rfl (subR rfl)⟩
    clear S h; rintro a w8 ⟨c2, h, hk8, S⟩; rw [hj3] at h; clear hj3 j3
    refine lv S (Ra (S.tm rfl)) rfl ?_;clear S;intro a S
    refine Ld (Tn (f_cond (S.tm rfl) (fun hb5 => ?_) (fun hb5 => ?_)))
    ·replace h := iteT h hb5
     refine Fs (Fg (lv S (Ra rfl) rfl ?_));clear S;intro a S
     refine Ld (Tn (wp_ret (blk_r (blk_r (then_r (then_r ?_))))))
     refine blk_r (then_r (then_r ?_))
     obtain rfl := Option.some.inj h
     exact f_ret S Tryz.results12 rfl rfl
    ·replace h := iteF h hb5
     refine Fs (Fg (lv S (rn_fld fa_52_3 (S.tm rfl)) rfl ?_));clear S;intro a S
     refine lv S (rn_load Tryz.isAgg3 (S.tm rfl) (S.cell (i := 0) rfl rfl)) rfl ?_;clear S;intro a S
     refine l_enter S (fun _ => run_call (vs := [iV y1.Rank, iV 0, iV 300]) ⟨(S.tm rfl), rfl, rfl, trivial⟩ Tryz.call35) (tumbref2_in_ok _ y1.Rank 0 300 _ rfl) rfl ?_;clear S;intro v4 a w11 hv4 hk9 hn4 S
     subst hv4
     refine lv S (rn_not (S.tm rfl)) rfl ?_;clear S;intro a S
     refine lv S (Ra (S.tm rfl)) rfl ?_;clear S;intro a S
     refine Ld (Tn (f_cond (S.tm rfl) (fun hb6 => ?_) (fun hb6 => ?_)))
     ·replace h := iteT h hb6
      refine Fs (Fg (lv S (Ra rfl) rfl ?_));clear S;intro a S
      refine Ld (Tn (wp_ret (blk_r (blk_r (then_r (then_r ?_))))))
      refine blk_r (then_r (then_r ?_))
      obtain rfl := Option.some.inj h
      exact f_ret S Tryz.results12 rfl rfl
     ·replace h := iteF h hb6
      refine Fs ?_
      obtain ⟨j5, hj5, h⟩ := joinE h
      refine f_join (fun a w' => ∃ x1 : Bool, j5 x1 = some r ∧ Sx w [] nov [] [(0, U), (20, U), (21, iV (Ae.length : Int)), (22, iV (i1 : Int)), (54, bV x1)] 171 a w') ?_ ?_
      ·rcases Bool.eq_false_or_eq_true (decide (0 < (i1 : Int))) with hb7 | hb7
       ·replace h := iteT h hb7
        obtain ⟨hc1, h⟩ := chkE h
        refine d_region [] ([]) Tryz.mixed S rfl (by kernel_rfl) ?_;clear S;intro w14 hk11 hsel S
        refine d_quiet 0 S hsel rfl rfl rfl (by kernel_rfl) (by kernel_rfl) rfl (fun _ hw => (Rm (S.tm rfl))) ?_;clear S;intro a S
        refine d_quiet 1 S hsel rfl rfl rfl (by kernel_rfl) (by kernel_rfl) rfl (fun _ hw => (rn_gtr (S.tm rfl) rfl)) ?_;clear S;intro a S
        refine d_quiet 2 S hsel rfl rfl rfl (by kernel_rfl) (by kernel_rfl) rfl (fun _ hw => (Rm (S.tm rfl))) ?_;clear S;intro a S
        refine d_quiet_g 3 S hsel rfl rfl rfl rfl hb7 rfl rfl (by kernel_rfl) (by kernel_rfl) rfl (fun _ hw => (Rm (S.tm rfl))) ?_;clear S;intro a S
        refine d_quiet_g 4 S hsel rfl rfl rfl rfl hb7 rfl rfl (by kernel_rfl) (by kernel_rfl) rfl (fun _ hw => (Rm (S.tm rfl))) ?_;clear S;intro a S
        refine d_quiet_g 5 S hsel rfl rfl rfl rfl hb7 rfl rfl (by kernel_rfl) (by kernel_rfl) rfl (fun _ hw => (rn_sub (S.tm rfl) rfl)) ?_;clear S;intro a S
        obtain ⟨b4, o3, hm3, hr6⟩ := rn_indexT (a := a) (x := .tmp 58) (y := .tmp 60) (ty := 0) sl_29 (Ag.mono (S.le_arg nil_sub)) (inB_get hc1).1 (inB_get hc1).2 (S.tm rfl) (S.tm rfl)
        refine d_quiet_g 6 S hsel rfl rfl rfl rfl hb7 rfl rfl (by kernel_rfl) (by kernel_rfl) rfl (fun _ hw => hr6 _) ?_;clear S;intro a S
        clear hr6
        refine d_quiet_g 7 S hsel rfl rfl rfl rfl hb7 rfl rfl (by kernel_rfl) (by kernel_rfl) rfl (fun _ hw => (rn_ldA Tryz.isAgg52 Tryz.sizeOf52 (off := o3) (o := 0) (part := (GScored.enc (nth Ae (W ((i1 : Int) - 1))))) rfl rfl (S.tm rfl) (hm3.kept hw))) ?_;clear S;intro a S
        refine d_quiet_g 8 S hsel rfl rfl rfl rfl hb7 rfl rfl (by kernel_rfl) (by kernel_rfl) rfl (fun _ hw => (rn_ldA Tryz.isAgg52 Tryz.sizeOf52 (off := 0) (o := 0) (part := (GScored.enc y1)) rfl rfl (S.tm rfl) ((S.blk_mem (i := 0) (cells := (GScored.enc y1)) (b := b2) (T := 52) rfl (ne_nil (e' := .blk b2 (GScored.enc y1) 52))).kept hw))) ?_;clear S;intro a S
        refine d_loud1 9 (by kernel_rfl) rfl (l_want S rfl rfl rfl hb7 (l_enter S (fun _ => run_call (vs := [.agg (GScored.enc (nth Ae (W ((i1 : Int) - 1)))).toArray, .agg (GScored.enc y1).toArray]) ⟨(S.tm rfl), (S.tm rfl), trivial⟩ Tryz.call37) (tumbref2_ScoredOrder_ok _ (nth Ae (W ((i1 : Int) - 1))) y1 _ rfl) rfl ?_));clear S;intro v6 a w15 hv6 hk12 hn6 S
        subst hv6
        refine Ld (d_next hk12 (d_rest [10, 11, 12] hsel (by kernel_rfl) rfl ?_))
        clear hsel
        refine s_want S rfl rfl rfl rfl hb7 (s_lv0 S (rn_geq (S.tm rfl) rfl) rfl ?_);clear S;intro a S
        refine s_lv S rfl (rn_pick_b hb7 (S.tm rfl) (S.tm rfl)) rfl ?_;clear S;intro a S
        refine s_lv S rfl (Ra (S.tm rfl)) rfl ?_;clear S;intro a S
        refine s_done ?_
        replace S := S.nk [] [(0, U), (20, U), (21, iV (Ae.length : Int)), (22, iV (i1 : Int)), (54, bV (decide (0 ≤ (tumbref2_ScoredOrder (nth Ae (W ((i1 : Int) - 1))) y1)))), (58, U), (59, iV (i1 : Int)), (60, iV (W ((i1 : Int) - 1))), (61, .pointer (some ⟨b4, o3, none⟩)), (62, .agg (GScored.enc (nth Ae (W ((i1 : Int) - 1)))).toArray), (63, .agg (GScored.enc y1).toArray), (64, iV (tumbref2_ScoredOrder (nth Ae (W ((i1 : Int) - 1))) y1)), (65, bV (decide (0 ≤ (tumbref2_ScoredOrder (nth Ae (W ((i1 : Int) - 1))) y1))))] [false] rfl (subR rfl)
        refine Tn ?_
        exact ⟨decide (0 ≤ (tumbref2_ScoredOrder (nth Ae (W ((i1 : Int) - 1))) y1)), h, S.nf [] rfl (subR rfl)⟩
       ·replace h := iteF h hb7
        refine d_region [] ([]) Tryz.mixed S rfl (by kernel_rfl) ?_;clear S;intro w16 hk13 hsel S
        refine d_rest [0, 1, 2, 3, 4, 5, 6, 7, 8, 9, 10, 11, 12] hsel (by kernel_rfl) rfl ?_
        clear hsel
        refine s_lv S rfl (Rm (S.tm rfl)) rfl ?_;clear S;intro a S
        refine s_lv S rfl (rn_gtr (S.tm rfl) rfl) rfl ?_;clear S;intro a S
        refine s_lv S rfl (Rm (S.tm rfl)) rfl ?_;clear S;intro a S
        iterate 8 (refine s_skip S rfl rfl rfl rfl (neq_f hb7) rfl ?_ rfl;clear S;intro a S)
        refine s_lv S rfl (rn_pick_c hb7 (S.tm rfl) rfl) rfl ?_;clear S;intro a S
        refine s_lv S rfl (Ra (S.tm rfl)) rfl ?_;clear S;intro a S
        refine s_done ?_
        replace S := S.nk [] [(0, U), (20, U), (21, iV (Ae.length : Int)), (22, iV (i1 : Int)), (54, bV false)] [false] rfl (subR rfl)
        refine Tn ?_
        exact ⟨false, h, S.nf [] rfl (subR rfl)⟩
      clear S h; rintro a w12 ⟨x1, h, S⟩; rw [hj5] at h; clear hj5 j5
      refine Tn (f_cond (S.tm rfl) (fun hb8 => ?_) (fun hb8 => ?_))
      ·replace h := iteT h hb8
       refine Fs (Fg (lv S (Ra rfl) rfl ?_));clear S;intro a S
       refine Ld (Tn (wp_ret (blk_r (blk_r (then_r (then_r ?_))))))
       refine blk_r (then_r (then_r ?_))
       obtain rfl := Option.some.inj h
       exact f_ret S Tryz.results12 rfl rfl
      ·replace h := iteF h hb8
       refine wp_skip (blk_n (blk_n (Tn (Fg (lv S (rn_add (S.tm rfl) rfl) rfl ?_)))));clear S;intro a S
       refine lv S (Rm (S.tm rfl)) rfl ?_;clear S;intro a S
       refine Ld (Tn ?_)
       exact ⟨ys1, ⟨i1 + 1, ⟨_, (hd1).trans (List.append_cons _ _ _), by simp [hi1]⟩, h, S.nf [] rfl ⟨rfl, rfl, rfl, (congrArg (fun z => some (Value.int .i64 z)) (rng_next hd1 hi1 (slc_max Ag))), trivial⟩⟩, Nat.lt_succ_self _⟩
  clear S h; rintro a w2 ⟨h, S⟩; rw [hj1] at h; clear hj1 j1
  refine Tn (Fs (Fg (lv S (Ra rfl) rfl ?_)));clear S;intro a S
  iterate 3 (refine lv S (Ra rfl) rfl ?_;clear S;intro a S)
  refine Ld (Tn (Fs (Fs (Fg (lv S (Rm (S.tm rfl)) rfl ?_)))));clear S;intro a S
  refine lv S (rn_lenT sl_29 (S.tm rfl) (slc_len Ag)) rfl ?_;clear S;intro a S
  refine lv S (Rm rfl) rfl ?_;clear S;intro a S
  refine Ld (Tn ?_)
  replace S := S.nk [] [(0, U), (5, bV false), (6, bV false), (7, bV false), (8, bV false), (68, U), (69, iV (Ae.length : Int)), (70, iV 0)] [] rfl (subR rfl)
  obtain ⟨j6, hj6, h⟩ := joinE h
  refine f_join (fun a w' => ∃ x2 : Bool, ∃ x3 : Bool, ∃ x4 : Bool, ∃ x5 : Bool, j6 x2 x3 x4 x5 = some r ∧ Sx w [] nov [] [(5, bV x2), (6, bV x3), (7, bV x4), (8, bV x5)] 171 a w') ?_ ?_
  ·refine wp_block (f_loop (fun (ys2 : List GScored) a w' => ∃ i2 : Nat, ∃ x2 : Bool, ∃ x3 : Bool, ∃ x4 : Bool, ∃ x5 : Bool, (∃ dn, Ae = dn ++ ys2 ∧ dn.length = i2) ∧ tumbref2_ScoredFault_l2 Ae j6 ys2 i2 x2 x3 x4 x5 = some r ∧ Sx w [] nov [] [(0, U), (5, bV x2), (6, bV x3), (7, bV x4), (8, bV x5), (68, U), (69, iV (Ae.length : Int)), (70, iV (i2 : Int))] 171 a w') List.length Ae ⟨0, false, false, false, false, ⟨[], rfl, rfl⟩, h, S.nf [] rfl (subR rfl)⟩ ?_)
   clear S h; rintro ys2 a w17 ⟨i2, x2, x3, x4, x5, ⟨dn, hd2, hi2⟩, h, S⟩
   cases ys2 with
   | nil =>
    rw [tumbref2_ScoredFault_l2.eq_1] at h
    refine Fs (Fg (lv S (rn_lss (S.tm rfl) (S.tm rfl)) rfl ?_));clear S;intro a S
    refine Ld ?_
    replace S := S.nk [] [(0, U), (5, bV x2), (6, bV x3), (7, bV x4), (8, bV x5), (68, U), (69, iV (Ae.length : Int)), (70, iV (i2 : Int)), (71, bV (decide ((i2 : Int) < (Ae.length : Int))))] [] rfl (subR rfl)
    refine Tn (Fs (wp_cond_false ((S.tm rfl).trans (congrArg Value.bool (rng_nil hd2 hi2))) (wp_exit (then_x (then_x (x_same ?_))))))
    refine Tn ?_
    exact ⟨x2, x3, x4, x5, h, S.nf [] rfl (subR rfl)⟩
   | cons y2 ys2 =>
    rw [tumbref2_ScoredFault_l2.eq_2] at h
    refine Fs (Fg (lv S (rn_lss (S.tm rfl) (S.tm rfl)) rfl ?_));clear S;intro a S
    refine Ld ?_
    replace S := S.nk [] [(0, U), (5, bV x2), (6, bV x3), (7, bV x4), (8, bV x5), (68, U), (69, iV (Ae.length : Int)), (70, iV (i2 : Int)), (71, bV (decide ((i2 : Int) < (Ae.length : Int))))] [] rfl (subR rfl)
    refine Tn (Fs (wp_cond_true ((S.tm rfl).trans (congrArg Value.bool (rng_cons hd2 hi2))) (wp_skip (Tn (Fs (wp_block ?_))))))
    refine Fs (Fg (lv S (Rm (S.tm rfl)) rfl ?_));clear S;intro a S
    obtain ⟨b5, o4, hm4, hr7⟩ := rn_indexT (a := a) (x := .tmp 68) (y := .tmp 70) (ty := 0) sl_29 Ag (get_mid hd2 hi2) rfl (S.tm rfl) (S.tm rfl)
    refine lv S (hr7 _) rfl ?_;clear S;intro a S
    clear hr7
    refine lv S (rn_ldA Tryz.isAgg52 Tryz.sizeOf52 (off := o4) (o := 0) (part := (GScored.enc y2)) rfl rfl (S.tm rfl) (hm4.at S.emb0)) rfl ?_;clear S;intro a S
    refine l_alloc S Tryz.zeroValue52 (cs := [sV k_empty, sV k_empty, sV k_empty, iV 0, bV false]) rfl rfl ?_;clear S;intro a w19 b6 hz2 hk14 S
    refine lv S (Ra (S.tm rfl)) rfl ?_;clear S;intro a S
    refine l_store S (S.tm rfl) (S.tm rfl) (i := 0) (off := 0) rfl Tryz.sizeOf52 (vs := (GScored.enc y2)) rfl rfl rfl rfl ?_;clear S;intro w20 hk15 S
    refine Ld (Tn (Fs (Fg (lv S (Ra rfl) rfl ?_))));clear S;intro a S
    refine lv S (Ra rfl) rfl ?_;clear S;intro a S
    refine Ld ?_
    replace S := S.nk [.blk b6 (GScored.enc y2) 52] [(0, U), (5, bV x2), (6, bV x3), (7, bV x4), (8, bV x5), (9, iV (i2 : Int)), (10, .pointer (some ⟨b6, 0, none⟩)), (11, iV 0), (12, iV 0), (68, U), (69, iV (Ae.length : Int)), (70, iV (i2 : Int))] [true] rfl (subR rfl)
    refine Tn (Fs (Fs (Fg (lv S (Rm (S.tm rfl)) rfl ?_))));clear S;intro a S
    refine lv S (rn_lenT sl_29 (S.tm rfl) (slc_len Ag)) rfl ?_;clear S;intro a S
    refine lv S (Rm rfl) rfl ?_;clear S;intro a S
    refine Ld ?_
    replace S := S.nk [.blk b6 (GScored.enc y2) 52] [(0, U), (5, bV x2), (6, bV x3), (7, bV x4), (8, bV x5), (9, iV (i2 : Int)), (10, .pointer (some ⟨b6, 0, none⟩)), (11, iV 0), (12, iV 0), (68, U), (69, iV (Ae.length : Int)), (70, iV (i2 : Int)), (75, U), (76, iV (Ae.length : Int)), (77, iV 0)] [true] rfl (subR rfl)
    refine Tn ?_
    obtain ⟨j7, hj7, h⟩ := joinE h
    refine f_join (fun a w' => ∃ x6 : Bool, ∃ x7 : Bool, ∃ x8 : Int, ∃ x9 : Int, j7 x6 x7 x8 x9 = some r ∧ Sx w [] nov [.blk b6 (GScored.enc y2) 52] [(0, U), (5, bV x6), (6, bV x7), (7, bV x4), (8, bV x5), (10, .pointer (some ⟨b6, 0, none⟩)), (11, iV x8), (12, iV x9), (68, U), (69, iV (Ae.length : Int)), (70, iV (i2 : Int))] 171 a w') ?_ ?_
    ·refine wp_block (f_loop (fun (ys3 : List GScored) a w' => ∃ i3 : Nat, ∃ x6 : Bool, ∃ x7 : Bool, ∃ x8 : Int, ∃ x9 : Int, (∃ dn, Ae = dn ++ ys3 ∧ dn.length = i3) ∧ tumbref2_ScoredFault_l3 y2 i2 j7 ys3 i3 x6 x7 x8 x9 = some r ∧ Sx w [] nov [.blk b6 (GScored.enc y2) 52] [(0, U), (5, bV x6), (6, bV x7), (7, bV x4), (8, bV x5), (9, iV (i2 : Int)), (10, .pointer (some ⟨b6, 0, none⟩)), (11, iV x8), (12, iV x9), (68, U), (69, iV (Ae.length : Int)), (70, iV (i2 : Int)), (75, U), (76, iV (Ae.length : Int)), (77, iV (i3 : Int))] 171 a w') List.length Ae ⟨0, x2, x3, 0, 0, ⟨[], rfl, rfl⟩, h, S.nf [true] rfl (subR rfl)⟩ ?_)
     clear S h; rintro ys3 a w21 ⟨i3, x6, x7, x8, x9, ⟨dn, hd3, hi3⟩, h, S⟩
     cases ys3 with
     | nil =>
      rw [tumbref2_ScoredFault_l3.eq_1] at h
      refine Fs (Fg (lv S (rn_lss (S.tm rfl) (S.tm rfl)) rfl ?_));clear S;intro a S
      refine Ld ?_
      replace S := S.nk [.blk b6 (GScored.enc y2) 52] [(0, U), (5, bV x6), (6, bV x7), (7, bV x4), (8, bV x5), (9, iV (i2 : Int)), (10, .pointer (some ⟨b6, 0, none⟩)), (11, iV x8), (12, iV x9), (68, U), (69, iV (Ae.length : Int)), (70, iV (i2 : Int)), (75, U), (76, iV (Ae.length : Int)), (77, iV (i3 : Int)), (78, bV (decide ((i3 : Int) < (Ae.length : Int))))] [true] rfl (subR rfl)
      refine Tn (Fs (wp_cond_false ((S.tm rfl).trans (congrArg Value.bool (rng_nil hd3 hi3))) (wp_exit (then_x (then_x (x_same ?_))))))
      refine Tn ?_
      exact ⟨x6, x7, x8, x9, h, S.nf [true] rfl (subR rfl)⟩
     | cons y3 ys3 =>
      rw [tumbref2_ScoredFault_l3.eq_2] at h
      refine Fs (Fg (lv S (rn_lss (S.tm rfl) (S.tm rfl)) rfl ?_));clear S;intro a S
      refine Ld ?_
      replace S := S.nk [.blk b6 (GScored.enc y2) 52] [(0, U), (5, bV x6), (6, bV x7), (7, bV x4), (8, bV x5), (9, iV (i2 : Int)), (10, .pointer (some ⟨b6, 0, none⟩)), (11, iV x8), (12, iV x9), (68, U), (69, iV (Ae.length : Int)), (70, iV (i2 : Int)), (75, U), (76, iV (Ae.length : Int)), (77, iV (i3 : Int)), (78, bV (decide ((i3 : Int) < (Ae.length : Int))))] [true] rfl (subR rfl)
      refine Tn (Fs (wp_cond_true ((S.tm rfl).trans (congrArg Value.bool (rng_cons hd3 hi3))) (wp_skip (Tn (Fs ?_)))))
      obtain ⟨j8, hj8, h⟩ := joinE h
      refine f_join (fun a w' => ∃ x10 : Bool, ∃ x11 : Bool, ∃ x12 : Int, ∃ x13 : Int, j8 x10 x11 x12 x13 = some r ∧ Sx w [] nov [.blk b6 (GScored.enc y2) 52] [(0, U), (5, bV x10), (6, bV x11), (7, bV x4), (8, bV x5), (9, iV (i2 : Int)), (10, .pointer (some ⟨b6, 0, none⟩)), (11, iV x12), (12, iV x13), (68, U), (69, iV (Ae.length : Int)), (70, iV (i2 : Int)), (75, U), (76, iV (Ae.length : Int)), (77, iV (i3 : Int))] 171 a w') ?_ ?_
      ·refine wp_block (Fs (Fg (lv S (Rm (S.tm rfl)) rfl ?_)));clear S;intro a S
       obtain ⟨b7, o5, hm5, hr8⟩ := rn_indexT (a := a) (x := .tmp 75) (y := .tmp 77) (ty := 0) sl_29 Ag (get_mid hd3 hi3) rfl (S.tm rfl) (S.tm rfl)
       refine lv S (hr8 _) rfl ?_;clear S;intro a S
       clear hr8
       refine lv S (rn_ldA Tryz.isAgg52 Tryz.sizeOf52 (off := o5) (o := 0) (part := (GScored.enc y3)) rfl rfl (S.tm rfl) (hm5.at S.emb0)) rfl ?_;clear S;intro a S
       refine l_alloc S Tryz.zeroValue52 (cs := [sV k_empty, sV k_empty, sV k_empty, iV 0, bV false]) rfl rfl ?_;clear S;intro a w24 b8 hz3 hk16 S
       refine lv S (Ra (S.tm rfl)) rfl ?_;clear S;intro a S
       refine l_store S (S.tm rfl) (S.tm rfl) (i := 0) (off := 0) rfl Tryz.sizeOf52 (vs := (GScored.enc y3)) rfl rfl rfl rfl ?_;clear S;intro w25 hk17 S
       refine Ld ?_
       replace S := S.nk [.blk b8 (GScored.enc y3) 52, .blk b6 (GScored.enc y2) 52] [(0, U), (5, bV x6), (6, bV x7), (7, bV x4), (8, bV x5), (9, iV (i2 : Int)), (10, .pointer (some ⟨b6, 0, none⟩)), (11, iV x8), (12, iV x9), (13, iV (i3 : Int)), (14, .pointer (some ⟨b8, 0, none⟩)), (68, U), (69, iV (Ae.length : Int)), (70, iV (i2 : Int)), (75, U), (76, iV (Ae.length : Int)), (77, iV (i3 : Int))] [true, true] rfl (subR rfl)
       refine Tn (Fs (Fs (Fg (lv S (rn_fld fa_52_0 (S.tm rfl)) rfl ?_))));clear S;intro a S
       refine lv S (rn_load Tryz.isAgg9 (S.tm rfl) (S.cell (i := 0) rfl rfl)) rfl ?_;clear S;intro a S
       refine lv S (rn_fld fa_52_0 (S.tm rfl)) rfl ?_;clear S;intro a S
       refine lv S (rn_load Tryz.isAgg9 (S.tm rfl) (S.cell (i := 1) rfl rfl)) rfl ?_;clear S;intro a S
       refine lv S (rn_sneq (S.tm rfl) (S.tm rfl)) rfl ?_;clear S;intro a S
       refine Ld ?_
       replace S := S.nk [.blk b8 (GScored.enc y3) 52, .blk b6 (GScored.enc y2) 52] [(0, U), (5, bV x6), (6, bV x7), (7, bV x4), (8, bV x5), (9, iV (i2 : Int)), (10, .pointer (some ⟨b6, 0, none⟩)), (11, iV x8), (12, iV x9), (13, iV (i3 : Int)), (14, .pointer (some ⟨b8, 0, none⟩)), (68, U), (69, iV (Ae.length : Int)), (70, iV (i2 : Int)), (75, U), (76, iV (Ae.length : Int)), (77, iV (i3 : Int)), (86, bV (!decide (y3.Race = y2.Race)))] [true, true] rfl (subR rfl)
       refine Tn (f_cond (S.tm rfl) (fun hb9 => ?_) (fun hb9 => ?_))
       ·replace h := iteT h hb9
        refine wp_exit (then_x (x_same (Tn ?_)))
        exact ⟨x6, x7, x8, x9, h, S.nf [false, true] rfl (subR rfl)⟩
       ·replace h := iteF h hb9
        refine wp_skip (Tn (Fs (Fg (lv S (Rm (S.tm rfl)) rfl ?_))));clear S;intro a S
        refine lv S (Rm (S.tm rfl)) rfl ?_;clear S;intro a S
        refine f_cutm 11 (fun a w' => Keep [] w25 w' ∧ Sx w [] nov [.blk b8 (GScored.enc y3) 52, .blk b6 (GScored.enc y2) 52] [(0, U), (6, bV x7), (7, bV x4), (8, bV x5), (9, iV (i2 : Int)), (10, .pointer (some ⟨b6, 0, none⟩)), (11, iV x8), (12, iV x9), (14, .pointer (some ⟨b8, 0, none⟩)), (68, U), (69, iV (Ae.length : Int)), (70, iV (i2 : Int)), (75, U), (76, iV (Ae.length : Int)), (77, iV (i3 : Int)), (99, bV (x6 || ((!decide ((i3 : Int) = (i2 : Int))) && (decide (y3.Who = y2.Who)))))] 171 a w') ?_ ?_
        ·rcases Bool.eq_false_or_eq_true x6 with hb10 | hb10
         ·iterate 4 (refine l_skip S rfl rfl rfl (neq_t hb10) rfl ?_ rfl;clear S;intro a S)
          iterate 5 (refine l_skipU S rfl rfl rfl rfl ?_;clear S;intro a S)
          refine l_skip S rfl rfl rfl (neq_t hb10) rfl ?_ rfl;clear S;intro a S
          refine lv S (rn_or_t ((!decide ((i3 : Int) = (i2 : Int))) && (decide (y3.Who = y2.Who))) hb10 (S.tm rfl) rfl) rfl ?_;clear S;intro a S
          refine Ld (Tn ?_)
          exact ⟨Keep.refl _ _, S.nf [true, true] rfl (subR rfl)⟩
         ·refine l_want S rfl rfl rfl hb10 (lv S (Rm (S.tm rfl)) rfl ?_);clear S;intro a S
          refine l_want S rfl rfl rfl hb10 (lv S (Rm (S.tm rfl)) rfl ?_);clear S;intro a S
          refine l_want S rfl rfl rfl hb10 (lv S (rn_neq (S.tm rfl) (S.tm rfl)) rfl ?_);clear S;intro a S
          refine l_want S rfl rfl rfl hb10 (lv S (Rm (S.tm rfl)) rfl ?_);clear S;intro a S
          refine f_cutm 6 (fun a w' => Keep [] w25 w' ∧ Sx w [] nov [.blk b8 (GScored.enc y3) 52, .blk b6 (GScored.enc y2) 52] [(0, U), (6, bV x7), (7, bV x4), (8, bV x5), (9, iV (i2 : Int)), (10, .pointer (some ⟨b6, 0, none⟩)), (11, iV x8), (12, iV x9), (14, .pointer (some ⟨b8, 0, none⟩)), (68, U), (69, iV (Ae.length : Int)), (70, iV (i2 : Int)), (75, U), (76, iV (Ae.length : Int)), (77, iV (i3 : Int)), (88, bV x6), (89, iV (i3 : Int)), (90, iV (i2 : Int)), (91, bV (!decide ((i3 : Int) = (i2 : Int)))), (92, bV (!decide ((i3 : Int) = (i2 : Int)))), (98, bV ((!decide ((i3 : Int) = (i2 : Int))) && (decide (y3.Who = y2.Who))))] 171 a w') ?_ ?_
          ·rcases Bool.eq_false_or_eq_true (!decide ((i3 : Int) = (i2 : Int))) with hb11 | hb11
           ·refine l_want S rfl rfl rfl hb11 (lv S (rn_fld fa_52_1 (S.tm rfl)) rfl ?_);clear S;intro a S
            refine l_want S rfl rfl rfl hb11 (lv S (rn_load Tryz.isAgg9 (S.tm rfl) (S.cell (i := 0) rfl rfl)) rfl ?_);clear S;intro a S
            refine l_want S rfl rfl rfl hb11 (lv S (rn_fld fa_52_1 (S.tm rfl)) rfl ?_);clear S;intro a S
            refine l_want S rfl rfl rfl hb11 (lv S (rn_load Tryz.isAgg9 (S.tm rfl) (S.cell (i := 1) rfl rfl)) rfl ?_);clear S;intro a S
            refine l_want S rfl rfl rfl hb11 (lv S (rn_seql (S.tm rfl) (S.tm rfl)) rfl ?_);clear S;intro a S
            refine l_want S rfl rfl rfl hb10 (lv S (rn_and_t hb11 (S.tm rfl) (S.tm rfl)) rfl ?_);clear S;intro a S
            refine Ld (Tn ?_)
            exact ⟨Keep.refl _ _, S.nf [true, true] rfl (subR rfl)⟩
           ·iterate 5 (refine l_skip S rfl rfl rfl (neq_f hb11) rfl ?_ rfl;clear S;intro a S)
            refine l_want S rfl rfl rfl hb10 (lv S (rn_and_f (decide (y3.Who = y2.Who)) hb11 (S.tm rfl) rfl) rfl ?_);clear S;intro a S
            refine Ld (Tn ?_)
            exact ⟨Keep.refl _ _, S.nf [true, true] rfl (subR rfl)⟩
          clear S; rintro a w27 ⟨hk18, S⟩
          refine lv S (rn_or_f hb10 (S.tm rfl) (S.tm rfl)) rfl ?_;clear S;intro a S
          refine Ld (Tn ?_)
          exact ⟨hk18, S.nf [true, true] rfl (subR rfl)⟩
        clear S; rintro a w26 ⟨hk19, S⟩
        refine lv S (Ra (S.tm rfl)) rfl ?_;clear S;intro a S
        refine Ld ?_
        replace S := S.nk [.blk b8 (GScored.enc y3) 52, .blk b6 (GScored.enc y2) 52] [(0, U), (5, bV (x6 || ((!decide ((i3 : Int) = (i2 : Int))) && (decide (y3.Who = y2.Who))))), (6, bV x7), (7, bV x4), (8, bV x5), (9, iV (i2 : Int)), (10, .pointer (some ⟨b6, 0, none⟩)), (11, iV x8), (12, iV x9), (14, .pointer (some ⟨b8, 0, none⟩)), (68, U), (69, iV (Ae.length : Int)), (70, iV (i2 : Int)), (75, U), (76, iV (Ae.length : Int)), (77, iV (i3 : Int))] [true, true] rfl (subR rfl)
        refine Tn (Fs (Fg (lv S (Rm (S.tm rfl)) rfl ?_)));clear S;intro a S
        refine lv S (Rm (S.tm rfl)) rfl ?_;clear S;intro a S
        refine f_cutm 6 (fun a w' => Keep [] w26 w' ∧ Sx w [] nov [.blk b8 (GScored.enc y3) 52, .blk b6 (GScored.enc y2) 52] [(0, U), (5, bV (x6 || ((!decide ((i3 : Int) = (i2 : Int))) && (decide (y3.Who = y2.Who))))), (7, bV x4), (8, bV x5), (9, iV (i2 : Int)), (10, .pointer (some ⟨b6, 0, none⟩)), (11, iV x8), (12, iV x9), (14, .pointer (some ⟨b8, 0, none⟩)), (68, U), (69, iV (Ae.length : Int)), (70, iV (i2 : Int)), (75, U), (76, iV (Ae.length : Int)), (77, iV (i3 : Int)), (107, bV (x7 || (!decide (y3.Relay = y2.Relay))))] 171 a w') ?_ ?_
        ·rcases Bool.eq_false_or_eq_true x7 with hb12 | hb12
         ·iterate 5 (refine l_skip S rfl rfl rfl (neq_t hb12) rfl ?_ rfl;clear S;intro a S)
          refine lv S (rn_or_t (!decide (y3.Relay = y2.Relay)) hb12 (S.tm rfl) rfl) rfl ?_;clear S;intro a S
          refine Ld (Tn ?_)
          exact ⟨Keep.refl _ _, S.nf [true, true] rfl (subR rfl)⟩
         ·refine l_want S rfl rfl rfl hb12 (lv S (rn_fld fa_52_4 (S.tm rfl)) rfl ?_);clear S;intro a S
          refine l_want S rfl rfl rfl hb12 (lv S (rn_load Tryz.isAgg4 (S.tm rfl) (S.cell (i := 0) rfl rfl)) rfl ?_);clear S;intro a S
          refine l_want S rfl rfl rfl hb12 (lv S (rn_fld fa_52_4 (S.tm rfl)) rfl ?_);clear S;intro a S
          refine l_want S rfl rfl rfl hb12 (lv S (rn_load Tryz.isAgg4 (S.tm rfl) (S.cell (i := 1) rfl rfl)) rfl ?_);clear S;intro a S
          refine l_want S rfl rfl rfl hb12 (lv S (rn_bneq Tryz.underlying4 (S.tm rfl) (S.tm rfl)) rfl ?_);clear S;intro a S
          refine lv S (rn_or_f hb12 (S.tm rfl) (S.tm rfl)) rfl ?_;clear S;intro a S
          refine Ld (Tn ?_)
          exact ⟨Keep.refl _ _, S.nf [true, true] rfl (subR rfl)⟩
        clear S; rintro a w28 ⟨hk20, S⟩
        refine lv S (Ra (S.tm rfl)) rfl ?_;clear S;intro a S
        refine Ld ?_
        replace S := S.nk [.blk b8 (GScored.enc y3) 52, .blk b6 (GScored.enc y2) 52] [(0, U), (5, bV (x6 || ((!decide ((i3 : Int) = (i2 : Int))) && (decide (y3.Who = y2.Who))))), (6, bV (x7 || (!decide (y3.Relay = y2.Relay)))), (7, bV x4), (8, bV x5), (9, iV (i2 : Int)), (10, .pointer (some ⟨b6, 0, none⟩)), (11, iV x8), (12, iV x9), (14, .pointer (some ⟨b8, 0, none⟩)), (68, U), (69, iV (Ae.length : Int)), (70, iV (i2 : Int)), (75, U), (76, iV (Ae.length : Int)), (77, iV (i3 : Int))] [true, true] rfl (subR rfl)
        refine Tn (Fs (Fs (Fg (lv S (rn_fld fa_52_3 (S.tm rfl)) rfl ?_))));clear S;intro a S
        refine lv S (rn_load Tryz.isAgg3 (S.tm rfl) (S.cell (i := 0) rfl rfl)) rfl ?_;clear S;intro a S
        refine lv S (rn_gtr (S.tm rfl) rfl) rfl ?_;clear S;intro a S
        refine lv S (Rm (S.tm rfl)) rfl ?_;clear S;intro a S
        refine f_cutm 6 (fun a w' => Keep [] w28 w' ∧ Sx w [] nov [.blk b8 (GScored.enc y3) 52, .blk b6 (GScored.enc y2) 52] [(0, U), (5, bV (x6 || ((!decide ((i3 : Int) = (i2 : Int))) && (decide (y3.Who = y2.Who))))), (6, bV (x7 || (!decide (y3.Relay = y2.Relay)))), (7, bV x4), (8, bV x5), (9, iV (i2 : Int)), (10, .pointer (some ⟨b6, 0, none⟩)), (11, iV x8), (12, iV x9), (14, .pointer (some ⟨b8, 0, none⟩)), (68, U), (69, iV (Ae.length : Int)), (70, iV (i2 : Int)), (75, U), (76, iV (Ae.length : Int)), (77, iV (i3 : Int)), (117, bV ((decide (0 < y3.Rank)) && (decide (y3.Rank < y2.Rank))))] 171 a w') ?_ ?_
        ·rcases Bool.eq_false_or_eq_true (decide (0 < y3.Rank)) with hb13 | hb13
         ·refine l_want S rfl rfl rfl hb13 (lv S (rn_fld fa_52_3 (S.tm rfl)) rfl ?_);clear S;intro a S
          refine l_want S rfl rfl rfl hb13 (lv S (rn_load Tryz.isAgg3 (S.tm rfl) (S.cell (i := 0) rfl rfl)) rfl ?_);clear S;intro a S
          refine l_want S rfl rfl rfl hb13 (lv S (rn_fld fa_52_3 (S.tm rfl)) rfl ?_);clear S;intro a S
          refine l_want S rfl rfl rfl hb13 (lv S (rn_load Tryz.isAgg3 (S.tm rfl) (S.cell (i := 1) rfl rfl)) rfl ?_);clear S;intro a S
          refine l_want S rfl rfl rfl hb13 (lv S (rn_lss (S.tm rfl) (S.tm rfl)) rfl ?_);clear S;intro a S
          refine lv S (rn_and_t hb13 (S.tm rfl) (S.tm rfl)) rfl ?_;clear S;intro a S
          refine Ld (Tn ?_)
          exact ⟨Keep.refl _ _, S.nf [true, true] rfl (subR rfl)⟩
         ·iterate 5 (refine l_skip S rfl rfl rfl (neq_f hb13) rfl ?_ rfl;clear S;intro a S)
          refine lv S (rn_and_f (decide (y3.Rank < y2.Rank)) hb13 (S.tm rfl) rfl) rfl ?_;clear S;intro a S
          refine Ld (Tn ?_)
          exact ⟨Keep.refl _ _, S.nf [true, true] rfl (subR rfl)⟩
        clear S; rintro a w29 ⟨hk21, S⟩
        refine Ld ?_
        replace S := S.nk [.blk b8 (GScored.enc y3) 52, .blk b6 (GScored.enc y2) 52] [(0, U), (5, bV (x6 || ((!decide ((i3 : Int) = (i2 : Int))) && (decide (y3.Who = y2.Who))))), (6, bV (x7 || (!decide (y3.Relay = y2.Relay)))), (7, bV x4), (8, bV x5), (9, iV (i2 : Int)), (10, .pointer (some ⟨b6, 0, none⟩)), (11, iV x8), (12, iV x9), (14, .pointer (some ⟨b8, 0, none⟩)), (68, U), (69, iV (Ae.length : Int)), (70, iV (i2 : Int)), (75, U), (76, iV (Ae.length : Int)), (77, iV (i3 : Int)), (117, bV ((decide (0 < y3.Rank)) && (decide (y3.Rank < y2.Rank))))] [true, true] rfl (subR rfl)
        refine Tn ?_
        obtain ⟨j9, hj9, h⟩ := joinE h
        refine f_join (fun a w' => ∃ x14 : Int, j9 x14 = some r ∧ Sx w [] nov [.blk b8 (GScored.enc y3) 52, .blk b6 (GScored.enc y2) 52] [(0, U), (5, bV (x6 || ((!decide ((i3 : Int) = (i2 : Int))) && (decide (y3.Who = y2.Who))))), (6, bV (x7 || (!decide (y3.Relay = y2.Relay)))), (7, bV x4), (8, bV x5), (9, iV (i2 : Int)), (10, .pointer (some ⟨b6, 0, none⟩)), (11, iV x14), (12, iV x9), (14, .pointer (some ⟨b8, 0, none⟩)), (68, U), (69, iV (Ae.length : Int)), (70, iV (i2 : Int)), (75, U), (76, iV (Ae.length : Int)), (77, iV (i3 : Int))] 171 a w') ?_ ?_
        ·refine f_cond (S.tm rfl) (fun hb14 => ?_) (fun hb14 => ?_)
         ·replace h := iteT h hb14
          refine Fg (lv S (Rm (S.tm rfl)) rfl ?_);clear S;intro a S
          refine lv S (rn_add (S.tm rfl) rfl) rfl ?_;clear S;intro a S
          refine lv S (Ra (S.tm rfl)) rfl ?_;clear S;intro a S
          refine Ld ?_
          replace S := S.nk [.blk b8 (GScored.enc y3) 52, .blk b6 (GScored.enc y2) 52] [(0, U), (5, bV (x6 || ((!decide ((i3 : Int) = (i2 : Int))) && (decide (y3.Who = y2.Who))))), (6, bV (x7 || (!decide (y3.Relay = y2.Relay)))), (7, bV x4), (8, bV x5), (9, iV (i2 : Int)), (10, .pointer (some ⟨b6, 0, none⟩)), (11, iV (W (x8 + 1))), (12, iV x9), (14, .pointer (some ⟨b8, 0, none⟩)), (68, U), (69, iV (Ae.length : Int)), (70, iV (i2 : Int)), (75, U), (76, iV (Ae.length : Int)), (77, iV (i3 : Int))] [true, true] rfl (subR rfl)
          refine Tn ?_
          exact ⟨W (x8 + 1), h, S.nf [true, true] rfl (subR rfl)⟩
         ·replace h := iteF h hb14
          refine wp_skip (Tn ?_)
          exact ⟨x8, h, S.nf [true, true] rfl (subR rfl)⟩
        clear S h; rintro a w30 ⟨x14, h, S⟩; rw [hj9] at h; clear hj9 j9
        refine Tn (Fs (Fg (lv S (rn_fld fa_52_3 (S.tm rfl)) rfl ?_)));clear S;intro a S
        refine lv S (rn_load Tryz.isAgg3 (S.tm rfl) (S.cell (i := 0) rfl rfl)) rfl ?_;clear S;intro a S
        refine lv S (rn_fld fa_52_3 (S.tm rfl)) rfl ?_;clear S;intro a S
        refine lv S (rn_load Tryz.isAgg3 (S.tm rfl) (S.cell (i := 1) rfl rfl)) rfl ?_;clear S;intro a S
        refine lv S (rn_eql (S.tm rfl) (S.tm rfl)) rfl ?_;clear S;intro a S
        refine Ld ?_
        replace S := S.nk [.blk b6 (GScored.enc y2) 52] [(0, U), (5, bV (x6 || ((!decide ((i3 : Int) = (i2 : Int))) && (decide (y3.Who = y2.Who))))), (6, bV (x7 || (!decide (y3.Relay = y2.Relay)))), (7, bV x4), (8, bV x5), (9, iV (i2 : Int)), (10, .pointer (some ⟨b6, 0, none⟩)), (11, iV x14), (12, iV x9), (68, U), (69, iV (Ae.length : Int)), (70, iV (i2 : Int)), (75, U), (76, iV (Ae.length : Int)), (77, iV (i3 : Int)), (124, bV (decide (y3.Rank = y2.Rank)))] [false, true] rfl (subR rfl)
        refine Tn ?_
        obtain ⟨j10, hj10, h⟩ := joinE h
        refine f_join (fun a w' => ∃ x15 : Int, j10 x15 = some r ∧ Sx w [] nov [.blk b6 (GScored.enc y2) 52] [(0, U), (5, bV (x6 || ((!decide ((i3 : Int) = (i2 : Int))) && (decide (y3.Who = y2.Who))))), (6, bV (x7 || (!decide (y3.Relay = y2.Relay)))), (7, bV x4), (8, bV x5), (9, iV (i2 : Int)), (10, .pointer (some ⟨b6, 0, none⟩)), (11, iV x14), (12, iV x15), (68, U), (69, iV (Ae.length : Int)), (70, iV (i2 : Int)), (75, U), (76, iV (Ae.length : Int)), (77, iV (i3 : Int))] 171 a w') ?_ ?_
        ·refine f_cond (S.tm rfl) (fun hb15 => ?_) (fun hb15 => ?_)
         ·replace h := iteT h hb15
          refine Fg (lv S (Rm (S.tm rfl)) rfl ?_);clear S;intro a S
          refine lv S (rn_add (S.tm rfl) rfl) rfl ?_;clear S;intro a S
          refine lv S (Ra (S.tm rfl)) rfl ?_;clear S;intro a S
          refine Ld ?_
          replace S := S.nk [.blk b6 (GScored.enc y2) 52] [(0, U), (5, bV (x6 || ((!decide ((i3 : Int) = (i2 : Int))) && (decide (y3.Who = y2.Who))))), (6, bV (x7 || (!decide (y3.Relay = y2.Relay)))), (7, bV x4), (8, bV x5), (9, iV (i2 : Int)), (10, .pointer (some ⟨b6, 0, none⟩)), (11, iV x14), (12, iV (W (x9 + 1))), (68, U), (69, iV (Ae.length : Int)), (70, iV (i2 : Int)), (75, U), (76, iV (Ae.length : Int)), (77, iV (i3 : Int))] [true] rfl (subR rfl)
          refine Tn ?_
          exact ⟨W (x9 + 1), h, S.nf [true] rfl (subR rfl)⟩
         ·replace h := iteF h hb15
          refine wp_skip (Tn ?_)
          exact ⟨x9, h, S.nf [true] rfl (subR rfl)⟩
        clear S h; rintro a w31 ⟨x15, h, S⟩; rw [hj10] at h; clear hj10 j10
        refine blk_n (Tn ?_)
        exact ⟨(x6 || ((!decide ((i3 : Int) = (i2 : Int))) && (decide (y3.Who = y2.Who)))), (x7 || (!decide (y3.Relay = y2.Relay))), x14, x15, h, S.nf [true] rfl (subR rfl)⟩
      clear S h; rintro a w23 ⟨x10, x11, x12, x13, h, S⟩; rw [hj8] at h; clear hj8 j8
      refine Tn (Fg (lv S (rn_add (S.tm rfl) rfl) rfl ?_));clear S;intro a S
      refine lv S (Rm (S.tm rfl)) rfl ?_;clear S;intro a S
      refine Ld ?_
      replace S := S.nk [.blk b6 (GScored.enc y2) 52] [(0, U), (5, bV x10), (6, bV x11), (7, bV x4), (8, bV x5), (9, iV (i2 : Int)), (10, .pointer (some ⟨b6, 0, none⟩)), (11, iV x12), (12, iV x13), (68, U), (69, iV (Ae.length : Int)), (70, iV (i2 : Int)), (75, U), (76, iV (Ae.length : Int)), (77, iV (W ((i3 : Int) + 1)))] [true] rfl (subR rfl)
      refine Tn ?_
      exact ⟨ys3, ⟨i3 + 1, x10, x11, x12, x13, ⟨_, (hd3).trans (List.append_cons _ _ _), by simp [hi3]⟩, h, S.nf [true] rfl ⟨rfl, rfl, rfl, rfl, rfl, rfl, rfl, rfl, rfl, rfl, rfl, rfl, rfl, rfl, (congrArg (fun z => some (Value.int .i64 z)) (rng_next hd3 hi3 (slc_max Ag))), trivial⟩⟩, Nat.lt_succ_self _⟩
    clear S h; rintro a w22 ⟨x6, x7, x8, x9, h, S⟩; rw [hj7] at h; clear hj7 j7
    refine Tn (Fs (Fg (lv S (Rm (S.tm rfl)) rfl ?_)));clear S;intro a S
    refine lv S (Rm (S.tm rfl)) rfl ?_;clear S;intro a S
    refine f_cutm 11 (fun a w' => Keep [] w22 w' ∧ Sx w [] nov [.blk b6 (GScored.enc y2) 52] [(0, U), (5, bV x6), (6, bV x7), (8, bV x5), (10, .pointer (some ⟨b6, 0, none⟩)), (12, iV x9), (68, U), (69, iV (Ae.length : Int)), (70, iV (i2 : Int)), (140, bV (x4 || ((decide (0 < y2.Rank)) && (!decide (y2.Rank = (W (x8 + 1)))))))] 171 a w') ?_ ?_
    ·rcases Bool.eq_false_or_eq_true x4 with hb16 | hb16
     ·iterate 4 (refine l_skip S rfl rfl rfl (neq_t hb16) rfl ?_ rfl;clear S;intro a S)
      iterate 5 (refine l_skipU S rfl rfl rfl rfl ?_;clear S;intro a S)
      refine l_skip S rfl rfl rfl (neq_t hb16) rfl ?_ rfl;clear S;intro a S
      refine lv S (rn_or_t ((decide (0 < y2.Rank)) && (!decide (y2.Rank = (W (x8 + 1))))) hb16 (S.tm rfl) rfl) rfl ?_;clear S;intro a S
      refine Ld (Tn ?_)
      exact ⟨Keep.refl _ _, S.nf [true] rfl (subR rfl)⟩
     ·refine l_want S rfl rfl rfl hb16 (lv S (rn_fld fa_52_3 (S.tm rfl)) rfl ?_);clear S;intro a S
      refine l_want S rfl rfl rfl hb16 (lv S (rn_load Tryz.isAgg3 (S.tm rfl) (S.cell (i := 0) rfl rfl)) rfl ?_);clear S;intro a S
      refine l_want S rfl rfl rfl hb16 (lv S (rn_gtr (S.tm rfl) rfl) rfl ?_);clear S;intro a S
      refine l_want S rfl rfl rfl hb16 (lv S (Rm (S.tm rfl)) rfl ?_);clear S;intro a S
      refine f_cutm 6 (fun a w' => Keep [] w22 w' ∧ Sx w [] nov [.blk b6 (GScored.enc y2) 52] [(0, U), (5, bV x6), (6, bV x7), (8, bV x5), (10, .pointer (some ⟨b6, 0, none⟩)), (12, iV x9), (68, U), (69, iV (Ae.length : Int)), (70, iV (i2 : Int)), (129, bV x4), (130, .pointer (some ⟨b6, 3, none⟩)), (131, iV y2.Rank), (132, bV (decide (0 < y2.Rank))), (133, bV (decide (0 < y2.Rank))), (139, bV ((decide (0 < y2.Rank)) && (!decide (y2.Rank = (W (x8 + 1))))))] 171 a w') ?_ ?_
      ·rcases Bool.eq_false_or_eq_true (decide (0 < y2.Rank)) with hb17 | hb17
       ·refine l_want S rfl rfl rfl hb17 (lv S (rn_fld fa_52_3 (S.tm rfl)) rfl ?_);clear S;intro a S
        refine l_want S rfl rfl rfl hb17 (lv S (rn_load Tryz.isAgg3 (S.tm rfl) (S.cell (i := 0) rfl rfl)) rfl ?_);clear S;intro a S
        refine l_want S rfl rfl rfl hb17 (lv S (Rm (S.tm rfl)) rfl ?_);clear S;intro a S
        refine l_want S rfl rfl rfl hb17 (lv S (rn_add (S.tm rfl) rfl) rfl ?_);clear S;intro a S
        refine l_want S rfl rfl rfl hb17 (lv S (rn_neq (S.tm rfl) (S.tm rfl)) rfl ?_);clear S;intro a S
        refine l_want S rfl rfl rfl hb16 (lv S (rn_and_t hb17 (S.tm rfl) (S.tm rfl)) rfl ?_);clear S;intro a S
        refine Ld (Tn ?_)
        exact ⟨Keep.refl _ _, S.nf [true] rfl (subR rfl)⟩
       ·iterate 5 (refine l_skip S rfl rfl rfl (neq_f hb17) rfl ?_ rfl;clear S;intro a S)
        refine l_want S rfl rfl rfl hb16 (lv S (rn_and_f (!decide (y2.Rank = (W (x8 + 1)))) hb17 (S.tm rfl) rfl) rfl ?_);clear S;intro a S
        refine Ld (Tn ?_)
        exact ⟨Keep.refl _ _, S.nf [true] rfl (subR rfl)⟩
      clear S; rintro a w33 ⟨hk22, S⟩
      refine lv S (rn_or_f hb16 (S.tm rfl) (S.tm rfl)) rfl ?_;clear S;intro a S
      refine Ld (Tn ?_)
      exact ⟨hk22, S.nf [true] rfl (subR rfl)⟩
    clear S; rintro a w32 ⟨hk23, S⟩
    refine lv S (Ra (S.tm rfl)) rfl ?_;clear S;intro a S
    refine Ld (Tn (Fg (lv S (Rm (S.tm rfl)) rfl ?_)));clear S;intro a S
    refine lv S (Rm (S.tm rfl)) rfl ?_;clear S;intro a S
    refine f_cutm 8 (fun a w' => Keep [] w32 w' ∧ Sx w [] nov [.blk b6 (GScored.enc y2) 52] [(0, U), (5, bV x6), (6, bV x7), (7, bV (x4 || ((decide (0 < y2.Rank)) && (!decide (y2.Rank = (W (x8 + 1))))))), (68, U), (69, iV (Ae.length : Int)), (70, iV (i2 : Int)), (150, bV (x5 || ((decide (0 < y2.Rank)) && (decide (10 < x9)))))] 171 a w') ?_ ?_
    ·rcases Bool.eq_false_or_eq_true x5 with hb18 | hb18
     ·iterate 4 (refine l_skip S rfl rfl rfl (neq_t hb18) rfl ?_ rfl;clear S;intro a S)
      refine l_skipU S rfl rfl rfl rfl ?_;clear S;intro a S
      refine l_skipU S rfl rfl rfl rfl ?_;clear S;intro a S
      refine l_skip S rfl rfl rfl (neq_t hb18) rfl ?_ rfl;clear S;intro a S
      refine lv S (rn_or_t ((decide (0 < y2.Rank)) && (decide (10 < x9))) hb18 (S.tm rfl) rfl) rfl ?_;clear S;intro a S
      refine Ld (Tn ?_)
      exact ⟨Keep.refl _ _, S.nf [true] rfl (subR rfl)⟩
     ·refine l_want S rfl rfl rfl hb18 (lv S (rn_fld fa_52_3 (S.tm rfl)) rfl ?_);clear S;intro a S
      refine l_want S rfl rfl rfl hb18 (lv S (rn_load Tryz.isAgg3 (S.tm rfl) (S.cell (i := 0) rfl rfl)) rfl ?_);clear S;intro a S
      refine l_want S rfl rfl rfl hb18 (lv S (rn_gtr (S.tm rfl) rfl) rfl ?_);clear S;intro a S
      refine l_want S rfl rfl rfl hb18 (lv S (Rm (S.tm rfl)) rfl ?_);clear S;intro a S
      refine f_cutm 3 (fun a w' => Keep [] w32 w' ∧ Sx w [] nov [.blk b6 (GScored.enc y2) 52] [(0, U), (5, bV x6), (6, bV x7), (7, bV (x4 || ((decide (0 < y2.Rank)) && (!decide (y2.Rank = (W (x8 + 1))))))), (68, U), (69, iV (Ae.length : Int)), (70, iV (i2 : Int)), (142, bV x5), (143, .pointer (some ⟨b6, 3, none⟩)), (144, iV y2.Rank), (145, bV (decide (0 < y2.Rank))), (146, bV (decide (0 < y2.Rank))), (149, bV ((decide (0 < y2.Rank)) && (decide (10 < x9))))] 171 a w') ?_ ?_
      ·rcases Bool.eq_false_or_eq_true (decide (0 < y2.Rank)) with hb19 | hb19
       ·refine l_want S rfl rfl rfl hb19 (lv S (Rm (S.tm rfl)) rfl ?_);clear S;intro a S
        refine l_want S rfl rfl rfl hb19 (lv S (rn_gtr (S.tm rfl) rfl) rfl ?_);clear S;intro a S
        refine l_want S rfl rfl rfl hb18 (lv S (rn_and_t hb19 (S.tm rfl) (S.tm rfl)) rfl ?_);clear S;intro a S
        refine Ld (Tn ?_)
        exact ⟨Keep.refl _ _, S.nf [true] rfl (subR rfl)⟩
       ·refine l_skip S rfl rfl rfl (neq_f hb19) rfl ?_ rfl;clear S;intro a S
        refine l_skip S rfl rfl rfl (neq_f hb19) rfl ?_ rfl;clear S;intro a S
        refine l_want S rfl rfl rfl hb18 (lv S (rn_and_f (decide (10 < x9)) hb19 (S.tm rfl) rfl) rfl ?_);clear S;intro a S
        refine Ld (Tn ?_)
        exact ⟨Keep.refl _ _, S.nf [true] rfl (subR rfl)⟩
      clear S; rintro a w35 ⟨hk24, S⟩
      refine lv S (rn_or_f hb18 (S.tm rfl) (S.tm rfl)) rfl ?_;clear S;intro a S
      refine Ld (Tn ?_)
      exact ⟨hk24, S.nf [true] rfl (subR rfl)⟩
    clear S; rintro a w34 ⟨hk25, S⟩
    refine lv S (Ra (S.tm rfl)) rfl ?_;clear S;intro a S
    refine Ld (blk_n (Tn (Fg (lv S (rn_add (S.tm rfl) rfl) rfl ?_))));clear S;intro a S
    refine lv S (Rm (S.tm rfl)) rfl ?_;clear S;intro a S
    refine Ld (Tn ?_)
    exact ⟨ys2, ⟨i2 + 1, x6, x7, (x4 || ((decide (0 < y2.Rank)) && (!decide (y2.Rank = (W (x8 + 1)))))), (x5 || ((decide (0 < y2.Rank)) && (decide (10 < x9)))), ⟨_, (hd2).trans (List.append_cons _ _ _), by simp [hi2]⟩, h, S.nf [false] rfl ⟨rfl, rfl, rfl, rfl, rfl, rfl, rfl, (congrArg (fun z => some (Value.int .i64 z)) (rng_next hd2 hi2 (slc_max Ag))), trivial⟩⟩, Nat.lt_succ_self _⟩
  clear S h; rintro a w18 ⟨x2, x3, x4, x5, h, S⟩; rw [hj6] at h; clear hj6 j6
  refine Tn (Fs (Fs (Fg (lv S (Rm (S.tm rfl)) rfl ?_))));clear S;intro a S
  refine lv S (rn_bld bt_72 (pv := [(0, bV x2), (1, iV 6)]) ⟨rfl, (S.tm rfl), rfl, rfl, trivial⟩ (cs := [bV x2, iV 6]) (by kernel_rfl)) rfl ?_;clear S;intro a S
  refine lv S (Rm (S.tm rfl)) rfl ?_;clear S;intro a S
  refine lv S (rn_bld bt_72 (pv := [(0, bV x3), (1, iV 3)]) ⟨rfl, (S.tm rfl), rfl, rfl, trivial⟩ (cs := [bV x3, iV 3]) (by kernel_rfl)) rfl ?_;clear S;intro a S
  refine lv S (Rm (S.tm rfl)) rfl ?_;clear S;intro a S
  refine lv S (rn_bld bt_72 (pv := [(0, bV x4), (1, iV 16)]) ⟨rfl, (S.tm rfl), rfl, rfl, trivial⟩ (cs := [bV x4, iV 16]) (by kernel_rfl)) rfl ?_;clear S;intro a S
  refine lv S (Rm (S.tm rfl)) rfl ?_;clear S;intro a S
  refine lv S (rn_bld bt_72 (pv := [(0, bV x5), (1, iV 12)]) ⟨rfl, (S.tm rfl), rfl, rfl, trivial⟩ (cs := [bV x5, iV 12]) (by kernel_rfl)) rfl ?_;clear S;intro a S
  refine l_buildSlice S Tryz.underlying73 Tryz.sizeOf72 Tryz.zeroValue72 rfl rfl (pv := [(0, .agg #[bV x2, iV 6]), (1, .agg #[bV x3, iV 3]), (2, .agg #[bV x4, iV 16]), (3, .agg #[bV x5, iV 12])]) ⟨rfl, (S.tm rfl), rfl, (S.tm rfl), rfl, (S.tm rfl), rfl, (S.tm rfl), trivial⟩ (cs := [bV x2, iV 6, bV x3, iV 3, bV x4, iV 16, bV x5, iV 12]) (by kernel_rfl) rfl ?_;clear S;intro a w36 b9 hz4 hk26 S
  refine lv S (rn_lenT sl_73 (S.tm rfl) ⟨_, _, rfl⟩) rfl ?_;clear S;intro a S
  refine lv S (Rm rfl) rfl ?_;clear S;intro a S
  refine Ld ?_
  replace S := S.nk [.blk b9 [bV x2, iV 6, bV x3, iV 3, bV x4, iV 16, bV x5, iV 12] 72] [(160, .slice (some ⟨b9, 0, none⟩) 4 4), (161, iV (([(Gno_is_e.mk x2 6), (Gno_is_e.mk x3 3), (Gno_is_e.mk x4 16), (Gno_is_e.mk x5 12)] : List Gno_is_e).length : Int)), (162, iV 0)] [true] rfl (subR rfl)
  refine Tn ?_
  replace S := S.litOwn (i := 0) (xs := [(Gno_is_e.mk x2 6), (Gno_is_e.mk x3 3), (Gno_is_e.mk x4 16), (Gno_is_e.mk x5 12)]) rfl Gno_is_e.enc_ok rfl rfl rfl
  replace S := S.nk [.own (.slice (some ⟨b9, 0, none⟩) 4 4) 72 2 ([(Gno_is_e.mk x2 6), (Gno_is_e.mk x3 3), (Gno_is_e.mk x4 16), (Gno_is_e.mk x5 12)] : List Gno_is_e).length (([(Gno_is_e.mk x2 6), (Gno_is_e.mk x3 3), (Gno_is_e.mk x4 16), (Gno_is_e.mk x5 12)] : List Gno_is_e).flatMap Gno_is_e.enc)] [(160, (.slice (some ⟨b9, 0, none⟩) 4 4)), (161, iV (([(Gno_is_e.mk x2 6), (Gno_is_e.mk x3 3), (Gno_is_e.mk x4 16), (Gno_is_e.mk x5 12)] : List Gno_is_e).length : Int)), (162, iV 0)] [] rfl (subR rfl)
  obtain ⟨φ1, hl1, hs1, S⟩ := S.freezeT (xs := ([(Gno_is_e.mk x2 6), (Gno_is_e.mk x3 3), (Gno_is_e.mk x4 16), (Gno_is_e.mk x5 12)] : List Gno_is_e)) (enc := Gno_is_e.enc) (i := 0) rfl (fun _ h => by cases h)
  replace S := S.nk [] [(160, (.slice (some ⟨b9, 0, none⟩) 4 4)), (161, iV (([(Gno_is_e.mk x2 6), (Gno_is_e.mk x3 3), (Gno_is_e.mk x4 16), (Gno_is_e.mk x5 12)] : List Gno_is_e).length : Int)), (162, iV 0)] [] rfl (subR rfl)
  obtain ⟨j11, hj11, h⟩ := joinE h
  refine f_join (fun a w' => j11 = some r ∧ Sx w [] φ1 [] [] 171 a w') ?_ ?_
  ·refine wp_block (f_loop (fun (ys4 : List Gno_is_e) a w' => ∃ i4 : Nat, (∃ dn, ([(Gno_is_e.mk x2 6), (Gno_is_e.mk x3 3), (Gno_is_e.mk x4 16), (Gno_is_e.mk x5 12)] : List Gno_is_e) = dn ++ ys4 ∧ dn.length = i4) ∧ tumbref2_ScoredFault_l4 j11 ys4 i4 = some r ∧ Sx w [] φ1 [] [(160, (.slice (some ⟨b9, 0, none⟩) 4 4)), (161, iV (([(Gno_is_e.mk x2 6), (Gno_is_e.mk x3 3), (Gno_is_e.mk x4 16), (Gno_is_e.mk x5 12)] : List Gno_is_e).length : Int)), (162, iV (i4 : Int))] 171 a w') List.length ([(Gno_is_e.mk x2 6), (Gno_is_e.mk x3 3), (Gno_is_e.mk x4 16), (Gno_is_e.mk x5 12)] : List Gno_is_e) ⟨0, ⟨[], rfl, rfl⟩, h, S.nf [] rfl (subR rfl)⟩ ?_)
   clear S h; rintro ys4 a w37 ⟨i4, ⟨dn, hd4, hi4⟩, h, S⟩
   cases ys4 with
   | nil =>
    rw [tumbref2_ScoredFault_l4.eq_1] at h
    refine Fs (Fg (lv S (rn_lss (S.tm rfl) (S.tm rfl)) rfl ?_));clear S;intro a S
    refine Ld ?_
    replace S := S.nk [] [(160, (.slice (some ⟨b9, 0, none⟩) 4 4)), (161, iV (([(Gno_is_e.mk x2 6), (Gno_is_e.mk x3 3), (Gno_is_e.mk x4 16), (Gno_is_e.mk x5 12)] : List Gno_is_e).length : Int)), (162, iV (i4 : Int)), (163, bV (decide ((i4 : Int) < (([(Gno_is_e.mk x2 6), (Gno_is_e.mk x3 3), (Gno_is_e.mk x4 16), (Gno_is_e.mk x5 12)] : List Gno_is_e).length : Int))))] [] rfl (subR rfl)
    refine Tn (Fs (wp_cond_false ((S.tm rfl).trans (congrArg Value.bool (rng_nil hd4 hi4))) (wp_exit (then_x (then_x (x_same ?_))))))
    refine Tn ?_
    exact ⟨h, S.nf [] rfl trivial⟩
   | cons y4 ys4 =>
    rw [tumbref2_ScoredFault_l4.eq_2] at h
    refine Fs (Fg (lv S (rn_lss (S.tm rfl) (S.tm rfl)) rfl ?_));clear S;intro a S
    refine Ld ?_
    replace S := S.nk [] [(160, (.slice (some ⟨b9, 0, none⟩) 4 4)), (161, iV (([(Gno_is_e.mk x2 6), (Gno_is_e.mk x3 3), (Gno_is_e.mk x4 16), (Gno_is_e.mk x5 12)] : List Gno_is_e).length : Int)), (162, iV (i4 : Int)), (163, bV (decide ((i4 : Int) < (([(Gno_is_e.mk x2 6), (Gno_is_e.mk x3 3), (Gno_is_e.mk x4 16), (Gno_is_e.mk x5 12)] : List Gno_is_e).length : Int))))] [] rfl (subR rfl)
    refine Tn (Fs (wp_cond_true ((S.tm rfl).trans (congrArg Value.bool (rng_cons hd4 hi4))) (wp_skip (Tn (Fs (wp_block ?_))))))
    refine Fs (Fg ?_)
    obtain ⟨b10, o6, hm6, hr9⟩ := rn_indexT (a := a) (x := .tmp 160) (y := .tmp 162) (ty := 0) sl_73 (ownV_slcT Gno_is_e.enc_ok hs1) (get_mid hd4 hi4) rfl (S.tm rfl) (S.tm rfl)
    refine lv S (hr9 _) rfl ?_;clear S;intro a S
    clear hr9
    refine lv S (rn_ldA Tryz.isAgg72 Tryz.sizeOf72 (off := o6) (o := 0) (part := (Gno_is_e.enc y4)) rfl rfl (S.tm rfl) (hm6.at S.emb)) rfl ?_;clear S;intro a S
    refine l_alloc S Tryz.zeroValue72 (cs := [bV false, iV 0]) rfl rfl ?_;clear S;intro a w39 b11 hz5 hk27 S
    refine l_store S (S.tm rfl) (S.tm rfl) (i := 0) (off := 0) rfl Tryz.sizeOf72 (vs := (Gno_is_e.enc y4)) rfl rfl rfl rfl ?_;clear S;intro w40 hk28 S
    refine Ld (Tn (Fs (Fg (lv S (rn_fld fa_72_0 (S.tm rfl)) rfl ?_))));clear S;intro a S
    refine lv S (rn_load Tryz.isAgg4 (S.tm rfl) (S.cell (i := 0) rfl rfl)) rfl ?_;clear S;intro a S
    refine Ld (Tn (f_cond (S.tm rfl) (fun hb20 => ?_) (fun hb20 => ?_)))
    ·replace h := iteT h hb20
     refine Fs (Fg (lv S (rn_fld fa_72_1 (S.tm rfl)) rfl ?_));clear S;intro a S
     refine lv S (rn_load Tryz.isAgg32 (S.tm rfl) (S.cell (i := 0) rfl rfl)) rfl ?_;clear S;intro a S
     refine lv S (Ra (S.tm rfl)) rfl ?_;clear S;intro a S
     refine Ld (Tn (wp_ret (blk_r (then_r (then_r (blk_r ?_))))))
     refine then_r (then_r ?_)
     obtain rfl := Option.some.inj h
     exact f_ret S Tryz.results12 rfl rfl
    ·replace h := iteF h hb20
     refine wp_skip (blk_n (Tn (Fg (lv S (rn_add (S.tm rfl) rfl) rfl ?_))));clear S;intro a S
     refine lv S (Rm (S.tm rfl)) rfl ?_;clear S;intro a S
     refine Ld (Tn ?_)
     exact ⟨ys4, ⟨i4 + 1, ⟨_, (hd4).trans (List.append_cons _ _ _), by simp [hi4]⟩, h, S.nf [false] rfl ⟨rfl, rfl, (congrArg (fun z => some (Value.int .i64 z)) (rng_next hd4 hi4 (slc_max (ownV_slcT Gno_is_e.enc_ok hs1)))), trivial⟩⟩, Nat.lt_succ_self _⟩
  clear S h; rintro a w38 ⟨h, S⟩; rw [hj11] at h; clear hj11 j11
  refine Tn (Fs (Fg (lv S (Ra rfl) rfl ?_)));clear S;intro a S
  refine Ld (Tn (wp_ret ?_))
  obtain rfl := Option.some.inj h
  exact f_ret S Tryz.results12 rfl rfl
theorem tumbref2_LeftOf_ok (w : World) (Aa : GTable) (Av : R27) (Ba : rel_27 (view w []) Aa Av) (Af : Int) (Ab : Int) (Ac : Int) (r : Int) (h : tumbref2_LeftOf Aa Af Ab Ac = r) :
    Calls Tryz.prog 13 [.agg (R27.enc Av).toArray, iV Af, iV Ab, iV Ac].toArray w (Ret w [] fun _ v _ => v = iV r) := by
 obtain ⟨u1, rfl, hs1⟩ := Ba
 refine f_enter [] [] Tryz.func13 rfl Tryz.ntmps13 rfl (by simp) (by simp [fps]) (by simp [fps]) fun a S => ?_
 unfold tumbref2_LeftOf at h
 replace S := S.nk [] [(0, .agg #[u1.val, iV Aa.Relay, iV Aa.Most]), (1, iV Af), (2, iV Ab), (3, iV Ac)] [] rfl (subR rfl)
 refine Fs (Fg (l_box S (S.tm rfl) (cs := [u1.val, iV Aa.Relay, iV Aa.Most]) rfl rfl ?_));clear S;intro a w1 b1 hz1 hk1 S
 refine lv S (Ra rfl) rfl ?_;clear S;intro a S
 refine Ld (Tn (Fs (Fg (lv S (Ra rfl) rfl ?_))));clear S;intro a S
 refine Ld (Tn (Fs (Fs (Fg (lv S (rn_fld fa_27_0 (S.tm rfl)) rfl ?_)))));clear S;intro a S
 refine lv S (rn_load Tryz.isAgg22 (S.tm rfl) (S.cell (i := 0) rfl rfl)) rfl ?_;clear S;intro a S
 refine lv S (rn_lenT sl_22 (S.tm rfl) (slc_len hs1)) rfl ?_;clear S;intro a S
 refine lv S (Rm rfl) rfl ?_;clear S;intro a S
 refine Ld (Tn ?_)
 replace S := S.nk [.blk b1 [u1.val, iV Aa.Relay, iV Aa.Most] 27] [(1, iV Af), (2, iV Ab), (3, iV Ac), (4, .pointer (some ⟨b1, 0, none⟩)), (9, iV 0), (13, u1.val), (14, iV (Aa.Points.length : Int)), (15, iV 0)] [true] rfl (subR rfl)
 obtain ⟨j1, hj1, h⟩ := joinE h
 refine f_join (fun a w' => ∃ x1 : Int, j1 x1 = r ∧ Sx w [] nov [.blk b1 [u1.val, iV Aa.Relay, iV Aa.Most] 27] [(9, iV x1)] 51 a w') ?_ ?_
 ·refine wp_block (f_loop (fun (ys1 : List Int) a w' => ∃ i1 : Nat, ∃ x1 : Int, (∃ dn, Aa.Points = dn ++ ys1 ∧ dn.length = i1) ∧ tumbref2_LeftOf_l1 Ac Aa Ab Af j1 ys1 i1 x1 = r ∧ Sx w [] nov [.blk b1 [u1.val, iV Aa.Relay, iV Aa.Most] 27] [(1, iV Af), (2, iV Ab), (3, iV Ac), (4, .pointer (some ⟨b1, 0, none⟩)), (9, iV x1), (13, u1.val), (14, iV (Aa.Points.length : Int)), (15, iV (i1 : Int))] 51 a w') List.length Aa.Points ⟨0, 0, ⟨[], rfl, rfl⟩, h, S.nf [true] rfl (subR rfl)⟩ ?_)
  clear S h; rintro ys1 a w2 ⟨i1, x1, ⟨dn, hd1, hi1⟩, h, S⟩
  cases ys1 with
  | nil =>
   rw [tumbref2_LeftOf_l1.eq_1] at h
   refine Fs (Fg (lv S (rn_lss (S.tm rfl) (S.tm rfl)) rfl ?_));clear S;intro a S
   refine Ld ?_
   replace S := S.nk [.blk b1 [u1.val, iV Aa.Relay, iV Aa.Most] 27] [(1, iV Af), (2, iV Ab), (3, iV Ac), (4, .pointer (some ⟨b1, 0, none⟩)), (9, iV x1), (13, u1.val), (14, iV (Aa.Points.length : Int)), (15, iV (i1 : Int)), (16, bV (decide ((i1 : Int) < (Aa.Points.length : Int))))] [true] rfl (subR rfl)
   refine Tn (Fs (wp_cond_false ((S.tm rfl).trans (congrArg Value.bool (rng_nil hd1 hi1))) (wp_exit (then_x (then_x (x_same ?_))))))
   refine Tn ?_
   exact ⟨x1, h, S.nf [true] rfl ⟨rfl, trivial⟩⟩
  | cons y1 ys1 =>
   rw [tumbref2_LeftOf_l1.eq_2] at h
   refine Fs (Fg (lv S (rn_lss (S.tm rfl) (S.tm rfl)) rfl ?_));clear S;intro a S
   refine Ld ?_
   replace S := S.nk [.blk b1 [u1.val, iV Aa.Relay, iV Aa.Most] 27] [(1, iV Af), (2, iV Ab), (3, iV Ac), (4, .pointer (some ⟨b1, 0, none⟩)), (9, iV x1), (13, u1.val), (14, iV (Aa.Points.length : Int)), (15, iV (i1 : Int)), (16, bV (decide ((i1 : Int) < (Aa.Points.length : Int))))] [true] rfl (subR rfl)
   refine Tn (Fs (wp_cond_true ((S.tm rfl).trans (congrArg Value.bool (rng_cons hd1 hi1))) (wp_skip (Tn (Fs ?_)))))
   obtain ⟨j2, hj2, h⟩ := joinE h
   refine f_join (fun a w' => ∃ x2 : Int, j2 x2 = r ∧ Sx w [] nov [.blk b1 [u1.val, iV Aa.Relay, iV Aa.Most] 27] [(1, iV Af), (2, iV Ab), (3, iV Ac), (4, .pointer (some ⟨b1, 0, none⟩)), (9, iV x2), (13, u1.val), (14, iV (Aa.Points.length : Int)), (15, iV (i1 : Int))] 51 a w') ?_ ?_
   ·refine wp_block (Fs (Fg (lv S (Rm (S.tm rfl)) rfl ?_)));clear S;intro a S
    obtain ⟨b2, o1, hm1, hr1⟩ := rn_indexT (a := a) (x := .tmp 13) (y := .tmp 15) (ty := 0) sl_22 hs1 (get_mid hd1 hi1) rfl (S.tm rfl) (S.tm rfl)
    refine lv S (hr1 _) rfl ?_;clear S;intro a S
    clear hr1
    refine lv S (rn_ld Tryz.isAgg3 (off := o1) (o := 0) (S.tm rfl) (hm1.at S.emb0) rfl) rfl ?_;clear S;intro a S
    refine lv S (Ra (S.tm rfl)) rfl ?_;clear S;intro a S
    refine lv S (Ra (S.tm rfl)) rfl ?_;clear S;intro a S
    refine Ld (Tn (Fs (Fs (Fg (lv S (Rm (S.tm rfl)) rfl ?_)))));clear S;intro a S
    refine lv S (Rm (S.tm rfl)) rfl ?_;clear S;intro a S
    refine lv S (rn_lss (S.tm rfl) (S.tm rfl)) rfl ?_;clear S;intro a S
    refine lv S (Rm (S.tm rfl)) rfl ?_;clear S;intro a S
    refine f_cutm 10 (fun a w' => Keep [] w2 w' ∧ Sx w [] nov [.blk b1 [u1.val, iV Aa.Relay, iV Aa.Most] 27] [(1, iV Af), (2, iV Ab), (3, iV Ac), (4, .pointer (some ⟨b1, 0, none⟩)), (9, iV x1), (10, iV (i1 : Int)), (11, iV y1), (13, u1.val), (14, iV (Aa.Points.length : Int)), (15, iV (i1 : Int)), (33, bV ((decide ((i1 : Int) < Ab)) && ((decide (Aa.Most = 0)) || (decide ((i1 : Int) < Aa.Most)))))] 51 a w') ?_ ?_
    ·rcases Bool.eq_false_or_eq_true (decide ((i1 : Int) < Ab)) with hb1 | hb1
     ·refine l_want S rfl rfl rfl hb1 (lv S (rn_fld fa_27_2 (S.tm rfl)) rfl ?_);clear S;intro a S
      refine l_want S rfl rfl rfl hb1 (lv S (rn_load Tryz.isAgg3 (S.tm rfl) (S.cell (i := 0) rfl rfl)) rfl ?_);clear S;intro a S
      refine l_want S rfl rfl rfl hb1 (lv S (rn_eql (S.tm rfl) rfl) rfl ?_);clear S;intro a S
      refine l_want S rfl rfl rfl hb1 (lv S (Rm (S.tm rfl)) rfl ?_);clear S;intro a S
      refine f_cutm 5 (fun a w' => Keep [] w2 w' ∧ Sx w [] nov [.blk b1 [u1.val, iV Aa.Relay, iV Aa.Most] 27] [(1, iV Af), (2, iV Ab), (3, iV Ac), (4, .pointer (some ⟨b1, 0, none⟩)), (9, iV x1), (10, iV (i1 : Int)), (11, iV y1), (13, u1.val), (14, iV (Aa.Points.length : Int)), (15, iV (i1 : Int)), (23, bV (decide ((i1 : Int) < Ab))), (24, .pointer (some ⟨b1, 2, none⟩)), (25, iV Aa.Most), (26, bV (decide (Aa.Most = 0))), (27, bV (decide (Aa.Most = 0))), (32, bV ((decide (Aa.Most = 0)) || (decide ((i1 : Int) < Aa.Most))))] 51 a w') ?_ ?_
      ·rcases Bool.eq_false_or_eq_true (decide (Aa.Most = 0)) with hb2 | hb2
       ·iterate 4 (refine l_skip S rfl rfl rfl (neq_t hb2) rfl ?_ rfl;clear S;intro a S)
        refine l_want S rfl rfl rfl hb1 (lv S (rn_or_t (decide ((i1 : Int) < Aa.Most)) hb2 (S.tm rfl) rfl) rfl ?_);clear S;intro a S
        refine Ld (Tn ?_)
        exact ⟨Keep.refl _ _, S.nf [true] rfl (subR rfl)⟩
       ·refine l_want S rfl rfl rfl hb2 (lv S (Rm (S.tm rfl)) rfl ?_);clear S;intro a S
        refine l_want S rfl rfl rfl hb2 (lv S (rn_fld fa_27_2 (S.tm rfl)) rfl ?_);clear S;intro a S
        refine l_want S rfl rfl rfl hb2 (lv S (rn_load Tryz.isAgg3 (S.tm rfl) (S.cell (i := 0) rfl rfl)) rfl ?_);clear S;intro a S
        refine l_want S rfl rfl rfl hb2 (lv S (rn_lss (S.tm rfl) (S.tm rfl)) rfl ?_);clear S;intro a S
        refine l_want S rfl rfl rfl hb1 (lv S (rn_or_f hb2 (S.tm rfl) (S.tm rfl)) rfl ?_);clear S;intro a S
        refine Ld (Tn ?_)
        exact ⟨Keep.refl _ _, S.nf [true] rfl (subR rfl)⟩
      clear S; rintro a w6 ⟨hk2, S⟩
      refine lv S (rn_and_t hb1 (S.tm rfl) (S.tm rfl)) rfl ?_;clear S;intro a S
      refine Ld (Tn ?_)
      exact ⟨hk2, S.nf [true] rfl (subR rfl)⟩
     ·iterate 4 (refine l_skip S rfl rfl rfl (neq_f hb1) rfl ?_ rfl;clear S;intro a S)
      iterate 4 (refine l_skipU S rfl rfl rfl rfl ?_;clear S;intro a S)
      refine l_skip S rfl rfl rfl (neq_f hb1) rfl ?_ rfl;clear S;intro a S
      refine lv S (rn_and_f ((decide (Aa.Most = 0)) || (decide ((i1 : Int) < Aa.Most))) hb1 (S.tm rfl) rfl) rfl ?_;clear S;intro a S
      refine Ld (Tn ?_)
      exact ⟨Keep.refl _ _, S.nf [true] rfl (subR rfl)⟩
    clear S; rintro a w5 ⟨hk3, S⟩
    refine Ld (Tn ?_)
    obtain ⟨j3, hj3, h⟩ := joinE h
    refine f_join (fun a w' => ∃ x3 : Int, j3 x3 = r ∧ Sx w [] nov [.blk b1 [u1.val, iV Aa.Relay, iV Aa.Most] 27] [(1, iV Af), (2, iV Ab), (3, iV Ac), (4, .pointer (some ⟨b1, 0, none⟩)), (9, iV x3), (10, iV (i1 : Int)), (11, iV y1), (13, u1.val), (14, iV (Aa.Points.length : Int)), (15, iV (i1 : Int))] 51 a w') ?_ ?_
    ·refine f_cond (S.tm rfl) (fun hb3 => ?_) (fun hb3 => ?_)
     ·replace h := iteT h hb3
      refine Fg (lv S (Rm (S.tm rfl)) rfl ?_);clear S;intro a S
      refine lv S (Rm (S.tm rfl)) rfl ?_;clear S;intro a S
      refine lv S (Rm (S.tm rfl)) rfl ?_;clear S;intro a S
      refine lv S (rn_mul (S.tm rfl) (S.tm rfl)) rfl ?_;clear S;intro a S
      refine lv S (rn_add (S.tm rfl) (S.tm rfl)) rfl ?_;clear S;intro a S
      refine lv S (Ra (S.tm rfl)) rfl ?_;clear S;intro a S
      refine Ld ?_
      replace S := S.nk [.blk b1 [u1.val, iV Aa.Relay, iV Aa.Most] 27] [(1, iV Af), (2, iV Ab), (3, iV Ac), (4, .pointer (some ⟨b1, 0, none⟩)), (9, iV (W (x1 + (W (Af * y1))))), (10, iV (i1 : Int)), (11, iV y1), (13, u1.val), (14, iV (Aa.Points.length : Int)), (15, iV (i1 : Int))] [true] rfl (subR rfl)
      refine Tn ?_
      exact ⟨W (x1 + (W (Af * y1))), h, S.nf [true] rfl (subR rfl)⟩
     ·replace h := iteF h hb3
      refine wp_skip (Tn ?_)
      exact ⟨x1, h, S.nf [true] rfl (subR rfl)⟩
    clear S h; rintro a w7 ⟨x3, h, S⟩; rw [hj3] at h; clear hj3 j3
    refine Tn (Fs (Fg (lv S (Rm (S.tm rfl)) rfl ?_)));clear S;intro a S
    refine lv S (rn_eql (S.tm rfl) rfl) rfl ?_;clear S;intro a S
    refine Ld (Tn ?_)
    obtain ⟨j4, hj4, h⟩ := joinE h
    refine f_join (fun a w' => ∃ x4 : Int, j4 x4 = r ∧ Sx w [] nov [.blk b1 [u1.val, iV Aa.Relay, iV Aa.Most] 27] [(1, iV Af), (2, iV Ab), (3, iV Ac), (4, .pointer (some ⟨b1, 0, none⟩)), (9, iV x4), (13, u1.val), (14, iV (Aa.Points.length : Int)), (15, iV (i1 : Int))] 51 a w') ?_ ?_
    ·refine f_cond (S.tm rfl) (fun hb4 => ?_) (fun hb4 => ?_)
     ·replace h := iteT h hb4
      refine Fg (lv S (Rm (S.tm rfl)) rfl ?_);clear S;intro a S
      refine lv S (Rm (S.tm rfl)) rfl ?_;clear S;intro a S
      refine lv S (rn_fld fa_27_1 (S.tm rfl)) rfl ?_;clear S;intro a S
      refine lv S (rn_load Tryz.isAgg3 (S.tm rfl) (S.cell (i := 0) rfl rfl)) rfl ?_;clear S;intro a S
      refine lv S (rn_mul (S.tm rfl) (S.tm rfl)) rfl ?_;clear S;intro a S
      refine lv S (Rm (S.tm rfl)) rfl ?_;clear S;intro a S
      refine lv S (rn_mul (S.tm rfl) (S.tm rfl)) rfl ?_;clear S;intro a S
      refine lv S (rn_add (S.tm rfl) (S.tm rfl)) rfl ?_;clear S;intro a S
      refine lv S (Ra (S.tm rfl)) rfl ?_;clear S;intro a S
      refine Ld ?_
      replace S := S.nk [.blk b1 [u1.val, iV Aa.Relay, iV Aa.Most] 27] [(1, iV Af), (2, iV Ab), (3, iV Ac), (4, .pointer (some ⟨b1, 0, none⟩)), (9, iV (W (x3 + (W ((W (Ac * Aa.Relay)) * y1))))), (13, u1.val), (14, iV (Aa.Points.length : Int)), (15, iV (i1 : Int))] [true] rfl (subR rfl)
      refine Tn ?_
      exact ⟨W (x3 + (W ((W (Ac * Aa.Relay)) * y1))), h, S.nf [true] rfl (subR rfl)⟩
     ·replace h := iteF h hb4
      refine wp_skip (Tn ?_)
      exact ⟨x3, h, S.nf [true] rfl (subR rfl)⟩
    clear S h; rintro a w8 ⟨x4, h, S⟩; rw [hj4] at h; clear hj4 j4
    refine blk_n (Tn ?_)
    exact ⟨x4, h, S.nf [true] rfl (subR rfl)⟩
   clear S h; rintro a w4 ⟨x2, h, S⟩; rw [hj2] at h; clear hj2 j2
   refine Tn (Fg (lv S (rn_add (S.tm rfl) rfl) rfl ?_));clear S;intro a S
   refine lv S (Rm (S.tm rfl)) rfl ?_;clear S;intro a S
   refine Ld (Tn ?_)
   exact ⟨ys1, ⟨i1 + 1, x2, ⟨_, (hd1).trans (List.append_cons _ _ _), by simp [hi1]⟩, h, S.nf [true] rfl ⟨rfl, rfl, rfl, rfl, rfl, rfl, rfl, (congrArg (fun z => some (Value.int .i64 z)) (rng_next hd1 hi1 (slc_max hs1))), trivial⟩⟩, Nat.lt_succ_self _⟩
 clear S h; rintro a w3 ⟨x1, h, S⟩; rw [hj1] at h; clear hj1 j1
 refine Tn (Fs (Fg (lv S (Rm (S.tm rfl)) rfl ?_)));clear S;intro a S
 refine lv S (Ra (S.tm rfl)) rfl ?_;clear S;intro a S
 refine Ld (Tn (wp_ret ?_))
 subst h
 exact f_ret S Tryz.results13 rfl rfl
theorem slices_Sort_string_ok (w : World) (Bf : Value) (Am : List ByteArray) (Cv : (LEnt.own Bf 9 1 Am.length (Am.flatMap eStr)).holds w) (r : (List ByteArray)) (h : slices_Sort_string Am = some r) :
    Calls Tryz.prog 75 [Bf].toArray w (Ret w (Bf.ownBlock.toList) fun _ v w' => (LEnt.own Bf 9 1 r.length (r.flatMap eStr)).holds w' ∧ v = .tuple #[]) := by
  unfold slices_Sort_string at h
  obtain ⟨hc, h⟩ := chkE h
  obtain rfl := Option.some.inj h
  have hc := of_decide_eq_true hc
  have hown : w.ownsRow 0 9 1 Bf Am.length (Am.flatMap eStr) := Cv
  have he : ∀ l : List ByteArray, l.flatMap eStr = (l.map fun b => b.data.toList).map encStr := by
    intro l; induction l with
    | nil => rfl
    | cons x l ih => rw [List.flatMap_cons, ih]; rfl
  have hs : (sortStrs Am).length = Am.length := by simp [sortStrs]
  have hs2 : (sortStrs Am).map (fun b => b.data.toList) = (Am.map fun b => b.data.toList).mergeSort fun x y => decide (x ≤ y) := by
    unfold sortStrs
    rw [List.map_map]
    exact (List.map_congr_left fun x _ => rfl).trans (List.map_id _)
  rcases hown.2 with ⟨rfl, h0⟩ | ⟨g, cap, cur, rfl, hbase, hb, h1, h2, h3, h4⟩
  · obtain rfl : Am = [] := List.length_eq_zero_iff.1 h0
    refine (Any.slices_Sort_string_none Tryz.lays190 none 0 w).mono ?_
    rintro e w' ⟨rfl, n, rfl⟩
    exact ⟨_, rfl, ⟨rfl, rfl, rfl, Nat.le_refl _, fun _ _ _ => rfl⟩, ⟨by simp [sortStrs], .inl ⟨rfl, by simp [sortStrs]⟩⟩, rfl⟩
  · have c := Any.slices_Sort_string Tryz.lays190 g 0 cap (Am.map fun b => b.data.toList) w (holds_of_block hb (by rw [List.length_map, ← he, ← h4, Nat.mul_one])) (Array.getElem?_eq_some_iff.1 hb).1 (by rw [List.length_map]; exact hc)
    rw [List.length_map] at c
    refine c.mono ?_
    rintro e w' ⟨rfl, n, os, rfl⟩
    have gb := grownBy_sorted (w := w) (g := g) (n := n) (os := os) ((Am.map fun b => b.data.toList).mergeSort fun x y => decide (x ≤ y)).toArray
    refine ⟨_, rfl, ⟨gb.os, gb.tape, gb.output, gb.size, fun k hk hx => gb.block k hk (fun e => hx (by simp [Value.ownBlock, ← e]))⟩, ?_, rfl⟩
    have := ownsRow_sorted (n := n) (os := os) (ss := Am.map fun b => b.data.toList) (ts := (Am.map fun b => b.data.toList).mergeSort fun x y => decide (x ≤ y)) (by simp) hbase hb (by rw [List.length_map]; exact h1) h2 (by simpa using h3)
    show World.ownsRow _ 0 9 1 _ (sortStrs Am).length ((sortStrs Am).flatMap eStr)
    rw [he, hs2, hs]
    rw [List.length_map] at this
    exact this
set_option maxRecDepth 20000 in
theorem slices_Compact_string_ok (w : World) (Ai : Value) (Al : List ByteArray) (Dp : (LEnt.own Ai 9 1 Al.length (Al.flatMap eStr)).holds w) (r : (List ByteArray)) (h : slices_Compact_string Al = some r) :
    Calls Tryz.prog 76 [Ai].toArray w (Ret w (Ai.ownBlock.toList) fun _ v w' => (LEnt.own v 9 1 r.length (r.flatMap eStr)).holds w' ∧ v.ownBlock = Ai.ownBlock) := by
 refine f_enter (Ai.ownBlock.toList) [.own Ai 9 1 Al.length (Al.flatMap eStr)] Tryz.func76 rfl Tryz.ntmps76 rfl (fun e he => by simp only [List.mem_singleton] at he; subst he; exact Dp) (fps_one_nodup _) (fps_one_sub _) fun a S => ?_
 unfold slices_Compact_string at h
 replace S := S.nk [.own Ai 9 1 Al.length (Al.flatMap eStr)] [(0, Ai)] [true] rfl ⟨rfl, trivial⟩
 refine Fs (Fg (lv S (Ra rfl) rfl ?_));clear S;intro a S
 refine Ld (Tn (Fs (Fs (Fg (lv S (Rm (S.tm rfl)) rfl ?_)))));clear S;intro a S
 refine lv S (rn_lenT sl_35 (S.tm rfl) (own_len (S.own_at (i := 0) rfl))) rfl ?_;clear S;intro a S
 refine lv S (rn_lss (S.tm rfl) rfl) rfl ?_;clear S;intro a S
 refine Ld (Tn (f_cond (S.tm rfl) (fun hb1 => ?_) (fun hb1 => ?_)))
 ·replace h := iteT h hb1
  refine Fs (Fg (lv S (Rm (S.tm rfl)) rfl ?_));clear S;intro a S
  refine lv S (Ra (S.tm rfl)) rfl ?_;clear S;intro a S
  refine Ld (Tn (wp_ret (then_r ?_)))
  obtain rfl := Option.some.inj h
  exact f_ret S Tryz.results76 rfl ⟨(S.holds _ (List.mem_of_getElem? (i := 0) rfl)), rfl⟩
 ·replace h := iteF h hb1
  refine wp_skip (Tn (Fs (Fs (Fg (lv S (Ra rfl) rfl ?_)))));clear S;intro a S
  refine Ld (Tn ?_)
  replace S := S.nk [.own Ai 9 1 Al.length (Al.flatMap eStr)] [(0, Ai), (3, iV 1)] [true] rfl (subR rfl)
  obtain ⟨j1, hj1, h⟩ := joinE h
  refine f_join (fun a w' => j1 = some r ∧ Sx w (Ai.ownBlock.toList) nov [.own Ai 9 1 Al.length (Al.flatMap eStr)] [(0, Ai)] 61 a w') ?_ ?_
  ·refine wp_block (f_loop (fun (m1 : Nat) a w' => ∃ x1 : Int, slices_Compact_string_l1 Al j1 m1 x1 = some r ∧ Sx w (Ai.ownBlock.toList) nov [.own Ai 9 1 Al.length (Al.flatMap eStr)] [(0, Ai), (3, iV x1)] 61 a w') id (((Al.length : Int) - 1).toNat + 2) ⟨1, h, S.nf [true] rfl (subR rfl)⟩ ?_)
   clear S h; rintro m1 a w1 ⟨x1, h, S⟩
   cases m1 with
   | zero => rw [slices_Compact_string_l1.eq_1] at h; cases h
   | succ m1 =>
    rw [slices_Compact_string_l1.eq_2] at h
    refine Fs (Fs (Fg (lv S (Rm (S.tm rfl)) rfl ?_)));clear S;intro a S
    refine lv S (Rm (S.tm rfl)) rfl ?_;clear S;intro a S
    refine lv S (rn_lenT sl_35 (S.tm rfl) (own_len (S.own_at (i := 0) rfl))) rfl ?_;clear S;intro a S
    refine lv S (rn_lss (S.tm rfl) (S.tm rfl)) rfl ?_;clear S;intro a S
    refine Ld (Tn (f_cond (S.tm rfl) (fun hb2 => ?_) (fun hb2 => ?_)))
    ·replace h := iteT h hb2
     refine wp_skip (Tn (Fs (wp_block (Fs (d_region [] ([]) Tryz.mixed S rfl (by kernel_rfl) ?_)))));clear S;intro w3 hk1 hsel S
     refine d_rest [0, 1, 2, 3, 4, 5, 6, 7, 8, 9] hsel (by kernel_rfl) rfl ?_
     clear hsel
     refine s_lv S rfl (Rm (S.tm rfl)) rfl ?_;clear S;intro a S
     refine s_lv S rfl (Rm (S.tm rfl)) rfl ?_;clear S;intro a S
     obtain ⟨hc1, h⟩ := chkE h
     obtain ⟨b1, hg1, hr1⟩ := rn_indexS (a := a) (x := .tmp 16) (y := .tmp 17) (ty := 0) sl_35 enc_str S (i := 0) rfl (inB_get hc1).1 (inB_get hc1).2 (S.tm rfl) (S.tm rfl)
     refine s_lv S rfl (hr1 _) rfl ?_;clear S;intro a S
     clear hr1
     refine s_lv S rfl (rn_ld Tryz.isAgg9 (off := x1.toNat * 1) (o := 0) (S.tm rfl) (own_cells enc_str S (i := 0) rfl hg1 (inB_get hc1).1) rfl) rfl ?_;clear S;intro a S
     refine s_lv S rfl (Rm (S.tm rfl)) rfl ?_;clear S;intro a S
     refine s_lv S rfl (Rm (S.tm rfl)) rfl ?_;clear S;intro a S
     refine s_lv S rfl (rn_sub (S.tm rfl) rfl) rfl ?_;clear S;intro a S
     obtain ⟨hc2, h⟩ := chkE h
     obtain ⟨b2, hg2, hr2⟩ := rn_indexS (a := a) (x := .tmp 20) (y := .tmp 22) (ty := 0) sl_35 enc_str S (i := 0) rfl (inB_get hc2).1 (inB_get hc2).2 (S.tm rfl) (S.tm rfl)
     refine s_lv S rfl (hr2 _) rfl ?_;clear S;intro a S
     clear hr2
     refine s_lv S rfl (rn_ld Tryz.isAgg9 (off := ((W (x1 - 1)).toNat) * 1) (o := 0) (S.tm rfl) (own_cells enc_str S (i := 0) rfl hg2 (inB_get hc2).1) rfl) rfl ?_;clear S;intro a S
     refine s_lv S rfl (rn_seql (S.tm rfl) (S.tm rfl)) rfl ?_;clear S;intro a S
     refine s_done ?_
     replace S := S.nk [.own Ai 9 1 Al.length (Al.flatMap eStr)] [(0, Ai), (3, iV x1), (25, bV (decide ((nth Al x1) = (nth Al (W (x1 - 1))))))] [true] rfl (subR rfl)
     refine Tn (f_cond (S.tm rfl) (fun hb3 => ?_) (fun hb3 => ?_))
     ·replace h := iteT h hb3
      refine Fs (Fg (lv S (Rm (S.tm rfl)) rfl ?_));clear S;intro a S
      refine lv S (Rm (S.tm rfl)) rfl ?_;clear S;intro a S
      obtain ⟨hc3, h⟩ := chkE h
      obtain ⟨u1, hu1, hr3⟩ := rn_subl (a := a) (x := .tmp 26) (y := .tmp 27) (ty := 35) sl_35 S (i := 0) rfl (S.tm rfl) (S.tm rfl) hc3
      refine lv S (hr3 _) rfl ?_;clear S;intro a S
      clear hr3
      refine lv S (Ra (S.tm rfl)) rfl ?_;clear S;intro a S
      refine Ld (Tn (Fs (Fs (Fg (lv S (Ra rfl) rfl ?_)))));clear S;intro a S
      refine Ld (Tn ?_)
      replace S := S.nk [.own Ai 9 1 Al.length (Al.flatMap eStr)] [(0, Ai), (3, iV x1), (4, u1), (5, iV 1)] [true] rfl (subR rfl)
      obtain ⟨j2, hj2, h⟩ := joinE h
      refine f_join (fun a w' => ∃ x2 : List ByteArray, ∃ x3 : Int, j2 x2 x3 = some r ∧ Sx w (Ai.ownBlock.toList) nov [.own Ai 9 1 x2.length (x2.flatMap eStr)] [(0, Ai), (3, iV x3)] 61 a w') ?_ ?_
      ·refine wp_block (f_loop (fun (m2 : Nat) a w' => ∃ x2 : List ByteArray, ∃ x3 : Int, ∃ x4 : Int, slices_Compact_string_l2 Al x1 j2 m2 x2 x3 x4 = some r ∧ Sx w (Ai.ownBlock.toList) nov [.own Ai 9 1 x2.length (x2.flatMap eStr)] [(0, Ai), (3, iV x3), (4, u1), (5, iV x4)] 61 a w') id (((((Al.length : Int).toNat - x1.toNat : Nat) : Int) - 1).toNat + 2) ⟨Al, x1, 1, h, S.nf [true] rfl (subR rfl)⟩ ?_)
       clear S h; rintro m2 a w4 ⟨x2, x3, x4, h, S⟩
       cases m2 with
       | zero => rw [slices_Compact_string_l2.eq_1] at h; cases h
       | succ m2 =>
        rw [slices_Compact_string_l2.eq_2] at h
        refine Fs (Fs (Fg (lv S (Rm (S.tm rfl)) rfl ?_)));clear S;intro a S
        refine lv S (Rm (S.tm rfl)) rfl ?_;clear S;intro a S
        refine lv S (rn_lenT sl_35 (S.tm rfl) (subLen hu1)) rfl ?_;clear S;intro a S
        refine lv S (rn_lss (S.tm rfl) (S.tm rfl)) rfl ?_;clear S;intro a S
        refine Ld (Tn (f_cond (S.tm rfl) (fun hb4 => ?_) (fun hb4 => ?_)))
        ·replace h := iteT h hb4
         refine wp_skip (Tn (Fs ?_))
         obtain ⟨j3, hj3, h⟩ := joinE h
         refine f_join (fun a w' => ∃ x5 : List ByteArray, ∃ x6 : Int, j3 x5 x6 = some r ∧ Sx w (Ai.ownBlock.toList) nov [.own Ai 9 1 x5.length (x5.flatMap eStr)] [(0, Ai), (3, iV x6), (4, u1), (5, iV x4)] 61 a w') ?_ ?_
         ·refine wp_block (Fs (d_region [] ([]) Tryz.mixed S rfl (by kernel_rfl) ?_));clear S;intro w7 hk2 hsel S
          refine d_rest [0, 1, 2, 3, 4, 5, 6, 7, 8, 9] hsel (by kernel_rfl) rfl ?_
          clear hsel
          refine s_lv S rfl (Rm (S.tm rfl)) rfl ?_;clear S;intro a S
          refine s_lv S rfl (Rm (S.tm rfl)) rfl ?_;clear S;intro a S
          obtain ⟨hc4, h⟩ := chkE h
          have hj4 := (sub_get (sub_le S (i := 0) rfl hu1) hc4).1
          obtain ⟨b3, hg3, hr4⟩ := rn_indexSub (a := a) (x := .tmp 35) (y := .tmp 36) (ty := 0) sl_35 enc_str S (i := 0) rfl hu1 hc4 (S.tm rfl) (S.tm rfl)
          refine s_lv S rfl (hr4 _) rfl ?_;clear S;intro a S
          clear hr4
          refine s_lv S rfl (rn_ld Tryz.isAgg9 (off := (x1.toNat + x4.toNat) * 1) (o := 0) (S.tm rfl) (own_cells enc_str S (i := 0) rfl hg3 hj4) rfl) rfl ?_;clear S;intro a S
          refine s_lv S rfl (Rm (S.tm rfl)) rfl ?_;clear S;intro a S
          refine s_lv S rfl (Rm (S.tm rfl)) rfl ?_;clear S;intro a S
          refine s_lv S rfl (rn_sub (S.tm rfl) rfl) rfl ?_;clear S;intro a S
          obtain ⟨hc5, h⟩ := chkE h
          have hj5 := (sub_get (sub_le S (i := 0) rfl hu1) hc5).1
          obtain ⟨b4, hg4, hr5⟩ := rn_indexSub (a := a) (x := .tmp 39) (y := .tmp 41) (ty := 0) sl_35 enc_str S (i := 0) rfl hu1 hc5 (S.tm rfl) (S.tm rfl)
          refine s_lv S rfl (hr5 _) rfl ?_;clear S;intro a S
          clear hr5
          refine s_lv S rfl (rn_ld Tryz.isAgg9 (off := (x1.toNat + (W (x4 - 1)).toNat) * 1) (o := 0) (S.tm rfl) (own_cells enc_str S (i := 0) rfl hg4 hj5) rfl) rfl ?_;clear S;intro a S
          refine s_lv S rfl (rn_sneq (S.tm rfl) (S.tm rfl)) rfl ?_;clear S;intro a S
          refine s_done ?_
          replace S := S.nk [.own Ai 9 1 x2.length (x2.flatMap eStr)] [(0, Ai), (3, iV x3), (4, u1), (5, iV x4), (44, bV (!decide ((nth (cut x2 x1 (Al.length : Int)) x4) = (nth (cut x2 x1 (Al.length : Int)) (W (x4 - 1))))))] [true] rfl (subR rfl)
          refine Tn ?_
          obtain ⟨j4, hj6, h⟩ := joinE h
          refine f_join (fun a w' => ∃ x7 : List ByteArray, ∃ x8 : Int, j4 x7 x8 = some r ∧ Sx w (Ai.ownBlock.toList) nov [.own Ai 9 1 x7.length (x7.flatMap eStr)] [(0, Ai), (3, iV x8), (4, u1), (5, iV x4)] 61 a w') ?_ ?_
          ·refine f_cond (S.tm rfl) (fun hb5 => ?_) (fun hb5 => ?_)
           ·replace h := iteT h hb5
            refine Fs (Fg (lv S (Rm (S.tm rfl)) rfl ?_));clear S;intro a S
            iterate 3 (refine lv S (Rm (S.tm rfl)) rfl ?_;clear S;intro a S)
            obtain ⟨hc6, h⟩ := chkE h
            have hj7 := (sub_get (sub_le S (i := 0) rfl hu1) hc6).1
            obtain ⟨b5, hg5, hr6⟩ := rn_indexSub (a := a) (x := .tmp 47) (y := .tmp 48) (ty := 0) sl_35 enc_str S (i := 0) rfl hu1 hc6 (S.tm rfl) (S.tm rfl)
            refine lv S (hr6 _) rfl ?_;clear S;intro a S
            clear hr6
            refine lv S (rn_ld Tryz.isAgg9 (off := (x1.toNat + x4.toNat) * 1) (o := 0) (S.tm rfl) (own_cells enc_str S (i := 0) rfl hg5 hj7) rfl) rfl ?_;clear S;intro a S
            obtain ⟨hc7, h⟩ := chkE h
            obtain ⟨b6, hg6, hr7⟩ := rn_indexS (a := a) (x := .tmp 45) (y := .tmp 46) (ty := 0) sl_35 enc_str S (i := 0) rfl (inB_get hc7).1 (inB_get hc7).2 (S.tm rfl) (S.tm rfl)
            refine lv S (hr7 _) rfl ?_;clear S;intro a S
            clear hr7
            refine l_storeO (c := 0) (j := x3.toNat) (nth (cut x2 x1 (Al.length : Int)) x4) enc_str S (S.tm rfl) (S.tm rfl) (i := 0) rfl hg6 (inB_get hc7).1 Tryz.sizeOf9 (vs := [sV (nth (cut x2 x1 (Al.length : Int)) x4)]) rfl rfl rfl rfl rfl ?_;clear S;intro w10 hk4 S
            refine Ld (Tn (Fg (lv S (Rm (S.tm rfl)) rfl ?_)));clear S;intro a S
            refine lv S (rn_add (S.tm rfl) rfl) rfl ?_;clear S;intro a S
            refine lv S (Ra (S.tm rfl)) rfl ?_;clear S;intro a S
            refine Ld (Tn ?_)
            exact ⟨(x2.set x3.toNat (nth (cut x2 x1 (Al.length : Int)) x4)), W (x3 + 1), h, S.nf [true] rfl (subR rfl)⟩
           ·replace h := iteF h hb5
            refine wp_skip (Tn ?_)
            exact ⟨x2, x3, h, S.nf [true] rfl (subR rfl)⟩
          clear S h; rintro a w8 ⟨x7, x8, h, S⟩; rw [hj6] at h; clear hj6 j4
          refine blk_n (Tn ?_)
          exact ⟨x7, x8, h, S.nf [true] rfl (subR rfl)⟩
         clear S h; rintro a w6 ⟨x5, x6, h, S⟩; rw [hj3] at h; clear hj3 j3
         refine Tn (Fg (lv S (Rm (S.tm rfl)) rfl ?_));clear S;intro a S
         refine lv S (rn_add (S.tm rfl) rfl) rfl ?_;clear S;intro a S
         refine lv S (Ra (S.tm rfl)) rfl ?_;clear S;intro a S
         refine Ld (Tn ?_)
         exact ⟨m2, ⟨x5, x6, W (x4 + 1), h, S.nf [true] rfl ⟨rfl, rfl, rfl, rfl, trivial⟩⟩, Nat.lt_succ_self _⟩
        ·replace h := iteF h hb4
         refine wp_exit (then_x (then_x (x_same (Tn ?_))))
         exact ⟨x2, x3, h, S.nf [true] rfl (subR rfl)⟩
      clear S h; rintro a w5 ⟨x2, x3, h, S⟩; rw [hj2] at h; clear hj2 j2
      refine Tn (Fs (Fg (lv S (Rm (S.tm rfl)) rfl ?_)));clear S;intro a S
      refine lv S (Rm (S.tm rfl)) rfl ?_;clear S;intro a S
      obtain ⟨hc8, h⟩ := chkE h
      obtain ⟨u2, hu2, hr8⟩ := rn_subl (a := a) (x := .tmp 54) (y := .tmp 55) (ty := 35) sl_35 S (i := 0) rfl (S.tm rfl) (S.tm rfl) hc8
      refine lv S (hr8 _) rfl ?_;clear S;intro a S
      clear hr8
      refine l_clear (zl := x3) (zh := (x2.length : Int)) (z := k_empty) sl_35 rfl enc_str S (i := 0) rfl hu2 (S.tm rfl) Tryz.zeroValue9 rfl ?_;clear S;intro w11 hk5 S
      refine Ld (Tn (Fs (Fg (lv S (Rm (S.tm rfl)) rfl ?_))));clear S;intro a S
      refine lv S (Rm (S.tm rfl)) rfl ?_;clear S;intro a S
      obtain ⟨hc9, h⟩ := chkE h
      obtain ⟨u3, hu3, hr9⟩ := rn_subh (a := a) (x := .tmp 57) (y' := .tmp 58) (ty := 35) sl_35 S (i := 0) rfl (S.tm rfl) (S.tm rfl) hc9
      refine lv S (hr9 _) rfl ?_;clear S;intro a S
      clear hr9
      refine lv S (Ra (S.tm rfl)) rfl ?_;clear S;intro a S
      refine Ld (Tn (wp_ret (blk_r (then_r (then_r (blk_r ?_))))))
      refine then_r (then_r ?_)
      obtain ⟨S, hz1⟩ := S.ownCut (zh := x3) enc_str (i := 0) rfl hu3
      obtain rfl := Option.some.inj h
      exact f_ret S Tryz.results76 rfl ⟨(S.holds _ (List.mem_of_getElem? (i := 0) rfl)), (SubV.block hu3)⟩
     ·replace h := iteF h hb3
      refine wp_skip (blk_n (Tn (Fg (lv S (Rm (S.tm rfl)) rfl ?_))));clear S;intro a S
      refine lv S (rn_add (S.tm rfl) rfl) rfl ?_;clear S;intro a S
      refine lv S (Ra (S.tm rfl)) rfl ?_;clear S;intro a S
      refine Ld (Tn ?_)
      exact ⟨m1, ⟨W (x1 + 1), h, S.nf [true] rfl ⟨rfl, rfl, trivial⟩⟩, Nat.lt_succ_self _⟩
    ·replace h := iteF h hb2
     refine wp_exit (then_x (then_x (x_same (Tn ?_))))
     exact ⟨h, S.nf [true] rfl ⟨rfl, trivial⟩⟩
  clear S h; rintro a w2 ⟨h, S⟩; rw [hj1] at h; clear hj1 j1
  refine Tn (Fs (Fg (lv S (Rm (S.tm rfl)) rfl ?_)));clear S;intro a S
  refine lv S (Ra (S.tm rfl)) rfl ?_;clear S;intro a S
  refine Ld (Tn (wp_ret ?_))
  obtain rfl := Option.some.inj h
  exact f_ret S Tryz.results76 rfl ⟨(S.holds _ (List.mem_of_getElem? (i := 0) rfl)), rfl⟩
theorem tumbref2_counted_ok (w : World) (Al : GScored) (r : Bool) (h : tumbref2_counted Al = r) :
    Calls Tryz.prog 77 [.agg (GScored.enc Al).toArray].toArray w (Ret w [] fun _ v _ => v = bV r) := by
 refine f_enter [] [] Tryz.func77 rfl Tryz.ntmps77 rfl (by simp) (by simp [fps]) (by simp [fps]) fun a S => ?_
 unfold tumbref2_counted at h
 replace S := S.nk [] [(0, .agg (GScored.enc Al).toArray)] [] rfl ⟨rfl, trivial⟩
 refine Fs (Fg (l_box S (S.tm rfl) (cs := (GScored.enc Al)) rfl rfl ?_));clear S;intro a w1 b1 hz1 hk1 S
 refine lv S (Ra rfl) rfl ?_;clear S;intro a S
 refine Ld (Tn (Fs (Fg (lv S (rn_fld fa_52_3 (S.tm rfl)) rfl ?_))));clear S;intro a S
 refine lv S (rn_load Tryz.isAgg3 (S.tm rfl) (S.cell (i := 0) rfl rfl)) rfl ?_;clear S;intro a S
 refine lv S (rn_gtr (S.tm rfl) rfl) rfl ?_;clear S;intro a S
 refine lv S (Rm (S.tm rfl)) rfl ?_;clear S;intro a S
 refine f_cutm 4 (fun a w' => Keep [] w1 w' ∧ Sx w [] nov [.blk b1 (GScored.enc Al) 52] [(10, bV ((decide (0 < Al.Rank)) && (!decide (Al.Club = k_empty))))] 11 a w') ?_ ?_
 ·rcases Bool.eq_false_or_eq_true (decide (0 < Al.Rank)) with hb1 | hb1
  ·refine l_want S rfl rfl rfl hb1 (lv S (rn_fld fa_52_2 (S.tm rfl)) rfl ?_);clear S;intro a S
   refine l_want S rfl rfl rfl hb1 (lv S (rn_load Tryz.isAgg9 (S.tm rfl) (S.cell (i := 0) rfl rfl)) rfl ?_);clear S;intro a S
   refine l_want S rfl rfl rfl hb1 (lv S (rn_sneq (S.tm rfl) rfl) rfl ?_);clear S;intro a S
   refine lv S (rn_and_t hb1 (S.tm rfl) (S.tm rfl)) rfl ?_;clear S;intro a S
   refine Ld (Tn ?_)
   exact ⟨Keep.refl _ _, S.nf [true] rfl ⟨rfl, trivial⟩⟩
  ·iterate 3 (refine l_skip S rfl rfl rfl (neq_f hb1) rfl ?_ rfl;clear S;intro a S)
   refine lv S (rn_and_f (!decide (Al.Club = k_empty)) hb1 (S.tm rfl) rfl) rfl ?_;clear S;intro a S
   refine Ld (Tn ?_)
   exact ⟨Keep.refl _ _, S.nf [true] rfl ⟨rfl, trivial⟩⟩
 clear S; rintro a w2 ⟨hk2, S⟩
 refine lv S (Ra (S.tm rfl)) rfl ?_;clear S;intro a S
 refine Ld (Tn (wp_ret ?_))
 subst h
 exact f_ret S Tryz.results77 rfl rfl
theorem tumbref2_ClubSums_c1_c1_ok (w : World) (Al : GScored) (Bh : Nat) (Bo : ByteArray) (Bn : (view w []) Bh = some (.cells [sV Bo].toArray 9 (0, 0))) (r : Bool) (h : tumbref2_ClubSums_c1_c1 Al Bo = r) :
    Calls Tryz.prog 59 [.agg (GScored.enc Al).toArray, .pointer (some ⟨Bh, 0, none⟩)].toArray w (Ret w [] fun _ v _ => v = bV r) := by
 refine f_enter [] [] Tryz.func59 rfl Tryz.ntmps59 rfl (by simp) (by simp [fps]) (by simp [fps]) fun a S => ?_
 unfold tumbref2_ClubSums_c1_c1 at h
 replace S := S.nk [] [(0, .agg (GScored.enc Al).toArray), (1, .pointer (some ⟨Bh, 0, none⟩))] [] rfl (subR rfl)
 refine Fs (Fg (l_box S (S.tm rfl) (cs := (GScored.enc Al)) rfl rfl ?_));clear S;intro a w1 b1 hz1 hk1 S
 refine lv S (Ra rfl) rfl ?_;clear S;intro a S
 refine Ld (Tn (Fs (Fg (lv S (rn_fld fa_52_2 (S.tm rfl)) rfl ?_))));clear S;intro a S
 refine lv S (rn_load Tryz.isAgg9 (S.tm rfl) (S.cell (i := 0) rfl rfl)) rfl ?_;clear S;intro a S
 refine lv S (rn_ld Tryz.isAgg9 (off := 0) (o := 0) (S.tm rfl) ((mem_blk Bn).at S.emb0) rfl) rfl ?_;clear S;intro a S
 refine lv S (rn_seql (S.tm rfl) (S.tm rfl)) rfl ?_;clear S;intro a S
 refine lv S (Ra (S.tm rfl)) rfl ?_;clear S;intro a S
 refine Ld (Tn (wp_ret ?_))
 subst h
 exact f_ret S Tryz.results59 rfl rfl
set_option maxRecDepth 20000 in
theorem slices_Index_Scored_ok (w : World) (Ai : Value) (Al : List GScored) (Az : Slc (view w []) 5 Ai (Al.map GScored.enc)) (Cb : GScored) (r : Int) (h : slices_Index_Scored Al Cb = r) :
    Calls Tryz.prog 135 [Ai, .agg (GScored.enc Cb).toArray].toArray w (Ret w [] fun _ v _ => v = iV r) := by
 refine f_enter [] [] Tryz.func135 rfl Tryz.ntmps135 rfl (by simp) (by simp [fps]) (by simp [fps]) fun a S => ?_
 unfold slices_Index_Scored at h
 replace S := S.nk [] [(0, Ai), (1, .agg (GScored.enc Cb).toArray)] [] rfl (subR rfl)
 refine Fs (Fg (l_box S (S.tm rfl) (cs := (GScored.enc Cb)) rfl rfl ?_));clear S;intro a w1 b1 hz1 hk1 S
 refine lv S (Ra rfl) rfl ?_;clear S;intro a S
 refine Ld (Tn (Fs (Fs (Fg (lv S (Rm (S.tm rfl)) rfl ?_)))));clear S;intro a S
 refine lv S (rn_lenT sl_29 (S.tm rfl) (slc_len Az)) rfl ?_;clear S;intro a S
 refine lv S (Rm rfl) rfl ?_;clear S;intro a S
 refine Ld (Tn ?_)
 replace S := S.nk [.blk b1 (GScored.enc Cb) 52] [(0, Ai), (3, .pointer (some ⟨b1, 0, none⟩)), (7, iV (Al.length : Int)), (8, iV 0)] [true] rfl (subR rfl)
 obtain ⟨j1, hj1, h⟩ := joinE h
 refine f_join (fun a w' => j1 = r ∧ Sx w [] nov [.blk b1 (GScored.enc Cb) 52] [] 19 a w') ?_ ?_
 ·refine wp_block (f_loop (fun (ys1 : List GScored) a w' => ∃ i1 : Nat, (∃ dn, Al = dn ++ ys1 ∧ dn.length = i1) ∧ slices_Index_Scored_l1 Cb j1 ys1 i1 = r ∧ Sx w [] nov [.blk b1 (GScored.enc Cb) 52] [(0, Ai), (3, .pointer (some ⟨b1, 0, none⟩)), (7, iV (Al.length : Int)), (8, iV (i1 : Int))] 19 a w') List.length Al ⟨0, ⟨[], rfl, rfl⟩, h, S.nf [true] rfl (subR rfl)⟩ ?_)
  clear S h; rintro ys1 a w2 ⟨i1, ⟨dn, hd1, hi1⟩, h, S⟩
  cases ys1 with
  | nil =>
   rw [slices_Index_Scored_l1.eq_1] at h
   refine Fs (Fg (lv S (rn_lss (S.tm rfl) (S.tm rfl)) rfl ?_));clear S;intro a S
   refine Ld ?_
   replace S := S.nk [.blk b1 (GScored.enc Cb) 52] [(0, Ai), (3, .pointer (some ⟨b1, 0, none⟩)), (7, iV (Al.length : Int)), (8, iV (i1 : Int)), (9, bV (decide ((i1 : Int) < (Al.length : Int))))] [true] rfl (subR rfl)
   refine Tn (Fs (wp_cond_false ((S.tm rfl).trans (congrArg Value.bool (rng_nil hd1 hi1))) (wp_exit (then_x (then_x (x_same ?_))))))
   refine Tn ?_
   exact ⟨h, S.nf [true] rfl trivial⟩
  | cons y1 ys1 =>
   rw [slices_Index_Scored_l1.eq_2] at h
   refine Fs (Fg (lv S (rn_lss (S.tm rfl) (S.tm rfl)) rfl ?_));clear S;intro a S
   refine Ld ?_
   replace S := S.nk [.blk b1 (GScored.enc Cb) 52] [(0, Ai), (3, .pointer (some ⟨b1, 0, none⟩)), (7, iV (Al.length : Int)), (8, iV (i1 : Int)), (9, bV (decide ((i1 : Int) < (Al.length : Int))))] [true] rfl (subR rfl)
   refine Tn (Fs (wp_cond_true ((S.tm rfl).trans (congrArg Value.bool (rng_cons hd1 hi1))) (wp_skip (Tn (Fs (wp_block ?_))))))
   refine Fs (Fg (lv S (Rm (S.tm rfl)) rfl ?_));clear S;intro a S
   refine lv S (Ra (S.tm rfl)) rfl ?_;clear S;intro a S
   refine Ld (Tn (Fs (d_region [] ([]) Tryz.mixed S rfl (by kernel_rfl) ?_)));clear S;intro w4 hk2 hsel S
   refine d_rest [0, 1, 2, 3, 4, 5] hsel (by kernel_rfl) rfl ?_
   clear hsel
   refine s_lv S rfl (rn_ldA Tryz.isAgg52 Tryz.sizeOf52 (off := 0) (o := 0) (part := (GScored.enc Cb)) rfl rfl (S.tm rfl) (S.cellsAt (i := 0) rfl)) rfl ?_;clear S;intro a S
   refine s_lv S rfl (Rm (S.tm rfl)) rfl ?_;clear S;intro a S
   refine s_lv S rfl (Rm (S.tm rfl)) rfl ?_;clear S;intro a S
   obtain ⟨b2, o1, hm1, hr1⟩ := rn_indexT (a := a) (x := .tmp 12) (y := .tmp 13) (ty := 0) sl_29 Az (get_mid hd1 hi1) rfl (S.tm rfl) (S.tm rfl)
   refine s_lv S rfl (hr1 _) rfl ?_;clear S;intro a S
   clear hr1
   refine s_lv S rfl (rn_ldA Tryz.isAgg52 Tryz.sizeOf52 (off := o1) (o := 0) (part := (GScored.enc y1)) rfl rfl (S.tm rfl) (hm1.at S.emb0)) rfl ?_;clear S;intro a S
   refine s_lv S rfl (rn_eql_52 (m := Cb) (n := y1) (S.tm rfl) (S.tm rfl)) rfl ?_;clear S;intro a S
   refine s_done ?_
   replace S := S.nk [.blk b1 (GScored.enc Cb) 52] [(0, Ai), (3, .pointer (some ⟨b1, 0, none⟩)), (5, iV (i1 : Int)), (7, iV (Al.length : Int)), (8, iV (i1 : Int)), (16, bV (decide (Cb = y1)))] [true] rfl (subR rfl)
   refine Tn (f_cond (S.tm rfl) (fun hb1 => ?_) (fun hb1 => ?_))
   ·replace h := iteT h hb1
    refine Fs (Fg (lv S (Rm (S.tm rfl)) rfl ?_));clear S;intro a S
    refine lv S (Ra (S.tm rfl)) rfl ?_;clear S;intro a S
    refine Ld (Tn (wp_ret (blk_r (then_r (then_r (blk_r ?_))))))
    refine then_r (then_r ?_)
    subst h
    exact f_ret S Tryz.results135 rfl rfl
   ·replace h := iteF h hb1
    refine wp_skip (blk_n (Tn (Fg (lv S (rn_add (S.tm rfl) rfl) rfl ?_))));clear S;intro a S
    refine lv S (Rm (S.tm rfl)) rfl ?_;clear S;intro a S
    refine Ld (Tn ?_)
    exact ⟨ys1, ⟨i1 + 1, ⟨_, (hd1).trans (List.append_cons _ _ _), by simp [hi1]⟩, h, S.nf [true] rfl ⟨rfl, rfl, rfl, (congrArg (fun z => some (Value.int .i64 z)) (rng_next hd1 hi1 (slc_max Az))), trivial⟩⟩, Nat.lt_succ_self _⟩
 clear S h; rintro a w3 ⟨h, S⟩; rw [hj1] at h; clear hj1 j1
 refine Tn (Fs (Fg (lv S (Ra rfl) rfl ?_)));clear S;intro a S
 refine Ld (Tn (wp_ret ?_))
 subst h
 exact f_ret S Tryz.results135 rfl rfl
theorem slices_Contains_Scored_ok (w : World) (Ai : Value) (Al : List GScored) (Az : Slc (view w []) 5 Ai (Al.map GScored.enc)) (Cb : GScored) (r : Bool) (h : slices_Contains_Scored Al Cb = r) :
    Calls Tryz.prog 107 [Ai, .agg (GScored.enc Cb).toArray].toArray w (Ret w [] fun _ v _ => v = bV r) := by
 refine f_enter [] [] Tryz.func107 rfl Tryz.ntmps107 rfl (by simp) (by simp [fps]) (by simp [fps]) fun a S => ?_
 unfold slices_Contains_Scored at h
 replace S := S.nk [] [(0, Ai), (1, .agg (GScored.enc Cb).toArray)] [] rfl (subR rfl)
 refine Fs (Fg (l_box S (S.tm rfl) (cs := (GScored.enc Cb)) rfl rfl ?_));clear S;intro a w1 b1 hz1 hk1 S
 refine lv S (Ra rfl) rfl ?_;clear S;intro a S
 refine Ld (Tn (Fs (Fg (lv S (Rm (S.tm rfl)) rfl ?_))));clear S;intro a S
 refine lv S (rn_ldA Tryz.isAgg52 Tryz.sizeOf52 (off := 0) (o := 0) (part := (GScored.enc Cb)) rfl rfl (S.tm rfl) (S.cellsAt (i := 0) rfl)) rfl ?_;clear S;intro a S
 refine l_enter S (fun _ => run_call (vs := [Ai, .agg (GScored.enc Cb).toArray]) ⟨(S.tm rfl), (S.tm rfl), trivial⟩ Tryz.call135) (slices_Index_Scored_ok _ Ai Al (Az.mono (S.le_arg nil_sub)) Cb _ rfl) rfl ?_;clear S;intro v1 a w2 hv1 hk2 hn1 S
 subst hv1
 refine lv S (rn_geq (S.tm rfl) rfl) rfl ?_;clear S;intro a S
 refine lv S (Ra (S.tm rfl)) rfl ?_;clear S;intro a S
 refine Ld (Tn (wp_ret ?_))
 subst h
 exact f_ret S Tryz.results107 rfl rfl
set_option maxRecDepth 20000 in
theorem tumbref2_Lowest_ok (w : World) (Bu : Int) (Bv : Int) (r : GFraction) (h : tumbref2_Lowest Bu Bv = some r) :
    Calls Tryz.prog 60 [iV Bu, iV Bv].toArray w (Ret w [] fun _ v _ => v = .agg (GFraction.enc r).toArray) := by
 refine f_enter [] [] Tryz.func60 rfl Tryz.ntmps60 rfl (by simp) (by simp [fps]) (by simp [fps]) fun a S => ?_
 unfold tumbref2_Lowest at h
 replace S := S.nk [] [(0, iV Bu), (1, iV Bv)] [] rfl (subR rfl)
 refine Fs (Fg (l_alloc S Tryz.zeroValue57 (cs := [iV 0, iV 0]) rfl rfl ?_));clear S;intro a w1 b1 hz1 hk1 S
 refine Ld (Tn (Fs (Fg (lv S (Rm (S.tm rfl)) rfl ?_))));clear S;intro a S
 refine lv S (Rm (S.tm rfl)) rfl ?_;clear S;intro a S
 refine lv S (Ra (S.tm rfl)) rfl ?_;clear S;intro a S
 refine lv S (Ra (S.tm rfl)) rfl ?_;clear S;intro a S
 refine Ld (Tn (Fs ?_))
 replace S := S.nk [.blk b1 [iV 0, iV 0] 57] [(0, iV Bu), (1, iV Bv), (4, .pointer (some ⟨b1, 0, none⟩)), (5, iV Bu), (6, iV Bv)] [true] rfl (subR rfl)
 obtain ⟨j1, hj1, h⟩ := joinE h
 refine f_join (fun a w' => ∃ x1 : Int, j1 x1 = some r ∧ Sx w [] nov [.blk b1 [iV 0, iV 0] 57] [(0, iV Bu), (1, iV Bv), (4, .pointer (some ⟨b1, 0, none⟩)), (5, iV x1)] 26 a w') ?_ ?_
 ·refine wp_block (f_loop (fun (m1 : Nat) a w' => ∃ x1 : Int, ∃ x2 : Int, tumbref2_Lowest_l1 j1 m1 x1 x2 = some r ∧ Sx w [] nov [.blk b1 [iV 0, iV 0] 57] [(0, iV Bu), (1, iV Bv), (4, .pointer (some ⟨b1, 0, none⟩)), (5, iV x1), (6, iV x2)] 26 a w') id 4611686018427387904 ⟨Bu, Bv, h, S.nf [true] rfl (subR rfl)⟩ ?_)
  clear S h; rintro m1 a w2 ⟨x1, x2, h, S⟩
  cases m1 with
  | zero => rw [tumbref2_Lowest_l1.eq_1] at h; cases h
  | succ m1 =>
   rw [tumbref2_Lowest_l1.eq_2] at h
   refine Fs (Fs (Fg (lv S (Rm (S.tm rfl)) rfl ?_)));clear S;intro a S
   refine lv S (rn_neq (S.tm rfl) rfl) rfl ?_;clear S;intro a S
   refine Ld (Tn (f_cond (S.tm rfl) (fun hb1 => ?_) (fun hb1 => ?_)))
   ·replace h := iteT h hb1
    refine wp_skip (Tn (wp_block (d_region [] ([]) Tryz.mixed S rfl (by kernel_rfl) ?_)));clear S;intro w4 hk2 hsel S
    refine d_rest [0, 1, 2, 3, 4, 5] hsel (by kernel_rfl) rfl ?_
    clear hsel
    iterate 3 (refine s_lv S rfl (Rm (S.tm rfl)) rfl ?_;clear S;intro a S)
    obtain ⟨hc1, h⟩ := chkE h
    refine s_lv S rfl (rn_rem (S.tm rfl) (S.tm rfl) (ne0_of hc1)) rfl ?_;clear S;intro a S
    refine s_lv S rfl (Ra (S.tm rfl)) rfl ?_;clear S;intro a S
    refine s_lv S rfl (Ra (S.tm rfl)) rfl ?_;clear S;intro a S
    refine s_done ?_
    replace S := S.nk [.blk b1 [iV 0, iV 0] 57] [(0, iV Bu), (1, iV Bv), (4, .pointer (some ⟨b1, 0, none⟩)), (5, iV x2), (6, iV (Int.tmod x1 x2))] [true] rfl (subR rfl)
    refine blk_n (Tn ?_)
    exact ⟨m1, ⟨x2, Int.tmod x1 x2, h, S.nf [true] rfl ⟨rfl, rfl, rfl, rfl, rfl, trivial⟩⟩, Nat.lt_succ_self _⟩
   ·replace h := iteF h hb1
    refine wp_exit (then_x (then_x (x_same (Tn ?_))))
    exact ⟨x1, h, S.nf [true] rfl (subR rfl)⟩
 clear S h; rintro a w3 ⟨x1, h, S⟩; rw [hj1] at h; clear hj1 j1
 refine Tn (Fs (Fs (Fg (lv S (Rm (S.tm rfl)) rfl ?_))));clear S;intro a S
 refine lv S (rn_lss (S.tm rfl) rfl) rfl ?_;clear S;intro a S
 refine Ld (Tn ?_)
 obtain ⟨j2, hj2, h⟩ := joinE h
 refine f_join (fun a w' => ∃ x3 : Int, j2 x3 = some r ∧ Sx w [] nov [.blk b1 [iV 0, iV 0] 57] [(0, iV Bu), (1, iV Bv), (4, .pointer (some ⟨b1, 0, none⟩)), (5, iV x3)] 26 a w') ?_ ?_
 ·refine f_cond (S.tm rfl) (fun hb2 => ?_) (fun hb2 => ?_)
  ·replace h := iteT h hb2
   refine Fg (lv S (Rm (S.tm rfl)) rfl ?_);clear S;intro a S
   refine lv S (rn_neg (S.tm rfl)) rfl ?_;clear S;intro a S
   refine lv S (Ra (S.tm rfl)) rfl ?_;clear S;intro a S
   refine Ld (Tn ?_)
   exact ⟨W (0 - x1), h, S.nf [true] rfl (subR rfl)⟩
  ·replace h := iteF h hb2
   refine wp_skip (Tn ?_)
   exact ⟨x1, h, S.nf [true] rfl (subR rfl)⟩
 clear S h; rintro a w5 ⟨x3, h, S⟩; rw [hj2] at h; clear hj2 j2
 refine Tn (Fs ?_)
 obtain ⟨hc2, h⟩ := chkE h
 obtain ⟨hc3, h⟩ := chkE h
 refine d_region [] ([b1]) Tryz.mixed S rfl (by kernel_rfl) ?_;clear S;intro w7 hk4 hsel S
 refine d_quiet 0 S hsel rfl rfl rfl (by kernel_rfl) (by kernel_rfl) rfl (fun _ hw => (Rm (S.tm rfl))) ?_;clear S;intro a S
 refine d_quiet 1 S hsel rfl rfl rfl (by kernel_rfl) (by kernel_rfl) rfl (fun _ hw => (Rm (S.tm rfl))) ?_;clear S;intro a S
 refine d_quiet 2 S hsel rfl rfl rfl (by kernel_rfl) (by kernel_rfl) rfl (fun _ hw => (rn_quo (S.tm rfl) (S.tm rfl) (ne0_of hc2))) ?_;clear S;intro a S
 refine d_quiet 3 S hsel rfl rfl rfl (by kernel_rfl) (by kernel_rfl) rfl (fun _ hw => (Rm (S.tm rfl))) ?_;clear S;intro a S
 refine d_quiet 4 S hsel rfl rfl rfl (by kernel_rfl) (by kernel_rfl) rfl (fun _ hw => (Rm (S.tm rfl))) ?_;clear S;intro a S
 refine d_quiet 5 S hsel rfl rfl rfl (by kernel_rfl) (by kernel_rfl) rfl (fun _ hw => (rn_quo (S.tm rfl) (S.tm rfl) (ne0_of hc3))) ?_;clear S;intro a S
 refine d_quiet 6 S hsel rfl rfl rfl (by kernel_rfl) (by kernel_rfl) rfl (fun _ hw => (rn_bld bt_57 (pv := [(0, iV (W (Int.tdiv Bu x3))), (1, iV (W (Int.tdiv Bv x3)))]) ⟨rfl, (S.tm rfl), rfl, (S.tm rfl), trivial⟩ (cs := [iV (W (Int.tdiv Bu x3)), iV (W (Int.tdiv Bv x3))]) (by kernel_rfl))) ?_;clear S;intro a S
 refine d_loud1 7 (by kernel_rfl) rfl (l_store S (S.tm rfl) (S.tm rfl) (i := 0) (off := 0) rfl Tryz.sizeOf57 (vs := [iV (W (Int.tdiv Bu x3)), iV (W (Int.tdiv Bv x3))]) rfl rfl rfl rfl ?_);clear S;intro w8 hk5 S
 refine Ld (d_next hk5 (d_end (by kernel_rfl) ?_))
 clear hsel
 replace S := S.nk [.blk b1 [iV (W (Int.tdiv Bu x3)), iV (W (Int.tdiv Bv x3))] 57] [(4, .pointer (some ⟨b1, 0, none⟩))] [true] rfl ⟨rfl, trivial⟩
 refine Tn (wp_ret ?_)
 obtain rfl := Option.some.inj h
 exact f_retG S (rs := [.cell 4 57]) (vs := [.agg #[iV (W (Int.tdiv Bu x3)), iV (W (Int.tdiv Bv x3))]]) Tryz.results60 ⟨(res_cell (off := 0) S rfl Tryz.isAgg57 Tryz.sizeOf57 rfl (S.cellsAt (i := 0) rfl)), trivial⟩ rfl rfl
theorem tumbref2_shareOf_ok (w : World) (Aa : GTable) (Av : R27) (Ba : rel_27 (view w []) Aa Av) (U : Value) (Ae : List GScored) (Ag : Slc (view w []) 5 U (Ae.map GScored.enc)) (Am : GScored) (r : GFraction) (h : tumbref2_shareOf Aa Ae Am = some r) :
    Calls Tryz.prog 78 [.agg (R27.enc Av).toArray, U, .agg (GScored.enc Am).toArray].toArray w (Ret w [] fun _ v _ => v = .agg (GFraction.enc r).toArray) := by
 obtain ⟨u1, rfl, hs1⟩ := Ba
 refine f_enter [] [] Tryz.func78 rfl Tryz.ntmps78 rfl (by simp) (by simp [fps]) (by simp [fps]) fun a S => ?_
 unfold tumbref2_shareOf at h
 replace S := S.nk [] [(0, .agg #[u1.val, iV Aa.Relay, iV Aa.Most]), (1, U), (2, .agg (GScored.enc Am).toArray)] [] rfl (subR rfl)
 refine Fs (Fg (l_box S (S.tm rfl) (cs := [u1.val, iV Aa.Relay, iV Aa.Most]) rfl rfl ?_));clear S;intro a w1 b1 hz1 hk1 S
 refine l_box S (S.tm rfl) (cs := (GScored.enc Am)) rfl rfl ?_;clear S;intro a w2 b2 hz2 hk2 S
 refine l_alloc S Tryz.zeroValue57 (cs := [iV 0, iV 0]) rfl rfl ?_;clear S;intro a w3 b3 hz3 hk3 S
 refine Ld (Tn (Fs (Fg (lv S (Ra rfl) rfl ?_))));clear S;intro a S
 replace S := S.nil 52 5
 refine Ld (Tn (Fs (Fg (l_makeMap (κ := ByteArray) (ν := Int) S rfl Value.string (Value.int .i64) ?_))));clear S;intro a w4 b4 hz4 hk4 S
 refine lv S (Ra (S.tm rfl)) rfl ?_;clear S;intro a S
 refine Ld (Tn (Fs (Fs (Fg (lv S (Rm (S.tm rfl)) rfl ?_)))));clear S;intro a S
 refine lv S (rn_lenT sl_29 (S.tm rfl) (slc_len Ag)) rfl ?_;clear S;intro a S
 refine lv S (Rm rfl) rfl ?_;clear S;intro a S
 refine Ld (Tn ?_)
 replace S := S.nk [.map b4 (ments Value.string (Value.int .i64) ([] : List (ByteArray × Int))) ([] : List (ByteArray × Int)).length, .own (.slice none 0 0) 52 5 ([] : List GScored).length (([] : List GScored).flatMap GScored.enc), .blk b3 [iV 0, iV 0] 57, .blk b2 (GScored.enc Am) 52, .blk b1 [u1.val, iV Aa.Relay, iV Aa.Most] 27] [(3, .pointer (some ⟨b1, 0, none⟩)), (5, .pointer (some ⟨b2, 0, none⟩)), (6, .pointer (some ⟨b3, 0, none⟩)), (7, (.slice none 0 0)), (8, .map (some b4)), (16, U), (17, iV (Ae.length : Int)), (18, iV 0)] [true, true, true, true, true] rfl (subR rfl)
 obtain ⟨j1, hj1, h⟩ := joinE h
 refine f_join (fun a w' => ∃ x1 : List (ByteArray × Int), ∃ x2 : List GScored, ∃ v1 : Value, j1 x1 x2 = some r ∧ Sx w [] nov [.map b4 (ments Value.string (Value.int .i64) x1) x1.length, .own v1 52 5 x2.length (x2.flatMap GScored.enc), .blk b3 [iV 0, iV 0] 57, .blk b2 (GScored.enc Am) 52, .blk b1 [u1.val, iV Aa.Relay, iV Aa.Most] 27] [(3, .pointer (some ⟨b1, 0, none⟩)), (5, .pointer (some ⟨b2, 0, none⟩)), (6, .pointer (some ⟨b3, 0, none⟩)), (7, v1)] 100 a w') ?_ ?_
 ·refine wp_block (f_loop (fun (ys1 : List GScored) a w' => ∃ i1 : Nat, ∃ x1 : List (ByteArray × Int), ∃ x2 : List GScored, ∃ v1 : Value, (∃ dn, Ae = dn ++ ys1 ∧ dn.length = i1) ∧ tumbref2_shareOf_l1 Am Aa j1 ys1 i1 x1 x2 = some r ∧ Sx w [] nov [.map b4 (ments Value.string (Value.int .i64) x1) x1.length, .own v1 52 5 x2.length (x2.flatMap GScored.enc), .blk b3 [iV 0, iV 0] 57, .blk b2 (GScored.enc Am) 52, .blk b1 [u1.val, iV Aa.Relay, iV Aa.Most] 27] [(3, .pointer (some ⟨b1, 0, none⟩)), (5, .pointer (some ⟨b2, 0, none⟩)), (6, .pointer (some ⟨b3, 0, none⟩)), (7, v1), (8, .map (some b4)), (16, U), (17, iV (Ae.length : Int)), (18, iV (i1 : Int))] 100 a w') List.length Ae ⟨0, ([] : List (ByteArray × Int)), ([] : List GScored), (.slice none 0 0), ⟨[], rfl, rfl⟩, h, S.nf [true, true, true, true, true] rfl (subR rfl)⟩ ?_)
  clear S h; rintro ys1 a w5 ⟨i1, x1, x2, v1, ⟨dn, hd1, hi1⟩, h, S⟩
  cases ys1 with
  | nil =>
   rw [tumbref2_shareOf_l1.eq_1] at h
   refine Fs (Fg (lv S (rn_lss (S.tm rfl) (S.tm rfl)) rfl ?_));clear S;intro a S
   refine Ld ?_
   replace S := S.nk [.map b4 (ments Value.string (Value.int .i64) x1) x1.length, .own v1 52 5 x2.length (x2.flatMap GScored.enc), .blk b3 [iV 0, iV 0] 57, .blk b2 (GScored.enc Am) 52, .blk b1 [u1.val, iV Aa.Relay, iV Aa.Most] 27] [(3, .pointer (some ⟨b1, 0, none⟩)), (5, .pointer (some ⟨b2, 0, none⟩)), (6, .pointer (some ⟨b3, 0, none⟩)), (7, v1), (8, .map (some b4)), (16, U), (17, iV (Ae.length : Int)), (18, iV (i1 : Int)), (19, bV (decide ((i1 : Int) < (Ae.length : Int))))] [true, true, true, true, true] rfl (subR rfl)
   refine Tn (Fs (wp_cond_false ((S.tm rfl).trans (congrArg Value.bool (rng_nil hd1 hi1))) (wp_exit (then_x (then_x (x_same ?_))))))
   refine Tn ?_
   exact ⟨x1, x2, v1, h, S.nf [true, true, true, true, true] rfl (subR rfl)⟩
  | cons y1 ys1 =>
   rw [tumbref2_shareOf_l1.eq_2] at h
   refine Fs (Fg (lv S (rn_lss (S.tm rfl) (S.tm rfl)) rfl ?_));clear S;intro a S
   refine Ld ?_
   replace S := S.nk [.map b4 (ments Value.string (Value.int .i64) x1) x1.length, .own v1 52 5 x2.length (x2.flatMap GScored.enc), .blk b3 [iV 0, iV 0] 57, .blk b2 (GScored.enc Am) 52, .blk b1 [u1.val, iV Aa.Relay, iV Aa.Most] 27] [(3, .pointer (some ⟨b1, 0, none⟩)), (5, .pointer (some ⟨b2, 0, none⟩)), (6, .pointer (some ⟨b3, 0, none⟩)), (7, v1), (8, .map (some b4)), (16, U), (17, iV (Ae.length : Int)), (18, iV (i1 : Int)), (19, bV (decide ((i1 : Int) < (Ae.length : Int))))] [true, true, true, true, true] rfl (subR rfl)
   refine Tn (Fs (wp_cond_true ((S.tm rfl).trans (congrArg Value.bool (rng_cons hd1 hi1))) (wp_skip (Tn (Fs ?_)))))
   obtain ⟨j2, hj2, h⟩ := joinE h
   refine f_join (fun a w' => ∃ x3 : List (ByteArray × Int), ∃ x4 : List GScored, ∃ v2 : Value, j2 x3 x4 = some r ∧ Sx w [] nov [.map b4 (ments Value.string (Value.int .i64) x3) x3.length, .own v2 52 5 x4.length (x4.flatMap GScored.enc), .blk b3 [iV 0, iV 0] 57, .blk b2 (GScored.enc Am) 52, .blk b1 [u1.val, iV Aa.Relay, iV Aa.Most] 27] [(3, .pointer (some ⟨b1, 0, none⟩)), (5, .pointer (some ⟨b2, 0, none⟩)), (6, .pointer (some ⟨b3, 0, none⟩)), (7, v2), (8, .map (some b4)), (16, U), (17, iV (Ae.length : Int)), (18, iV (i1 : Int))] 100 a w') ?_ ?_
   ·refine wp_block (Fs (Fg ?_))
    obtain ⟨b5, o1, hm1, hr1⟩ := rn_indexT (a := a) (x := .tmp 16) (y := .tmp 18) (ty := 0) sl_29 Ag (get_mid hd1 hi1) rfl (S.tm rfl) (S.tm rfl)
    refine lv S (hr1 _) rfl ?_;clear S;intro a S
    clear hr1
    refine lv S (rn_ldA Tryz.isAgg52 Tryz.sizeOf52 (off := o1) (o := 0) (part := (GScored.enc y1)) rfl rfl (S.tm rfl) (hm1.at S.emb0)) rfl ?_;clear S;intro a S
    refine l_alloc S Tryz.zeroValue52 (cs := [sV k_empty, sV k_empty, sV k_empty, iV 0, bV false]) rfl rfl ?_;clear S;intro a w8 b6 hz5 hk5 S
    refine l_store S (S.tm rfl) (S.tm rfl) (i := 0) (off := 0) rfl Tryz.sizeOf52 (vs := (GScored.enc y1)) rfl rfl rfl rfl ?_;clear S;intro w9 hk6 S
    refine Ld ?_
    replace S := S.nk [.blk b6 (GScored.enc y1) 52, .map b4 (ments Value.string (Value.int .i64) x1) x1.length, .own v1 52 5 x2.length (x2.flatMap GScored.enc), .blk b3 [iV 0, iV 0] 57, .blk b2 (GScored.enc Am) 52, .blk b1 [u1.val, iV Aa.Relay, iV Aa.Most] 27] [(3, .pointer (some ⟨b1, 0, none⟩)), (5, .pointer (some ⟨b2, 0, none⟩)), (6, .pointer (some ⟨b3, 0, none⟩)), (7, v1), (8, .map (some b4)), (10, .pointer (some ⟨b6, 0, none⟩)), (16, U), (17, iV (Ae.length : Int)), (18, iV (i1 : Int))] [true, true, true, true, true, true] rfl (subR rfl)
    refine Tn (Fs (Fs (Fg (lv S (rn_fld fa_52_0 (S.tm rfl)) rfl ?_))));clear S;intro a S
    refine lv S (rn_load Tryz.isAgg9 (S.tm rfl) (S.cell (i := 0) rfl rfl)) rfl ?_;clear S;intro a S
    refine lv S (rn_fld fa_52_0 (S.tm rfl)) rfl ?_;clear S;intro a S
    refine lv S (rn_load Tryz.isAgg9 (S.tm rfl) (S.cell (i := 4) rfl rfl)) rfl ?_;clear S;intro a S
    refine lv S (rn_sneq (S.tm rfl) (S.tm rfl)) rfl ?_;clear S;intro a S
    refine lv S (Rm (S.tm rfl)) rfl ?_;clear S;intro a S
    refine f_cutm 4 (fun a w' => Keep [] w9 w' ∧ Sx w [] nov [.blk b6 (GScored.enc y1) 52, .map b4 (ments Value.string (Value.int .i64) x1) x1.length, .own v1 52 5 x2.length (x2.flatMap GScored.enc), .blk b3 [iV 0, iV 0] 57, .blk b2 (GScored.enc Am) 52, .blk b1 [u1.val, iV Aa.Relay, iV Aa.Most] 27] [(3, .pointer (some ⟨b1, 0, none⟩)), (5, .pointer (some ⟨b2, 0, none⟩)), (6, .pointer (some ⟨b3, 0, none⟩)), (7, v1), (8, .map (some b4)), (10, .pointer (some ⟨b6, 0, none⟩)), (16, U), (17, iV (Ae.length : Int)), (18, iV (i1 : Int)), (31, bV ((!decide (y1.Race = Am.Race)) || (decide (y1.Rank = 0))))] 100 a w') ?_ ?_
    ·rcases Bool.eq_false_or_eq_true (!decide (y1.Race = Am.Race)) with hb1 | hb1
     ·iterate 3 (refine l_skip S rfl rfl rfl (neq_t hb1) rfl ?_ rfl;clear S;intro a S)
      refine lv S (rn_or_t (decide (y1.Rank = 0)) hb1 (S.tm rfl) rfl) rfl ?_;clear S;intro a S
      refine Ld (Tn ?_)
      exact ⟨Keep.refl _ _, S.nf [true, true, true, true, true, true] rfl (subR rfl)⟩
     ·refine l_want S rfl rfl rfl hb1 (lv S (rn_fld fa_52_3 (S.tm rfl)) rfl ?_);clear S;intro a S
      refine l_want S rfl rfl rfl hb1 (lv S (rn_load Tryz.isAgg3 (S.tm rfl) (S.cell (i := 0) rfl rfl)) rfl ?_);clear S;intro a S
      refine l_want S rfl rfl rfl hb1 (lv S (rn_eql (S.tm rfl) rfl) rfl ?_);clear S;intro a S
      refine lv S (rn_or_f hb1 (S.tm rfl) (S.tm rfl)) rfl ?_;clear S;intro a S
      refine Ld (Tn ?_)
      exact ⟨Keep.refl _ _, S.nf [true, true, true, true, true, true] rfl (subR rfl)⟩
    clear S; rintro a w10 ⟨hk7, S⟩
    refine lv S (Rm (S.tm rfl)) rfl ?_;clear S;intro a S
    refine f_cutm 4 (fun a w' => Keep [] w10 w' ∧ Sx w [] nov [.blk b6 (GScored.enc y1) 52, .map b4 (ments Value.string (Value.int .i64) x1) x1.length, .own v1 52 5 x2.length (x2.flatMap GScored.enc), .blk b3 [iV 0, iV 0] 57, .blk b2 (GScored.enc Am) 52, .blk b1 [u1.val, iV Aa.Relay, iV Aa.Most] 27] [(3, .pointer (some ⟨b1, 0, none⟩)), (5, .pointer (some ⟨b2, 0, none⟩)), (6, .pointer (some ⟨b3, 0, none⟩)), (7, v1), (8, .map (some b4)), (10, .pointer (some ⟨b6, 0, none⟩)), (16, U), (17, iV (Ae.length : Int)), (18, iV (i1 : Int)), (36, bV (((!decide (y1.Race = Am.Race)) || (decide (y1.Rank = 0))) || (decide (y1.Club = k_empty))))] 100 a w') ?_ ?_
    ·rcases Bool.eq_false_or_eq_true ((!decide (y1.Race = Am.Race)) || (decide (y1.Rank = 0))) with hb2 | hb2
     ·iterate 3 (refine l_skip S rfl rfl rfl (neq_t hb2) rfl ?_ rfl;clear S;intro a S)
      refine lv S (rn_or_t (decide (y1.Club = k_empty)) hb2 (S.tm rfl) rfl) rfl ?_;clear S;intro a S
      refine Ld (Tn ?_)
      exact ⟨Keep.refl _ _, S.nf [true, true, true, true, true, true] rfl (subR rfl)⟩
     ·refine l_want S rfl rfl rfl hb2 (lv S (rn_fld fa_52_2 (S.tm rfl)) rfl ?_);clear S;intro a S
      refine l_want S rfl rfl rfl hb2 (lv S (rn_load Tryz.isAgg9 (S.tm rfl) (S.cell (i := 0) rfl rfl)) rfl ?_);clear S;intro a S
      refine l_want S rfl rfl rfl hb2 (lv S (rn_seql (S.tm rfl) rfl) rfl ?_);clear S;intro a S
      refine lv S (rn_or_f hb2 (S.tm rfl) (S.tm rfl)) rfl ?_;clear S;intro a S
      refine Ld (Tn ?_)
      exact ⟨Keep.refl _ _, S.nf [true, true, true, true, true, true] rfl (subR rfl)⟩
    clear S; rintro a w11 ⟨hk8, S⟩
    refine Ld ?_
    replace S := S.nk [.blk b6 (GScored.enc y1) 52, .map b4 (ments Value.string (Value.int .i64) x1) x1.length, .own v1 52 5 x2.length (x2.flatMap GScored.enc), .blk b3 [iV 0, iV 0] 57, .blk b2 (GScored.enc Am) 52, .blk b1 [u1.val, iV Aa.Relay, iV Aa.Most] 27] [(3, .pointer (some ⟨b1, 0, none⟩)), (5, .pointer (some ⟨b2, 0, none⟩)), (6, .pointer (some ⟨b3, 0, none⟩)), (7, v1), (8, .map (some b4)), (10, .pointer (some ⟨b6, 0, none⟩)), (16, U), (17, iV (Ae.length : Int)), (18, iV (i1 : Int)), (36, bV (((!decide (y1.Race = Am.Race)) || (decide (y1.Rank = 0))) || (decide (y1.Club = k_empty))))] [true, true, true, true, true, true] rfl (subR rfl)
    refine Tn (f_cond (S.tm rfl) (fun hb3 => ?_) (fun hb3 => ?_))
    ·replace h := iteT h hb3
     refine wp_exit (then_x (x_same (Tn ?_)))
     exact ⟨x1, x2, v1, h, S.nf [false, true, true, true, true, true] rfl (subR rfl)⟩
    ·replace h := iteF h hb3
     refine wp_skip (Tn (Fs (Fg (lv S (Rm (S.tm rfl)) rfl ?_))));clear S;intro a S
     refine lv S (rn_fld fa_52_2 (S.tm rfl)) rfl ?_;clear S;intro a S
     refine lv S (rn_load Tryz.isAgg9 (S.tm rfl) (S.cell (i := 0) rfl rfl)) rfl ?_;clear S;intro a S
     refine lv S (rn_lookup (kv := Value.string) (vv := (Value.int .i64)) (m := x1) (key := y1.Club) (z := 0) (S.map_at (i := 1) rfl) Tryz.underlying133 (keyT_str Tryz.underlying9) Tryz.zeroValue3 (S.tm rfl) (S.tm rfl)) rfl ?_;clear S;intro a S
     refine lv S (rn_add (S.tm rfl) rfl) rfl ?_;clear S;intro a S
     refine l_mapUpdate (kv := Value.string) (vv := (Value.int .i64)) (m := x1) (key := y1.Club) (val := W ((mgetD x1 y1.Club 0) + 1)) S (i := 1) rfl Tryz.underlying133 (keyT_str Tryz.underlying9) (S.tm rfl) (S.tm rfl) (S.tm rfl) ?_;clear S;intro w12 hk9 S
     refine Ld ?_
     replace S := S.nk [.blk b6 (GScored.enc y1) 52, .map b4 (ments Value.string (Value.int .i64) (mput x1 y1.Club (W ((mgetD x1 y1.Club 0) + 1)))) (mput x1 y1.Club (W ((mgetD x1 y1.Club 0) + 1))).length, .own v1 52 5 x2.length (x2.flatMap GScored.enc), .blk b3 [iV 0, iV 0] 57, .blk b2 (GScored.enc Am) 52, .blk b1 [u1.val, iV Aa.Relay, iV Aa.Most] 27] [(3, .pointer (some ⟨b1, 0, none⟩)), (5, .pointer (some ⟨b2, 0, none⟩)), (6, .pointer (some ⟨b3, 0, none⟩)), (7, v1), (8, .map (some b4)), (10, .pointer (some ⟨b6, 0, none⟩)), (16, U), (17, iV (Ae.length : Int)), (18, iV (i1 : Int))] [true, true, true, true, true, true] rfl (subR rfl)
     refine Tn (Fs (Fg (lv S (rn_fld fa_27_2 (S.tm rfl)) rfl ?_)));clear S;intro a S
     refine lv S (rn_load Tryz.isAgg3 (S.tm rfl) (S.cell (i := 5) rfl rfl)) rfl ?_;clear S;intro a S
     refine lv S (rn_eql (S.tm rfl) rfl) rfl ?_;clear S;intro a S
     refine lv S (Rm (S.tm rfl)) rfl ?_;clear S;intro a S
     refine f_cutm 8 (fun a w' => Keep [] w12 w' ∧ Sx w [] nov [.blk b6 (GScored.enc y1) 52, .map b4 (ments Value.string (Value.int .i64) (mput x1 y1.Club (W ((mgetD x1 y1.Club 0) + 1)))) (mput x1 y1.Club (W ((mgetD x1 y1.Club 0) + 1))).length, .own v1 52 5 x2.length (x2.flatMap GScored.enc), .blk b3 [iV 0, iV 0] 57, .blk b2 (GScored.enc Am) 52, .blk b1 [u1.val, iV Aa.Relay, iV Aa.Most] 27] [(3, .pointer (some ⟨b1, 0, none⟩)), (5, .pointer (some ⟨b2, 0, none⟩)), (6, .pointer (some ⟨b3, 0, none⟩)), (7, v1), (8, .map (some b4)), (10, .pointer (some ⟨b6, 0, none⟩)), (16, U), (17, iV (Ae.length : Int)), (18, iV (i1 : Int)), (53, bV ((decide (Aa.Most = 0)) || (decide ((mgetD (mput x1 y1.Club (W ((mgetD x1 y1.Club 0) + 1))) y1.Club 0) ≤ Aa.Most))))] 100 a w') ?_ ?_
     ·rcases Bool.eq_false_or_eq_true (decide (Aa.Most = 0)) with hb4 | hb4
      ·iterate 7 (refine l_skip S rfl rfl rfl (neq_t hb4) rfl ?_ rfl;clear S;intro a S)
       refine lv S (rn_or_t (decide ((mgetD (mput x1 y1.Club (W ((mgetD x1 y1.Club 0) + 1))) y1.Club 0) ≤ Aa.Most)) hb4 (S.tm rfl) rfl) rfl ?_;clear S;intro a S
       refine Ld (Tn ?_)
       exact ⟨Keep.refl _ _, S.nf [true, true, true, true, true, true] rfl (subR rfl)⟩
      ·refine l_want S rfl rfl rfl hb4 (lv S (Rm (S.tm rfl)) rfl ?_);clear S;intro a S
       refine l_want S rfl rfl rfl hb4 (lv S (rn_fld fa_52_2 (S.tm rfl)) rfl ?_);clear S;intro a S
       refine l_want S rfl rfl rfl hb4 (lv S (rn_load Tryz.isAgg9 (S.tm rfl) (S.cell (i := 0) rfl rfl)) rfl ?_);clear S;intro a S
       refine l_want S rfl rfl rfl hb4 (lv S (rn_lookup (kv := Value.string) (vv := (Value.int .i64)) (m := (mput x1 y1.Club (W ((mgetD x1 y1.Club 0) + 1)))) (key := y1.Club) (z := 0) (S.map_at (i := 1) rfl) Tryz.underlying133 (keyT_str Tryz.underlying9) Tryz.zeroValue3 (S.tm rfl) (S.tm rfl)) rfl ?_);clear S;intro a S
       refine l_want S rfl rfl rfl hb4 (lv S (rn_fld fa_27_2 (S.tm rfl)) rfl ?_);clear S;intro a S
       refine l_want S rfl rfl rfl hb4 (lv S (rn_load Tryz.isAgg3 (S.tm rfl) (S.cell (i := 5) rfl rfl)) rfl ?_);clear S;intro a S
       refine l_want S rfl rfl rfl hb4 (lv S (rn_leq (S.tm rfl) (S.tm rfl)) rfl ?_);clear S;intro a S
       refine lv S (rn_or_f hb4 (S.tm rfl) (S.tm rfl)) rfl ?_;clear S;intro a S
       refine Ld (Tn ?_)
       exact ⟨Keep.refl _ _, S.nf [true, true, true, true, true, true] rfl (subR rfl)⟩
     clear S; rintro a w13 ⟨hk10, S⟩
     refine Ld ?_
     replace S := S.nk [.blk b6 (GScored.enc y1) 52, .map b4 (ments Value.string (Value.int .i64) (mput x1 y1.Club (W ((mgetD x1 y1.Club 0) + 1)))) (mput x1 y1.Club (W ((mgetD x1 y1.Club 0) + 1))).length, .own v1 52 5 x2.length (x2.flatMap GScored.enc), .blk b3 [iV 0, iV 0] 57, .blk b2 (GScored.enc Am) 52, .blk b1 [u1.val, iV Aa.Relay, iV Aa.Most] 27] [(3, .pointer (some ⟨b1, 0, none⟩)), (5, .pointer (some ⟨b2, 0, none⟩)), (6, .pointer (some ⟨b3, 0, none⟩)), (7, v1), (8, .map (some b4)), (10, .pointer (some ⟨b6, 0, none⟩)), (16, U), (17, iV (Ae.length : Int)), (18, iV (i1 : Int)), (53, bV ((decide (Aa.Most = 0)) || (decide ((mgetD (mput x1 y1.Club (W ((mgetD x1 y1.Club 0) + 1))) y1.Club 0) ≤ Aa.Most))))] [true, true, true, true, true, true] rfl (subR rfl)
     refine Tn ?_
     obtain ⟨j3, hj3, h⟩ := joinE h
     refine f_join (fun a w' => ∃ x5 : List GScored, ∃ v3 : Value, j3 x5 = some r ∧ Sx w [] nov [.map b4 (ments Value.string (Value.int .i64) (mput x1 y1.Club (W ((mgetD x1 y1.Club 0) + 1)))) (mput x1 y1.Club (W ((mgetD x1 y1.Club 0) + 1))).length, .own v3 52 5 x5.length (x5.flatMap GScored.enc), .blk b3 [iV 0, iV 0] 57, .blk b2 (GScored.enc Am) 52, .blk b1 [u1.val, iV Aa.Relay, iV Aa.Most] 27] [(3, .pointer (some ⟨b1, 0, none⟩)), (5, .pointer (some ⟨b2, 0, none⟩)), (6, .pointer (some ⟨b3, 0, none⟩)), (7, v3), (8, .map (some b4)), (16, U), (17, iV (Ae.length : Int)), (18, iV (i1 : Int))] 100 a w') ?_ ?_
     ·refine f_cond (S.tm rfl) (fun hb5 => ?_) (fun hb5 => ?_)
      ·replace h := iteT h hb5
       refine Fg (lv S (Rm (S.tm rfl)) rfl ?_);clear S;intro a S
       refine lv S (rn_ldA Tryz.isAgg52 Tryz.sizeOf52 (off := 0) (o := 0) (part := (GScored.enc y1)) rfl rfl (S.tm rfl) (S.cellsAt (i := 0) rfl)) rfl ?_;clear S;intro a S
       refine l_buildSlice S Tryz.underlying29 Tryz.sizeOf52 Tryz.zeroValue52 rfl rfl (pv := [(0, .agg (GScored.enc y1).toArray)]) ⟨rfl, (S.tm rfl), trivial⟩ (cs := [sV y1.Race, sV y1.Who, sV y1.Club, iV y1.Rank, bV y1.Relay]) (by kernel_rfl) rfl ?_;clear S;intro a w15 b7 hz6 hk11 S
       obtain ⟨hc1, h⟩ := chkE h
       refine l_appendT sl_29 GScored.enc_ok S (S.tm rfl) (i := 3) rfl (S.tm rfl) (j := 0) rfl (ys := [y1]) rfl rfl rfl rfl (by have := room_lt hc1; omega) rfl ?_;clear S;intro v4 a w16 hk12 S
       refine lv S (Ra (S.tm rfl)) rfl ?_;clear S;intro a S
       refine Ld ?_
       replace S := S.nk [.map b4 (ments Value.string (Value.int .i64) (mput x1 y1.Club (W ((mgetD x1 y1.Club 0) + 1)))) (mput x1 y1.Club (W ((mgetD x1 y1.Club 0) + 1))).length, .own v4 52 5 (x2 ++ [y1]).length ((x2 ++ [y1]).flatMap GScored.enc), .blk b3 [iV 0, iV 0] 57, .blk b2 (GScored.enc Am) 52, .blk b1 [u1.val, iV Aa.Relay, iV Aa.Most] 27] [(3, .pointer (some ⟨b1, 0, none⟩)), (5, .pointer (some ⟨b2, 0, none⟩)), (6, .pointer (some ⟨b3, 0, none⟩)), (7, v4), (8, .map (some b4)), (16, U), (17, iV (Ae.length : Int)), (18, iV (i1 : Int))] [false, false, true, true, true, true, true] rfl (subR rfl)
       refine Tn ?_
       exact ⟨(x2 ++ [y1]), v4, h, S.nf [true, true, true, true, true] rfl (subR rfl)⟩
      ·replace h := iteF h hb5
       refine wp_skip (Tn ?_)
       exact ⟨x2, v1, h, S.nf [false, true, true, true, true, true] rfl (subR rfl)⟩
     clear S h; rintro a w14 ⟨x5, v3, h, S⟩; rw [hj3] at h; clear hj3 j3
     refine blk_n (Tn ?_)
     exact ⟨(mput x1 y1.Club (W ((mgetD x1 y1.Club 0) + 1))), x5, v3, h, S.nf [true, true, true, true, true] rfl (subR rfl)⟩
   clear S h; rintro a w7 ⟨x3, x4, v2, h, S⟩; rw [hj2] at h; clear hj2 j2
   refine Tn (Fg (lv S (rn_add (S.tm rfl) rfl) rfl ?_));clear S;intro a S
   refine lv S (Rm (S.tm rfl)) rfl ?_;clear S;intro a S
   refine Ld (Tn ?_)
   exact ⟨ys1, ⟨i1 + 1, x3, x4, v2, ⟨_, (hd1).trans (List.append_cons _ _ _), by simp [hi1]⟩, h, S.nf [true, true, true, true, true] rfl ⟨rfl, rfl, rfl, rfl, rfl, rfl, rfl, (congrArg (fun z => some (Value.int .i64 z)) (rng_next hd1 hi1 (slc_max Ag))), trivial⟩⟩, Nat.lt_succ_self _⟩
 clear S h; rintro a w6 ⟨x1, x2, v1, h, S⟩; rw [hj1] at h; clear hj1 j1
 refine Tn (Fs (Fs (Fg (lv S (Rm (S.tm rfl)) rfl ?_))));clear S;intro a S
 refine lv S (rn_ldA Tryz.isAgg52 Tryz.sizeOf52 (off := 0) (o := 0) (part := (GScored.enc Am)) rfl rfl (S.tm rfl) (S.cellsAt (i := 3) rfl)) rfl ?_;clear S;intro a S
 refine l_enter S (fun _ => run_call (vs := [v1, .agg (GScored.enc Am).toArray]) ⟨(S.tm rfl), (S.tm rfl), trivial⟩ Tryz.call107) (slices_Contains_Scored_ok _ v1 x2 (own_slcT GScored.enc_ok S (i := 1) rfl (ne_nil (e' := .own v1 52 5 x2.length (x2.flatMap GScored.enc)))) Am _ rfl) rfl ?_;clear S;intro v5 a w17 hv1 hk13 hn1 S
 subst hv1
 refine lv S (rn_not (S.tm rfl)) rfl ?_;clear S;intro a S
 refine Ld (Tn (f_cond (S.tm rfl) (fun hb6 => ?_) (fun hb6 => ?_)))
 ·replace h := iteT h hb6
  refine Fs (Fg (lv S (rn_bld bt_57 (pv := [(1, iV 1)]) ⟨rfl, rfl, trivial⟩ (cs := [iV 0, iV 1]) (by kernel_rfl)) rfl ?_));clear S;intro a S
  refine l_store S (S.tm rfl) (S.tm rfl) (i := 2) (off := 0) rfl Tryz.sizeOf57 (vs := [iV 0, iV 1]) rfl rfl rfl rfl ?_;clear S;intro w18 hk14 S
  refine Ld (Tn (wp_ret (then_r ?_)))
  obtain rfl := Option.some.inj h
  exact f_retG S (rs := [.cell 6 57]) (vs := [.agg #[iV 0, iV 1]]) Tryz.results78 ⟨(res_cell (off := 0) S rfl Tryz.isAgg57 Tryz.sizeOf57 rfl (S.cellsAt (i := 2) rfl)), trivial⟩ rfl rfl
 ·replace h := iteF h hb6
  refine wp_skip (Tn (Fs (Fg (lv S (Ra rfl) rfl ?_))));clear S;intro a S
  refine lv S (Ra rfl) rfl ?_;clear S;intro a S
  refine Ld (Tn (Fs (Fs (Fg (lv S (Rm (S.tm rfl)) rfl ?_)))));clear S;intro a S
  refine lv S (rn_lenT sl_29 (S.tm rfl) (own_len (S.own_at (i := 1) rfl))) rfl ?_;clear S;intro a S
  refine lv S (Rm rfl) rfl ?_;clear S;intro a S
  refine Ld (Tn ?_)
  replace S := S.nk [.own v1 52 5 x2.length (x2.flatMap GScored.enc), .blk b3 [iV 0, iV 0] 57, .blk b2 (GScored.enc Am) 52, .blk b1 [u1.val, iV Aa.Relay, iV Aa.Most] 27] [(3, .pointer (some ⟨b1, 0, none⟩)), (5, .pointer (some ⟨b2, 0, none⟩)), (6, .pointer (some ⟨b3, 0, none⟩)), (11, iV 0), (12, iV 0), (64, v1), (65, iV (x2.length : Int)), (66, iV 0)] [false, true, true, true, true] rfl (subR rfl)
  have hm2 := own_max (S.own_at (i := 0) rfl)
  obtain ⟨j4, hj4, h⟩ := joinE h
  refine f_join (fun a w' => ∃ x6 : Int, ∃ x7 : Int, j4 x6 x7 = some r ∧ Sx w [] nov [.own v1 52 5 x2.length (x2.flatMap GScored.enc), .blk b3 [iV 0, iV 0] 57, .blk b2 (GScored.enc Am) 52, .blk b1 [u1.val, iV Aa.Relay, iV Aa.Most] 27] [(3, .pointer (some ⟨b1, 0, none⟩)), (5, .pointer (some ⟨b2, 0, none⟩)), (6, .pointer (some ⟨b3, 0, none⟩)), (11, iV x6), (12, iV x7)] 100 a w') ?_ ?_
  ·refine wp_block (f_loop (fun (ys2 : List GScored) a w' => ∃ i2 : Nat, ∃ x6 : Int, ∃ x7 : Int, (∃ dn, x2 = dn ++ ys2 ∧ dn.length = i2) ∧ tumbref2_shareOf_l2 Am Aa j4 ys2 i2 x6 x7 = some r ∧ Sx w [] nov [.own v1 52 5 x2.length (x2.flatMap GScored.enc), .blk b3 [iV 0, iV 0] 57, .blk b2 (GScored.enc Am) 52, .blk b1 [u1.val, iV Aa.Relay, iV Aa.Most] 27] [(3, .pointer (some ⟨b1, 0, none⟩)), (5, .pointer (some ⟨b2, 0, none⟩)), (6, .pointer (some ⟨b3, 0, none⟩)), (11, iV x6), (12, iV x7), (64, v1), (65, iV (x2.length : Int)), (66, iV (i2 : Int))] 100 a w') List.length x2 ⟨0, 0, 0, ⟨[], rfl, rfl⟩, h, S.nf [true, true, true, true] rfl (subR rfl)⟩ ?_)
   clear S h; rintro ys2 a w19 ⟨i2, x6, x7, ⟨dn, hd2, hi2⟩, h, S⟩
   cases ys2 with
   | nil =>
    rw [tumbref2_shareOf_l2.eq_1] at h
    refine Fs (Fg (lv S (rn_lss (S.tm rfl) (S.tm rfl)) rfl ?_));clear S;intro a S
    refine Ld ?_
    replace S := S.nk [.own v1 52 5 x2.length (x2.flatMap GScored.enc), .blk b3 [iV 0, iV 0] 57, .blk b2 (GScored.enc Am) 52, .blk b1 [u1.val, iV Aa.Relay, iV Aa.Most] 27] [(3, .pointer (some ⟨b1, 0, none⟩)), (5, .pointer (some ⟨b2, 0, none⟩)), (6, .pointer (some ⟨b3, 0, none⟩)), (11, iV x6), (12, iV x7), (64, v1), (65, iV (x2.length : Int)), (66, iV (i2 : Int)), (67, bV (decide ((i2 : Int) < (x2.length : Int))))] [true, true, true, true] rfl (subR rfl)
    refine Tn (Fs (wp_cond_false ((S.tm rfl).trans (congrArg Value.bool (rng_nil hd2 hi2))) (wp_exit (then_x (then_x (x_same ?_))))))
    refine Tn ?_
    exact ⟨x6, x7, h, S.nf [true, true, true, true] rfl (subR rfl)⟩
   | cons y2 ys2 =>
    rw [tumbref2_shareOf_l2.eq_2] at h
    refine Fs (Fg (lv S (rn_lss (S.tm rfl) (S.tm rfl)) rfl ?_));clear S;intro a S
    refine Ld ?_
    replace S := S.nk [.own v1 52 5 x2.length (x2.flatMap GScored.enc), .blk b3 [iV 0, iV 0] 57, .blk b2 (GScored.enc Am) 52, .blk b1 [u1.val, iV Aa.Relay, iV Aa.Most] 27] [(3, .pointer (some ⟨b1, 0, none⟩)), (5, .pointer (some ⟨b2, 0, none⟩)), (6, .pointer (some ⟨b3, 0, none⟩)), (11, iV x6), (12, iV x7), (64, v1), (65, iV (x2.length : Int)), (66, iV (i2 : Int)), (67, bV (decide ((i2 : Int) < (x2.length : Int))))] [true, true, true, true] rfl (subR rfl)
    refine Tn (Fs (wp_cond_true ((S.tm rfl).trans (congrArg Value.bool (rng_cons hd2 hi2))) (wp_skip (Tn (Fs ?_)))))
    obtain ⟨j5, hj5, h⟩ := joinE h
    refine f_join (fun a w' => ∃ x8 : Int, ∃ x9 : Int, j5 x8 x9 = some r ∧ Sx w [] nov [.own v1 52 5 x2.length (x2.flatMap GScored.enc), .blk b3 [iV 0, iV 0] 57, .blk b2 (GScored.enc Am) 52, .blk b1 [u1.val, iV Aa.Relay, iV Aa.Most] 27] [(3, .pointer (some ⟨b1, 0, none⟩)), (5, .pointer (some ⟨b2, 0, none⟩)), (6, .pointer (some ⟨b3, 0, none⟩)), (11, iV x8), (12, iV x9), (64, v1), (65, iV (x2.length : Int)), (66, iV (i2 : Int))] 100 a w') ?_ ?_
    ·refine wp_block (Fs (Fg (lv S (Rm (S.tm rfl)) rfl ?_)));clear S;intro a S
     obtain ⟨b8, hg1, hr2⟩ := rn_indexS (a := a) (x := .tmp 64) (y := .tmp 66) (ty := 0) sl_29 GScored.enc_ok S (i := 0) rfl (get_mid hd2 hi2) rfl (S.tm rfl) (S.tm rfl)
     refine lv S (hr2 _) rfl ?_;clear S;intro a S
     clear hr2
     refine lv S (rn_ldA Tryz.isAgg52 Tryz.sizeOf52 (off := i2 * 5) (o := 0) (part := (GScored.enc y2)) rfl rfl (S.tm rfl) (own_cells GScored.enc_ok S (i := 0) rfl hg1 (get_mid hd2 hi2))) rfl ?_;clear S;intro a S
     refine l_alloc S Tryz.zeroValue52 (cs := [sV k_empty, sV k_empty, sV k_empty, iV 0, bV false]) rfl rfl ?_;clear S;intro a w22 b9 hz7 hk15 S
     refine lv S (Ra (S.tm rfl)) rfl ?_;clear S;intro a S
     refine l_store S (S.tm rfl) (S.tm rfl) (i := 0) (off := 0) rfl Tryz.sizeOf52 (vs := (GScored.enc y2)) rfl rfl rfl rfl ?_;clear S;intro w23 hk16 S
     refine Ld (Tn (Fs (Fg (lv S (rn_fld fa_52_3 (S.tm rfl)) rfl ?_))));clear S;intro a S
     refine lv S (rn_load Tryz.isAgg3 (S.tm rfl) (S.cell (i := 0) rfl rfl)) rfl ?_;clear S;intro a S
     refine lv S (rn_fld fa_52_3 (S.tm rfl)) rfl ?_;clear S;intro a S
     refine lv S (rn_load Tryz.isAgg3 (S.tm rfl) (S.cell (i := 3) rfl rfl)) rfl ?_;clear S;intro a S
     refine lv S (rn_eql (S.tm rfl) (S.tm rfl)) rfl ?_;clear S;intro a S
     refine Ld ?_
     replace S := S.nk [.own v1 52 5 x2.length (x2.flatMap GScored.enc), .blk b3 [iV 0, iV 0] 57, .blk b2 (GScored.enc Am) 52, .blk b1 [u1.val, iV Aa.Relay, iV Aa.Most] 27] [(3, .pointer (some ⟨b1, 0, none⟩)), (5, .pointer (some ⟨b2, 0, none⟩)), (6, .pointer (some ⟨b3, 0, none⟩)), (11, iV x6), (12, iV x7), (13, iV (i2 : Int)), (64, v1), (65, iV (x2.length : Int)), (66, iV (i2 : Int)), (75, bV (decide (y2.Rank = Am.Rank)))] [false, true, true, true, true] rfl (subR rfl)
     refine Tn ?_
     obtain ⟨j6, hj6, h⟩ := joinE h
     refine f_join (fun a w' => ∃ x10 : Int, ∃ x11 : Int, j6 x10 x11 = some r ∧ Sx w [] nov [.own v1 52 5 x2.length (x2.flatMap GScored.enc), .blk b3 [iV 0, iV 0] 57, .blk b2 (GScored.enc Am) 52, .blk b1 [u1.val, iV Aa.Relay, iV Aa.Most] 27] [(3, .pointer (some ⟨b1, 0, none⟩)), (5, .pointer (some ⟨b2, 0, none⟩)), (6, .pointer (some ⟨b3, 0, none⟩)), (11, iV x10), (12, iV x11), (64, v1), (65, iV (x2.length : Int)), (66, iV (i2 : Int))] 100 a w') ?_ ?_
     ·refine f_cond (S.tm rfl) (fun hb7 => ?_) (fun hb7 => ?_)
      ·replace h := iteT h hb7
       refine Fs (Fg (lv S (Rm (S.tm rfl)) rfl ?_));clear S;intro a S
       refine lv S (rn_add (S.tm rfl) rfl) rfl ?_;clear S;intro a S
       refine lv S (Ra (S.tm rfl)) rfl ?_;clear S;intro a S
       refine Ld (Tn (Fs (Fg (lv S (Rm (S.tm rfl)) rfl ?_))));clear S;intro a S
       refine lv S (rn_fld fa_27_0 (S.tm rfl)) rfl ?_;clear S;intro a S
       refine lv S (rn_load Tryz.isAgg22 (S.tm rfl) (S.cell (i := 3) rfl rfl)) rfl ?_;clear S;intro a S
       refine lv S (rn_lenT sl_22 (S.tm rfl) (slc_len hs1)) rfl ?_;clear S;intro a S
       refine lv S (rn_lss (S.tm rfl) (S.tm rfl)) rfl ?_;clear S;intro a S
       refine Ld ?_
       replace S := S.nk [.own v1 52 5 x2.length (x2.flatMap GScored.enc), .blk b3 [iV 0, iV 0] 57, .blk b2 (GScored.enc Am) 52, .blk b1 [u1.val, iV Aa.Relay, iV Aa.Most] 27] [(3, .pointer (some ⟨b1, 0, none⟩)), (5, .pointer (some ⟨b2, 0, none⟩)), (6, .pointer (some ⟨b3, 0, none⟩)), (11, iV x6), (12, iV (W (x7 + 1))), (13, iV (i2 : Int)), (64, v1), (65, iV (x2.length : Int)), (66, iV (i2 : Int)), (82, bV (decide ((i2 : Int) < (Aa.Points.length : Int))))] [true, true, true, true] rfl (subR rfl)
       refine Tn ?_
       obtain ⟨j7, hj7, h⟩ := joinE h
       refine f_join (fun a w' => ∃ x12 : Int, j7 x12 = some r ∧ Sx w [] nov [.own v1 52 5 x2.length (x2.flatMap GScored.enc), .blk b3 [iV 0, iV 0] 57, .blk b2 (GScored.enc Am) 52, .blk b1 [u1.val, iV Aa.Relay, iV Aa.Most] 27] [(3, .pointer (some ⟨b1, 0, none⟩)), (5, .pointer (some ⟨b2, 0, none⟩)), (6, .pointer (some ⟨b3, 0, none⟩)), (11, iV x12), (12, iV (W (x7 + 1))), (64, v1), (65, iV (x2.length : Int)), (66, iV (i2 : Int))] 100 a w') ?_ ?_
       ·refine f_cond (S.tm rfl) (fun hb8 => ?_) (fun hb8 => ?_)
        ·replace h := iteT h hb8
         refine Fg (lv S (Rm (S.tm rfl)) rfl ?_);clear S;intro a S
         refine lv S (rn_fld fa_27_0 (S.tm rfl)) rfl ?_;clear S;intro a S
         refine lv S (rn_load Tryz.isAgg22 (S.tm rfl) (S.cell (i := 3) rfl rfl)) rfl ?_;clear S;intro a S
         refine lv S (Rm (S.tm rfl)) rfl ?_;clear S;intro a S
         obtain ⟨hc2, h⟩ := chkE h
         obtain ⟨b10, o3, hm4, hr3⟩ := rn_indexT (a := a) (x := .tmp 85) (y := .tmp 86) (ty := 0) sl_22 hs1 (inB_get hc2).1 (inB_get hc2).2 (S.tm rfl) (S.tm rfl)
         refine lv S (hr3 _) rfl ?_;clear S;intro a S
         clear hr3
         refine lv S (rn_ld Tryz.isAgg3 (off := o3) (o := 0) (S.tm rfl) (hm4.at S.emb0) rfl) rfl ?_;clear S;intro a S
         refine lv S (rn_add (S.tm rfl) (S.tm rfl)) rfl ?_;clear S;intro a S
         refine lv S (Ra (S.tm rfl)) rfl ?_;clear S;intro a S
         refine Ld ?_
         replace S := S.nk [.own v1 52 5 x2.length (x2.flatMap GScored.enc), .blk b3 [iV 0, iV 0] 57, .blk b2 (GScored.enc Am) 52, .blk b1 [u1.val, iV Aa.Relay, iV Aa.Most] 27] [(3, .pointer (some ⟨b1, 0, none⟩)), (5, .pointer (some ⟨b2, 0, none⟩)), (6, .pointer (some ⟨b3, 0, none⟩)), (11, iV (W (x6 + (nth Aa.Points (i2 : Int))))), (12, iV (W (x7 + 1))), (64, v1), (65, iV (x2.length : Int)), (66, iV (i2 : Int))] [true, true, true, true] rfl (subR rfl)
         refine Tn ?_
         exact ⟨W (x6 + (nth Aa.Points (i2 : Int))), h, S.nf [true, true, true, true] rfl (subR rfl)⟩
        ·replace h := iteF h hb8
         refine wp_skip (Tn ?_)
         exact ⟨x6, h, S.nf [true, true, true, true] rfl (subR rfl)⟩
       clear S h; rintro a w25 ⟨x12, h, S⟩; rw [hj7] at h; clear hj7 j7
       refine Tn ?_
       exact ⟨x12, W (x7 + 1), h, S.nf [true, true, true, true] rfl (subR rfl)⟩
      ·replace h := iteF h hb7
       refine wp_skip (Tn ?_)
       exact ⟨x6, x7, h, S.nf [true, true, true, true] rfl (subR rfl)⟩
     clear S h; rintro a w24 ⟨x10, x11, h, S⟩; rw [hj6] at h; clear hj6 j6
     refine blk_n (Tn ?_)
     exact ⟨x10, x11, h, S.nf [true, true, true, true] rfl (subR rfl)⟩
    clear S h; rintro a w21 ⟨x8, x9, h, S⟩; rw [hj5] at h; clear hj5 j5
    refine Tn (Fg (lv S (rn_add (S.tm rfl) rfl) rfl ?_));clear S;intro a S
    refine lv S (Rm (S.tm rfl)) rfl ?_;clear S;intro a S
    refine Ld (Tn ?_)
    exact ⟨ys2, ⟨i2 + 1, x8, x9, ⟨_, (hd2).trans (List.append_cons _ _ _), by simp [hi2]⟩, h, S.nf [true, true, true, true] rfl ⟨rfl, rfl, rfl, rfl, rfl, rfl, rfl, (congrArg (fun z => some (Value.int .i64 z)) (rng_next hd2 hi2 hm2)), trivial⟩⟩, Nat.lt_succ_self _⟩
  clear S h; rintro a w20 ⟨x6, x7, h, S⟩; rw [hj4] at h; clear hj4 j4
  refine Tn (Fs (Fs (Fg (lv S (rn_fld fa_52_4 (S.tm rfl)) rfl ?_))));clear S;intro a S
  refine lv S (rn_load Tryz.isAgg4 (S.tm rfl) (S.cell (i := 2) rfl rfl)) rfl ?_;clear S;intro a S
  refine Ld (Tn ?_)
  obtain ⟨j8, hj8, h⟩ := joinE h
  refine f_join (fun a w' => ∃ x13 : Int, j8 x13 = some r ∧ Sx w [] nov [.own v1 52 5 x2.length (x2.flatMap GScored.enc), .blk b3 [iV 0, iV 0] 57, .blk b2 (GScored.enc Am) 52, .blk b1 [u1.val, iV Aa.Relay, iV Aa.Most] 27] [(6, .pointer (some ⟨b3, 0, none⟩)), (11, iV x13), (12, iV x7)] 100 a w') ?_ ?_
  ·refine f_cond (S.tm rfl) (fun hb9 => ?_) (fun hb9 => ?_)
   ·replace h := iteT h hb9
    refine Fg (lv S (Rm (S.tm rfl)) rfl ?_);clear S;intro a S
    refine lv S (rn_fld fa_27_1 (S.tm rfl)) rfl ?_;clear S;intro a S
    refine lv S (rn_load Tryz.isAgg3 (S.tm rfl) (S.cell (i := 3) rfl rfl)) rfl ?_;clear S;intro a S
    refine lv S (rn_mul (S.tm rfl) (S.tm rfl)) rfl ?_;clear S;intro a S
    refine lv S (Ra (S.tm rfl)) rfl ?_;clear S;intro a S
    refine Ld (Tn ?_)
    exact ⟨W (x6 * Aa.Relay), h, S.nf [true, true, true, true] rfl (subR rfl)⟩
   ·replace h := iteF h hb9
    refine wp_skip (Tn ?_)
    exact ⟨x6, h, S.nf [true, true, true, true] rfl (subR rfl)⟩
  clear S h; rintro a w26 ⟨x13, h, S⟩; rw [hj8] at h; clear hj8 j8
  refine Tn (Fs (Fg (lv S (Rm (S.tm rfl)) rfl ?_)));clear S;intro a S
  refine lv S (Rm (S.tm rfl)) rfl ?_;clear S;intro a S
  obtain ⟨r1, hr4, h⟩ := bindE h
  refine l_enter S (fun _ => run_call (vs := [iV x13, iV x7]) ⟨(S.tm rfl), (S.tm rfl), trivial⟩ Tryz.call60) (tumbref2_Lowest_ok _ x13 x7 _ hr4) rfl ?_;clear S;intro v6 a w27 hv2 hk17 hn2 S
  subst hv2
  refine l_store S (S.tm rfl) (S.tm rfl) (i := 1) (off := 0) rfl Tryz.sizeOf57 (vs := (GFraction.enc r1)) rfl rfl rfl rfl ?_;clear S;intro w28 hk18 S
  refine Ld (Tn (wp_ret ?_))
  obtain rfl := Option.some.inj h
  exact f_retG S (rs := [.cell 6 57]) (vs := [.agg #[iV r1.Num, iV r1.Den]]) Tryz.results78 ⟨(res_cell (off := 0) S rfl Tryz.isAgg57 Tryz.sizeOf57 rfl (S.cellsAt (i := 1) rfl)), trivial⟩ rfl rfl
theorem tumbref2_plus_ok (w : World) (Aj : GFraction) (Ak : GFraction) (r : GFraction) (h : tumbref2_plus Aj Ak = some r) :
    Calls Tryz.prog 39 [.agg (GFraction.enc Aj).toArray, .agg (GFraction.enc Ak).toArray].toArray w (Ret w [] fun _ v _ => v = .agg (GFraction.enc r).toArray) := by
 refine f_enter [] [] Tryz.func39 rfl Tryz.ntmps39 rfl (by simp) (by simp [fps]) (by simp [fps]) fun a S => ?_
 unfold tumbref2_plus at h
 replace S := S.nk [] [(0, .agg (GFraction.enc Aj).toArray), (1, .agg (GFraction.enc Ak).toArray)] [] rfl (subR rfl)
 refine Fs (Fg (l_box S (S.tm rfl) (cs := (GFraction.enc Aj)) rfl rfl ?_));clear S;intro a w1 b1 hz1 hk1 S
 refine l_box S (S.tm rfl) (cs := (GFraction.enc Ak)) rfl rfl ?_;clear S;intro a w2 b2 hz2 hk2 S
 refine l_alloc S Tryz.zeroValue57 (cs := [iV 0, iV 0]) rfl rfl ?_;clear S;intro a w3 b3 hz3 hk3 S
 refine Ld (Tn (Fs (Fg (lv S (rn_fld fa_57_0 (S.tm rfl)) rfl ?_))));clear S;intro a S
 refine lv S (rn_load Tryz.isAgg3 (S.tm rfl) (S.cell (i := 2) rfl rfl)) rfl ?_;clear S;intro a S
 refine lv S (rn_fld fa_57_1 (S.tm rfl)) rfl ?_;clear S;intro a S
 refine lv S (rn_load Tryz.isAgg3 (S.tm rfl) (S.cell (i := 1) rfl rfl)) rfl ?_;clear S;intro a S
 refine lv S (rn_mul (S.tm rfl) (S.tm rfl)) rfl ?_;clear S;intro a S
 refine lv S (rn_fld fa_57_0 (S.tm rfl)) rfl ?_;clear S;intro a S
 refine lv S (rn_load Tryz.isAgg3 (S.tm rfl) (S.cell (i := 1) rfl rfl)) rfl ?_;clear S;intro a S
 refine lv S (rn_fld fa_57_1 (S.tm rfl)) rfl ?_;clear S;intro a S
 refine lv S (rn_load Tryz.isAgg3 (S.tm rfl) (S.cell (i := 2) rfl rfl)) rfl ?_;clear S;intro a S
 refine lv S (rn_mul (S.tm rfl) (S.tm rfl)) rfl ?_;clear S;intro a S
 refine lv S (rn_add (S.tm rfl) (S.tm rfl)) rfl ?_;clear S;intro a S
 refine lv S (rn_fld fa_57_1 (S.tm rfl)) rfl ?_;clear S;intro a S
 refine lv S (rn_load Tryz.isAgg3 (S.tm rfl) (S.cell (i := 2) rfl rfl)) rfl ?_;clear S;intro a S
 refine lv S (rn_fld fa_57_1 (S.tm rfl)) rfl ?_;clear S;intro a S
 refine lv S (rn_load Tryz.isAgg3 (S.tm rfl) (S.cell (i := 1) rfl rfl)) rfl ?_;clear S;intro a S
 refine lv S (rn_mul (S.tm rfl) (S.tm rfl)) rfl ?_;clear S;intro a S
 obtain ⟨r1, hr1, h⟩ := bindE h
 refine l_enter S (fun _ => run_call (vs := [iV (W ((W (Aj.Num * Ak.Den)) + (W (Ak.Num * Aj.Den)))), iV (W (Aj.Den * Ak.Den))]) ⟨(S.tm rfl), (S.tm rfl), trivial⟩ Tryz.call60) (tumbref2_Lowest_ok _ (W ((W (Aj.Num * Ak.Den)) + (W (Ak.Num * Aj.Den)))) (W (Aj.Den * Ak.Den)) _ hr1) rfl ?_;clear S;intro v1 a w4 hv1 hk4 hn1 S
 subst hv1
 refine l_store S (S.tm rfl) (S.tm rfl) (i := 0) (off := 0) rfl Tryz.sizeOf57 (vs := (GFraction.enc r1)) rfl rfl rfl rfl ?_;clear S;intro w5 hk5 S
 refine Ld ?_
 replace S := S.nk [.blk b3 (GFraction.enc r1) 57] [(4, .pointer (some ⟨b3, 0, none⟩))] [true, false, false] rfl ⟨rfl, trivial⟩
 refine Tn (wp_ret ?_)
 obtain rfl := Option.some.inj h
 exact f_retG S (rs := [.cell 4 57]) (vs := [.agg #[iV r1.Num, iV r1.Den]]) Tryz.results39 ⟨(res_cell (off := 0) S rfl Tryz.isAgg57 Tryz.sizeOf57 rfl (S.cellsAt (i := 0) rfl)), trivial⟩ rfl rfl
theorem tumbref2_sumOf_tumbref2_ClubSums_c1_c1_ok (w : World) (Aa : GTable) (Av : R27) (Ba : rel_27 (view w []) Aa Av) (U : Value) (Ae : List GScored) (Ag : Slc (view w []) 5 U (Ae.map GScored.enc)) (Bl : Nat) (Cs : ByteArray) (Df : (view w []) Bl = some (.cells [sV Cs].toArray 9 (0, 0))) (r : GFraction) (h : tumbref2_sumOf_tumbref2_ClubSums_c1_c1 Aa Ae Cs = some r) :
    Calls Tryz.prog 58 [.agg (R27.enc Av).toArray, U, .func (.func 59) #[] #[.pointer (some ⟨Bl, 0, none⟩)]].toArray w (Ret w [] fun _ v _ => v = .agg (GFraction.enc r).toArray) := by
 obtain ⟨u1, rfl, hs1⟩ := Ba
 refine f_enter [] [] Tryz.func58 rfl Tryz.ntmps58 rfl (by simp) (by simp [fps]) (by simp [fps]) fun a S => ?_
 unfold tumbref2_sumOf_tumbref2_ClubSums_c1_c1 at h
 replace S := S.nk [] [(0, .agg #[u1.val, iV Aa.Relay, iV Aa.Most]), (1, U), (2, .func (.func 59) #[] #[.pointer (some ⟨Bl, 0, none⟩)])] [] rfl (subR rfl)
 refine Fs (Fg (l_box S (S.tm rfl) (cs := [u1.val, iV Aa.Relay, iV Aa.Most]) rfl rfl ?_));clear S;intro a w1 b1 hz1 hk1 S
 refine l_alloc S Tryz.zeroValue57 (cs := [iV 0, iV 0]) rfl rfl ?_;clear S;intro a w2 b2 hz2 hk2 S
 refine Ld (Tn (Fs (Fg (lv S (rn_bld bt_57 (pv := [(1, iV 1)]) ⟨rfl, rfl, trivial⟩ (cs := [iV 0, iV 1]) (by kernel_rfl)) rfl ?_))));clear S;intro a S
 refine l_alloc S Tryz.zeroValue57 (cs := [iV 0, iV 0]) rfl rfl ?_;clear S;intro a w3 b3 hz3 hk3 S
 refine l_store S (S.tm rfl) (S.tm rfl) (i := 0) (off := 0) rfl Tryz.sizeOf57 (vs := [iV 0, iV 1]) rfl rfl rfl rfl ?_;clear S;intro w4 hk4 S
 refine Ld (Tn (Fs (Fs (Fg (lv S (Rm (S.tm rfl)) rfl ?_)))));clear S;intro a S
 refine lv S (rn_lenT sl_29 (S.tm rfl) (slc_len Ag)) rfl ?_;clear S;intro a S
 refine lv S (Rm rfl) rfl ?_;clear S;intro a S
 refine Ld (Tn ?_)
 replace S := S.nk [.blk b3 [iV 0, iV 1] 57, .blk b2 [iV 0, iV 0] 57, .blk b1 [u1.val, iV Aa.Relay, iV Aa.Most] 27] [(1, U), (2, .func (.func 59) #[] #[.pointer (some ⟨Bl, 0, none⟩)]), (3, .pointer (some ⟨b1, 0, none⟩)), (6, .pointer (some ⟨b2, 0, none⟩)), (7, .pointer (some ⟨b3, 0, none⟩)), (11, U), (12, iV (Ae.length : Int)), (13, iV 0)] [true, true, true] rfl (subR rfl)
 obtain ⟨j1, hj1, h⟩ := joinE h
 refine f_join (fun a w' => ∃ x1 : Int, ∃ x2 : Int, j1 x1 x2 = some r ∧ Sx w [] nov [.blk b3 [iV x1, iV x2] 57, .blk b2 [iV 0, iV 0] 57, .blk b1 [u1.val, iV Aa.Relay, iV Aa.Most] 27] [(6, .pointer (some ⟨b2, 0, none⟩)), (7, .pointer (some ⟨b3, 0, none⟩))] 32 a w') ?_ ?_
 ·refine wp_block (f_loop (fun (ys1 : List GScored) a w' => ∃ i1 : Nat, ∃ x1 : Int, ∃ x2 : Int, (∃ dn, Ae = dn ++ ys1 ∧ dn.length = i1) ∧ tumbref2_sumOf_tumbref2_ClubSums_c1_c1_l1 Cs Aa Ae j1 ys1 i1 x1 x2 = some r ∧ Sx w [] nov [.blk b3 [iV x1, iV x2] 57, .blk b2 [iV 0, iV 0] 57, .blk b1 [u1.val, iV Aa.Relay, iV Aa.Most] 27] [(1, U), (2, .func (.func 59) #[] #[.pointer (some ⟨Bl, 0, none⟩)]), (3, .pointer (some ⟨b1, 0, none⟩)), (6, .pointer (some ⟨b2, 0, none⟩)), (7, .pointer (some ⟨b3, 0, none⟩)), (11, U), (12, iV (Ae.length : Int)), (13, iV (i1 : Int))] 32 a w') List.length Ae ⟨0, 0, 1, ⟨[], rfl, rfl⟩, h, S.nf [true, true, true] rfl (subR rfl)⟩ ?_)
  clear S h; rintro ys1 a w5 ⟨i1, x1, x2, ⟨dn, hd1, hi1⟩, h, S⟩
  cases ys1 with
  | nil =>
   rw [tumbref2_sumOf_tumbref2_ClubSums_c1_c1_l1.eq_1] at h
   refine Fs (Fg (lv S (rn_lss (S.tm rfl) (S.tm rfl)) rfl ?_));clear S;intro a S
   refine Ld ?_
   replace S := S.nk [.blk b3 [iV x1, iV x2] 57, .blk b2 [iV 0, iV 0] 57, .blk b1 [u1.val, iV Aa.Relay, iV Aa.Most] 27] [(1, U), (2, .func (.func 59) #[] #[.pointer (some ⟨Bl, 0, none⟩)]), (3, .pointer (some ⟨b1, 0, none⟩)), (6, .pointer (some ⟨b2, 0, none⟩)), (7, .pointer (some ⟨b3, 0, none⟩)), (11, U), (12, iV (Ae.length : Int)), (13, iV (i1 : Int)), (14, bV (decide ((i1 : Int) < (Ae.length : Int))))] [true, true, true] rfl (subR rfl)
   refine Tn (Fs (wp_cond_false ((S.tm rfl).trans (congrArg Value.bool (rng_nil hd1 hi1))) (wp_exit (then_x (then_x (x_same ?_))))))
   refine Tn ?_
   exact ⟨x1, x2, h, S.nf [true, true, true] rfl (subR rfl)⟩
  | cons y1 ys1 =>
   rw [tumbref2_sumOf_tumbref2_ClubSums_c1_c1_l1.eq_2] at h
   refine Fs (Fg (lv S (rn_lss (S.tm rfl) (S.tm rfl)) rfl ?_));clear S;intro a S
   refine Ld ?_
   replace S := S.nk [.blk b3 [iV x1, iV x2] 57, .blk b2 [iV 0, iV 0] 57, .blk b1 [u1.val, iV Aa.Relay, iV Aa.Most] 27] [(1, U), (2, .func (.func 59) #[] #[.pointer (some ⟨Bl, 0, none⟩)]), (3, .pointer (some ⟨b1, 0, none⟩)), (6, .pointer (some ⟨b2, 0, none⟩)), (7, .pointer (some ⟨b3, 0, none⟩)), (11, U), (12, iV (Ae.length : Int)), (13, iV (i1 : Int)), (14, bV (decide ((i1 : Int) < (Ae.length : Int))))] [true, true, true] rfl (subR rfl)
   refine Tn (Fs (wp_cond_true ((S.tm rfl).trans (congrArg Value.bool (rng_cons hd1 hi1))) (wp_skip (Tn (Fs ?_)))))
   obtain ⟨j2, hj2, h⟩ := joinE h
   refine f_join (fun a w' => ∃ x3 : Int, ∃ x4 : Int, j2 x3 x4 = some r ∧ Sx w [] nov [.blk b3 [iV x3, iV x4] 57, .blk b2 [iV 0, iV 0] 57, .blk b1 [u1.val, iV Aa.Relay, iV Aa.Most] 27] [(1, U), (2, .func (.func 59) #[] #[.pointer (some ⟨Bl, 0, none⟩)]), (3, .pointer (some ⟨b1, 0, none⟩)), (6, .pointer (some ⟨b2, 0, none⟩)), (7, .pointer (some ⟨b3, 0, none⟩)), (11, U), (12, iV (Ae.length : Int)), (13, iV (i1 : Int))] 32 a w') ?_ ?_
   ·refine wp_block (Fs (Fg ?_))
    obtain ⟨b4, o1, hm1, hr1⟩ := rn_indexT (a := a) (x := .tmp 11) (y := .tmp 13) (ty := 0) sl_29 Ag (get_mid hd1 hi1) rfl (S.tm rfl) (S.tm rfl)
    refine lv S (hr1 _) rfl ?_;clear S;intro a S
    clear hr1
    refine lv S (rn_ldA Tryz.isAgg52 Tryz.sizeOf52 (off := o1) (o := 0) (part := (GScored.enc y1)) rfl rfl (S.tm rfl) (hm1.at S.emb0)) rfl ?_;clear S;intro a S
    refine l_alloc S Tryz.zeroValue52 (cs := [sV k_empty, sV k_empty, sV k_empty, iV 0, bV false]) rfl rfl ?_;clear S;intro a w8 b5 hz4 hk5 S
    refine l_store S (S.tm rfl) (S.tm rfl) (i := 0) (off := 0) rfl Tryz.sizeOf52 (vs := (GScored.enc y1)) rfl rfl rfl rfl ?_;clear S;intro w9 hk6 S
    refine Ld (Tn (Fs (Fg (lv S (rn_ldA Tryz.isAgg52 Tryz.sizeOf52 (off := 0) (o := 0) (part := (GScored.enc y1)) rfl rfl (S.tm rfl) (S.cellsAt (i := 0) rfl)) rfl ?_))));clear S;intro a S
    refine l_enter S (fun _ => run_call (vs := [.agg (GScored.enc y1).toArray]) ⟨(S.tm rfl), trivial⟩ Tryz.call77) (tumbref2_counted_ok _ y1 _ rfl) rfl ?_;clear S;intro v1 a w10 hv1 hk7 hn1 S
    subst hv1
    refine lv S (Rm (S.tm rfl)) rfl ?_;clear S;intro a S
    refine f_cutm 4 (fun a w' => Keep [] w10 w' ∧ Sx w [] nov [.blk b5 (GScored.enc y1) 52, .blk b3 [iV x1, iV x2] 57, .blk b2 [iV 0, iV 0] 57, .blk b1 [u1.val, iV Aa.Relay, iV Aa.Most] 27] [(1, U), (2, .func (.func 59) #[] #[.pointer (some ⟨Bl, 0, none⟩)]), (3, .pointer (some ⟨b1, 0, none⟩)), (6, .pointer (some ⟨b2, 0, none⟩)), (7, .pointer (some ⟨b3, 0, none⟩)), (9, .pointer (some ⟨b5, 0, none⟩)), (11, U), (12, iV (Ae.length : Int)), (13, iV (i1 : Int)), (23, bV ((tumbref2_counted y1) && (tumbref2_ClubSums_c1_c1 y1 Cs)))] 32 a w') ?_ ?_
    ·rcases Bool.eq_false_or_eq_true (tumbref2_counted y1) with hb1 | hb1
     ·refine l_want S rfl rfl rfl hb1 (lv S (Rm (S.tm rfl)) rfl ?_);clear S;intro a S
      refine l_want S rfl rfl rfl hb1 (lv S (rn_ldA Tryz.isAgg52 Tryz.sizeOf52 (off := 0) (o := 0) (part := (GScored.enc y1)) rfl rfl (S.tm rfl) (S.cellsAt (i := 0) rfl)) rfl ?_);clear S;intro a S
      refine l_want S rfl rfl rfl hb1 (l_enter S (fun _ => run_callV (cap := [.pointer (some ⟨Bl, 0, none⟩)]) (S.tm rfl) (vs := [.agg (GScored.enc y1).toArray]) ⟨(S.tm rfl), trivial⟩ Tryz.call59) (tumbref2_ClubSums_c1_c1_ok _ y1 Bl Cs ((S.le_arg nil_sub) _ _ Df) _ rfl) rfl ?_);clear S;intro v2 a w12 hv2 hk8 hn2 S
      subst hv2
      refine lv S (rn_and_t hb1 (S.tm rfl) (S.tm rfl)) rfl ?_;clear S;intro a S
      refine Ld (Tn ?_)
      exact ⟨hk8, S.nf [true, true, true, true] rfl (subR rfl)⟩
     ·iterate 3 (refine l_skip S rfl rfl rfl (neq_f hb1) rfl ?_ rfl;clear S;intro a S)
      refine lv S (rn_and_f (tumbref2_ClubSums_c1_c1 y1 Cs) hb1 (S.tm rfl) rfl) rfl ?_;clear S;intro a S
      refine Ld (Tn ?_)
      exact ⟨Keep.refl _ _, S.nf [true, true, true, true] rfl (subR rfl)⟩
    clear S; rintro a w11 ⟨hk9, S⟩
    refine Ld (Tn ?_)
    obtain ⟨j3, hj3, h⟩ := joinE h
    refine f_join (fun a w' => ∃ x5 : Int, ∃ x6 : Int, j3 x5 x6 = some r ∧ Sx w [] nov [.blk b3 [iV x5, iV x6] 57, .blk b2 [iV 0, iV 0] 57, .blk b1 [u1.val, iV Aa.Relay, iV Aa.Most] 27] [(1, U), (2, .func (.func 59) #[] #[.pointer (some ⟨Bl, 0, none⟩)]), (3, .pointer (some ⟨b1, 0, none⟩)), (6, .pointer (some ⟨b2, 0, none⟩)), (7, .pointer (some ⟨b3, 0, none⟩)), (11, U), (12, iV (Ae.length : Int)), (13, iV (i1 : Int))] 32 a w') ?_ ?_
    ·refine f_cond (S.tm rfl) (fun hb2 => ?_) (fun hb2 => ?_)
     ·replace h := iteT h hb2
      obtain ⟨r1, hr2, h⟩ := bindE h
      obtain ⟨r2, hr3, h⟩ := bindE h
      refine d_region [6] ([]) Tryz.mixed S rfl (by kernel_rfl) ?_;clear S;intro w17 hk13 hsel S
      refine d_quiet 0 S hsel rfl (by kernel_rfl) (by kernel_rfl) (by kernel_rfl) (by kernel_rfl) rfl (fun _ hw => (rn_ldA Tryz.isAgg57 Tryz.sizeOf57 (off := 0) (o := 0) (part := [iV x1, iV x2]) rfl rfl (S.tm rfl) ((S.blk_mem (i := 1) (cells := [iV x1, iV x2]) (b := b3) (T := 57) rfl (ne_nil (e' := .blk b3 [iV x1, iV x2] 57))).kept hw))) ?_;clear S;intro a S
      refine d_quiet 1 S hsel rfl (by kernel_rfl) (by kernel_rfl) (by kernel_rfl) (by kernel_rfl) rfl (fun _ hw => (rn_ldA Tryz.isAgg27 Tryz.sizeOf27 (off := 0) (o := 0) (part := [u1.val, iV Aa.Relay, iV Aa.Most]) rfl rfl (S.tm rfl) ((S.blk_mem (i := 3) (cells := [u1.val, iV Aa.Relay, iV Aa.Most]) (b := b1) (T := 27) rfl (ne_nil (e' := .blk b1 [u1.val, iV Aa.Relay, iV Aa.Most] 27))).kept hw))) ?_;clear S;intro a S
      refine d_pure 2 S hsel rfl rfl (by kernel_rfl) (by kernel_rfl) rfl (fun _ => (Rm (S.tm rfl))) ?_;clear S;intro a S
      refine d_quiet 3 S hsel rfl (by kernel_rfl) (by kernel_rfl) (by kernel_rfl) (by kernel_rfl) rfl (fun _ hw => (rn_ldA Tryz.isAgg52 Tryz.sizeOf52 (off := 0) (o := 0) (part := (GScored.enc y1)) rfl rfl (S.tm rfl) ((S.blk_mem (i := 0) (cells := (GScored.enc y1)) (b := b5) (T := 52) rfl (ne_nil (e' := .blk b5 (GScored.enc y1) 52))).kept hw))) ?_;clear S;intro a S
      refine d_loud1 4 (by kernel_rfl) rfl (l_enter S (fun _ => run_call (vs := [.agg (R27.enc (R27.mk u1 Aa.Relay Aa.Most)).toArray, U, .agg (GScored.enc y1).toArray]) ⟨(S.tm rfl), (S.tm rfl), (S.tm rfl), trivial⟩ Tryz.call78) (tumbref2_shareOf_ok _ Aa (R27.mk u1 Aa.Relay Aa.Most) ⟨u1, rfl, (hs1.mono (S.le_arg nil_sub))⟩ U Ae (Ag.mono (S.le_arg nil_sub)) y1 _ hr2) rfl ?_);clear S;intro v5 a w18 hv5 hk14 hn5 S
      subst hv5
      refine Ld (d_next hk14 (d_loud1 5 (by kernel_rfl) rfl (l_enter S (fun _ => run_call (vs := [.agg (GFraction.enc (GFraction.mk x1 x2)).toArray, .agg (GFraction.enc r1).toArray]) ⟨(S.tm rfl), (S.tm rfl), trivial⟩ Tryz.call39) (tumbref2_plus_ok _ (GFraction.mk x1 x2) r1 _ hr3) rfl ?_)));clear S;intro v6 a w19 hv6 hk15 hn6 S
      subst hv6
      refine Ld (d_next hk15 (d_loudB 6 ([b3]) rfl (by kernel_rfl) rfl (l_store S (S.tm rfl) (S.tm rfl) (i := 1) (off := 0) rfl Tryz.sizeOf57 (vs := (GFraction.enc r2)) rfl rfl rfl rfl ?_)));clear S;intro w20 hk16 S
      refine Ld (d_nextB (d_end (by kernel_rfl) ?_))
      clear hsel
      replace S := S.nk [.blk b3 (GFraction.enc r2) 57, .blk b2 [iV 0, iV 0] 57, .blk b1 [u1.val, iV Aa.Relay, iV Aa.Most] 27] [(1, U), (2, .func (.func 59) #[] #[.pointer (some ⟨Bl, 0, none⟩)]), (3, .pointer (some ⟨b1, 0, none⟩)), (6, .pointer (some ⟨b2, 0, none⟩)), (7, .pointer (some ⟨b3, 0, none⟩)), (11, U), (12, iV (Ae.length : Int)), (13, iV (i1 : Int))] [false, true, true, true] rfl (subR rfl)
      refine Tn ?_
      exact ⟨r2.Num, r2.Den, h, S.nf [true, true, true] rfl (subR rfl)⟩
     ·replace h := iteF h hb2
      refine wp_skip (Tn ?_)
      exact ⟨x1, x2, h, S.nf [false, true, true, true] rfl (subR rfl)⟩
    clear S h; rintro a w13 ⟨x5, x6, h, S⟩; rw [hj3] at h; clear hj3 j3
    refine blk_n (Tn ?_)
    exact ⟨x5, x6, h, S.nf [true, true, true] rfl (subR rfl)⟩
   clear S h; rintro a w7 ⟨x3, x4, h, S⟩; rw [hj2] at h; clear hj2 j2
   refine Tn (Fg (lv S (rn_add (S.tm rfl) rfl) rfl ?_));clear S;intro a S
   refine lv S (Rm (S.tm rfl)) rfl ?_;clear S;intro a S
   refine Ld (Tn ?_)
   exact ⟨ys1, ⟨i1 + 1, x3, x4, ⟨_, (hd1).trans (List.append_cons _ _ _), by simp [hi1]⟩, h, S.nf [true, true, true] rfl ⟨rfl, rfl, rfl, rfl, rfl, rfl, rfl, (congrArg (fun z => some (Value.int .i64 z)) (rng_next hd1 hi1 (slc_max Ag))), trivial⟩⟩, Nat.lt_succ_self _⟩
 clear S h; rintro a w6 ⟨x1, x2, h, S⟩; rw [hj1] at h; clear hj1 j1
 refine Tn (Fs (Fg (lv S (rn_ldA Tryz.isAgg57 Tryz.sizeOf57 (off := 0) (o := 0) (part := [iV x1, iV x2]) rfl rfl (S.tm rfl) (S.cellsAt (i := 0) rfl)) rfl ?_)));clear S;intro a S
 refine l_store S (S.tm rfl) (S.tm rfl) (i := 1) (off := 0) rfl Tryz.sizeOf57 (vs := [iV x1, iV x2]) rfl rfl rfl rfl ?_;clear S;intro w21 hk17 S
 refine Ld (Tn (wp_ret ?_))
 obtain rfl := Option.some.inj h
 exact f_retG S (rs := [.cell 6 57]) (vs := [.agg #[iV x1, iV x2]]) Tryz.results58 ⟨(res_cell (off := 0) S rfl Tryz.isAgg57 Tryz.sizeOf57 rfl (S.cellsAt (i := 1) rfl)), trivial⟩ rfl rfl
theorem tumbref2_ClubSums_c1_ok (w : World) (Ct : ByteArray) (Bh : Nat) (Bp : Value) (Cr : List Int) (Bz : Slc (view w []) 1 Bp (Cr.map eInt)) (Ca : Int) (Cg : Int) (Bn : (view w []) Bh = some (.cells [Bp, iV Ca, iV Cg].toArray 27 (0, 0))) (By : Nat) (Dc : Value) (Bw : List GScored) (Do : Slc (view w []) 5 Dc (Bw.map GScored.enc)) (Cf : (view w []) By = some (.cells [Dc].toArray 29 (0, 0))) (r : GFraction) (h : tumbref2_ClubSums_c1 Ct Cr Ca Cg Bw = some r) :
    Calls Tryz.prog 57 [sV Ct, .pointer (some ⟨Bh, 0, none⟩), .pointer (some ⟨By, 0, none⟩)].toArray w (Ret w [] fun _ v _ => v = .agg (GFraction.enc r).toArray) := by
 refine f_enter [] [] Tryz.func57 rfl Tryz.ntmps57 rfl (by simp) (by simp [fps]) (by simp [fps]) fun a S => ?_
 unfold tumbref2_ClubSums_c1 at h
 replace S := S.nk [] [(0, sV Ct), (1, .pointer (some ⟨Bh, 0, none⟩)), (2, .pointer (some ⟨By, 0, none⟩))] [] rfl (subR rfl)
 refine Fs (Fg (l_box S (S.tm rfl) (cs := [sV Ct]) rfl rfl ?_));clear S;intro a w1 b1 hz1 hk1 S
 refine l_alloc S Tryz.zeroValue57 (cs := [iV 0, iV 0]) rfl rfl ?_;clear S;intro a w2 b2 hz2 hk2 S
 refine Ld (Tn (Fs (Fg (lv S (rn_ldA Tryz.isAgg27 Tryz.sizeOf27 (off := 0) (o := 0) (part := [Bp, iV Ca, iV Cg]) rfl rfl (S.tm rfl) ((mem_blk Bn).at S.emb0)) rfl ?_))));clear S;intro a S
 refine lv S (rn_ld Tryz.isAgg29 (off := 0) (o := 0) (S.tm rfl) ((mem_blk Cf).at S.emb0) rfl) rfl ?_;clear S;intro a S
 refine lv S (rn_makeFunc (us := #[]) (xs := [].toArray) (ys := [.tmp 3].toArray) (by simp) (evA ⟨(S.tm rfl), trivial⟩ (vs := [.pointer (some ⟨b1, 0, none⟩)]))) rfl ?_;clear S;intro a S
 obtain ⟨r1, hr1, h⟩ := bindE h
 refine l_enter S (fun _ => run_call (vs := [.agg (R27.enc (R27.mk ⟨Bp, SlcLen.one (slc_len Bz)⟩ Ca Cg)).toArray, Dc, .func (.func 59) #[] #[.pointer (some ⟨b1, 0, none⟩)]]) ⟨(S.tm rfl), (S.tm rfl), (S.tm rfl), trivial⟩ Tryz.call58) (tumbref2_sumOf_tumbref2_ClubSums_c1_c1_ok _ (GTable.mk Cr Ca Cg) (R27.mk ⟨Bp, SlcLen.one (slc_len Bz)⟩ Ca Cg) ⟨⟨Bp, SlcLen.one (slc_len Bz)⟩, rfl, (Bz.mono (S.le_arg nil_sub))⟩ Dc Bw (Do.mono (S.le_arg nil_sub)) b1 Ct (S.blk_view (i := 1) rfl ((ne_nil (e' := .blk b1 [sV Ct] 9)) _ rfl)) _ hr1) rfl ?_;clear S;intro v1 a w3 hv1 hk3 hn1 S
 subst hv1
 refine l_store S (S.tm rfl) (S.tm rfl) (i := 0) (off := 0) rfl Tryz.sizeOf57 (vs := (GFraction.enc r1)) rfl rfl rfl rfl ?_;clear S;intro w4 hk4 S
 refine Ld (Tn (wp_ret ?_))
 obtain rfl := Option.some.inj h
 exact f_retG S (rs := [.cell 4 57]) (vs := [.agg #[iV r1.Num, iV r1.Den]]) Tryz.results57 ⟨(res_cell (off := 0) S rfl Tryz.isAgg57 Tryz.sizeOf57 rfl (S.cellsAt (i := 0) rfl)), trivial⟩ rfl rfl
theorem tumbref2_sums_tumbref2_ClubSums_c1_ok (w : World) (Ay : Value) (Ch : List ByteArray) (Dj : (LEnt.own Ay 9 1 Ch.length (Ch.flatMap eStr)).holds w) (Bq : Nat) (Ci : Value) (Cd : List Int) (Da : Slc (view w (Ay.ownBlock.toList)) 1 Ci (Cd.map eInt)) (Cj : Int) (Cm : Int) (Dg : (view w (Ay.ownBlock.toList)) Bq = some (.cells [Ci, iV Cj, iV Cm].toArray 27 (0, 0))) (Br : Nat) (Db : Value) (Dd : List GScored) (Dm : Slc (view w (Ay.ownBlock.toList)) 5 Db (Dd.map GScored.enc)) (Dh : (view w (Ay.ownBlock.toList)) Br = some (.cells [Db].toArray 29 (0, 0))) (r : (List GGiven)) (h : tumbref2_sums_tumbref2_ClubSums_c1 Ch Cd Cj Cm Dd = some r) :
    Calls Tryz.prog 56 [Ay, .func (.func 57) #[] #[.pointer (some ⟨Bq, 0, none⟩), .pointer (some ⟨Br, 0, none⟩)]].toArray w (Ret w (Ay.ownBlock.toList) fun τ v _ => OwnV τ 63 3 v r.length (r.flatMap GGiven.enc)) := by
 refine f_enter (Ay.ownBlock.toList) [.own Ay 9 1 Ch.length (Ch.flatMap eStr)] Tryz.func56 rfl Tryz.ntmps56 rfl (fun e he => by simp only [List.mem_singleton] at he; subst he; exact Dj) (fps_one_nodup _) (fps_one_sub _) fun a S => ?_
 unfold tumbref2_sums_tumbref2_ClubSums_c1 at h
 replace S := S.nk [.own Ay 9 1 Ch.length (Ch.flatMap eStr)] [(0, Ay), (1, .func (.func 57) #[] #[.pointer (some ⟨Bq, 0, none⟩), .pointer (some ⟨Br, 0, none⟩)])] [true] rfl (subR rfl)
 refine Fs (Fg (lv S (Ra rfl) rfl ?_));clear S;intro a S
 refine Ld (Tn (Fs (Fg (lv S (Rm (S.tm rfl)) rfl ?_))));clear S;intro a S
 obtain ⟨r1, hr1, h⟩ := bindE h
 refine l_enterO 0 S rfl (fun _ => .own Ay 9 1 r1.length (r1.flatMap eStr)) (fun _ => run_call (vs := [Ay]) ⟨(S.tm rfl), trivial⟩ Tryz.call75) (slices_Sort_string_ok _ Ay Ch (S.holds _ (List.mem_of_getElem? (i := 0) rfl)) _ hr1) rfl (fun _ _ _ h => ⟨h.1, fun _ hc => hc⟩) ?_;clear S;intro v1 a w1 hv1 hk1 hn1 S
 replace hv1 := hv1.2
 subst hv1
 refine Ld (Tn (Fs (Fg (lv S (Ra rfl) rfl ?_))));clear S;intro a S
 replace S := S.nil 63 3
 refine Ld (Tn (Fs (Fs (Fg (lv S (Rm (S.tm rfl)) rfl ?_)))));clear S;intro a S
 obtain ⟨r2, hr2, h⟩ := bindE h
 have hz1 := S.keep.size
 refine l_enterO 1 S rfl (fun v2 => .own v2 9 1 r2.length (r2.flatMap eStr)) (fun _ => run_call (vs := [Ay]) ⟨(S.tm rfl), trivial⟩ Tryz.call76) (slices_Compact_string_ok _ Ay r1 (S.holds _ (List.mem_of_getElem? (i := 1) rfl)) _ hr2) rfl (fun _ _ _ h => ⟨h.1, fun _ hc => h.2.symm.trans hc⟩) ?_;clear S;intro v2 a w2 hv2 hk2 hn2 S
 replace hv2 := hv2.2
 refine lv S (rn_lenT sl_35 (S.tm rfl) (own_len (S.own_at (i := 1) rfl))) rfl ?_;clear S;intro a S
 refine lv S (Rm rfl) rfl ?_;clear S;intro a S
 refine Ld (Tn ?_)
 replace S := S.nk [.own (.slice none 0 0) 63 3 ([] : List GGiven).length (([] : List GGiven).flatMap GGiven.enc), .own v2 9 1 r2.length (r2.flatMap eStr)] [(1, .func (.func 57) #[] #[.pointer (some ⟨Bq, 0, none⟩), .pointer (some ⟨Br, 0, none⟩)]), (5, (.slice none 0 0)), (11, v2), (12, iV (r2.length : Int)), (13, iV 0)] [true, true] rfl (subR rfl)
 have hm1 := own_max (S.own_at (i := 1) rfl)
 obtain ⟨j1, hj1, h⟩ := joinE h
 refine f_join (fun a w' => ∃ x1 : List GGiven, ∃ v3 : Value, j1 x1 = some r ∧ Sx w (Ay.ownBlock.toList) nov [.own v3 63 3 x1.length (x1.flatMap GGiven.enc), .own v2 9 1 r2.length (r2.flatMap eStr)] [(5, v3)] 27 a w') ?_ ?_
 ·refine wp_block (f_loop (fun (ys1 : List ByteArray) a w' => ∃ i1 : Nat, ∃ x1 : List GGiven, ∃ v3 : Value, (∃ dn, r2 = dn ++ ys1 ∧ dn.length = i1) ∧ tumbref2_sums_tumbref2_ClubSums_c1_l1 Cd Cj Cm Dd j1 ys1 i1 x1 = some r ∧ Sx w (Ay.ownBlock.toList) nov [.own v3 63 3 x1.length (x1.flatMap GGiven.enc), .own v2 9 1 r2.length (r2.flatMap eStr)] [(1, .func (.func 57) #[] #[.pointer (some ⟨Bq, 0, none⟩), .pointer (some ⟨Br, 0, none⟩)]), (5, v3), (11, v2), (12, iV (r2.length : Int)), (13, iV (i1 : Int))] 27 a w') List.length r2 ⟨0, ([] : List GGiven), (.slice none 0 0), ⟨[], rfl, rfl⟩, h, S.nf [true, true] rfl (subR rfl)⟩ ?_)
  clear S h; rintro ys1 a w3 ⟨i1, x1, v3, ⟨dn, hd1, hi1⟩, h, S⟩
  cases ys1 with
  | nil =>
   rw [tumbref2_sums_tumbref2_ClubSums_c1_l1.eq_1] at h
   refine Fs (Fg (lv S (rn_lss (S.tm rfl) (S.tm rfl)) rfl ?_));clear S;intro a S
   refine Ld ?_
   replace S := S.nk [.own v3 63 3 x1.length (x1.flatMap GGiven.enc), .own v2 9 1 r2.length (r2.flatMap eStr)] [(1, .func (.func 57) #[] #[.pointer (some ⟨Bq, 0, none⟩), .pointer (some ⟨Br, 0, none⟩)]), (5, v3), (11, v2), (12, iV (r2.length : Int)), (13, iV (i1 : Int)), (14, bV (decide ((i1 : Int) < (r2.length : Int))))] [true, true] rfl (subR rfl)
   refine Tn (Fs (wp_cond_false ((S.tm rfl).trans (congrArg Value.bool (rng_nil hd1 hi1))) (wp_exit (then_x (then_x (x_same ?_))))))
   refine Tn ?_
   exact ⟨x1, v3, h, S.nf [true, true] rfl ⟨rfl, trivial⟩⟩
  | cons y1 ys1 =>
   rw [tumbref2_sums_tumbref2_ClubSums_c1_l1.eq_2] at h
   refine Fs (Fg (lv S (rn_lss (S.tm rfl) (S.tm rfl)) rfl ?_));clear S;intro a S
   refine Ld ?_
   replace S := S.nk [.own v3 63 3 x1.length (x1.flatMap GGiven.enc), .own v2 9 1 r2.length (r2.flatMap eStr)] [(1, .func (.func 57) #[] #[.pointer (some ⟨Bq, 0, none⟩), .pointer (some ⟨Br, 0, none⟩)]), (5, v3), (11, v2), (12, iV (r2.length : Int)), (13, iV (i1 : Int)), (14, bV (decide ((i1 : Int) < (r2.length : Int))))] [true, true] rfl (subR rfl)
   refine Tn (Fs (wp_cond_true ((S.tm rfl).trans (congrArg Value.bool (rng_cons hd1 hi1))) (wp_skip (Tn (Fs (wp_block ?_))))))
   refine Fs (Fg ?_)
   obtain ⟨b1, hg1, hr3⟩ := rn_indexS (a := a) (x := .tmp 11) (y := .tmp 13) (ty := 0) sl_35 enc_str S (i := 1) rfl (get_mid hd1 hi1) rfl (S.tm rfl) (S.tm rfl)
   refine lv S (hr3 _) rfl ?_;clear S;intro a S
   clear hr3
   refine lv S (rn_ld Tryz.isAgg9 (off := i1 * 1) (o := 0) (S.tm rfl) (own_cells enc_str S (i := 1) rfl hg1 (get_mid hd1 hi1)) rfl) rfl ?_;clear S;intro a S
   refine lv S (Ra (S.tm rfl)) rfl ?_;clear S;intro a S
   refine Ld (Tn (Fg (lv S (Rm (S.tm rfl)) rfl ?_)));clear S;intro a S
   iterate 3 (refine lv S (Rm (S.tm rfl)) rfl ?_;clear S;intro a S)
   obtain ⟨r3, hr4, h⟩ := bindE h
   refine l_enter S (fun _ => run_callV (cap := [.pointer (some ⟨Bq, 0, none⟩), .pointer (some ⟨Br, 0, none⟩)]) (S.tm rfl) (vs := [sV y1]) ⟨(S.tm rfl), trivial⟩ Tryz.call57) (tumbref2_ClubSums_c1_ok _ y1 Bq Ci Cd (Da.mono (S.le_arg nil_sub)) Cj Cm ((S.le_arg nil_sub) _ _ Dg) Br Db Dd (Dm.mono (S.le_arg nil_sub)) ((S.le_arg nil_sub) _ _ Dh) _ hr4) rfl ?_;clear S;intro v4 a w5 hv3 hk3 hn3 S
   subst hv3
   refine lv S (rn_bld bt_63 (pv := [(0, sV y1), (1, .agg (GFraction.enc r3).toArray)]) ⟨rfl, (S.tm rfl), rfl, (S.tm rfl), trivial⟩ (cs := [sV y1, iV r3.Num, iV r3.Den]) (by kernel_rfl)) rfl ?_;clear S;intro a S
   refine l_buildSlice S Tryz.underlying58 Tryz.sizeOf63 Tryz.zeroValue63 rfl rfl (pv := [(0, .agg #[sV y1, iV r3.Num, iV r3.Den])]) ⟨rfl, (S.tm rfl), trivial⟩ (cs := [sV y1, iV r3.Num, iV r3.Den]) (by kernel_rfl) rfl ?_;clear S;intro a w6 b2 hz2 hk4 S
   obtain ⟨hc1, h⟩ := chkE h
   refine l_appendT sl_58 GGiven.enc_ok S (S.tm rfl) (i := 1) rfl (S.tm rfl) (j := 0) rfl (ys := [(GGiven.mk y1 r3)]) rfl rfl rfl rfl (by have := room_lt hc1; omega) rfl ?_;clear S;intro v5 a w7 hk5 S
   refine lv S (Ra (S.tm rfl)) rfl ?_;clear S;intro a S
   refine Ld ?_
   replace S := S.nk [.own v5 63 3 (x1 ++ [(GGiven.mk y1 r3)]).length ((x1 ++ [(GGiven.mk y1 r3)]).flatMap GGiven.enc), .own v2 9 1 r2.length (r2.flatMap eStr)] [(1, .func (.func 57) #[] #[.pointer (some ⟨Bq, 0, none⟩), .pointer (some ⟨Br, 0, none⟩)]), (5, v5), (11, v2), (12, iV (r2.length : Int)), (13, iV (i1 : Int))] [false, true, true] rfl (subR rfl)
   refine blk_n (Tn (Fg (lv S (rn_add (S.tm rfl) rfl) rfl ?_)));clear S;intro a S
   refine lv S (Rm (S.tm rfl)) rfl ?_;clear S;intro a S
   refine Ld (Tn ?_)
   exact ⟨ys1, ⟨i1 + 1, (x1 ++ [(GGiven.mk y1 r3)]), v5, ⟨_, (hd1).trans (List.append_cons _ _ _), by simp [hi1]⟩, h, S.nf [true, true] rfl ⟨rfl, rfl, rfl, rfl, (congrArg (fun z => some (Value.int .i64 z)) (rng_next hd1 hi1 hm1)), trivial⟩⟩, Nat.lt_succ_self _⟩
 clear S h; rintro a w4 ⟨x1, v3, h, S⟩; rw [hj1] at h; clear hj1 j1
 refine Tn (Fs (Fg (lv S (Rm (S.tm rfl)) rfl ?_)));clear S;intro a S
 refine lv S (Ra (S.tm rfl)) rfl ?_;clear S;intro a S
 refine Ld (Tn (wp_ret ?_))
 obtain rfl := Option.some.inj h
 exact f_ret S Tryz.results56 rfl (own_retX S (i := 0) rfl (fun c hc hh => ne_fp (i := 1) (j := 0) S rfl rfl rfl c hh (by rw [← hv2] at hc; exact hc)))
theorem tumbref2_ClubSums_ok (w : World) (Aa : GTable) (Av : R27) (Ba : rel_27 (view w []) Aa Av) (U : Value) (Ae : List GScored) (Ag : Slc (view w []) 5 U (Ae.map GScored.enc)) (r : (List GGiven)) (h : tumbref2_ClubSums Aa Ae = some r) :
    Calls Tryz.prog 38 [.agg (R27.enc Av).toArray, U].toArray w (Ret w [] fun τ v _ => OwnV τ 63 3 v r.length (r.flatMap GGiven.enc)) := by
 obtain ⟨u1, rfl, hs1⟩ := Ba
 refine f_enter [] [] Tryz.func38 rfl Tryz.ntmps38 rfl (by simp) (by simp [fps]) (by simp [fps]) fun a S => ?_
 unfold tumbref2_ClubSums at h
 replace S := S.nk [] [(0, .agg #[u1.val, iV Aa.Relay, iV Aa.Most]), (1, U)] [] rfl (subR rfl)
 refine Fs (Fg (l_box S (S.tm rfl) (cs := [u1.val, iV Aa.Relay, iV Aa.Most]) rfl rfl ?_));clear S;intro a w1 b1 hz1 hk1 S
 refine l_box S (S.tm rfl) (cs := [U]) (SlcLen.cells (slc_len Ag)) rfl ?_;clear S;intro a w2 b2 hz2 hk2 S
 refine lv S (Ra rfl) rfl ?_;clear S;intro a S
 refine Ld (Tn (Fs (Fg (lv S (Ra rfl) rfl ?_))));clear S;intro a S
 replace S := S.nil 9 1
 refine Ld (Tn (Fs (Fs (Fg (lv S (rn_load Tryz.isAgg29 (S.tm rfl) (S.cell (i := 1) rfl rfl)) rfl ?_)))));clear S;intro a S
 refine lv S (rn_lenT sl_29 (S.tm rfl) (slc_len Ag)) rfl ?_;clear S;intro a S
 refine lv S (Rm rfl) rfl ?_;clear S;intro a S
 refine Ld (Tn ?_)
 replace S := S.nk [.own (.slice none 0 0) 9 1 ([] : List ByteArray).length (([] : List ByteArray).flatMap eStr), .blk b2 [U] 29, .blk b1 [u1.val, iV Aa.Relay, iV Aa.Most] 27] [(2, .pointer (some ⟨b1, 0, none⟩)), (3, .pointer (some ⟨b2, 0, none⟩)), (5, (.slice none 0 0)), (8, U), (9, iV (Ae.length : Int)), (10, iV 0)] [true, true, true] rfl (subR rfl)
 obtain ⟨j1, hj1, h⟩ := joinE h
 refine f_join (fun a w' => ∃ x1 : List ByteArray, ∃ v1 : Value, j1 x1 = some r ∧ Sx w [] nov [.own v1 9 1 x1.length (x1.flatMap eStr), .blk b2 [U] 29, .blk b1 [u1.val, iV Aa.Relay, iV Aa.Most] 27] [(2, .pointer (some ⟨b1, 0, none⟩)), (3, .pointer (some ⟨b2, 0, none⟩)), (5, v1)] 26 a w') ?_ ?_
 ·refine wp_block (f_loop (fun (ys1 : List GScored) a w' => ∃ i1 : Nat, ∃ x1 : List ByteArray, ∃ v1 : Value, (∃ dn, Ae = dn ++ ys1 ∧ dn.length = i1) ∧ tumbref2_ClubSums_l1 j1 ys1 i1 x1 = some r ∧ Sx w [] nov [.own v1 9 1 x1.length (x1.flatMap eStr), .blk b2 [U] 29, .blk b1 [u1.val, iV Aa.Relay, iV Aa.Most] 27] [(2, .pointer (some ⟨b1, 0, none⟩)), (3, .pointer (some ⟨b2, 0, none⟩)), (5, v1), (8, U), (9, iV (Ae.length : Int)), (10, iV (i1 : Int))] 26 a w') List.length Ae ⟨0, ([] : List ByteArray), (.slice none 0 0), ⟨[], rfl, rfl⟩, h, S.nf [true, true, true] rfl (subR rfl)⟩ ?_)
  clear S h; rintro ys1 a w3 ⟨i1, x1, v1, ⟨dn, hd1, hi1⟩, h, S⟩
  cases ys1 with
  | nil =>
   rw [tumbref2_ClubSums_l1.eq_1] at h
   refine Fs (Fg (lv S (rn_lss (S.tm rfl) (S.tm rfl)) rfl ?_));clear S;intro a S
   refine Ld ?_
   replace S := S.nk [.own v1 9 1 x1.length (x1.flatMap eStr), .blk b2 [U] 29, .blk b1 [u1.val, iV Aa.Relay, iV Aa.Most] 27] [(2, .pointer (some ⟨b1, 0, none⟩)), (3, .pointer (some ⟨b2, 0, none⟩)), (5, v1), (8, U), (9, iV (Ae.length : Int)), (10, iV (i1 : Int)), (11, bV (decide ((i1 : Int) < (Ae.length : Int))))] [true, true, true] rfl (subR rfl)
   refine Tn (Fs (wp_cond_false ((S.tm rfl).trans (congrArg Value.bool (rng_nil hd1 hi1))) (wp_exit (then_x (then_x (x_same ?_))))))
   refine Tn ?_
   exact ⟨x1, v1, h, S.nf [true, true, true] rfl (subR rfl)⟩
  | cons y1 ys1 =>
   rw [tumbref2_ClubSums_l1.eq_2] at h
   refine Fs (Fg (lv S (rn_lss (S.tm rfl) (S.tm rfl)) rfl ?_));clear S;intro a S
   refine Ld ?_
   replace S := S.nk [.own v1 9 1 x1.length (x1.flatMap eStr), .blk b2 [U] 29, .blk b1 [u1.val, iV Aa.Relay, iV Aa.Most] 27] [(2, .pointer (some ⟨b1, 0, none⟩)), (3, .pointer (some ⟨b2, 0, none⟩)), (5, v1), (8, U), (9, iV (Ae.length : Int)), (10, iV (i1 : Int)), (11, bV (decide ((i1 : Int) < (Ae.length : Int))))] [true, true, true] rfl (subR rfl)
   refine Tn (Fs (wp_cond_true ((S.tm rfl).trans (congrArg Value.bool (rng_cons hd1 hi1))) (wp_skip (Tn (Fs ?_)))))
   obtain ⟨j2, hj2, h⟩ := joinE h
   refine f_join (fun a w' => ∃ x2 : List ByteArray, ∃ v2 : Value, j2 x2 = some r ∧ Sx w [] nov [.own v2 9 1 x2.length (x2.flatMap eStr), .blk b2 [U] 29, .blk b1 [u1.val, iV Aa.Relay, iV Aa.Most] 27] [(2, .pointer (some ⟨b1, 0, none⟩)), (3, .pointer (some ⟨b2, 0, none⟩)), (5, v2), (8, U), (9, iV (Ae.length : Int)), (10, iV (i1 : Int))] 26 a w') ?_ ?_
   ·refine wp_block (Fs (Fg ?_))
    obtain ⟨b3, o1, hm1, hr1⟩ := rn_indexT (a := a) (x := .tmp 8) (y := .tmp 10) (ty := 0) sl_29 Ag (get_mid hd1 hi1) rfl (S.tm rfl) (S.tm rfl)
    refine lv S (hr1 _) rfl ?_;clear S;intro a S
    clear hr1
    refine lv S (rn_ldA Tryz.isAgg52 Tryz.sizeOf52 (off := o1) (o := 0) (part := (GScored.enc y1)) rfl rfl (S.tm rfl) (hm1.at S.emb0)) rfl ?_;clear S;intro a S
    refine l_alloc S Tryz.zeroValue52 (cs := [sV k_empty, sV k_empty, sV k_empty, iV 0, bV false]) rfl rfl ?_;clear S;intro a w6 b4 hz3 hk3 S
    refine l_store S (S.tm rfl) (S.tm rfl) (i := 0) (off := 0) rfl Tryz.sizeOf52 (vs := (GScored.enc y1)) rfl rfl rfl rfl ?_;clear S;intro w7 hk4 S
    refine Ld (Tn (Fs (Fg (lv S (rn_fld fa_52_2 (S.tm rfl)) rfl ?_))));clear S;intro a S
    refine lv S (rn_load Tryz.isAgg9 (S.tm rfl) (S.cell (i := 0) rfl rfl)) rfl ?_;clear S;intro a S
    refine lv S (rn_sneq (S.tm rfl) rfl) rfl ?_;clear S;intro a S
    refine Ld (Tn ?_)
    obtain ⟨j3, hj3, h⟩ := joinE h
    refine f_join (fun a w' => ∃ x3 : List ByteArray, ∃ v3 : Value, j3 x3 = some r ∧ Sx w [] nov [.own v3 9 1 x3.length (x3.flatMap eStr), .blk b2 [U] 29, .blk b1 [u1.val, iV Aa.Relay, iV Aa.Most] 27] [(2, .pointer (some ⟨b1, 0, none⟩)), (3, .pointer (some ⟨b2, 0, none⟩)), (5, v3), (8, U), (9, iV (Ae.length : Int)), (10, iV (i1 : Int))] 26 a w') ?_ ?_
    ·refine f_cond (S.tm rfl) (fun hb1 => ?_) (fun hb1 => ?_)
     ·replace h := iteT h hb1
      refine Fg (lv S (Rm (S.tm rfl)) rfl ?_);clear S;intro a S
      refine lv S (rn_fld fa_52_2 (S.tm rfl)) rfl ?_;clear S;intro a S
      refine lv S (rn_load Tryz.isAgg9 (S.tm rfl) (S.cell (i := 0) rfl rfl)) rfl ?_;clear S;intro a S
      refine l_buildSlice S Tryz.underlying35 Tryz.sizeOf9 Tryz.zeroValue9 rfl rfl (pv := [(0, sV y1.Club)]) ⟨rfl, (S.tm rfl), trivial⟩ (cs := [sV y1.Club]) (by kernel_rfl) rfl ?_;clear S;intro a w9 b5 hz4 hk5 S
      obtain ⟨hc1, h⟩ := chkE h
      refine l_appendT sl_35 enc_str S (S.tm rfl) (i := 2) rfl (S.tm rfl) (j := 0) rfl (ys := [y1.Club]) rfl rfl rfl rfl (by have := room_lt hc1; omega) rfl ?_;clear S;intro v4 a w10 hk6 S
      refine lv S (Ra (S.tm rfl)) rfl ?_;clear S;intro a S
      refine Ld ?_
      replace S := S.nk [.own v4 9 1 (x1 ++ [y1.Club]).length ((x1 ++ [y1.Club]).flatMap eStr), .blk b2 [U] 29, .blk b1 [u1.val, iV Aa.Relay, iV Aa.Most] 27] [(2, .pointer (some ⟨b1, 0, none⟩)), (3, .pointer (some ⟨b2, 0, none⟩)), (5, v4), (8, U), (9, iV (Ae.length : Int)), (10, iV (i1 : Int))] [false, false, true, true, true] rfl (subR rfl)
      refine Tn ?_
      exact ⟨(x1 ++ [y1.Club]), v4, h, S.nf [true, true, true] rfl (subR rfl)⟩
     ·replace h := iteF h hb1
      refine wp_skip (Tn ?_)
      exact ⟨x1, v1, h, S.nf [false, true, true, true] rfl (subR rfl)⟩
    clear S h; rintro a w8 ⟨x3, v3, h, S⟩; rw [hj3] at h; clear hj3 j3
    refine blk_n (Tn ?_)
    exact ⟨x3, v3, h, S.nf [true, true, true] rfl (subR rfl)⟩
   clear S h; rintro a w5 ⟨x2, v2, h, S⟩; rw [hj2] at h; clear hj2 j2
   refine Tn (Fg (lv S (rn_add (S.tm rfl) rfl) rfl ?_));clear S;intro a S
   refine lv S (Rm (S.tm rfl)) rfl ?_;clear S;intro a S
   refine Ld (Tn ?_)
   exact ⟨ys1, ⟨i1 + 1, x2, v2, ⟨_, (hd1).trans (List.append_cons _ _ _), by simp [hi1]⟩, h, S.nf [true, true, true] rfl ⟨rfl, rfl, rfl, rfl, rfl, (congrArg (fun z => some (Value.int .i64 z)) (rng_next hd1 hi1 (slc_max Ag))), trivial⟩⟩, Nat.lt_succ_self _⟩
 clear S h; rintro a w4 ⟨x1, v1, h, S⟩; rw [hj1] at h; clear hj1 j1
 refine Tn (Fs (Fg (lv S (Rm (S.tm rfl)) rfl ?_)));clear S;intro a S
 refine lv S (rn_makeFunc (us := #[]) (xs := [].toArray) (ys := [.tmp 2, .tmp 3].toArray) (by simp) (evA ⟨(S.tm rfl), (S.tm rfl), trivial⟩ (vs := [.pointer (some ⟨b1, 0, none⟩), .pointer (some ⟨b2, 0, none⟩)]))) rfl ?_;clear S;intro a S
 obtain ⟨r1, hr2, h⟩ := bindE h
 have hz5 := S.keep.size
 refine l_enterO 0 S rfl (fun _ => .own (.slice none 0 0) 9 1 ([] : List ByteArray).length (([] : List ByteArray).flatMap eStr)) (fun _ => run_call (vs := [v1, .func (.func 57) #[] #[.pointer (some ⟨b1, 0, none⟩), .pointer (some ⟨b2, 0, none⟩)]]) ⟨(S.tm rfl), (S.tm rfl), trivial⟩ Tryz.call56) (tumbref2_sums_tumbref2_ClubSums_c1_ok _ v1 x1 (S.holds _ (List.mem_of_getElem? (i := 0) rfl)) b1 u1.val Aa.Points (hs1.mono (S.le_arg (fp_sub (i := 0) (e := .own v1 9 1 x1.length (x1.flatMap eStr)) rfl))) Aa.Relay Aa.Most (S.blk_view (i := 2) rfl ((ne_fp (i := 0) (j := 2) (e := .own v1 9 1 x1.length (x1.flatMap eStr)) (e' := .blk b1 [u1.val, iV Aa.Relay, iV Aa.Most] 27) S rfl rfl rfl) _ rfl)) b2 U Ae (Ag.mono (S.le_arg (fp_sub (i := 0) (e := .own v1 9 1 x1.length (x1.flatMap eStr)) rfl))) (S.blk_view (i := 1) rfl ((ne_fp (i := 0) (j := 1) (e := .own v1 9 1 x1.length (x1.flatMap eStr)) (e' := .blk b2 [U] 29) S rfl rfl rfl) _ rfl)) _ hr2) rfl (fun _ _ _ _ => ⟨own_nil, fun _ hc => by cases hc⟩) ?_;clear S;intro v5 a w11 hv1 hk7 hn1 S
 replace hn1 := hn1.setNil (T := 9) (k := 1) 0
 obtain ⟨φ1, hl1, hm2, S⟩ := S.see' hn1 hz5
 have hs2 := hv1.mono hm2
 refine lv S (Ra (S.tm rfl)) rfl ?_;clear S;intro a S
 refine Ld (Tn (wp_ret ?_))
 obtain rfl := Option.some.inj h
 exact f_ret S Tryz.results38 rfl ((hs2).mono S.le_newer)
theorem tumbref2_WinnersOf_c1_ok (w : World) (Cx : GGiven) (Bh : Nat) (Bo : GGiven) (Bn : (view w []) Bh = some (.cells [sV Bo.Key, iV Bo.Points.Num, iV Bo.Points.Den].toArray 63 (0, 0))) (By : Nat) (Bw : GFraction) (Cf : (view w []) By = some (.cells [iV Bw.Num, iV Bw.Den].toArray 57 (0, 0))) (r : Bool) (h : tumbref2_WinnersOf_c1 Cx Bo Bw = r) :
    Calls Tryz.prog 40 [.agg (GGiven.enc Cx).toArray, .pointer (some ⟨Bh, 0, none⟩), .pointer (some ⟨By, 0, none⟩)].toArray w (Ret w [] fun _ v _ => v = bV r) := by
 refine f_enter [] [] Tryz.func40 rfl Tryz.ntmps40 rfl (by simp) (by simp [fps]) (by simp [fps]) fun a S => ?_
 unfold tumbref2_WinnersOf_c1 at h
 replace S := S.nk [] [(0, .agg (GGiven.enc Cx).toArray), (1, .pointer (some ⟨Bh, 0, none⟩)), (2, .pointer (some ⟨By, 0, none⟩))] [] rfl (subR rfl)
 refine Fs (Fg (l_box S (S.tm rfl) (cs := (GGiven.enc Cx)) rfl rfl ?_));clear S;intro a w1 b1 hz1 hk1 S
 refine lv S (Ra rfl) rfl ?_;clear S;intro a S
 refine Ld (Tn (Fs (Fg (lv S (rn_fld fa_63_0 (S.tm rfl)) rfl ?_))));clear S;intro a S
 refine lv S (rn_load Tryz.isAgg9 (S.tm rfl) (S.cell (i := 0) rfl rfl)) rfl ?_;clear S;intro a S
 refine lv S (rn_fld fa_63_0 (S.tm rfl)) rfl ?_;clear S;intro a S
 refine lv S (rn_ld Tryz.isAgg9 (off := 0) (o := 0) (S.tm rfl) ((mem_blk Bn).at S.emb0) rfl) rfl ?_;clear S;intro a S
 refine lv S (rn_sneq (S.tm rfl) (S.tm rfl)) rfl ?_;clear S;intro a S
 refine lv S (Rm (S.tm rfl)) rfl ?_;clear S;intro a S
 refine f_cutm 14 (fun a w' => Keep [] w1 w' ∧ Sx w [] nov [.blk b1 (GGiven.enc Cx) 63] [(24, bV ((!decide (Cx.Key = Bo.Key)) && (decide ((W (Bw.Num * Cx.Points.Den)) < (W (Cx.Points.Num * Bw.Den))))))] 25 a w') ?_ ?_
 ·rcases Bool.eq_false_or_eq_true (!decide (Cx.Key = Bo.Key)) with hb1 | hb1
  ·refine l_want S rfl rfl rfl hb1 (lv S (rn_fld fa_63_1 (S.tm rfl)) rfl ?_);clear S;intro a S
   refine l_want S rfl rfl rfl hb1 (lv S (rn_fld fa_57_0 (S.tm rfl)) rfl ?_);clear S;intro a S
   refine l_want S rfl rfl rfl hb1 (lv S (rn_load Tryz.isAgg3 (S.tm rfl) (S.cell (i := 0) rfl rfl)) rfl ?_);clear S;intro a S
   refine l_want S rfl rfl rfl hb1 (lv S (rn_fld fa_57_1 (S.tm rfl)) rfl ?_);clear S;intro a S
   refine l_want S rfl rfl rfl hb1 (lv S (rn_ld Tryz.isAgg3 (off := 0) (o := 1) (S.tm rfl) ((mem_blk Cf).at S.emb0) rfl) rfl ?_);clear S;intro a S
   refine l_want S rfl rfl rfl hb1 (lv S (rn_mul (S.tm rfl) (S.tm rfl)) rfl ?_);clear S;intro a S
   refine l_want S rfl rfl rfl hb1 (lv S (rn_fld fa_57_0 (S.tm rfl)) rfl ?_);clear S;intro a S
   refine l_want S rfl rfl rfl hb1 (lv S (rn_ld Tryz.isAgg3 (off := 0) (o := 0) (S.tm rfl) ((mem_blk Cf).at S.emb0) rfl) rfl ?_);clear S;intro a S
   refine l_want S rfl rfl rfl hb1 (lv S (rn_fld fa_63_1 (S.tm rfl)) rfl ?_);clear S;intro a S
   refine l_want S rfl rfl rfl hb1 (lv S (rn_fld fa_57_1 (S.tm rfl)) rfl ?_);clear S;intro a S
   refine l_want S rfl rfl rfl hb1 (lv S (rn_load Tryz.isAgg3 (S.tm rfl) (S.cell (i := 0) rfl rfl)) rfl ?_);clear S;intro a S
   refine l_want S rfl rfl rfl hb1 (lv S (rn_mul (S.tm rfl) (S.tm rfl)) rfl ?_);clear S;intro a S
   refine l_want S rfl rfl rfl hb1 (lv S (rn_gtr (S.tm rfl) (S.tm rfl)) rfl ?_);clear S;intro a S
   refine lv S (rn_and_t hb1 (S.tm rfl) (S.tm rfl)) rfl ?_;clear S;intro a S
   refine Ld (Tn ?_)
   exact ⟨Keep.refl _ _, S.nf [true] rfl ⟨rfl, trivial⟩⟩
  ·iterate 13 (refine l_skip S rfl rfl rfl (neq_f hb1) rfl ?_ rfl;clear S;intro a S)
   refine lv S (rn_and_f (decide ((W (Bw.Num * Cx.Points.Den)) < (W (Cx.Points.Num * Bw.Den)))) hb1 (S.tm rfl) rfl) rfl ?_;clear S;intro a S
   refine Ld (Tn ?_)
   exact ⟨Keep.refl _ _, S.nf [true] rfl ⟨rfl, trivial⟩⟩
 clear S; rintro a w2 ⟨hk2, S⟩
 refine lv S (Ra (S.tm rfl)) rfl ?_;clear S;intro a S
 refine Ld (Tn (wp_ret ?_))
 subst h
 exact f_ret S Tryz.results40 rfl rfl
theorem slices_IndexFunc_Given_tumbref2_WinnersOf_c1_ok (w : World) (Ai : Value) (Al : List GGiven) (Az : Slc (view w []) 3 Ai (Al.map GGiven.enc)) (Ar : Nat) (Ax : GGiven) (Bi : (view w []) Ar = some (.cells [sV Ax.Key, iV Ax.Points.Num, iV Ax.Points.Den].toArray 63 (0, 0))) (Au : Nat) (Bm : GFraction) (Bt : (view w []) Au = some (.cells [iV Bm.Num, iV Bm.Den].toArray 57 (0, 0))) (r : Int) (h : slices_IndexFunc_Given_tumbref2_WinnersOf_c1 Al Ax Bm = r) :
    Calls Tryz.prog 51 [Ai, .func (.func 40) #[] #[.pointer (some ⟨Ar, 0, none⟩), .pointer (some ⟨Au, 0, none⟩)]].toArray w (Ret w [] fun _ v _ => v = iV r) := by
 refine f_enter [] [] Tryz.func51 rfl Tryz.ntmps51 rfl (by simp) (by simp [fps]) (by simp [fps]) fun a S => ?_
 unfold slices_IndexFunc_Given_tumbref2_WinnersOf_c1 at h
 replace S := S.nk [] [(0, Ai), (1, .func (.func 40) #[] #[.pointer (some ⟨Ar, 0, none⟩), .pointer (some ⟨Au, 0, none⟩)])] [] rfl (subR rfl)
 refine Fs (Fg (lv S (Ra rfl) rfl ?_));clear S;intro a S
 refine Ld (Tn (Fs (Fs (Fg (lv S (Rm (S.tm rfl)) rfl ?_)))));clear S;intro a S
 refine lv S (rn_lenT sl_58 (S.tm rfl) (slc_len Az)) rfl ?_;clear S;intro a S
 refine lv S (Rm rfl) rfl ?_;clear S;intro a S
 refine Ld (Tn ?_)
 replace S := S.nk [] [(0, Ai), (1, .func (.func 40) #[] #[.pointer (some ⟨Ar, 0, none⟩), .pointer (some ⟨Au, 0, none⟩)]), (7, iV (Al.length : Int)), (8, iV 0)] [] rfl (subR rfl)
 obtain ⟨j1, hj1, h⟩ := joinE h
 refine f_join (fun a w' => j1 = r ∧ Sx w [] nov [] [] 19 a w') ?_ ?_
 ·refine wp_block (f_loop (fun (ys1 : List GGiven) a w' => ∃ i1 : Nat, (∃ dn, Al = dn ++ ys1 ∧ dn.length = i1) ∧ slices_IndexFunc_Given_tumbref2_WinnersOf_c1_l1 Ax Bm j1 ys1 i1 = r ∧ Sx w [] nov [] [(0, Ai), (1, .func (.func 40) #[] #[.pointer (some ⟨Ar, 0, none⟩), .pointer (some ⟨Au, 0, none⟩)]), (7, iV (Al.length : Int)), (8, iV (i1 : Int))] 19 a w') List.length Al ⟨0, ⟨[], rfl, rfl⟩, h, S.nf [] rfl (subR rfl)⟩ ?_)
  clear S h; rintro ys1 a w1 ⟨i1, ⟨dn, hd1, hi1⟩, h, S⟩
  cases ys1 with
  | nil =>
   rw [slices_IndexFunc_Given_tumbref2_WinnersOf_c1_l1.eq_1] at h
   refine Fs (Fg (lv S (rn_lss (S.tm rfl) (S.tm rfl)) rfl ?_));clear S;intro a S
   refine Ld ?_
   replace S := S.nk [] [(0, Ai), (1, .func (.func 40) #[] #[.pointer (some ⟨Ar, 0, none⟩), .pointer (some ⟨Au, 0, none⟩)]), (7, iV (Al.length : Int)), (8, iV (i1 : Int)), (9, bV (decide ((i1 : Int) < (Al.length : Int))))] [] rfl (subR rfl)
   refine Tn (Fs (wp_cond_false ((S.tm rfl).trans (congrArg Value.bool (rng_nil hd1 hi1))) (wp_exit (then_x (then_x (x_same ?_))))))
   refine Tn ?_
   exact ⟨h, S.nf [] rfl trivial⟩
  | cons y1 ys1 =>
   rw [slices_IndexFunc_Given_tumbref2_WinnersOf_c1_l1.eq_2] at h
   refine Fs (Fg (lv S (rn_lss (S.tm rfl) (S.tm rfl)) rfl ?_));clear S;intro a S
   refine Ld ?_
   replace S := S.nk [] [(0, Ai), (1, .func (.func 40) #[] #[.pointer (some ⟨Ar, 0, none⟩), .pointer (some ⟨Au, 0, none⟩)]), (7, iV (Al.length : Int)), (8, iV (i1 : Int)), (9, bV (decide ((i1 : Int) < (Al.length : Int))))] [] rfl (subR rfl)
   refine Tn (Fs (wp_cond_true ((S.tm rfl).trans (congrArg Value.bool (rng_cons hd1 hi1))) (wp_skip (Tn (Fs (wp_block ?_))))))
   refine Fs (Fg (lv S (Rm (S.tm rfl)) rfl ?_));clear S;intro a S
   refine lv S (Ra (S.tm rfl)) rfl ?_;clear S;intro a S
   refine Ld (Tn (Fs (Fg (lv S (Rm (S.tm rfl)) rfl ?_))));clear S;intro a S
   refine lv S (Rm (S.tm rfl)) rfl ?_;clear S;intro a S
   refine lv S (Rm (S.tm rfl)) rfl ?_;clear S;intro a S
   obtain ⟨b1, o1, hm1, hr1⟩ := rn_indexT (a := a) (x := .tmp 12) (y := .tmp 13) (ty := 0) sl_58 Az (get_mid hd1 hi1) rfl (S.tm rfl) (S.tm rfl)
   refine lv S (hr1 _) rfl ?_;clear S;intro a S
   clear hr1
   refine lv S (rn_ldA Tryz.isAgg63 Tryz.sizeOf63 (off := o1) (o := 0) (part := (GGiven.enc y1)) rfl rfl (S.tm rfl) (hm1.at S.emb0)) rfl ?_;clear S;intro a S
   refine l_enter S (fun _ => run_callV (cap := [.pointer (some ⟨Ar, 0, none⟩), .pointer (some ⟨Au, 0, none⟩)]) (S.tm rfl) (vs := [.agg (GGiven.enc y1).toArray]) ⟨(S.tm rfl), trivial⟩ Tryz.call40) (tumbref2_WinnersOf_c1_ok _ y1 Ar Ax ((S.le_arg nil_sub) _ _ Bi) Au Bm ((S.le_arg nil_sub) _ _ Bt) _ rfl) rfl ?_;clear S;intro v1 a w3 hv1 hk1 hn1 S
   subst hv1
   refine Ld (Tn (f_cond (S.tm rfl) (fun hb1 => ?_) (fun hb1 => ?_)))
   ·replace h := iteT h hb1
    refine Fs (Fg (lv S (Rm (S.tm rfl)) rfl ?_));clear S;intro a S
    refine lv S (Ra (S.tm rfl)) rfl ?_;clear S;intro a S
    refine Ld ?_
    replace S := S.nk [] [(4, iV (i1 : Int))] [] rfl ⟨rfl, trivial⟩
    refine Tn (wp_ret (blk_r (then_r (then_r (blk_r (then_r ?_))))))
    refine then_r ?_
    subst h
    exact f_ret S Tryz.results51 rfl rfl
   ·replace h := iteF h hb1
    refine wp_skip (blk_n (Tn (Fg (lv S (rn_add (S.tm rfl) rfl) rfl ?_))));clear S;intro a S
    refine lv S (Rm (S.tm rfl)) rfl ?_;clear S;intro a S
    refine Ld (Tn ?_)
    exact ⟨ys1, ⟨i1 + 1, ⟨_, (hd1).trans (List.append_cons _ _ _), by simp [hi1]⟩, h, S.nf [] rfl ⟨rfl, rfl, rfl, (congrArg (fun z => some (Value.int .i64 z)) (rng_next hd1 hi1 (slc_max Az))), trivial⟩⟩, Nat.lt_succ_self _⟩
 clear S h; rintro a w2 ⟨h, S⟩; rw [hj1] at h; clear hj1 j1
 refine Tn (Fs (Fg (lv S (Ra rfl) rfl ?_)));clear S;intro a S
 refine Ld (Tn (wp_ret ?_))
 subst h
 exact f_ret S Tryz.results51 rfl rfl
theorem slices_ContainsFunc_Given_tumbref2_WinnersOf_c1_ok (w : World) (Ai : Value) (Al : List GGiven) (Az : Slc (view w []) 3 Ai (Al.map GGiven.enc)) (Ar : Nat) (Ax : GGiven) (Bi : (view w []) Ar = some (.cells [sV Ax.Key, iV Ax.Points.Num, iV Ax.Points.Den].toArray 63 (0, 0))) (Au : Nat) (Bm : GFraction) (Bt : (view w []) Au = some (.cells [iV Bm.Num, iV Bm.Den].toArray 57 (0, 0))) (r : Bool) (h : slices_ContainsFunc_Given_tumbref2_WinnersOf_c1 Al Ax Bm = r) :
    Calls Tryz.prog 31 [Ai, .func (.func 40) #[] #[.pointer (some ⟨Ar, 0, none⟩), .pointer (some ⟨Au, 0, none⟩)]].toArray w (Ret w [] fun _ v _ => v = bV r) := by
 refine f_enter [] [] Tryz.func31 rfl Tryz.ntmps31 rfl (by simp) (by simp [fps]) (by simp [fps]) fun a S => ?_
 unfold slices_ContainsFunc_Given_tumbref2_WinnersOf_c1 at h
 replace S := S.nk [] [(0, Ai), (1, .func (.func 40) #[] #[.pointer (some ⟨Ar, 0, none⟩), .pointer (some ⟨Au, 0, none⟩)])] [] rfl (subR rfl)
 refine Fs (Fg (lv S (Ra rfl) rfl ?_));clear S;intro a S
 refine Ld (Tn (Fs (Fg (lv S (Rm (S.tm rfl)) rfl ?_))));clear S;intro a S
 refine lv S (Rm (S.tm rfl)) rfl ?_;clear S;intro a S
 refine l_enter S (fun _ => run_call (vs := [Ai, .func (.func 40) #[] #[.pointer (some ⟨Ar, 0, none⟩), .pointer (some ⟨Au, 0, none⟩)]]) ⟨(S.tm rfl), (S.tm rfl), trivial⟩ Tryz.call51) (slices_IndexFunc_Given_tumbref2_WinnersOf_c1_ok _ Ai Al (Az.mono (S.le_arg nil_sub)) Ar Ax ((S.le_arg nil_sub) _ _ Bi) Au Bm ((S.le_arg nil_sub) _ _ Bt) _ rfl) rfl ?_;clear S;intro v1 a w1 hv1 hk1 hn1 S
 subst hv1
 refine lv S (rn_geq (S.tm rfl) rfl) rfl ?_;clear S;intro a S
 refine lv S (Ra (S.tm rfl)) rfl ?_;clear S;intro a S
 refine Ld (Tn (wp_ret ?_))
 subst h
 exact f_ret S Tryz.results31 rfl rfl
theorem tumbref2_WinnersOf_ok (w : World) (Aa : GTable) (Av : R27) (Ba : rel_27 (view w []) Aa Av) (U : Value) (Ae : List GScored) (Ag : Slc (view w []) 5 U (Ae.map GScored.enc)) (Af : Int) (Ab : Int) (Ac : Int) (r : (List ByteArray)) (h : tumbref2_WinnersOf Aa Ae Af Ab Ac = some r) :
    Calls Tryz.prog 14 [.agg (R27.enc Av).toArray, U, iV Af, iV Ab, iV Ac].toArray w (Ret w [] fun τ v _ => OwnV τ 9 1 v r.length (r.flatMap eStr)) := by
 obtain ⟨u1, rfl, hs1⟩ := Ba
 refine f_enter [] [] Tryz.func14 rfl Tryz.ntmps14 rfl (by simp) (by simp [fps]) (by simp [fps]) fun a S => ?_
 unfold tumbref2_WinnersOf at h
 replace S := S.nk [] [(0, .agg #[u1.val, iV Aa.Relay, iV Aa.Most]), (1, U), (2, iV Af), (3, iV Ab), (4, iV Ac)] [] rfl (subR rfl)
 refine Fs (Fg (l_box S (S.tm rfl) (cs := [u1.val, iV Aa.Relay, iV Aa.Most]) rfl rfl ?_));clear S;intro a w1 b1 hz1 hk1 S
 refine lv S (Ra rfl) rfl ?_;clear S;intro a S
 refine Ld (Tn (Fs (Fg (lv S (rn_ldA Tryz.isAgg27 Tryz.sizeOf27 (off := 0) (o := 0) (part := [u1.val, iV Aa.Relay, iV Aa.Most]) rfl rfl (S.tm rfl) (S.cellsAt (i := 0) rfl)) rfl ?_))));clear S;intro a S
 refine lv S (Rm (S.tm rfl)) rfl ?_;clear S;intro a S
 obtain ⟨r1, hr1, h⟩ := bindE h
 have hz2 := S.keep.size
 refine l_enter S (fun _ => run_call (vs := [.agg (R27.enc (R27.mk u1 Aa.Relay Aa.Most)).toArray, U]) ⟨(S.tm rfl), (S.tm rfl), trivial⟩ Tryz.call38) (tumbref2_ClubSums_ok _ Aa (R27.mk u1 Aa.Relay Aa.Most) ⟨u1, rfl, (hs1.mono (S.le_arg nil_sub))⟩ U Ae (Ag.mono (S.le_arg nil_sub)) _ hr1) rfl ?_;clear S;intro v1 a w2 hv1 hk2 hn1 S
 obtain ⟨φ1, hl1, hm1, S⟩ := S.see' hn1 hz2
 have hs2 := hv1.mono hm1
 refine lv S (Ra (S.tm rfl)) rfl ?_;clear S;intro a S
 refine Ld (Tn (Fs (Fg (lv S (Ra rfl) rfl ?_))));clear S;intro a S
 replace S := S.nil 9 1
 refine Ld (Tn (Fs (Fs (Fg (lv S (Rm (S.tm rfl)) rfl ?_)))));clear S;intro a S
 refine lv S (rn_lenT sl_58 (S.tm rfl) (slc_len (ownV_slcT GGiven.enc_ok hs2))) rfl ?_;clear S;intro a S
 refine lv S (Rm rfl) rfl ?_;clear S;intro a S
 refine Ld ?_
 replace S := S.nk [.own (.slice none 0 0) 9 1 ([] : List ByteArray).length (([] : List ByteArray).flatMap eStr), .blk b1 [u1.val, iV Aa.Relay, iV Aa.Most] 27] [(2, iV Af), (3, iV Ab), (4, iV Ac), (5, .pointer (some ⟨b1, 0, none⟩)), (11, v1), (12, (.slice none 0 0)), (19, v1), (20, iV (r1.length : Int)), (21, iV 0)] [true, true] rfl (subR rfl)
 refine Tn ?_
 obtain ⟨j1, hj1, h⟩ := joinE h
 refine f_join (fun a w' => ∃ x1 : List ByteArray, ∃ v2 : Value, j1 x1 = some r ∧ Sx w [] φ1 [.own v2 9 1 x1.length (x1.flatMap eStr), .blk b1 [u1.val, iV Aa.Relay, iV Aa.Most] 27] [(12, v2)] 45 a w') ?_ ?_
 ·refine wp_block (f_loop (fun (ys1 : List GGiven) a w' => ∃ i1 : Nat, ∃ x1 : List ByteArray, ∃ v2 : Value, (∃ dn, r1 = dn ++ ys1 ∧ dn.length = i1) ∧ tumbref2_WinnersOf_l1 r1 Aa Af Ab Ac j1 ys1 i1 x1 = some r ∧ Sx w [] φ1 [.own v2 9 1 x1.length (x1.flatMap eStr), .blk b1 [u1.val, iV Aa.Relay, iV Aa.Most] 27] [(2, iV Af), (3, iV Ab), (4, iV Ac), (5, .pointer (some ⟨b1, 0, none⟩)), (11, v1), (12, v2), (19, v1), (20, iV (r1.length : Int)), (21, iV (i1 : Int))] 45 a w') List.length r1 ⟨0, ([] : List ByteArray), (.slice none 0 0), ⟨[], rfl, rfl⟩, h, S.nf [true, true] rfl (subR rfl)⟩ ?_)
  clear S h; rintro ys1 a w3 ⟨i1, x1, v2, ⟨dn, hd1, hi1⟩, h, S⟩
  cases ys1 with
  | nil =>
   rw [tumbref2_WinnersOf_l1.eq_1] at h
   refine Fs (Fg (lv S (rn_lss (S.tm rfl) (S.tm rfl)) rfl ?_));clear S;intro a S
   refine Ld ?_
   replace S := S.nk [.own v2 9 1 x1.length (x1.flatMap eStr), .blk b1 [u1.val, iV Aa.Relay, iV Aa.Most] 27] [(2, iV Af), (3, iV Ab), (4, iV Ac), (5, .pointer (some ⟨b1, 0, none⟩)), (11, v1), (12, v2), (19, v1), (20, iV (r1.length : Int)), (21, iV (i1 : Int)), (22, bV (decide ((i1 : Int) < (r1.length : Int))))] [true, true] rfl (subR rfl)
   refine Tn (Fs (wp_cond_false ((S.tm rfl).trans (congrArg Value.bool (rng_nil hd1 hi1))) (wp_exit (then_x (then_x (x_same ?_))))))
   refine Tn ?_
   exact ⟨x1, v2, h, S.nf [true, true] rfl ⟨rfl, trivial⟩⟩
  | cons y1 ys1 =>
   rw [tumbref2_WinnersOf_l1.eq_2] at h
   refine Fs (Fg (lv S (rn_lss (S.tm rfl) (S.tm rfl)) rfl ?_));clear S;intro a S
   refine Ld ?_
   replace S := S.nk [.own v2 9 1 x1.length (x1.flatMap eStr), .blk b1 [u1.val, iV Aa.Relay, iV Aa.Most] 27] [(2, iV Af), (3, iV Ab), (4, iV Ac), (5, .pointer (some ⟨b1, 0, none⟩)), (11, v1), (12, v2), (19, v1), (20, iV (r1.length : Int)), (21, iV (i1 : Int)), (22, bV (decide ((i1 : Int) < (r1.length : Int))))] [true, true] rfl (subR rfl)
   refine Tn (Fs (wp_cond_true ((S.tm rfl).trans (congrArg Value.bool (rng_cons hd1 hi1))) (wp_skip (Tn (Fs ?_)))))
   obtain ⟨j2, hj2, h⟩ := joinE h
   refine f_join (fun a w' => ∃ x2 : List ByteArray, ∃ v3 : Value, j2 x2 = some r ∧ Sx w [] φ1 [.own v3 9 1 x2.length (x2.flatMap eStr), .blk b1 [u1.val, iV Aa.Relay, iV Aa.Most] 27] [(2, iV Af), (3, iV Ab), (4, iV Ac), (5, .pointer (some ⟨b1, 0, none⟩)), (11, v1), (12, v3), (19, v1), (20, iV (r1.length : Int)), (21, iV (i1 : Int))] 45 a w') ?_ ?_
   ·refine wp_block (Fs (Fg ?_))
    obtain ⟨b2, o1, hm2, hr2⟩ := rn_indexT (a := a) (x := .tmp 19) (y := .tmp 21) (ty := 0) sl_58 (ownV_slcT GGiven.enc_ok hs2) (get_mid hd1 hi1) rfl (S.tm rfl) (S.tm rfl)
    refine lv S (hr2 _) rfl ?_;clear S;intro a S
    clear hr2
    refine lv S (rn_ldA Tryz.isAgg63 Tryz.sizeOf63 (off := o1) (o := 0) (part := (GGiven.enc y1)) rfl rfl (S.tm rfl) (hm2.at S.emb)) rfl ?_;clear S;intro a S
    refine l_alloc S Tryz.zeroValue63 (cs := [sV k_empty, iV 0, iV 0]) rfl rfl ?_;clear S;intro a w6 b3 hz3 hk3 S
    refine l_store S (S.tm rfl) (S.tm rfl) (i := 0) (off := 0) rfl Tryz.sizeOf63 (vs := (GGiven.enc y1)) rfl rfl rfl rfl ?_;clear S;intro w7 hk4 S
    refine Ld (Tn (Fs ?_))
    obtain ⟨j3, hj3, h⟩ := joinE h
    refine f_join (fun a w' => ∃ x3 : Int, ∃ x4 : Int, ∃ b4 : Nat, j3 x3 x4 = some r ∧ Sx w [] φ1 [.blk b4 [iV x3, iV x4] 57, .blk b3 (GGiven.enc y1) 63, .own v2 9 1 x1.length (x1.flatMap eStr), .blk b1 [u1.val, iV Aa.Relay, iV Aa.Most] 27] [(2, iV Af), (3, iV Ab), (4, iV Ac), (5, .pointer (some ⟨b1, 0, none⟩)), (11, v1), (12, v2), (14, .pointer (some ⟨b3, 0, none⟩)), (15, .pointer (some ⟨b4, 0, none⟩)), (19, v1), (20, iV (r1.length : Int)), (21, iV (i1 : Int))] 45 a w') ?_ ?_
    ·obtain ⟨r2, hr3, h⟩ := bindE h
     refine d_region [] ([]) Tryz.mixed S rfl (by kernel_rfl) ?_;clear S;intro w13 hk9 hsel S
     refine d_quiet 0 S hsel rfl rfl rfl (by kernel_rfl) (by kernel_rfl) rfl (fun _ hw => (rn_fld fa_63_1 (S.tm rfl))) ?_;clear S;intro a S
     refine d_quiet 1 S hsel rfl rfl rfl (by kernel_rfl) (by kernel_rfl) rfl (fun _ hw => (rn_ldA Tryz.isAgg57 Tryz.sizeOf57 (off := 0) (o := 1) (part := (GFraction.enc y1.Points)) rfl rfl (S.tm rfl) ((S.blk_mem (i := 0) (cells := (GGiven.enc y1)) (b := b3) (T := 63) rfl (ne_nil (e' := .blk b3 (GGiven.enc y1) 63))).kept hw))) ?_;clear S;intro a S
     refine d_quiet 2 S hsel rfl rfl rfl (by kernel_rfl) (by kernel_rfl) rfl (fun _ hw => (rn_ldA Tryz.isAgg27 Tryz.sizeOf27 (off := 0) (o := 0) (part := [u1.val, iV Aa.Relay, iV Aa.Most]) rfl rfl (S.tm rfl) ((S.blk_mem (i := 2) (cells := [u1.val, iV Aa.Relay, iV Aa.Most]) (b := b1) (T := 27) rfl (ne_nil (e' := .blk b1 [u1.val, iV Aa.Relay, iV Aa.Most] 27))).kept hw))) ?_;clear S;intro a S
     refine d_quiet 3 S hsel rfl rfl rfl (by kernel_rfl) (by kernel_rfl) rfl (fun _ hw => (Rm (S.tm rfl))) ?_;clear S;intro a S
     refine d_quiet 4 S hsel rfl rfl rfl (by kernel_rfl) (by kernel_rfl) rfl (fun _ hw => (Rm (S.tm rfl))) ?_;clear S;intro a S
     refine d_quiet 5 S hsel rfl rfl rfl (by kernel_rfl) (by kernel_rfl) rfl (fun _ hw => (Rm (S.tm rfl))) ?_;clear S;intro a S
     refine d_loud2 6 9 (by kernel_rfl) rfl rfl ?_ ?_
     ·refine l_enter S (fun _ => run_call (vs := [.agg (R27.enc (R27.mk u1 Aa.Relay Aa.Most)).toArray, iV Af, iV Ab, iV Ac]) ⟨(S.tm rfl), (S.tm rfl), (S.tm rfl), (S.tm rfl), trivial⟩ Tryz.call13) (tumbref2_LeftOf_ok _ Aa (R27.mk u1 Aa.Relay Aa.Most) ⟨u1, rfl, (hs1.mono (S.le_arg nil_sub))⟩ Af Ab Ac _ rfl) rfl ?_;clear S;intro v6 a w14 hv4 hk10 hn4 S
      subst hv4
      refine Ld (d_next hk10 (d_quiet 7 S hsel rfl rfl rfl (by kernel_rfl) (by kernel_rfl) rfl (fun _ hw => (rn_bld bt_57 (pv := [(0, iV (tumbref2_LeftOf Aa Af Ab Ac)), (1, iV 1)]) ⟨rfl, (S.tm rfl), rfl, rfl, trivial⟩ (cs := [iV (tumbref2_LeftOf Aa Af Ab Ac), iV 1]) (by kernel_rfl))) ?_));clear S;intro a S
      refine d_loud2 8 9 (by kernel_rfl) rfl rfl ?_ ?_
      ·refine l_enter S (fun _ => run_call (vs := [.agg (GFraction.enc y1.Points).toArray, .agg (GFraction.enc (GFraction.mk (tumbref2_LeftOf Aa Af Ab Ac) 1)).toArray]) ⟨(S.tm rfl), (S.tm rfl), trivial⟩ Tryz.call39) (tumbref2_plus_ok _ y1.Points (GFraction.mk (tumbref2_LeftOf Aa Af Ab Ac) 1) _ hr3) rfl ?_;clear S;intro v7 a w15 hv5 hk11 hn5 S
       subst hv5
       refine Ld (d_next hk11 (d_loud1 9 (by kernel_rfl) rfl (l_alloc S Tryz.zeroValue57 (cs := [iV 0, iV 0]) rfl rfl ?_)));clear S;intro a w16 b6 hz5 hk12 S
       refine Ld (d_nextN ([b6]) hk12 (new1 hz5) (d_loud1 10 (by kernel_rfl) rfl (l_store S (S.tm rfl) (S.tm rfl) (i := 0) (off := 0) rfl Tryz.sizeOf57 (vs := (GFraction.enc r2)) rfl rfl rfl rfl ?_)));clear S;intro w17 hk13 S
       refine Ld (d_next hk13 (d_end (by kernel_rfl) ?_))
       clear hsel
       replace S := S.nk [.blk b6 (GFraction.enc r2) 57, .blk b3 (GGiven.enc y1) 63, .own v2 9 1 x1.length (x1.flatMap eStr), .blk b1 [u1.val, iV Aa.Relay, iV Aa.Most] 27] [(2, iV Af), (3, iV Ab), (4, iV Ac), (5, .pointer (some ⟨b1, 0, none⟩)), (11, v1), (12, v2), (14, .pointer (some ⟨b3, 0, none⟩)), (15, .pointer (some ⟨b6, 0, none⟩)), (19, v1), (20, iV (r1.length : Int)), (21, iV (i1 : Int))] [true, true, true, true] rfl (subR rfl)
       refine Tn ?_
       exact ⟨r2.Num, r2.Den, b6, h, S.nf [true, true, true, true] rfl (subR rfl)⟩
      ·refine l_alloc S Tryz.zeroValue57 (cs := [iV 0, iV 0]) rfl rfl ?_;clear S;intro a w18 b7 hz6 hk14 S
       refine Ld (d_nextN ([b7]) hk14 (new1 hz6) (d_loud1 8 (by kernel_rfl) rfl (l_enter S (fun _ => run_call (vs := [.agg (GFraction.enc y1.Points).toArray, .agg (GFraction.enc (GFraction.mk (tumbref2_LeftOf Aa Af Ab Ac) 1)).toArray]) ⟨(S.tm rfl), (S.tm rfl), trivial⟩ Tryz.call39) (tumbref2_plus_ok _ y1.Points (GFraction.mk (tumbref2_LeftOf Aa Af Ab Ac) 1) _ hr3) rfl ?_)));clear S;intro v8 a w19 hv6 hk15 hn6 S
       subst hv6
       refine Ld (d_next (Keep.none hk15) (d_loud1 10 (by kernel_rfl) rfl (l_store S (S.tm rfl) (S.tm rfl) (i := 0) (off := 0) rfl Tryz.sizeOf57 (vs := (GFraction.enc r2)) rfl rfl rfl rfl ?_)));clear S;intro w20 hk16 S
       refine Ld (d_next hk16 (d_end (by kernel_rfl) ?_))
       clear hsel
       replace S := S.nk [.blk b7 (GFraction.enc r2) 57, .blk b3 (GGiven.enc y1) 63, .own v2 9 1 x1.length (x1.flatMap eStr), .blk b1 [u1.val, iV Aa.Relay, iV Aa.Most] 27] [(2, iV Af), (3, iV Ab), (4, iV Ac), (5, .pointer (some ⟨b1, 0, none⟩)), (11, v1), (12, v2), (14, .pointer (some ⟨b3, 0, none⟩)), (15, .pointer (some ⟨b7, 0, none⟩)), (19, v1), (20, iV (r1.length : Int)), (21, iV (i1 : Int))] [true, true, true, true] rfl (subR rfl)
       refine Tn ?_
       exact ⟨r2.Num, r2.Den, b7, h, S.nf [true, true, true, true] rfl (subR rfl)⟩
     ·refine l_alloc S Tryz.zeroValue57 (cs := [iV 0, iV 0]) rfl rfl ?_;clear S;intro a w21 b8 hz7 hk17 S
      refine Ld (d_nextN ([b8]) hk17 (new1 hz7) (d_loud1 6 (by kernel_rfl) rfl (l_enter S (fun _ => run_call (vs := [.agg (R27.enc (R27.mk u1 Aa.Relay Aa.Most)).toArray, iV Af, iV Ab, iV Ac]) ⟨(S.tm rfl), (S.tm rfl), (S.tm rfl), (S.tm rfl), trivial⟩ Tryz.call13) (tumbref2_LeftOf_ok _ Aa (R27.mk u1 Aa.Relay Aa.Most) ⟨u1, rfl, (hs1.mono (S.le_arg nil_sub))⟩ Af Ab Ac _ rfl) rfl ?_)));clear S;intro v9 a w22 hv7 hk18 hn7 S
      subst hv7
      refine Ld (d_next (Keep.none hk18) (d_quiet 7 S hsel rfl rfl rfl (by kernel_rfl) (by kernel_rfl) rfl (fun _ hw => (rn_bld bt_57 (pv := [(0, iV (tumbref2_LeftOf Aa Af Ab Ac)), (1, iV 1)]) ⟨rfl, (S.tm rfl), rfl, rfl, trivial⟩ (cs := [iV (tumbref2_LeftOf Aa Af Ab Ac), iV 1]) (by kernel_rfl))) ?_));clear S;intro a S
      refine d_loud1 8 (by kernel_rfl) rfl (l_enter S (fun _ => run_call (vs := [.agg (GFraction.enc y1.Points).toArray, .agg (GFraction.enc (GFraction.mk (tumbref2_LeftOf Aa Af Ab Ac) 1)).toArray]) ⟨(S.tm rfl), (S.tm rfl), trivial⟩ Tryz.call39) (tumbref2_plus_ok _ y1.Points (GFraction.mk (tumbref2_LeftOf Aa Af Ab Ac) 1) _ hr3) rfl ?_);clear S;intro v10 a w23 hv8 hk19 hn8 S
      subst hv8
      refine Ld (d_next (Keep.none hk19) (d_loud1 10 (by kernel_rfl) rfl (l_store S (S.tm rfl) (S.tm rfl) (i := 0) (off := 0) rfl Tryz.sizeOf57 (vs := (GFraction.enc r2)) rfl rfl rfl rfl ?_)));clear S;intro w24 hk20 S
      refine Ld (d_next hk20 (d_end (by kernel_rfl) ?_))
      clear hsel
      replace S := S.nk [.blk b8 (GFraction.enc r2) 57, .blk b3 (GGiven.enc y1) 63, .own v2 9 1 x1.length (x1.flatMap eStr), .blk b1 [u1.val, iV Aa.Relay, iV Aa.Most] 27] [(2, iV Af), (3, iV Ab), (4, iV Ac), (5, .pointer (some ⟨b1, 0, none⟩)), (11, v1), (12, v2), (14, .pointer (some ⟨b3, 0, none⟩)), (15, .pointer (some ⟨b8, 0, none⟩)), (19, v1), (20, iV (r1.length : Int)), (21, iV (i1 : Int))] [true, true, true, true] rfl (subR rfl)
      refine Tn ?_
      exact ⟨r2.Num, r2.Den, b8, h, S.nf [true, true, true, true] rfl (subR rfl)⟩
    clear S h; rintro a w8 ⟨x3, x4, b4, h, S⟩; rw [hj3] at h; clear hj3 j3
    refine Tn (Fs (Fg (lv S (Rm (S.tm rfl)) rfl ?_)));clear S;intro a S
    refine lv S (rn_makeFunc (us := #[]) (xs := [].toArray) (ys := [.tmp 14, .tmp 15].toArray) (by simp) (evA ⟨(S.tm rfl), (S.tm rfl), trivial⟩ (vs := [.pointer (some ⟨b3, 0, none⟩), .pointer (some ⟨b4, 0, none⟩)]))) rfl ?_;clear S;intro a S
    refine l_enter S (fun _ => run_call (vs := [v1, .func (.func 40) #[] #[.pointer (some ⟨b3, 0, none⟩), .pointer (some ⟨b4, 0, none⟩)]]) ⟨(S.tm rfl), (S.tm rfl), trivial⟩ Tryz.call31) (slices_ContainsFunc_Given_tumbref2_WinnersOf_c1_ok _ v1 r1 ((ownV_slcT GGiven.enc_ok hs2).mono (S.le_new nil_sub)) b3 y1 (S.blk_view (i := 1) rfl ((ne_nil (e' := .blk b3 (GGiven.enc y1) 63)) _ rfl)) b4 (GFraction.mk x3 x4) (S.blk_view (i := 0) rfl ((ne_nil (e' := .blk b4 [iV x3, iV x4] 57)) _ rfl)) _ rfl) rfl ?_;clear S;intro v11 a w25 hv9 hk21 hn9 S
    subst hv9
    refine lv S (rn_not (S.tm rfl)) rfl ?_;clear S;intro a S
    refine Ld ?_
    replace S := S.nk [.blk b3 (GGiven.enc y1) 63, .own v2 9 1 x1.length (x1.flatMap eStr), .blk b1 [u1.val, iV Aa.Relay, iV Aa.Most] 27] [(2, iV Af), (3, iV Ab), (4, iV Ac), (5, .pointer (some ⟨b1, 0, none⟩)), (11, v1), (12, v2), (14, .pointer (some ⟨b3, 0, none⟩)), (19, v1), (20, iV (r1.length : Int)), (21, iV (i1 : Int)), (37, bV (!(slices_ContainsFunc_Given_tumbref2_WinnersOf_c1 r1 y1 (GFraction.mk x3 x4))))] [false, true, true, true] rfl (subR rfl)
    refine Tn ?_
    obtain ⟨j4, hj4, h⟩ := joinE h
    refine f_join (fun a w' => ∃ x5 : List ByteArray, ∃ v12 : Value, j4 x5 = some r ∧ Sx w [] φ1 [.own v12 9 1 x5.length (x5.flatMap eStr), .blk b1 [u1.val, iV Aa.Relay, iV Aa.Most] 27] [(2, iV Af), (3, iV Ab), (4, iV Ac), (5, .pointer (some ⟨b1, 0, none⟩)), (11, v1), (12, v12), (19, v1), (20, iV (r1.length : Int)), (21, iV (i1 : Int))] 45 a w') ?_ ?_
    ·refine f_cond (S.tm rfl) (fun hb1 => ?_) (fun hb1 => ?_)
     ·replace h := iteT h hb1
      refine Fg (lv S (Rm (S.tm rfl)) rfl ?_);clear S;intro a S
      refine lv S (rn_fld fa_63_0 (S.tm rfl)) rfl ?_;clear S;intro a S
      refine lv S (rn_load Tryz.isAgg9 (S.tm rfl) (S.cell (i := 0) rfl rfl)) rfl ?_;clear S;intro a S
      refine l_buildSlice S Tryz.underlying35 Tryz.sizeOf9 Tryz.zeroValue9 rfl rfl (pv := [(0, sV y1.Key)]) ⟨rfl, (S.tm rfl), trivial⟩ (cs := [sV y1.Key]) (by kernel_rfl) rfl ?_;clear S;intro a w27 b9 hz8 hk22 S
      obtain ⟨hc1, h⟩ := chkE h
      refine l_appendT sl_35 enc_str S (S.tm rfl) (i := 2) rfl (S.tm rfl) (j := 0) rfl (ys := [y1.Key]) rfl rfl rfl rfl (by have := room_lt hc1; omega) rfl ?_;clear S;intro v13 a w28 hk23 S
      refine lv S (Ra (S.tm rfl)) rfl ?_;clear S;intro a S
      refine Ld ?_
      replace S := S.nk [.own v13 9 1 (x1 ++ [y1.Key]).length ((x1 ++ [y1.Key]).flatMap eStr), .blk b1 [u1.val, iV Aa.Relay, iV Aa.Most] 27] [(2, iV Af), (3, iV Ab), (4, iV Ac), (5, .pointer (some ⟨b1, 0, none⟩)), (11, v1), (12, v13), (19, v1), (20, iV (r1.length : Int)), (21, iV (i1 : Int))] [false, false, true, true] rfl (subR rfl)
      refine Tn ?_
      exact ⟨(x1 ++ [y1.Key]), v13, h, S.nf [true, true] rfl (subR rfl)⟩
     ·replace h := iteF h hb1
      refine wp_skip (Tn ?_)
      exact ⟨x1, v2, h, S.nf [false, true, true] rfl (subR rfl)⟩
    clear S h; rintro a w26 ⟨x5, v12, h, S⟩; rw [hj4] at h; clear hj4 j4
    refine blk_n (Tn ?_)
    exact ⟨x5, v12, h, S.nf [true, true] rfl (subR rfl)⟩
   clear S h; rintro a w5 ⟨x2, v3, h, S⟩; rw [hj2] at h; clear hj2 j2
   refine Tn (Fg (lv S (rn_add (S.tm rfl) rfl) rfl ?_));clear S;intro a S
   refine lv S (Rm (S.tm rfl)) rfl ?_;clear S;intro a S
   refine Ld (Tn ?_)
   exact ⟨ys1, ⟨i1 + 1, x2, v3, ⟨_, (hd1).trans (List.append_cons _ _ _), by simp [hi1]⟩, h, S.nf [true, true] rfl ⟨rfl, rfl, rfl, rfl, rfl, rfl, rfl, rfl, (congrArg (fun z => some (Value.int .i64 z)) (rng_next hd1 hi1 (slc_max (ownV_slcT GGiven.enc_ok hs2)))), trivial⟩⟩, Nat.lt_succ_self _⟩
 clear S h; rintro a w4 ⟨x1, v2, h, S⟩; rw [hj1] at h; clear hj1 j1
 refine Tn (Fs (Fg (lv S (Rm (S.tm rfl)) rfl ?_)));clear S;intro a S
 refine lv S (Ra (S.tm rfl)) rfl ?_;clear S;intro a S
 refine Ld (Tn (wp_ret ?_))
 obtain rfl := Option.some.inj h
 exact f_ret S Tryz.results14 rfl (own_retT S (i := 0) rfl rfl)
set_option maxRecDepth 20000 in
theorem slices_Equal_string_ok (w : World) (Co : Value) (Cq : List ByteArray) (Cy : Slc (view w []) 1 Co (Cq.map eStr)) (Cp : Value) (Dk : List ByteArray) (Di : Slc (view w []) 1 Cp (Dk.map eStr)) (r : Bool) (h : slices_Equal_string Cq Dk = some r) :
    Calls Tryz.prog 15 [Co, Cp].toArray w (Ret w [] fun _ v _ => v = bV r) := by
 refine f_enter [] [] Tryz.func15 rfl Tryz.ntmps15 rfl (by simp) (by simp [fps]) (by simp [fps]) fun a S => ?_
 unfold slices_Equal_string at h
 replace S := S.nk [] [(0, Co), (1, Cp)] [] rfl (subR rfl)
 refine Fs (Fg (lv S (Ra rfl) rfl ?_));clear S;intro a S
 refine Ld (Tn (Fs (Fs (Fg (lv S (Rm (S.tm rfl)) rfl ?_)))));clear S;intro a S
 refine lv S (rn_lenT sl_35 (S.tm rfl) (slc_len Cy)) rfl ?_;clear S;intro a S
 refine lv S (Rm (S.tm rfl)) rfl ?_;clear S;intro a S
 refine lv S (rn_lenT sl_35 (S.tm rfl) (slc_len Di)) rfl ?_;clear S;intro a S
 refine lv S (rn_neq (S.tm rfl) (S.tm rfl)) rfl ?_;clear S;intro a S
 refine Ld (Tn (f_cond (S.tm rfl) (fun hb1 => ?_) (fun hb1 => ?_)))
 ·replace h := iteT h hb1
  refine Fs (Fg (lv S (Ra rfl) rfl ?_));clear S;intro a S
  refine Ld (Tn (wp_ret (then_r ?_)))
  obtain rfl := Option.some.inj h
  exact f_ret S Tryz.results15 rfl rfl
 ·replace h := iteF h hb1
  refine wp_skip (Tn (Fs (Fs (Fg (lv S (Rm (S.tm rfl)) rfl ?_)))));clear S;intro a S
  refine lv S (rn_lenT sl_35 (S.tm rfl) (slc_len Cy)) rfl ?_;clear S;intro a S
  refine lv S (Rm rfl) rfl ?_;clear S;intro a S
  refine Ld (Tn ?_)
  replace S := S.nk [] [(0, Co), (1, Cp), (12, iV (Cq.length : Int)), (13, iV 0)] [] rfl (subR rfl)
  obtain ⟨j1, hj1, h⟩ := joinE h
  refine f_join (fun a w' => j1 = some r ∧ Sx w [] nov [] [] 26 a w') ?_ ?_
  ·refine wp_block (f_loop (fun (ys1 : List ByteArray) a w' => ∃ i1 : Nat, (∃ dn, Cq = dn ++ ys1 ∧ dn.length = i1) ∧ slices_Equal_string_l1 Dk j1 ys1 i1 = some r ∧ Sx w [] nov [] [(0, Co), (1, Cp), (12, iV (Cq.length : Int)), (13, iV (i1 : Int))] 26 a w') List.length Cq ⟨0, ⟨[], rfl, rfl⟩, h, S.nf [] rfl (subR rfl)⟩ ?_)
   clear S h; rintro ys1 a w1 ⟨i1, ⟨dn, hd1, hi1⟩, h, S⟩
   cases ys1 with
   | nil =>
    rw [slices_Equal_string_l1.eq_1] at h
    refine Fs (Fg (lv S (rn_lss (S.tm rfl) (S.tm rfl)) rfl ?_));clear S;intro a S
    refine Ld ?_
    replace S := S.nk [] [(0, Co), (1, Cp), (12, iV (Cq.length : Int)), (13, iV (i1 : Int)), (14, bV (decide ((i1 : Int) < (Cq.length : Int))))] [] rfl (subR rfl)
    refine Tn (Fs (wp_cond_false ((S.tm rfl).trans (congrArg Value.bool (rng_nil hd1 hi1))) (wp_exit (then_x (then_x (x_same ?_))))))
    refine Tn ?_
    exact ⟨h, S.nf [] rfl trivial⟩
   | cons y1 ys1 =>
    rw [slices_Equal_string_l1.eq_2] at h
    refine Fs (Fg (lv S (rn_lss (S.tm rfl) (S.tm rfl)) rfl ?_));clear S;intro a S
    refine Ld ?_
    replace S := S.nk [] [(0, Co), (1, Cp), (12, iV (Cq.length : Int)), (13, iV (i1 : Int)), (14, bV (decide ((i1 : Int) < (Cq.length : Int))))] [] rfl (subR rfl)
    refine Tn (Fs (wp_cond_true ((S.tm rfl).trans (congrArg Value.bool (rng_cons hd1 hi1))) (wp_skip (Tn (Fs (wp_block ?_))))))
    refine Fs (Fg (lv S (Rm (S.tm rfl)) rfl ?_));clear S;intro a S
    refine lv S (Ra (S.tm rfl)) rfl ?_;clear S;intro a S
    refine Ld (Tn (Fs (d_region [] ([]) Tryz.mixed S rfl (by kernel_rfl) ?_)));clear S;intro w3 hk1 hsel S
    refine d_rest [0, 1, 2, 3, 4, 5, 6, 7, 8] hsel (by kernel_rfl) rfl ?_
    clear hsel
    refine s_lv S rfl (Rm (S.tm rfl)) rfl ?_;clear S;intro a S
    refine s_lv S rfl (Rm (S.tm rfl)) rfl ?_;clear S;intro a S
    obtain ⟨b1, o1, hm1, hr1⟩ := rn_indexT (a := a) (x := .tmp 16) (y := .tmp 17) (ty := 0) sl_35 Cy (get_mid hd1 hi1) rfl (S.tm rfl) (S.tm rfl)
    refine s_lv S rfl (hr1 _) rfl ?_;clear S;intro a S
    clear hr1
    refine s_lv S rfl (rn_ld Tryz.isAgg9 (off := o1) (o := 0) (S.tm rfl) (hm1.at S.emb0) rfl) rfl ?_;clear S;intro a S
    refine s_lv S rfl (Rm (S.tm rfl)) rfl ?_;clear S;intro a S
    refine s_lv S rfl (Rm (S.tm rfl)) rfl ?_;clear S;intro a S
    obtain ⟨hc1, h⟩ := chkE h
    obtain ⟨b2, o2, hm2, hr2⟩ := rn_indexT (a := a) (x := .tmp 20) (y := .tmp 21) (ty := 0) sl_35 Di (inB_get hc1).1 (inB_get hc1).2 (S.tm rfl) (S.tm rfl)
    refine s_lv S rfl (hr2 _) rfl ?_;clear S;intro a S
    clear hr2
    refine s_lv S rfl (rn_ld Tryz.isAgg9 (off := o2) (o := 0) (S.tm rfl) (hm2.at S.emb0) rfl) rfl ?_;clear S;intro a S
    refine s_lv S rfl (rn_sneq (S.tm rfl) (S.tm rfl)) rfl ?_;clear S;intro a S
    refine s_done ?_
    replace S := S.nk [] [(0, Co), (1, Cp), (12, iV (Cq.length : Int)), (13, iV (i1 : Int)), (24, bV (!decide (y1 = (nth Dk (i1 : Int)))))] [] rfl (subR rfl)
    refine Tn (f_cond (S.tm rfl) (fun hb2 => ?_) (fun hb2 => ?_))
    ·replace h := iteT h hb2
     refine Fs (Fg (lv S (Ra rfl) rfl ?_));clear S;intro a S
     refine Ld (Tn (wp_ret (blk_r (then_r (then_r (blk_r ?_))))))
     refine then_r (then_r ?_)
     obtain rfl := Option.some.inj h
     exact f_ret S Tryz.results15 rfl rfl
    ·replace h := iteF h hb2
     refine wp_skip (blk_n (Tn (Fg (lv S (rn_add (S.tm rfl) rfl) rfl ?_))));clear S;intro a S
     refine lv S (Rm (S.tm rfl)) rfl ?_;clear S;intro a S
     refine Ld (Tn ?_)
     exact ⟨ys1, ⟨i1 + 1, ⟨_, (hd1).trans (List.append_cons _ _ _), by simp [hi1]⟩, h, S.nf [] rfl ⟨rfl, rfl, rfl, (congrArg (fun z => some (Value.int .i64 z)) (rng_next hd1 hi1 (slc_max Cy))), trivial⟩⟩, Nat.lt_succ_self _⟩
  clear S h; rintro a w2 ⟨h, S⟩; rw [hj1] at h; clear hj1 j1
  refine Tn (Fs (Fg (lv S (Ra rfl) rfl ?_)));clear S;intro a S
  refine Ld (Tn (wp_ret ?_))
  obtain rfl := Option.some.inj h
  exact f_ret S Tryz.results15 rfl rfl
theorem timing_IsTime_ok (w : World) (Be : Int) (r : Bool) (h : timing_IsTime Be = r) :
    Calls Tryz.prog 63 [iV Be].toArray w (Ret w [] fun _ v _ => v = bV r) := by
 refine f_enter [] [] Tryz.func63 rfl Tryz.ntmps63 rfl (by simp) (by simp [fps]) (by simp [fps]) fun a S => ?_
 unfold timing_IsTime at h
 replace S := S.nk [] [(0, iV Be)] [] rfl ⟨rfl, trivial⟩
 refine Fs (Fg (lv S (Ra rfl) rfl ?_));clear S;intro a S
 refine Ld (Tn (Fs (Fg (lv S (Rm (S.tm rfl)) rfl ?_))));clear S;intro a S
 refine l_enter S (fun _ => run_call (vs := [iV Be, iV 1, iV 360000]) ⟨(S.tm rfl), rfl, rfl, trivial⟩ Tryz.call44) (words_Within_ok _ Be 1 360000 _ rfl) rfl ?_;clear S;intro v1 a w1 hv1 hk1 hn1 S
 subst hv1
 refine lv S (Ra (S.tm rfl)) rfl ?_;clear S;intro a S
 refine Ld (Tn (wp_ret ?_))
 subst h
 exact f_ret S Tryz.results63 rfl rfl
set_option maxRecDepth 20000 in
theorem points_CheckBase_ok (w : World) (U : Value) (Ae : List GBase) (Ag : Slc (view w []) 2 U (Ae.map GBase.enc)) (r : Int) (h : points_CheckBase Ae = some r) :
    Calls Tryz.prog 61 [U].toArray w (Ret w [] fun _ v _ => v = iV r) := by
 refine f_enter [] [] Tryz.func61 rfl Tryz.ntmps61 rfl (by simp) (by simp [fps]) (by simp [fps]) fun a S => ?_
 unfold points_CheckBase at h
 replace S := S.nk [] [(0, U)] [] rfl ⟨rfl, trivial⟩
 refine Fs (Fg (lv S (Ra rfl) rfl ?_));clear S;intro a S
 refine Ld (Tn (Fs (Fs (Fg (lv S (Rm (S.tm rfl)) rfl ?_)))));clear S;intro a S
 refine lv S (rn_lenT sl_78 (S.tm rfl) (slc_len Ag)) rfl ?_;clear S;intro a S
 refine lv S (rn_gtr (S.tm rfl) rfl) rfl ?_;clear S;intro a S
 refine Ld (Tn (f_cond (S.tm rfl) (fun hb1 => ?_) (fun hb1 => ?_)))
 ·replace h := iteT h hb1
  refine Fs (Fg (lv S (Ra rfl) rfl ?_));clear S;intro a S
  refine Ld (Tn (wp_ret (then_r ?_)))
  obtain rfl := Option.some.inj h
  exact f_ret S Tryz.results61 rfl rfl
 ·replace h := iteF h hb1
  refine wp_skip (Tn (Fs (Fs (Fg (lv S (Rm (S.tm rfl)) rfl ?_)))));clear S;intro a S
  refine lv S (rn_lenT sl_78 (S.tm rfl) (slc_len Ag)) rfl ?_;clear S;intro a S
  refine lv S (Rm rfl) rfl ?_;clear S;intro a S
  refine Ld (Tn ?_)
  replace S := S.nk [] [(0, U), (8, U), (9, iV (Ae.length : Int)), (10, iV 0)] [] rfl (subR rfl)
  obtain ⟨j1, hj1, h⟩ := joinE h
  refine f_join (fun a w' => j1 = some r ∧ Sx w [] nov [] [] 40 a w') ?_ ?_
  ·refine wp_block (f_loop (fun (ys1 : List GBase) a w' => ∃ i1 : Nat, (∃ dn, Ae = dn ++ ys1 ∧ dn.length = i1) ∧ points_CheckBase_l1 Ae j1 ys1 i1 = some r ∧ Sx w [] nov [] [(0, U), (8, U), (9, iV (Ae.length : Int)), (10, iV (i1 : Int))] 40 a w') List.length Ae ⟨0, ⟨[], rfl, rfl⟩, h, S.nf [] rfl (subR rfl)⟩ ?_)
   clear S h; rintro ys1 a w1 ⟨i1, ⟨dn, hd1, hi1⟩, h, S⟩
   cases ys1 with
   | nil =>
    rw [points_CheckBase_l1.eq_1] at h
    refine Fs (Fg (lv S (rn_lss (S.tm rfl) (S.tm rfl)) rfl ?_));clear S;intro a S
    refine Ld ?_
    replace S := S.nk [] [(0, U), (8, U), (9, iV (Ae.length : Int)), (10, iV (i1 : Int)), (11, bV (decide ((i1 : Int) < (Ae.length : Int))))] [] rfl (subR rfl)
    refine Tn (Fs (wp_cond_false ((S.tm rfl).trans (congrArg Value.bool (rng_nil hd1 hi1))) (wp_exit (then_x (then_x (x_same ?_))))))
    refine Tn ?_
    exact ⟨h, S.nf [] rfl trivial⟩
   | cons y1 ys1 =>
    rw [points_CheckBase_l1.eq_2] at h
    refine Fs (Fg (lv S (rn_lss (S.tm rfl) (S.tm rfl)) rfl ?_));clear S;intro a S
    refine Ld ?_
    replace S := S.nk [] [(0, U), (8, U), (9, iV (Ae.length : Int)), (10, iV (i1 : Int)), (11, bV (decide ((i1 : Int) < (Ae.length : Int))))] [] rfl (subR rfl)
    refine Tn (Fs (wp_cond_true ((S.tm rfl).trans (congrArg Value.bool (rng_cons hd1 hi1))) (wp_skip (Tn (Fs (wp_block ?_))))))
    refine Fs (Fg (lv S (Rm (S.tm rfl)) rfl ?_));clear S;intro a S
    obtain ⟨b1, o1, hm1, hr1⟩ := rn_indexT (a := a) (x := .tmp 8) (y := .tmp 10) (ty := 0) sl_78 Ag (get_mid hd1 hi1) rfl (S.tm rfl) (S.tm rfl)
    refine lv S (hr1 _) rfl ?_;clear S;intro a S
    clear hr1
    refine lv S (rn_ldA Tryz.isAgg77 Tryz.sizeOf77 (off := o1) (o := 0) (part := (GBase.enc y1)) rfl rfl (S.tm rfl) (hm1.at S.emb0)) rfl ?_;clear S;intro a S
    refine l_alloc S Tryz.zeroValue77 (cs := [sV k_empty, iV 0]) rfl rfl ?_;clear S;intro a w3 b2 hz1 hk1 S
    refine lv S (Ra (S.tm rfl)) rfl ?_;clear S;intro a S
    refine l_store S (S.tm rfl) (S.tm rfl) (i := 0) (off := 0) rfl Tryz.sizeOf77 (vs := (GBase.enc y1)) rfl rfl rfl rfl ?_;clear S;intro w4 hk2 S
    refine Ld (Tn (wp_block (Fs (Fg (lv S (rn_fld fa_77_0 (S.tm rfl)) rfl ?_)))));clear S;intro a S
    refine lv S (rn_load Tryz.isAgg9 (S.tm rfl) (S.cell (i := 0) rfl rfl)) rfl ?_;clear S;intro a S
    obtain ⟨r1, hr2, h⟩ := bindE h
    refine l_enter S (fun _ => run_call (vs := [sV y1.Race]) ⟨(S.tm rfl), trivial⟩ Tryz.call67) (words_IsKey_ok _ y1.Race _ hr2) rfl ?_;clear S;intro v1 a w5 hv1 hk3 hn1 S
    subst hv1
    refine lv S (rn_not (S.tm rfl)) rfl ?_;clear S;intro a S
    refine lv S (Ra (S.tm rfl)) rfl ?_;clear S;intro a S
    refine Ld ?_
    replace S := S.nk [.blk b2 (GBase.enc y1) 77] [(0, U), (3, iV (i1 : Int)), (4, .pointer (some ⟨b2, 0, none⟩)), (8, U), (9, iV (Ae.length : Int)), (10, iV (i1 : Int)), (15, bV (!r1))] [true] rfl (subR rfl)
    refine Tn (f_cond (S.tm rfl) (fun hb2 => ?_) (fun hb2 => ?_))
    ·replace h := iteT h hb2
     refine Fs (Fg (lv S (Ra rfl) rfl ?_));clear S;intro a S
     refine Ld (Tn (wp_ret (blk_r (blk_r (then_r (then_r ?_))))))
     refine blk_r (then_r (then_r ?_))
     obtain rfl := Option.some.inj h
     exact f_ret S Tryz.results61 rfl rfl
    ·replace h := iteF h hb2
     refine Fs (d_region [] ([]) Tryz.mixed S rfl (by kernel_rfl) ?_);clear S;intro w6 hk4 hsel S
     refine d_rest [0, 1, 2, 3, 4, 5, 6, 7, 8, 9, 10, 11, 12, 13] hsel (by kernel_rfl) rfl ?_
     clear hsel
     refine s_lv S rfl (Rm (S.tm rfl)) rfl ?_;clear S;intro a S
     refine s_lv S rfl (rn_gtr (S.tm rfl) rfl) rfl ?_;clear S;intro a S
     refine s_lv S rfl (Rm (S.tm rfl)) rfl ?_;clear S;intro a S
     obtain ⟨j2, hj2, h⟩ := joinE h
     refine s_cutm 10 (fun a w' => ∃ c1, j2 c1 = some r ∧ Keep [] w6 w' ∧ Sx w [] nov [.blk b2 (GBase.enc y1) 77] [(0, U), (4, .pointer (some ⟨b2, 0, none⟩)), (8, U), (9, iV (Ae.length : Int)), (10, iV (i1 : Int)), (33, bV c1)] 40 a w') ?_ ?_
     ·rcases Bool.eq_false_or_eq_true (decide (0 < (i1 : Int))) with hb3 | hb3
      ·replace h := iteT h hb3
       refine s_want S rfl rfl rfl rfl hb3 (s_lv0 S (rn_fld fa_77_0 (S.tm rfl)) rfl ?_);clear S;intro a S
       refine s_want S rfl rfl rfl rfl hb3 (s_lv0 S (rn_load Tryz.isAgg9 (S.tm rfl) (S.cell (i := 0) rfl rfl)) rfl ?_);clear S;intro a S
       refine s_want S rfl rfl rfl rfl hb3 (s_lv0 S (Rm (S.tm rfl)) rfl ?_);clear S;intro a S
       refine s_want S rfl rfl rfl rfl hb3 (s_lv0 S (Rm (S.tm rfl)) rfl ?_);clear S;intro a S
       refine s_want S rfl rfl rfl rfl hb3 (s_lv0 S (rn_sub (S.tm rfl) rfl) rfl ?_);clear S;intro a S
       refine s_want S rfl rfl rfl rfl hb3 ?_
       obtain ⟨hc1, h⟩ := chkE h
       obtain ⟨b3, o2, hm2, hr3⟩ := rn_indexT (a := a) (x := .tmp 26) (y := .tmp 28) (ty := 0) sl_78 Ag (inB_get hc1).1 (inB_get hc1).2 (S.tm rfl) (S.tm rfl)
       refine s_lv0 S (hr3 _) rfl ?_;clear S;intro a S
       clear hr3
       refine s_want S rfl rfl rfl rfl hb3 (s_lv0 S (rn_fld fa_77_0 (S.tm rfl)) rfl ?_);clear S;intro a S
       refine s_want S rfl rfl rfl rfl hb3 (s_lv0 S (rn_ld Tryz.isAgg9 (off := o2) (o := 0) (S.tm rfl) (hm2.at S.emb0) rfl) rfl ?_);clear S;intro a S
       refine s_want S rfl rfl rfl rfl hb3 (s_lv0 S (rn_sleq (S.tm rfl) (S.tm rfl)) rfl ?_);clear S;intro a S
       refine s_lv S rfl (rn_and_t hb3 (S.tm rfl) (S.tm rfl)) rfl ?_;clear S;intro a S
       refine s_done ?_
       exact ⟨_, h, Keep.refl _ _, S.nf [true] rfl (subR rfl)⟩
      ·replace h := iteF h hb3
       iterate 9 (refine s_skip S rfl rfl rfl rfl (neq_f hb3) rfl ?_ rfl;clear S;intro a S)
       refine s_lv S rfl (rn_and_f true hb3 (S.tm rfl) rfl) rfl ?_;clear S;intro a S
       refine s_done ?_
       exact ⟨_, h, Keep.refl _ _, S.nf [true] rfl (subR rfl)⟩
     clear S h; rintro a w7 ⟨c1, h, hk5, S⟩; rw [hj2] at h; clear hj2 j2
     refine s_lv S rfl (Ra (S.tm rfl)) rfl ?_;clear S;intro a S
     refine s_done ?_
     replace S := S.nk [.blk b2 (GBase.enc y1) 77] [(0, U), (4, .pointer (some ⟨b2, 0, none⟩)), (8, U), (9, iV (Ae.length : Int)), (10, iV (i1 : Int)), (20, bV c1)] [true] rfl (subR rfl)
     refine Tn (f_cond (S.tm rfl) (fun hb4 => ?_) (fun hb4 => ?_))
     ·replace h := iteT h hb4
      refine Fs (Fg (lv S (Ra rfl) rfl ?_));clear S;intro a S
      refine Ld (Tn (wp_ret (blk_r (blk_r (then_r (then_r ?_))))))
      refine blk_r (then_r (then_r ?_))
      obtain rfl := Option.some.inj h
      exact f_ret S Tryz.results61 rfl rfl
     ·replace h := iteF h hb4
      refine Fs (Fg (lv S (rn_fld fa_77_1 (S.tm rfl)) rfl ?_));clear S;intro a S
      refine lv S (rn_load Tryz.isAgg3 (S.tm rfl) (S.cell (i := 0) rfl rfl)) rfl ?_;clear S;intro a S
      refine l_enter S (fun _ => run_call (vs := [iV y1.Time]) ⟨(S.tm rfl), trivial⟩ Tryz.call63) (timing_IsTime_ok _ y1.Time _ rfl) rfl ?_;clear S;intro v2 a w8 hv2 hk6 hn2 S
      subst hv2
      refine lv S (rn_not (S.tm rfl)) rfl ?_;clear S;intro a S
      refine lv S (Ra (S.tm rfl)) rfl ?_;clear S;intro a S
      refine Ld (Tn (f_cond (S.tm rfl) (fun hb5 => ?_) (fun hb5 => ?_)))
      ·replace h := iteT h hb5
       refine Fs (Fg (lv S (Ra rfl) rfl ?_));clear S;intro a S
       refine Ld (Tn (wp_ret (blk_r (blk_r (then_r (then_r ?_))))))
       refine blk_r (then_r (then_r ?_))
       obtain rfl := Option.some.inj h
       exact f_ret S Tryz.results61 rfl rfl
      ·replace h := iteF h hb5
       refine wp_skip (blk_n (blk_n (Tn (Fg (lv S (rn_add (S.tm rfl) rfl) rfl ?_)))));clear S;intro a S
       refine lv S (Rm (S.tm rfl)) rfl ?_;clear S;intro a S
       refine Ld (Tn ?_)
       exact ⟨ys1, ⟨i1 + 1, ⟨_, (hd1).trans (List.append_cons _ _ _), by simp [hi1]⟩, h, S.nf [false] rfl ⟨rfl, rfl, rfl, (congrArg (fun z => some (Value.int .i64 z)) (rng_next hd1 hi1 (slc_max Ag))), trivial⟩⟩, Nat.lt_succ_self _⟩
  clear S h; rintro a w2 ⟨h, S⟩; rw [hj1] at h; clear hj1 j1
  refine Tn (Fs (Fg (lv S (Ra rfl) rfl ?_)));clear S;intro a S
  refine Ld (Tn (wp_ret ?_))
  obtain rfl := Option.some.inj h
  exact f_ret S Tryz.results61 rfl rfl
theorem points_baseOf_ok (w : World) (U : Value) (Ae : List GBase) (Ag : Slc (view w []) 2 U (Ae.map GBase.enc)) (Bk : ByteArray) (r : Int) (h : points_baseOf Ae Bk = r) :
    Calls Tryz.prog 62 [U, sV Bk].toArray w (Ret w [] fun _ v _ => v = iV r) := by
 refine f_enter [] [] Tryz.func62 rfl Tryz.ntmps62 rfl (by simp) (by simp [fps]) (by simp [fps]) fun a S => ?_
 unfold points_baseOf at h
 replace S := S.nk [] [(0, U), (1, sV Bk)] [] rfl (subR rfl)
 refine Fs (Fg (lv S (Ra rfl) rfl ?_));clear S;intro a S
 refine Ld (Tn (Fs (Fs (Fg (lv S (Rm (S.tm rfl)) rfl ?_)))));clear S;intro a S
 refine lv S (rn_lenT sl_78 (S.tm rfl) (slc_len Ag)) rfl ?_;clear S;intro a S
 refine lv S (Rm rfl) rfl ?_;clear S;intro a S
 refine Ld (Tn ?_)
 replace S := S.nk [] [(1, sV Bk), (7, U), (8, iV (Ae.length : Int)), (9, iV 0)] [] rfl (subR rfl)
 obtain ⟨j1, hj1, h⟩ := joinE h
 refine f_join (fun a w' => j1 = r ∧ Sx w [] nov [] [] 20 a w') ?_ ?_
 ·refine wp_block (f_loop (fun (ys1 : List GBase) a w' => ∃ i1 : Nat, (∃ dn, Ae = dn ++ ys1 ∧ dn.length = i1) ∧ points_baseOf_l1 Bk j1 ys1 i1 = r ∧ Sx w [] nov [] [(1, sV Bk), (7, U), (8, iV (Ae.length : Int)), (9, iV (i1 : Int))] 20 a w') List.length Ae ⟨0, ⟨[], rfl, rfl⟩, h, S.nf [] rfl (subR rfl)⟩ ?_)
  clear S h; rintro ys1 a w1 ⟨i1, ⟨dn, hd1, hi1⟩, h, S⟩
  cases ys1 with
  | nil =>
   rw [points_baseOf_l1.eq_1] at h
   refine Fs (Fg (lv S (rn_lss (S.tm rfl) (S.tm rfl)) rfl ?_));clear S;intro a S
   refine Ld ?_
   replace S := S.nk [] [(1, sV Bk), (7, U), (8, iV (Ae.length : Int)), (9, iV (i1 : Int)), (10, bV (decide ((i1 : Int) < (Ae.length : Int))))] [] rfl (subR rfl)
   refine Tn (Fs (wp_cond_false ((S.tm rfl).trans (congrArg Value.bool (rng_nil hd1 hi1))) (wp_exit (then_x (then_x (x_same ?_))))))
   refine Tn ?_
   exact ⟨h, S.nf [] rfl trivial⟩
  | cons y1 ys1 =>
   rw [points_baseOf_l1.eq_2] at h
   refine Fs (Fg (lv S (rn_lss (S.tm rfl) (S.tm rfl)) rfl ?_));clear S;intro a S
   refine Ld ?_
   replace S := S.nk [] [(1, sV Bk), (7, U), (8, iV (Ae.length : Int)), (9, iV (i1 : Int)), (10, bV (decide ((i1 : Int) < (Ae.length : Int))))] [] rfl (subR rfl)
   refine Tn (Fs (wp_cond_true ((S.tm rfl).trans (congrArg Value.bool (rng_cons hd1 hi1))) (wp_skip (Tn (Fs (wp_block ?_))))))
   refine Fs (Fg ?_)
   obtain ⟨b1, o1, hm1, hr1⟩ := rn_indexT (a := a) (x := .tmp 7) (y := .tmp 9) (ty := 0) sl_78 Ag (get_mid hd1 hi1) rfl (S.tm rfl) (S.tm rfl)
   refine lv S (hr1 _) rfl ?_;clear S;intro a S
   clear hr1
   refine lv S (rn_ldA Tryz.isAgg77 Tryz.sizeOf77 (off := o1) (o := 0) (part := (GBase.enc y1)) rfl rfl (S.tm rfl) (hm1.at S.emb0)) rfl ?_;clear S;intro a S
   refine l_alloc S Tryz.zeroValue77 (cs := [sV k_empty, iV 0]) rfl rfl ?_;clear S;intro a w3 b2 hz1 hk1 S
   refine l_store S (S.tm rfl) (S.tm rfl) (i := 0) (off := 0) rfl Tryz.sizeOf77 (vs := (GBase.enc y1)) rfl rfl rfl rfl ?_;clear S;intro w4 hk2 S
   refine Ld (Tn (Fs (Fg (lv S (rn_fld fa_77_0 (S.tm rfl)) rfl ?_))));clear S;intro a S
   refine lv S (rn_load Tryz.isAgg9 (S.tm rfl) (S.cell (i := 0) rfl rfl)) rfl ?_;clear S;intro a S
   refine lv S (Rm (S.tm rfl)) rfl ?_;clear S;intro a S
   refine lv S (rn_seql (S.tm rfl) (S.tm rfl)) rfl ?_;clear S;intro a S
   refine Ld (Tn (f_cond (S.tm rfl) (fun hb1 => ?_) (fun hb1 => ?_)))
   ·replace h := iteT h hb1
    refine Fs (Fg (lv S (rn_fld fa_77_1 (S.tm rfl)) rfl ?_));clear S;intro a S
    refine lv S (rn_load Tryz.isAgg3 (S.tm rfl) (S.cell (i := 0) rfl rfl)) rfl ?_;clear S;intro a S
    refine lv S (Ra (S.tm rfl)) rfl ?_;clear S;intro a S
    refine Ld ?_
    replace S := S.nk [] [(4, iV y1.Time)] [false] rfl ⟨rfl, trivial⟩
    refine Tn (wp_ret (blk_r (then_r (then_r (blk_r (then_r ?_))))))
    refine then_r ?_
    subst h
    exact f_ret S Tryz.results62 rfl rfl
   ·replace h := iteF h hb1
    refine wp_skip (blk_n (Tn (Fg (lv S (rn_add (S.tm rfl) rfl) rfl ?_))));clear S;intro a S
    refine lv S (Rm (S.tm rfl)) rfl ?_;clear S;intro a S
    refine Ld (Tn ?_)
    exact ⟨ys1, ⟨i1 + 1, ⟨_, (hd1).trans (List.append_cons _ _ _), by simp [hi1]⟩, h, S.nf [false] rfl ⟨rfl, rfl, rfl, (congrArg (fun z => some (Value.int .i64 z)) (rng_next hd1 hi1 (slc_max Ag))), trivial⟩⟩, Nat.lt_succ_self _⟩
 clear S h; rintro a w2 ⟨h, S⟩; rw [hj1] at h; clear hj1 j1
 refine Tn (Fs (Fg (lv S (Ra rfl) rfl ?_)));clear S;intro a S
 refine Ld (Tn (wp_ret ?_))
 subst h
 exact f_ret S Tryz.results62 rfl rfl
theorem bits_Mul64_ok (w : World) (Am : Int) (Aq : Int) (r : Int × Int) (h : bits_Mul64 Am Aq = r) :
    Calls Tryz.prog 79 [.int .u64 Am, .int .u64 Aq].toArray w (Ret w [] fun _ v _ => v = .tuple #[.int .u64 r.1, .int .u64 r.2]) := by
 refine f_enter [] [] Tryz.func79 rfl Tryz.ntmps79 rfl (by simp) (by simp [fps]) (by simp [fps]) fun a S => ?_
 unfold bits_Mul64 at h
 replace S := S.nk [] [(0, .int .u64 Am), (1, .int .u64 Aq)] [] rfl (subR rfl)
 refine Fs (Fg (lv S (Ra rfl) rfl ?_));clear S;intro a S
 refine lv S (Ra rfl) rfl ?_;clear S;intro a S
 refine Ld (Tn (Fs (Fg (lv S (Rm (S.tm rfl)) rfl ?_))));clear S;intro a S
 refine lv S (rn_and_ (S.tm rfl) rfl) rfl ?_;clear S;intro a S
 refine lv S (Ra (S.tm rfl)) rfl ?_;clear S;intro a S
 refine Ld (Tn (Fs (Fg (lv S (Rm (S.tm rfl)) rfl ?_))));clear S;intro a S
 refine lv S (rn_shr (S.tm rfl) rfl (by decide)) rfl ?_;clear S;intro a S
 refine lv S (Ra (S.tm rfl)) rfl ?_;clear S;intro a S
 refine Ld (Tn (Fs (Fg (lv S (Rm (S.tm rfl)) rfl ?_))));clear S;intro a S
 refine lv S (rn_and_ (S.tm rfl) rfl) rfl ?_;clear S;intro a S
 refine lv S (Ra (S.tm rfl)) rfl ?_;clear S;intro a S
 refine Ld (Tn (Fs (Fg (lv S (Rm (S.tm rfl)) rfl ?_))));clear S;intro a S
 refine lv S (rn_shr (S.tm rfl) rfl (by decide)) rfl ?_;clear S;intro a S
 refine lv S (Ra (S.tm rfl)) rfl ?_;clear S;intro a S
 refine Ld ?_
 replace S := S.nk [] [(0, .int .u64 Am), (1, .int .u64 Aq), (6, .int .u64 (bitAnd .u64 Am 4294967295)), (7, .int .u64 (bitShr .u64 Am 32)), (8, .int .u64 (bitAnd .u64 Aq 4294967295)), (9, .int .u64 (bitShr .u64 Aq 32))] [] rfl (subR rfl)
 refine Tn (Fs (Fg (lv S (Rm (S.tm rfl)) rfl ?_)));clear S;intro a S
 refine lv S (Rm (S.tm rfl)) rfl ?_;clear S;intro a S
 refine lv S (rn_mulk (S.tm rfl) (S.tm rfl)) rfl ?_;clear S;intro a S
 refine lv S (Ra (S.tm rfl)) rfl ?_;clear S;intro a S
 refine Ld (Tn (Fs (Fg (lv S (Rm (S.tm rfl)) rfl ?_))));clear S;intro a S
 refine lv S (Rm (S.tm rfl)) rfl ?_;clear S;intro a S
 refine lv S (rn_mulk (S.tm rfl) (S.tm rfl)) rfl ?_;clear S;intro a S
 refine lv S (Rm (S.tm rfl)) rfl ?_;clear S;intro a S
 refine lv S (rn_shr (S.tm rfl) rfl (by decide)) rfl ?_;clear S;intro a S
 refine lv S (rn_addk (S.tm rfl) (S.tm rfl)) rfl ?_;clear S;intro a S
 refine lv S (Ra (S.tm rfl)) rfl ?_;clear S;intro a S
 refine Ld ?_
 replace S := S.nk [] [(0, .int .u64 Am), (1, .int .u64 Aq), (6, .int .u64 (bitAnd .u64 Am 4294967295)), (7, .int .u64 (bitShr .u64 Am 32)), (9, .int .u64 (bitShr .u64 Aq 32)), (11, .int .u64 (IntKind.wrap .u64 ((IntKind.wrap .u64 ((bitShr .u64 Am 32) * (bitAnd .u64 Aq 4294967295))) + (bitShr .u64 (IntKind.wrap .u64 ((bitAnd .u64 Am 4294967295) * (bitAnd .u64 Aq 4294967295))) 32))))] [] rfl (subR rfl)
 refine Tn (Fs (Fg (lv S (Rm (S.tm rfl)) rfl ?_)));clear S;intro a S
 refine lv S (rn_and_ (S.tm rfl) rfl) rfl ?_;clear S;intro a S
 refine lv S (Ra (S.tm rfl)) rfl ?_;clear S;intro a S
 refine Ld (Tn (Fs (Fg (lv S (Rm (S.tm rfl)) rfl ?_))));clear S;intro a S
 refine lv S (rn_shr (S.tm rfl) rfl (by decide)) rfl ?_;clear S;intro a S
 refine lv S (Ra (S.tm rfl)) rfl ?_;clear S;intro a S
 refine Ld (Tn (Fs (Fg (lv S (Rm (S.tm rfl)) rfl ?_))));clear S;intro a S
 refine lv S (Rm (S.tm rfl)) rfl ?_;clear S;intro a S
 refine lv S (Rm (S.tm rfl)) rfl ?_;clear S;intro a S
 refine lv S (rn_mulk (S.tm rfl) (S.tm rfl)) rfl ?_;clear S;intro a S
 refine lv S (rn_addk (S.tm rfl) (S.tm rfl)) rfl ?_;clear S;intro a S
 refine lv S (Ra (S.tm rfl)) rfl ?_;clear S;intro a S
 refine Ld ?_
 replace S := S.nk [] [(0, .int .u64 Am), (1, .int .u64 Aq), (7, .int .u64 (bitShr .u64 Am 32)), (9, .int .u64 (bitShr .u64 Aq 32)), (12, .int .u64 (IntKind.wrap .u64 ((bitAnd .u64 (IntKind.wrap .u64 ((IntKind.wrap .u64 ((bitShr .u64 Am 32) * (bitAnd .u64 Aq 4294967295))) + (bitShr .u64 (IntKind.wrap .u64 ((bitAnd .u64 Am 4294967295) * (bitAnd .u64 Aq 4294967295))) 32))) 4294967295) + (IntKind.wrap .u64 ((bitAnd .u64 Am 4294967295) * (bitShr .u64 Aq 32)))))), (13, .int .u64 (bitShr .u64 (IntKind.wrap .u64 ((IntKind.wrap .u64 ((bitShr .u64 Am 32) * (bitAnd .u64 Aq 4294967295))) + (bitShr .u64 (IntKind.wrap .u64 ((bitAnd .u64 Am 4294967295) * (bitAnd .u64 Aq 4294967295))) 32))) 32))] [] rfl (subR rfl)
 refine Tn (Fs (Fg (lv S (Rm (S.tm rfl)) rfl ?_)));clear S;intro a S
 refine lv S (Rm (S.tm rfl)) rfl ?_;clear S;intro a S
 refine lv S (rn_mulk (S.tm rfl) (S.tm rfl)) rfl ?_;clear S;intro a S
 refine lv S (Rm (S.tm rfl)) rfl ?_;clear S;intro a S
 refine lv S (rn_addk (S.tm rfl) (S.tm rfl)) rfl ?_;clear S;intro a S
 refine lv S (Rm (S.tm rfl)) rfl ?_;clear S;intro a S
 refine lv S (rn_shr (S.tm rfl) rfl (by decide)) rfl ?_;clear S;intro a S
 refine lv S (rn_addk (S.tm rfl) (S.tm rfl)) rfl ?_;clear S;intro a S
 refine lv S (Ra (S.tm rfl)) rfl ?_;clear S;intro a S
 refine Ld ?_
 replace S := S.nk [] [(0, .int .u64 Am), (1, .int .u64 Aq), (4, .int .u64 (IntKind.wrap .u64 ((IntKind.wrap .u64 ((IntKind.wrap .u64 ((bitShr .u64 Am 32) * (bitShr .u64 Aq 32))) + (bitShr .u64 (IntKind.wrap .u64 ((IntKind.wrap .u64 ((bitShr .u64 Am 32) * (bitAnd .u64 Aq 4294967295))) + (bitShr .u64 (IntKind.wrap .u64 ((bitAnd .u64 Am 4294967295) * (bitAnd .u64 Aq 4294967295))) 32))) 32))) + (bitShr .u64 (IntKind.wrap .u64 ((bitAnd .u64 (IntKind.wrap .u64 ((IntKind.wrap .u64 ((bitShr .u64 Am 32) * (bitAnd .u64 Aq 4294967295))) + (bitShr .u64 (IntKind.wrap .u64 ((bitAnd .u64 Am 4294967295) * (bitAnd .u64 Aq 4294967295))) 32))) 4294967295) + (IntKind.wrap .u64 ((bitAnd .u64 Am 4294967295) * (bitShr .u64 Aq 32))))) 32))))] [] rfl (subR rfl)
 refine Tn (Fs (Fg (lv S (Rm (S.tm rfl)) rfl ?_)));clear S;intro a S
 refine lv S (Rm (S.tm rfl)) rfl ?_;clear S;intro a S
 refine lv S (rn_mulk (S.tm rfl) (S.tm rfl)) rfl ?_;clear S;intro a S
 refine lv S (Ra (S.tm rfl)) rfl ?_;clear S;intro a S
 refine Ld (Tn (wp_ret ?_))
 subst h
 exact f_ret2 S Tryz.results79 rfl rfl rfl
theorem bits_LeadingZeros64_ok (w : World) (Am : Int) (r : Int) (h : bits_LeadingZeros64 Am = some r) :
    Calls Tryz.prog 108 [.int .u64 Am].toArray w (Ret w [] fun _ v _ => v = iV r) := by
 refine f_enter [] [] Tryz.func108 rfl Tryz.ntmps108 rfl (by simp) (by simp [fps]) (by simp [fps]) fun a S => ?_
 unfold bits_LeadingZeros64 at h
 replace S := S.nk [] [(0, .int .u64 Am)] [] rfl ⟨rfl, trivial⟩
 refine Fs (Fg (lv S (Ra rfl) rfl ?_));clear S;intro a S
 refine Ld (Tn (Fs (Fg (lv S (Rm (S.tm rfl)) rfl ?_))));clear S;intro a S
 obtain ⟨r1, hr1, h⟩ := bindE h
 refine l_enter S (fun _ => run_call (vs := [.int .u64 Am]) ⟨(S.tm rfl), trivial⟩ Tryz.call90) (bits_Len64_ok _ Am _ hr1) rfl ?_;clear S;intro v1 a w1 hv1 hk1 hn1 S
 subst hv1
 refine lv S (rn_sub rfl (S.tm rfl)) rfl ?_;clear S;intro a S
 refine lv S (Ra (S.tm rfl)) rfl ?_;clear S;intro a S
 refine Ld (Tn (wp_ret ?_))
 obtain rfl := Option.some.inj h
 exact f_ret S Tryz.results108 rfl rfl
end Go.Proofs.YtkkaficomcpalaaGreatDoor
