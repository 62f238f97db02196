/- Each Go function computes its plain twin, by program. -/
import Derived.Test.YtmdjmbbmlohnlaaGreatDoorWk2
namespace Go.Proofs.YtmdjmbbmlohnlaaGreatDoor
open Go
set_option maxHeartbeats 8000000 in
set_option maxRecDepth 20000 in
theorem tumbref2_ScoredFault_ok (w : World) (O : Value) (Ab : List GScored) (Ad : Slc (view w []) 5 O (Ab.map GScored.enc)) (r : Int) (h : tumbref2_ScoredFault Ab = some r) :
    Calls Tryz.prog 12 [O].toArray w (Ret w [] fun _ v _ => v = iV r) := by
 refine f_enter [] [] Tryz.func12 rfl Tryz.ntmps12 rfl (by simp) (by simp [fps]) (by simp [fps]) fun a S => ?_
 unfold tumbref2_ScoredFault at h
 replace S := S.nk [] [(0, O)] [] rfl ⟨rfl, trivial⟩
 refine Fs (Fg (lv S (Ra rfl) rfl ?_));clear S;intro a S
 refine Ld (Tn (Fs (Fs (Fg (lv S (Rm (S.tm rfl)) rfl ?_)))));clear S;intro a S
 refine lv S (rn_lenT sl_29 (S.tm rfl) (slc_len Ad)) rfl ?_;clear S;intro a S
 refine lv S (rn_gtr (S.tm rfl) rfl) rfl ?_;clear S;intro a S
 refine Ld (Tn (f_cond (S.tm rfl) (fun hb1 => ?_) (fun hb1 => ?_)))
 ·replace h := iteT h hb1
  refine Fs (Fg (lv S (Ra rfl) rfl ?_));clear S;intro a S
  refine Ld (Tn (wp_ret (then_r ?_)))
  obtain rfl := Option.some.inj h
  exact f_ret S Tryz.results12 rfl rfl
 ·replace h := iteF h hb1
  refine wp_skip (Tn (Fs (Fs (Fg (lv S (Rm (S.tm rfl)) rfl ?_)))));clear S;intro a S
  refine lv S (rn_lenT sl_29 (S.tm rfl) (slc_len Ad)) rfl ?_;clear S;intro a S
  refine lv S (Rm rfl) rfl ?_;clear S;intro a S
  refine Ld (Tn ?_)
  replace S := S.nk [] [(0, O), (20, O), (21, iV (Ab.length : Int)), (22, iV 0)] [] rfl (subR rfl)
  obtain ⟨j1, hj1, h⟩ := joinE h
  refine f_join (fun a w' => j1 = some r ∧ Sx w [] nov [] [(0, O)] 171 a w') ?_ ?_
  ·refine wp_block (f_loop (fun (ys1 : List GScored) a w' => ∃ i1 : Nat, (∃ dn, Ab = dn ++ ys1 ∧ dn.length = i1) ∧ tumbref2_ScoredFault_l1 Ab j1 ys1 i1 = some r ∧ Sx w [] nov [] [(0, O), (20, O), (21, iV (Ab.length : Int)), (22, iV (i1 : Int))] 171 a w') List.length Ab ⟨0, ⟨[], rfl, rfl⟩, h, S.nf [] rfl (subR rfl)⟩ ?_)
   clear S h;rintro ys1 a w1 ⟨i1, ⟨dn, hd1, hi1⟩, h, S⟩
   cases ys1 with
   | nil =>
    rw [tumbref2_ScoredFault_l1.eq_1] at h
    refine Fs (Fg (lv S (rn_lss (S.tm rfl) (S.tm rfl)) rfl ?_));clear S;intro a S
    refine Ld ?_
    replace S := S.nk [] [(0, O), (20, O), (21, iV (Ab.length : Int)), (22, iV (i1 : Int)), (23, bV (decide ((i1 : Int) < (Ab.length : Int))))] [] rfl (subR rfl)
    refine Tn (Fs (wp_cond_false ((S.tm rfl).trans (congrArg Value.bool (rng_nil hd1 hi1))) (wp_exit (then_x (then_x (x_same ?_))))))
    refine Tn ?_
    exact ⟨h, S.nf [] rfl ⟨rfl, trivial⟩⟩
   | cons y1 ys1 =>
    rw [tumbref2_ScoredFault_l1.eq_2] at h
    refine Fs (Fg (lv S (rn_lss (S.tm rfl) (S.tm rfl)) rfl ?_));clear S;intro a S
    refine Ld ?_
    replace S := S.nk [] [(0, O), (20, O), (21, iV (Ab.length : Int)), (22, iV (i1 : Int)), (23, bV (decide ((i1 : Int) < (Ab.length : Int))))] [] rfl (subR rfl)
    refine Tn (Fs (wp_cond_true ((S.tm rfl).trans (congrArg Value.bool (rng_cons hd1 hi1))) (wp_skip (Tn (Fs (wp_block ?_))))))
    refine Fs (Fg (lv S (Rm (S.tm rfl)) rfl ?_));clear S;intro a S
    obtain ⟨b1, o1, hm1, hr1⟩ := rn_indexT (a := a) (x := .tmp 20) (y := .tmp 22) (ty := 0) sl_29 Ad (get_mid hd1 hi1) rfl (S.tm rfl) (S.tm rfl)
    refine lv S (hr1 _) rfl ?_;clear S;intro a S
    clear hr1
    refine lv S (rn_ldA Tryz.isAgg54 Tryz.sizeOf54 (off := o1) (o := 0) (part := (GScored.enc y1)) rfl rfl (S.tm rfl) (hm1.at S.emb0)) rfl ?_;clear S;intro a S
    refine l_alloc S Tryz.zeroValue54 (cs := [sV k_empty, sV k_empty, sV k_empty, iV 0, bV false]) rfl rfl ?_;clear S;intro a w3 b2 hz1 hk1 S
    refine lv S (Ra (S.tm rfl)) rfl ?_;clear S;intro a S
    refine l_store S (S.tm rfl) (S.tm rfl) (i := 0) (off := 0) rfl Tryz.sizeOf54 (vs := (GScored.enc y1)) rfl rfl rfl rfl ?_;clear S;intro w4 hk2 S
    refine Ld (Tn (wp_block (Fs (Fg (lv S (rn_fld fa_54_0 (S.tm rfl)) rfl ?_)))));clear S;intro a S
    refine lv S (rn_load Tryz.isAgg9 (S.tm rfl) (S.cell (i := 0) rfl rfl)) rfl ?_;clear S;intro a S
    obtain ⟨r1, hr2, h⟩ := bindE h
    refine l_enter S (fun _ => run_call (vs := [sV y1.Race]) ⟨(S.tm rfl), trivial⟩ Tryz.call36) (tumbref2_Key_ok _ y1.Race _ hr2) rfl ?_;clear S;intro v1 a w5 hv1 hk3 hn1 S
    subst hv1
    refine lv S (rn_not (S.tm rfl)) rfl ?_;clear S;intro a S
    refine lv S (Rm (S.tm rfl)) rfl ?_;clear S;intro a S
    obtain ⟨j2, hj2, h⟩ := joinE h
    refine f_cutm 5 (fun a w' => ∃ c1, j2 c1 = some r ∧ Keep [] w5 w' ∧ Sx w [] nov [.blk b2 (GScored.enc y1) 54] [(0, O), (3, iV (i1 : Int)), (4, .pointer (some ⟨b2, 0, none⟩)), (20, O), (21, iV (Ab.length : Int)), (22, iV (i1 : Int)), (37, bV c1)] 171 a w') ?_ ?_
    ·rcases Bool.eq_false_or_eq_true (!r1) with hb2 | hb2
     ·replace h := iteT h hb2
      iterate 4 (refine l_skip S rfl rfl rfl (neq_t hb2) rfl ?_ rfl;clear S;intro a S)
      refine lv S (rn_or_t true hb2 (S.tm rfl) rfl) rfl ?_;clear S;intro a S
      refine Ld (Tn ?_)
      exact ⟨_, h, Keep.refl _ _, S.nf [true] rfl (subR rfl)⟩
     ·replace h := iteF h hb2
      refine l_want S rfl rfl rfl hb2 (lv S (rn_fld fa_54_1 (S.tm rfl)) rfl ?_);clear S;intro a S
      refine l_want S rfl rfl rfl hb2 (lv S (rn_load Tryz.isAgg9 (S.tm rfl) (S.cell (i := 0) rfl rfl)) rfl ?_);clear S;intro a S
      refine l_want S rfl rfl rfl hb2 ?_
      obtain ⟨r2, hr3, h⟩ := bindE h
      refine l_enter S (fun _ => run_call (vs := [sV y1.Who]) ⟨(S.tm rfl), trivial⟩ Tryz.call36) (tumbref2_Key_ok _ y1.Who _ hr3) rfl ?_;clear S;intro v2 a w7 hv2 hk4 hn2 S
      subst hv2
      refine l_want S rfl rfl rfl hb2 (lv S (rn_not (S.tm rfl)) rfl ?_);clear S;intro a S
      refine lv S (rn_or_f hb2 (S.tm rfl) (S.tm rfl)) rfl ?_;clear S;intro a S
      refine Ld (Tn ?_)
      exact ⟨_, h, hk4, S.nf [true] rfl (subR rfl)⟩
    clear S h;rintro a w6 ⟨c1, h, hk5, S⟩;rw [hj2] at h;clear hj2 j2
    refine lv S (Rm (S.tm rfl)) rfl ?_;clear S;intro a S
    obtain ⟨j3, hj3, h⟩ := joinE h
    refine f_cutm 10 (fun a w' => ∃ c2, j3 c2 = some r ∧ Keep [] w6 w' ∧ Sx w [] nov [.blk b2 (GScored.enc y1) 54] [(0, O), (3, iV (i1 : Int)), (4, .pointer (some ⟨b2, 0, none⟩)), (20, O), (21, iV (Ab.length : Int)), (22, iV (i1 : Int)), (48, bV c2)] 171 a w') ?_ ?_
    ·rcases Bool.eq_false_or_eq_true c1 with hb3 | hb3
     ·replace h := iteT h hb3
      iterate 4 (refine l_skip S rfl rfl rfl (neq_t hb3) rfl ?_ rfl;clear S;intro a S)
      iterate 4 (refine l_skipU S rfl rfl rfl rfl ?_;clear S;intro a S)
      refine l_skip S rfl rfl rfl (neq_t hb3) rfl ?_ rfl;clear S;intro a S
      refine lv S (rn_or_t true hb3 (S.tm rfl) rfl) rfl ?_;clear S;intro a S
      refine Ld (Tn ?_)
      exact ⟨_, h, Keep.refl _ _, S.nf [true] rfl (subR rfl)⟩
     ·replace h := iteF h hb3
      refine l_want S rfl rfl rfl hb3 (lv S (rn_fld fa_54_2 (S.tm rfl)) rfl ?_);clear S;intro a S
      refine l_want S rfl rfl rfl hb3 (lv S (rn_load Tryz.isAgg9 (S.tm rfl) (S.cell (i := 0) rfl rfl)) rfl ?_);clear S;intro a S
      refine l_want S rfl rfl rfl hb3 (lv S (rn_sneq (S.tm rfl) rfl) rfl ?_);clear S;intro a S
      refine l_want S rfl rfl rfl hb3 (lv S (Rm (S.tm rfl)) rfl ?_);clear S;intro a S
      obtain ⟨j4, hj4, h⟩ := joinE h
      refine f_cutm 5 (fun a w' => ∃ c3, j4 c3 = some r ∧ Keep [] w6 w' ∧ Sx w [] nov [.blk b2 (GScored.enc y1) 54] [(0, O), (3, iV (i1 : Int)), (4, .pointer (some ⟨b2, 0, none⟩)), (20, O), (21, iV (Ab.length : Int)), (22, iV (i1 : Int)), (38, bV c1), (39, .pointer (some ⟨b2, 2, none⟩)), (40, sV y1.Club), (41, bV (!decide (y1.Club = k_empty))), (42, bV (!decide (y1.Club = k_empty))), (47, bV c3)] 171 a w') ?_ ?_
      ·rcases Bool.eq_false_or_eq_true (!decide (y1.Club = k_empty)) with hb4 | hb4
       ·replace h := iteT h hb4
        refine l_want S rfl rfl rfl hb4 (lv S (rn_fld fa_54_2 (S.tm rfl)) rfl ?_);clear S;intro a S
        refine l_want S rfl rfl rfl hb4 (lv S (rn_load Tryz.isAgg9 (S.tm rfl) (S.cell (i := 0) rfl rfl)) rfl ?_);clear S;intro a S
        refine l_want S rfl rfl rfl hb4 ?_
        obtain ⟨r3, hr4, h⟩ := bindE h
        refine l_enter S (fun _ => run_call (vs := [sV y1.Club]) ⟨(S.tm rfl), trivial⟩ Tryz.call36) (tumbref2_Key_ok _ y1.Club _ hr4) rfl ?_;clear S;intro v3 a w10 hv3 hk6 hn3 S
        subst hv3
        refine l_want S rfl rfl rfl hb4 (lv S (rn_not (S.tm rfl)) rfl ?_);clear S;intro a S
        refine l_want S rfl rfl rfl hb3 (lv S (rn_and_t hb4 (S.tm rfl) (S.tm rfl)) rfl ?_);clear S;intro a S
        refine Ld (Tn ?_)
        exact ⟨_, h, hk6, S.nf [true] rfl (subR rfl)⟩
       ·replace h := iteF h hb4
        iterate 4 (refine l_skip S rfl rfl rfl (neq_f hb4) rfl ?_ rfl;clear S;intro a S)
        refine l_want S rfl rfl rfl hb3 (lv S (rn_and_f true hb4 (S.tm rfl) rfl) rfl ?_);clear S;intro a S
        refine Ld (Tn ?_)
        exact ⟨_, h, Keep.refl _ _, S.nf [true] rfl (subR rfl)⟩
      clear S h;rintro a w9 ⟨c3, h, hk7, S⟩;rw [hj4] at h;clear hj4 j4
      refine lv S (rn_or_f hb3 (S.tm rfl) (S.tm rfl)) rfl ?_;clear S;intro a S
      refine Ld (Tn ?_)
      exact ⟨_, h, hk7, S.nf [true] rfl (subR rfl)⟩
    clear S h;rintro a w8 ⟨c2, h, hk8, S⟩;rw [hj3] at h;clear hj3 j3
    refine lv S (Ra (S.tm rfl)) rfl ?_;clear S;intro a S
    refine Ld (Tn (f_cond (S.tm rfl) (fun hb5 => ?_) (fun hb5 => ?_)))
    ·replace h := iteT h hb5
     refine Fs (Fg (lv S (Ra rfl) rfl ?_));clear S;intro a S
     refine Ld (Tn (wp_ret (blk_r (blk_r (then_r (then_r ?_))))))
     refine blk_r (then_r (then_r ?_))
     obtain rfl := Option.some.inj h
     exact f_ret S Tryz.results12 rfl rfl
    ·replace h := iteF h hb5
     refine Fs (Fg (lv S (rn_fld fa_54_3 (S.tm rfl)) rfl ?_));clear S;intro a S
     refine lv S (rn_load Tryz.isAgg3 (S.tm rfl) (S.cell (i := 0) rfl rfl)) rfl ?_;clear S;intro a S
     refine l_enter S (fun _ => run_call (vs := [iV y1.Rank, iV 0, iV 300]) ⟨(S.tm rfl), rfl, rfl, trivial⟩ Tryz.call35) (tumbref2_in_ok _ y1.Rank 0 300 _ rfl) rfl ?_;clear S;intro v4 a w11 hv4 hk9 hn4 S
     subst hv4
     refine lv S (rn_not (S.tm rfl)) rfl ?_;clear S;intro a S
     refine lv S (Ra (S.tm rfl)) rfl ?_;clear S;intro a S
     refine Ld (Tn (f_cond (S.tm rfl) (fun hb6 => ?_) (fun hb6 => ?_)))
     ·replace h := iteT h hb6
      refine Fs (Fg (lv S (Ra rfl) rfl ?_));clear S;intro a S
      refine Ld (Tn (wp_ret (blk_r (blk_r (then_r (then_r ?_))))))
      refine blk_r (then_r (then_r ?_))
      obtain rfl := Option.some.inj h
      exact f_ret S Tryz.results12 rfl rfl
     ·replace h := iteF h hb6
      refine Fs ?_
      obtain ⟨j5, hj5, h⟩ := joinE h
      refine f_join (fun a w' => ∃ x1 : Bool, j5 x1 = some r ∧ Sx w [] nov [] [(0, O), (20, O), (21, iV (Ab.length : Int)), (22, iV (i1 : Int)), (54, bV x1)] 171 a w') ?_ ?_
      ·rcases Bool.eq_false_or_eq_true (decide (0 < (i1 : Int))) with hb7 | hb7
       ·replace h := iteT h hb7
        obtain ⟨hc1, h⟩ := chkE h
        refine d_region [] ([]) Tryz.mixed S rfl (by kernel_rfl) ?_;clear S;intro w14 hk11 hsel S
        refine d_quiet 0 S hsel rfl rfl rfl (by kernel_rfl) (by kernel_rfl) rfl (fun _ hw => (Rm (S.tm rfl))) ?_;clear S;intro a S
        refine d_quiet 1 S hsel rfl rfl rfl (by kernel_rfl) (by kernel_rfl) rfl (fun _ hw => (rn_gtr (S.tm rfl) rfl)) ?_;clear S;intro a S
        refine d_quiet 2 S hsel rfl rfl rfl (by kernel_rfl) (by kernel_rfl) rfl (fun _ hw => (Rm (S.tm rfl))) ?_;clear S;intro a S
        refine d_quiet_g 3 S hsel rfl rfl rfl rfl hb7 rfl rfl (by kernel_rfl) (by kernel_rfl) rfl (fun _ hw => (Rm (S.tm rfl))) ?_;clear S;intro a S
        refine d_quiet_g 4 S hsel rfl rfl rfl rfl hb7 rfl rfl (by kernel_rfl) (by kernel_rfl) rfl (fun _ hw => (Rm (S.tm rfl))) ?_;clear S;intro a S
        refine d_quiet_g 5 S hsel rfl rfl rfl rfl hb7 rfl rfl (by kernel_rfl) (by kernel_rfl) rfl (fun _ hw => (rn_sub (S.tm rfl) rfl)) ?_;clear S;intro a S
        obtain ⟨b4, o3, hm3, hr6⟩ := rn_indexT (a := a) (x := .tmp 58) (y := .tmp 60) (ty := 0) sl_29 (Ad.mono (S.le_arg nil_sub)) (inB_get hc1).1 (inB_get hc1).2 (S.tm rfl) (S.tm rfl)
        refine d_quiet_g 6 S hsel rfl rfl rfl rfl hb7 rfl rfl (by kernel_rfl) (by kernel_rfl) rfl (fun _ hw => hr6 _) ?_;clear S;intro a S
        clear hr6
        refine d_quiet_g 7 S hsel rfl rfl rfl rfl hb7 rfl rfl (by kernel_rfl) (by kernel_rfl) rfl (fun _ hw => (rn_ldA Tryz.isAgg54 Tryz.sizeOf54 (off := o3) (o := 0) (part := (GScored.enc (nth Ab (W ((i1 : Int) - 1))))) rfl rfl (S.tm rfl) (hm3.kept hw))) ?_;clear S;intro a S
        refine d_quiet_g 8 S hsel rfl rfl rfl rfl hb7 rfl rfl (by kernel_rfl) (by kernel_rfl) rfl (fun _ hw => (rn_ldA Tryz.isAgg54 Tryz.sizeOf54 (off := 0) (o := 0) (part := (GScored.enc y1)) rfl rfl (S.tm rfl) ((S.blk_mem (i := 0) (cells := (GScored.enc y1)) (b := b2) (T := 54) rfl (ne_nil (e' := .blk b2 (GScored.enc y1) 54))).kept hw))) ?_;clear S;intro a S
        refine d_loud1 9 (by kernel_rfl) rfl (l_want S rfl rfl rfl hb7 (l_enter S (fun _ => run_call (vs := [.agg (GScored.enc (nth Ab (W ((i1 : Int) - 1)))).toArray, .agg (GScored.enc y1).toArray]) ⟨(S.tm rfl), (S.tm rfl), trivial⟩ Tryz.call37) (tumbref2_ScoredOrder_ok _ (nth Ab (W ((i1 : Int) - 1))) y1 _ rfl) rfl ?_));clear S;intro v6 a w15 hv6 hk12 hn6 S
        subst hv6
        refine Ld (d_next hk12 (d_rest [10, 11, 12] hsel (by kernel_rfl) rfl ?_))
        clear hsel
        refine s_want S rfl rfl rfl rfl hb7 (s_lv0 S (rn_geq (S.tm rfl) rfl) rfl ?_);clear S;intro a S
        refine s_lv S rfl (rn_pick_b hb7 (S.tm rfl) (S.tm rfl)) rfl ?_;clear S;intro a S
        refine s_lv S rfl (Ra (S.tm rfl)) rfl ?_;clear S;intro a S
        refine s_done ?_
        replace S := S.nk [] [(0, O), (20, O), (21, iV (Ab.length : Int)), (22, iV (i1 : Int)), (54, bV (decide (0 ≤ (tumbref2_ScoredOrder (nth Ab (W ((i1 : Int) - 1))) y1)))), (58, O), (59, iV (i1 : Int)), (60, iV (W ((i1 : Int) - 1))), (61, .pointer (some ⟨b4, o3, none⟩)), (62, .agg (GScored.enc (nth Ab (W ((i1 : Int) - 1)))).toArray), (63, .agg (GScored.enc y1).toArray), (64, iV (tumbref2_ScoredOrder (nth Ab (W ((i1 : Int) - 1))) y1)), (65, bV (decide (0 ≤ (tumbref2_ScoredOrder (nth Ab (W ((i1 : Int) - 1))) y1))))] [false] rfl (subR rfl)
        refine Tn ?_
        exact ⟨decide (0 ≤ (tumbref2_ScoredOrder (nth Ab (W ((i1 : Int) - 1))) y1)), h, S.nf [] rfl (subR rfl)⟩
       ·replace h := iteF h hb7
        refine d_region [] ([]) Tryz.mixed S rfl (by kernel_rfl) ?_;clear S;intro w16 hk13 hsel S
        refine d_rest [0, 1, 2, 3, 4, 5, 6, 7, 8, 9, 10, 11, 12] hsel (by kernel_rfl) rfl ?_
        clear hsel
        refine s_lv S rfl (Rm (S.tm rfl)) rfl ?_;clear S;intro a S
        refine s_lv S rfl (rn_gtr (S.tm rfl) rfl) rfl ?_;clear S;intro a S
        refine s_lv S rfl (Rm (S.tm rfl)) rfl ?_;clear S;intro a S
        iterate 8 (refine s_skip S rfl rfl rfl rfl (neq_f hb7) rfl ?_ rfl;clear S;intro a S)
        refine s_lv S rfl (rn_pick_c hb7 (S.tm rfl) rfl) rfl ?_;clear S;intro a S
        refine s_lv S rfl (Ra (S.tm rfl)) rfl ?_;clear S;intro a S
        refine s_done ?_
        replace S := S.nk [] [(0, O), (20, O), (21, iV (Ab.length : Int)), (22, iV (i1 : Int)), (54, bV false)] [false] rfl (subR rfl)
        refine Tn ?_
        exact ⟨false, h, S.nf [] rfl (subR rfl)⟩
      clear S h;rintro a w12 ⟨x1, h, S⟩;rw [hj5] at h;clear hj5 j5
      refine Tn (f_cond (S.tm rfl) (fun hb8 => ?_) (fun hb8 => ?_))
      ·replace h := iteT h hb8
       refine Fs (Fg (lv S (Ra rfl) rfl ?_));clear S;intro a S
       refine Ld (Tn (wp_ret (blk_r (blk_r (then_r (then_r ?_))))))
       refine blk_r (then_r (then_r ?_))
       obtain rfl := Option.some.inj h
       exact f_ret S Tryz.results12 rfl rfl
      ·replace h := iteF h hb8
       refine wp_skip (blk_n (blk_n (Tn (Fg (lv S (rn_add (S.tm rfl) rfl) rfl ?_)))));clear S;intro a S
       refine lv S (Rm (S.tm rfl)) rfl ?_;clear S;intro a S
       refine Ld (Tn ?_)
       exact ⟨ys1, ⟨i1 + 1, ⟨_, (hd1).trans (List.append_cons _ _ _), by simp [hi1]⟩, h, S.nf [] rfl ⟨rfl, rfl, rfl, (congrArg (fun z => some (Value.int .i64 z)) (rng_next hd1 hi1 (slc_max Ad))), trivial⟩⟩, Nat.lt_succ_self _⟩
  clear S h;rintro a w2 ⟨h, S⟩;rw [hj1] at h;clear hj1 j1
  refine Tn (Fs (Fg (lv S (Ra rfl) rfl ?_)));clear S;intro a S
  iterate 3 (refine lv S (Ra rfl) rfl ?_;clear S;intro a S)
  refine Ld (Tn (Fs (Fs (Fg (lv S (Rm (S.tm rfl)) rfl ?_)))));clear S;intro a S
  refine lv S (rn_lenT sl_29 (S.tm rfl) (slc_len Ad)) rfl ?_;clear S;intro a S
  refine lv S (Rm rfl) rfl ?_;clear S;intro a S
  refine Ld (Tn ?_)
  replace S := S.nk [] [(0, O), (5, bV false), (6, bV false), (7, bV false), (8, bV false), (68, O), (69, iV (Ab.length : Int)), (70, iV 0)] [] rfl (subR rfl)
  obtain ⟨j6, hj6, h⟩ := joinE h
  refine f_join (fun a w' => ∃ x2 : Bool, ∃ x3 : Bool, ∃ x4 : Bool, ∃ x5 : Bool, j6 x2 x3 x4 x5 = some r ∧ Sx w [] nov [] [(5, bV x2), (6, bV x3), (7, bV x4), (8, bV x5)] 171 a w') ?_ ?_
  ·refine wp_block (f_loop (fun (ys2 : List GScored) a w' => ∃ i2 : Nat, ∃ x2 : Bool, ∃ x3 : Bool, ∃ x4 : Bool, ∃ x5 : Bool, (∃ dn, Ab = dn ++ ys2 ∧ dn.length = i2) ∧ tumbref2_ScoredFault_l2 Ab j6 ys2 i2 x2 x3 x4 x5 = some r ∧ Sx w [] nov [] [(0, O), (5, bV x2), (6, bV x3), (7, bV x4), (8, bV x5), (68, O), (69, iV (Ab.length : Int)), (70, iV (i2 : Int))] 171 a w') List.length Ab ⟨0, false, false, false, false, ⟨[], rfl, rfl⟩, h, S.nf [] rfl (subR rfl)⟩ ?_)
   clear S h;rintro ys2 a w17 ⟨i2, x2, x3, x4, x5, ⟨dn, hd2, hi2⟩, h, S⟩
   cases ys2 with
   | nil =>
    rw [tumbref2_ScoredFault_l2.eq_1] at h
    refine Fs (Fg (lv S (rn_lss (S.tm rfl) (S.tm rfl)) rfl ?_));clear S;intro a S
    refine Ld ?_
    replace S := S.nk [] [(0, O), (5, bV x2), (6, bV x3), (7, bV x4), (8, bV x5), (68, O), (69, iV (Ab.length : Int)), (70, iV (i2 : Int)), (71, bV (decide ((i2 : Int) < (Ab.length : Int))))] [] rfl (subR rfl)
    refine Tn (Fs (wp_cond_false ((S.tm rfl).trans (congrArg Value.bool (rng_nil hd2 hi2))) (wp_exit (then_x (then_x (x_same ?_))))))
    refine Tn ?_
    exact ⟨x2, x3, x4, x5, h, S.nf [] rfl (subR rfl)⟩
   | cons y2 ys2 =>
    rw [tumbref2_ScoredFault_l2.eq_2] at h
    refine Fs (Fg (lv S (rn_lss (S.tm rfl) (S.tm rfl)) rfl ?_));clear S;intro a S
    refine Ld ?_
    replace S := S.nk [] [(0, O), (5, bV x2), (6, bV x3), (7, bV x4), (8, bV x5), (68, O), (69, iV (Ab.length : Int)), (70, iV (i2 : Int)), (71, bV (decide ((i2 : Int) < (Ab.length : Int))))] [] rfl (subR rfl)
    refine Tn (Fs (wp_cond_true ((S.tm rfl).trans (congrArg Value.bool (rng_cons hd2 hi2))) (wp_skip (Tn (Fs (wp_block ?_))))))
    refine Fs (Fg (lv S (Rm (S.tm rfl)) rfl ?_));clear S;intro a S
    obtain ⟨b5, o4, hm4, hr7⟩ := rn_indexT (a := a) (x := .tmp 68) (y := .tmp 70) (ty := 0) sl_29 Ad (get_mid hd2 hi2) rfl (S.tm rfl) (S.tm rfl)
    refine lv S (hr7 _) rfl ?_;clear S;intro a S
    clear hr7
    refine lv S (rn_ldA Tryz.isAgg54 Tryz.sizeOf54 (off := o4) (o := 0) (part := (GScored.enc y2)) rfl rfl (S.tm rfl) (hm4.at S.emb0)) rfl ?_;clear S;intro a S
    refine l_alloc S Tryz.zeroValue54 (cs := [sV k_empty, sV k_empty, sV k_empty, iV 0, bV false]) rfl rfl ?_;clear S;intro a w19 b6 hz2 hk14 S
    refine lv S (Ra (S.tm rfl)) rfl ?_;clear S;intro a S
    refine l_store S (S.tm rfl) (S.tm rfl) (i := 0) (off := 0) rfl Tryz.sizeOf54 (vs := (GScored.enc y2)) rfl rfl rfl rfl ?_;clear S;intro w20 hk15 S
    refine Ld (Tn (Fs (Fg (lv S (Ra rfl) rfl ?_))));clear S;intro a S
    refine lv S (Ra rfl) rfl ?_;clear S;intro a S
    refine Ld ?_
    replace S := S.nk [.blk b6 (GScored.enc y2) 54] [(0, O), (5, bV x2), (6, bV x3), (7, bV x4), (8, bV x5), (9, iV (i2 : Int)), (10, .pointer (some ⟨b6, 0, none⟩)), (11, iV 0), (12, iV 0), (68, O), (69, iV (Ab.length : Int)), (70, iV (i2 : Int))] [true] rfl (subR rfl)
    refine Tn (Fs (Fs (Fg (lv S (Rm (S.tm rfl)) rfl ?_))));clear S;intro a S
    refine lv S (rn_lenT sl_29 (S.tm rfl) (slc_len Ad)) rfl ?_;clear S;intro a S
    refine lv S (Rm rfl) rfl ?_;clear S;intro a S
    refine Ld ?_
    replace S := S.nk [.blk b6 (GScored.enc y2) 54] [(0, O), (5, bV x2), (6, bV x3), (7, bV x4), (8, bV x5), (9, iV (i2 : Int)), (10, .pointer (some ⟨b6, 0, none⟩)), (11, iV 0), (12, iV 0), (68, O), (69, iV (Ab.length : Int)), (70, iV (i2 : Int)), (75, O), (76, iV (Ab.length : Int)), (77, iV 0)] [true] rfl (subR rfl)
    refine Tn ?_
    obtain ⟨j7, hj7, h⟩ := joinE h
    refine f_join (fun a w' => ∃ x6 : Bool, ∃ x7 : Bool, ∃ x8 : Int, ∃ x9 : Int, j7 x6 x7 x8 x9 = some r ∧ Sx w [] nov [.blk b6 (GScored.enc y2) 54] [(0, O), (5, bV x6), (6, bV x7), (7, bV x4), (8, bV x5), (10, .pointer (some ⟨b6, 0, none⟩)), (11, iV x8), (12, iV x9), (68, O), (69, iV (Ab.length : Int)), (70, iV (i2 : Int))] 171 a w') ?_ ?_
    ·refine wp_block (f_loop (fun (ys3 : List GScored) a w' => ∃ i3 : Nat, ∃ x6 : Bool, ∃ x7 : Bool, ∃ x8 : Int, ∃ x9 : Int, (∃ dn, Ab = dn ++ ys3 ∧ dn.length = i3) ∧ tumbref2_ScoredFault_l3 y2 i2 j7 ys3 i3 x6 x7 x8 x9 = some r ∧ Sx w [] nov [.blk b6 (GScored.enc y2) 54] [(0, O), (5, bV x6), (6, bV x7), (7, bV x4), (8, bV x5), (9, iV (i2 : Int)), (10, .pointer (some ⟨b6, 0, none⟩)), (11, iV x8), (12, iV x9), (68, O), (69, iV (Ab.length : Int)), (70, iV (i2 : Int)), (75, O), (76, iV (Ab.length : Int)), (77, iV (i3 : Int))] 171 a w') List.length Ab ⟨0, x2, x3, 0, 0, ⟨[], rfl, rfl⟩, h, S.nf [true] rfl (subR rfl)⟩ ?_)
     clear S h;rintro ys3 a w21 ⟨i3, x6, x7, x8, x9, ⟨dn, hd3, hi3⟩, h, S⟩
     cases ys3 with
     | nil =>
      rw [tumbref2_ScoredFault_l3.eq_1] at h
      refine Fs (Fg (lv S (rn_lss (S.tm rfl) (S.tm rfl)) rfl ?_));clear S;intro a S
      refine Ld ?_
      replace S := S.nk [.blk b6 (GScored.enc y2) 54] [(0, O), (5, bV x6), (6, bV x7), (7, bV x4), (8, bV x5), (9, iV (i2 : Int)), (10, .pointer (some ⟨b6, 0, none⟩)), (11, iV x8), (12, iV x9), (68, O), (69, iV (Ab.length : Int)), (70, iV (i2 : Int)), (75, O), (76, iV (Ab.length : Int)), (77, iV (i3 : Int)), (78, bV (decide ((i3 : Int) < (Ab.length : Int))))] [true] rfl (subR rfl)
      refine Tn (Fs (wp_cond_false ((S.tm rfl).trans (congrArg Value.bool (rng_nil hd3 hi3))) (wp_exit (then_x (then_x (x_same ?_))))))
      refine Tn ?_
      exact ⟨x6, x7, x8, x9, h, S.nf [true] rfl (subR rfl)⟩
     | cons y3 ys3 =>
      rw [tumbref2_ScoredFault_l3.eq_2] at h
      refine Fs (Fg (lv S (rn_lss (S.tm rfl) (S.tm rfl)) rfl ?_));clear S;intro a S
      refine Ld ?_
      replace S := S.nk [.blk b6 (GScored.enc y2) 54] [(0, O), (5, bV x6), (6, bV x7), (7, bV x4), (8, bV x5), (9, iV (i2 : Int)), (10, .pointer (some ⟨b6, 0, none⟩)), (11, iV x8), (12, iV x9), (68, O), (69, iV (Ab.length : Int)), (70, iV (i2 : Int)), (75, O), (76, iV (Ab.length : Int)), (77, iV (i3 : Int)), (78, bV (decide ((i3 : Int) < (Ab.length : Int))))] [true] rfl (subR rfl)
      refine Tn (Fs (wp_cond_true ((S.tm rfl).trans (congrArg Value.bool (rng_cons hd3 hi3))) (wp_skip (Tn (Fs ?_)))))
      obtain ⟨j8, hj8, h⟩ := joinE h
      refine f_join (fun a w' => ∃ x10 : Bool, ∃ x11 : Bool, ∃ x12 : Int, ∃ x13 : Int, j8 x10 x11 x12 x13 = some r ∧ Sx w [] nov [.blk b6 (GScored.enc y2) 54] [(0, O), (5, bV x10), (6, bV x11), (7, bV x4), (8, bV x5), (9, iV (i2 : Int)), (10, .pointer (some ⟨b6, 0, none⟩)), (11, iV x12), (12, iV x13), (68, O), (69, iV (Ab.length : Int)), (70, iV (i2 : Int)), (75, O), (76, iV (Ab.length : Int)), (77, iV (i3 : Int))] 171 a w') ?_ ?_
      ·refine wp_block (Fs (Fg (lv S (Rm (S.tm rfl)) rfl ?_)));clear S;intro a S
       obtain ⟨b7, o5, hm5, hr8⟩ := rn_indexT (a := a) (x := .tmp 75) (y := .tmp 77) (ty := 0) sl_29 Ad (get_mid hd3 hi3) rfl (S.tm rfl) (S.tm rfl)
       refine lv S (hr8 _) rfl ?_;clear S;intro a S
       clear hr8
       refine lv S (rn_ldA Tryz.isAgg54 Tryz.sizeOf54 (off := o5) (o := 0) (part := (GScored.enc y3)) rfl rfl (S.tm rfl) (hm5.at S.emb0)) rfl ?_;clear S;intro a S
       refine l_alloc S Tryz.zeroValue54 (cs := [sV k_empty, sV k_empty, sV k_empty, iV 0, bV false]) rfl rfl ?_;clear S;intro a w24 b8 hz3 hk16 S
       refine lv S (Ra (S.tm rfl)) rfl ?_;clear S;intro a S
       refine l_store S (S.tm rfl) (S.tm rfl) (i := 0) (off := 0) rfl Tryz.sizeOf54 (vs := (GScored.enc y3)) rfl rfl rfl rfl ?_;clear S;intro w25 hk17 S
       refine Ld ?_
       replace S := S.nk [.blk b8 (GScored.enc y3) 54, .blk b6 (GScored.enc y2) 54] [(0, O), (5, bV x6), (6, bV x7), (7, bV x4), (8, bV x5), (9, iV (i2 : Int)), (10, .pointer (some ⟨b6, 0, none⟩)), (11, iV x8), (12, iV x9), (13, iV (i3 : Int)), (14, .pointer (some ⟨b8, 0, none⟩)), (68, O), (69, iV (Ab.length : Int)), (70, iV (i2 : Int)), (75, O), (76, iV (Ab.length : Int)), (77, iV (i3 : Int))] [true, true] rfl (subR rfl)
       refine Tn (Fs (Fs (Fg (lv S (rn_fld fa_54_0 (S.tm rfl)) rfl ?_))));clear S;intro a S
       refine lv S (rn_load Tryz.isAgg9 (S.tm rfl) (S.cell (i := 0) rfl rfl)) rfl ?_;clear S;intro a S
       refine lv S (rn_fld fa_54_0 (S.tm rfl)) rfl ?_;clear S;intro a S
       refine lv S (rn_load Tryz.isAgg9 (S.tm rfl) (S.cell (i := 1) rfl rfl)) rfl ?_;clear S;intro a S
       refine lv S (rn_sneq (S.tm rfl) (S.tm rfl)) rfl ?_;clear S;intro a S
       refine Ld ?_
       replace S := S.nk [.blk b8 (GScored.enc y3) 54, .blk b6 (GScored.enc y2) 54] [(0, O), (5, bV x6), (6, bV x7), (7, bV x4), (8, bV x5), (9, iV (i2 : Int)), (10, .pointer (some ⟨b6, 0, none⟩)), (11, iV x8), (12, iV x9), (13, iV (i3 : Int)), (14, .pointer (some ⟨b8, 0, none⟩)), (68, O), (69, iV (Ab.length : Int)), (70, iV (i2 : Int)), (75, O), (76, iV (Ab.length : Int)), (77, iV (i3 : Int)), (86, bV (!decide (y3.Race = y2.Race)))] [true, true] rfl (subR rfl)
       refine Tn (f_cond (S.tm rfl) (fun hb9 => ?_) (fun hb9 => ?_))
       ·replace h := iteT h hb9
        refine wp_exit (then_x (x_same (Tn ?_)))
        exact ⟨x6, x7, x8, x9, h, S.nf [false, true] rfl (subR rfl)⟩
       ·replace h := iteF h hb9
        refine wp_skip (Tn (Fs (Fg (lv S (Rm (S.tm rfl)) rfl ?_))));clear S;intro a S
        refine lv S (Rm (S.tm rfl)) rfl ?_;clear S;intro a S
        refine f_cutm 11 (fun a w' => Keep [] w25 w' ∧ Sx w [] nov [.blk b8 (GScored.enc y3) 54, .blk b6 (GScored.enc y2) 54] [(0, O), (6, bV x7), (7, bV x4), (8, bV x5), (9, iV (i2 : Int)), (10, .pointer (some ⟨b6, 0, none⟩)), (11, iV x8), (12, iV x9), (14, .pointer (some ⟨b8, 0, none⟩)), (68, O), (69, iV (Ab.length : Int)), (70, iV (i2 : Int)), (75, O), (76, iV (Ab.length : Int)), (77, iV (i3 : Int)), (99, bV (x6 || ((!decide ((i3 : Int) = (i2 : Int))) && (decide (y3.Who = y2.Who)))))] 171 a w') ?_ ?_
        ·rcases Bool.eq_false_or_eq_true x6 with hb10 | hb10
         ·iterate 4 (refine l_skip S rfl rfl rfl (neq_t hb10) rfl ?_ rfl;clear S;intro a S)
          iterate 5 (refine l_skipU S rfl rfl rfl rfl ?_;clear S;intro a S)
          refine l_skip S rfl rfl rfl (neq_t hb10) rfl ?_ rfl;clear S;intro a S
          refine lv S (rn_or_t ((!decide ((i3 : Int) = (i2 : Int))) && (decide (y3.Who = y2.Who))) hb10 (S.tm rfl) rfl) rfl ?_;clear S;intro a S
          refine Ld (Tn ?_)
          exact ⟨Keep.refl _ _, S.nf [true, true] rfl (subR rfl)⟩
         ·refine l_want S rfl rfl rfl hb10 (lv S (Rm (S.tm rfl)) rfl ?_);clear S;intro a S
          refine l_want S rfl rfl rfl hb10 (lv S (Rm (S.tm rfl)) rfl ?_);clear S;intro a S
          refine l_want S rfl rfl rfl hb10 (lv S (rn_neq (S.tm rfl) (S.tm rfl)) rfl ?_);clear S;intro a S
          refine l_want S rfl rfl rfl hb10 (lv S (Rm (S.tm rfl)) rfl ?_);clear S;intro a S
          refine f_cutm 6 (fun a w' => Keep [] w25 w' ∧ Sx w [] nov [.blk b8 (GScored.enc y3) 54, .blk b6 (GScored.enc y2) 54] [(0, O), (6, bV x7), (7, bV x4), (8, bV x5), (9, iV (i2 : Int)), (10, .pointer (some ⟨b6, 0, none⟩)), (11, iV x8), (12, iV x9), (14, .pointer (some ⟨b8, 0, none⟩)), (68, O), (69, iV (Ab.length : Int)), (70, iV (i2 : Int)), (75, O), (76, iV (Ab.length : Int)), (77, iV (i3 : Int)), (88, bV x6), (89, iV (i3 : Int)), (90, iV (i2 : Int)), (91, bV (!decide ((i3 : Int) = (i2 : Int)))), (92, bV (!decide ((i3 : Int) = (i2 : Int)))), (98, bV ((!decide ((i3 : Int) = (i2 : Int))) && (decide (y3.Who = y2.Who))))] 171 a w') ?_ ?_
          ·rcases Bool.eq_false_or_eq_true (!decide ((i3 : Int) = (i2 : Int))) with hb11 | hb11
           ·refine l_want S rfl rfl rfl hb11 (lv S (rn_fld fa_54_1 (S.tm rfl)) rfl ?_);clear S;intro a S
            refine l_want S rfl rfl rfl hb11 (lv S (rn_load Tryz.isAgg9 (S.tm rfl) (S.cell (i := 0) rfl rfl)) rfl ?_);clear S;intro a S
            refine l_want S rfl rfl rfl hb11 (lv S (rn_fld fa_54_1 (S.tm rfl)) rfl ?_);clear S;intro a S
            refine l_want S rfl rfl rfl hb11 (lv S (rn_load Tryz.isAgg9 (S.tm rfl) (S.cell (i := 1) rfl rfl)) rfl ?_);clear S;intro a S
            refine l_want S rfl rfl rfl hb11 (lv S (rn_seql (S.tm rfl) (S.tm rfl)) rfl ?_);clear S;intro a S
            refine l_want S rfl rfl rfl hb10 (lv S (rn_and_t hb11 (S.tm rfl) (S.tm rfl)) rfl ?_);clear S;intro a S
            refine Ld (Tn ?_)
            exact ⟨Keep.refl _ _, S.nf [true, true] rfl (subR rfl)⟩
           ·iterate 5 (refine l_skip S rfl rfl rfl (neq_f hb11) rfl ?_ rfl;clear S;intro a S)
            refine l_want S rfl rfl rfl hb10 (lv S (rn_and_f (decide (y3.Who = y2.Who)) hb11 (S.tm rfl) rfl) rfl ?_);clear S;intro a S
            refine Ld (Tn ?_)
            exact ⟨Keep.refl _ _, S.nf [true, true] rfl (subR rfl)⟩
          clear S;rintro a w27 ⟨hk18, S⟩
          refine lv S (rn_or_f hb10 (S.tm rfl) (S.tm rfl)) rfl ?_;clear S;intro a S
          refine Ld (Tn ?_)
          exact ⟨hk18, S.nf [true, true] rfl (subR rfl)⟩
        clear S;rintro a w26 ⟨hk19, S⟩
        refine lv S (Ra (S.tm rfl)) rfl ?_;clear S;intro a S
        refine Ld ?_
        replace S := S.nk [.blk b8 (GScored.enc y3) 54, .blk b6 (GScored.enc y2) 54] [(0, O), (5, bV (x6 || ((!decide ((i3 : Int) = (i2 : Int))) && (decide (y3.Who = y2.Who))))), (6, bV x7), (7, bV x4), (8, bV x5), (9, iV (i2 : Int)), (10, .pointer (some ⟨b6, 0, none⟩)), (11, iV x8), (12, iV x9), (14, .pointer (some ⟨b8, 0, none⟩)), (68, O), (69, iV (Ab.length : Int)), (70, iV (i2 : Int)), (75, O), (76, iV (Ab.length : Int)), (77, iV (i3 : Int))] [true, true] rfl (subR rfl)
        refine Tn (Fs (Fg (lv S (Rm (S.tm rfl)) rfl ?_)));clear S;intro a S
        refine lv S (Rm (S.tm rfl)) rfl ?_;clear S;intro a S
        refine f_cutm 6 (fun a w' => Keep [] w26 w' ∧ Sx w [] nov [.blk b8 (GScored.enc y3) 54, .blk b6 (GScored.enc y2) 54] [(0, O), (5, bV (x6 || ((!decide ((i3 : Int) = (i2 : Int))) && (decide (y3.Who = y2.Who))))), (7, bV x4), (8, bV x5), (9, iV (i2 : Int)), (10, .pointer (some ⟨b6, 0, none⟩)), (11, iV x8), (12, iV x9), (14, .pointer (some ⟨b8, 0, none⟩)), (68, O), (69, iV (Ab.length : Int)), (70, iV (i2 : Int)), (75, O), (76, iV (Ab.length : Int)), (77, iV (i3 : Int)), (107, bV (x7 || (!decide (y3.Relay = y2.Relay))))] 171 a w') ?_ ?_
        ·rcases Bool.eq_false_or_eq_true x7 with hb12 | hb12
         ·iterate 5 (refine l_skip S rfl rfl rfl (neq_t hb12) rfl ?_ rfl;clear S;intro a S)
          refine lv S (rn_or_t (!decide (y3.Relay = y2.Relay)) hb12 (S.tm rfl) rfl) rfl ?_;clear S;intro a S
          refine Ld (Tn ?_)
          exact ⟨Keep.refl _ _, S.nf [true, true] rfl (subR rfl)⟩
         ·refine l_want S rfl rfl rfl hb12 (lv S (rn_fld fa_54_4 (S.tm rfl)) rfl ?_);clear S;intro a S
          refine l_want S rfl rfl rfl hb12 (lv S (rn_load Tryz.isAgg4 (S.tm rfl) (S.cell (i := 0) rfl rfl)) rfl ?_);clear S;intro a S
          refine l_want S rfl rfl rfl hb12 (lv S (rn_fld fa_54_4 (S.tm rfl)) rfl ?_);clear S;intro a S
          refine l_want S rfl rfl rfl hb12 (lv S (rn_load Tryz.isAgg4 (S.tm rfl) (S.cell (i := 1) rfl rfl)) rfl ?_);clear S;intro a S
          refine l_want S rfl rfl rfl hb12 (lv S (rn_bneq Tryz.underlying4 (S.tm rfl) (S.tm rfl)) rfl ?_);clear S;intro a S
          refine lv S (rn_or_f hb12 (S.tm rfl) (S.tm rfl)) rfl ?_;clear S;intro a S
          refine Ld (Tn ?_)
          exact ⟨Keep.refl _ _, S.nf [true, true] rfl (subR rfl)⟩
        clear S;rintro a w28 ⟨hk20, S⟩
        refine lv S (Ra (S.tm rfl)) rfl ?_;clear S;intro a S
        refine Ld ?_
        replace S := S.nk [.blk b8 (GScored.enc y3) 54, .blk b6 (GScored.enc y2) 54] [(0, O), (5, bV (x6 || ((!decide ((i3 : Int) = (i2 : Int))) && (decide (y3.Who = y2.Who))))), (6, bV (x7 || (!decide (y3.Relay = y2.Relay)))), (7, bV x4), (8, bV x5), (9, iV (i2 : Int)), (10, .pointer (some ⟨b6, 0, none⟩)), (11, iV x8), (12, iV x9), (14, .pointer (some ⟨b8, 0, none⟩)), (68, O), (69, iV (Ab.length : Int)), (70, iV (i2 : Int)), (75, O), (76, iV (Ab.length : Int)), (77, iV (i3 : Int))] [true, true] rfl (subR rfl)
        refine Tn (Fs (Fs (Fg (lv S (rn_fld fa_54_3 (S.tm rfl)) rfl ?_))));clear S;intro a S
        refine lv S (rn_load Tryz.isAgg3 (S.tm rfl) (S.cell (i := 0) rfl rfl)) rfl ?_;clear S;intro a S
        refine lv S (rn_gtr (S.tm rfl) rfl) rfl ?_;clear S;intro a S
        refine lv S (Rm (S.tm rfl)) rfl ?_;clear S;intro a S
        refine f_cutm 6 (fun a w' => Keep [] w28 w' ∧ Sx w [] nov [.blk b8 (GScored.enc y3) 54, .blk b6 (GScored.enc y2) 54] [(0, O), (5, bV (x6 || ((!decide ((i3 : Int) = (i2 : Int))) && (decide (y3.Who = y2.Who))))), (6, bV (x7 || (!decide (y3.Relay = y2.Relay)))), (7, bV x4), (8, bV x5), (9, iV (i2 : Int)), (10, .pointer (some ⟨b6, 0, none⟩)), (11, iV x8), (12, iV x9), (14, .pointer (some ⟨b8, 0, none⟩)), (68, O), (69, iV (Ab.length : Int)), (70, iV (i2 : Int)), (75, O), (76, iV (Ab.length : Int)), (77, iV (i3 : Int)), (117, bV ((decide (0 < y3.Rank)) && (decide (y3.Rank < y2.Rank))))] 171 a w') ?_ ?_
        ·rcases Bool.eq_false_or_eq_true (decide (0 < y3.Rank)) with hb13 | hb13
         ·refine l_want S rfl rfl rfl hb13 (lv S (rn_fld fa_54_3 (S.tm rfl)) rfl ?_);clear S;intro a S
          refine l_want S rfl rfl rfl hb13 (lv S (rn_load Tryz.isAgg3 (S.tm rfl) (S.cell (i := 0) rfl rfl)) rfl ?_);clear S;intro a S
          refine l_want S rfl rfl rfl hb13 (lv S (rn_fld fa_54_3 (S.tm rfl)) rfl ?_);clear S;intro a S
          refine l_want S rfl rfl rfl hb13 (lv S (rn_load Tryz.isAgg3 (S.tm rfl) (S.cell (i := 1) rfl rfl)) rfl ?_);clear S;intro a S
          refine l_want S rfl rfl rfl hb13 (lv S (rn_lss (S.tm rfl) (S.tm rfl)) rfl ?_);clear S;intro a S
          refine lv S (rn_and_t hb13 (S.tm rfl) (S.tm rfl)) rfl ?_;clear S;intro a S
          refine Ld (Tn ?_)
          exact ⟨Keep.refl _ _, S.nf [true, true] rfl (subR rfl)⟩
         ·iterate 5 (refine l_skip S rfl rfl rfl (neq_f hb13) rfl ?_ rfl;clear S;intro a S)
          refine lv S (rn_and_f (decide (y3.Rank < y2.Rank)) hb13 (S.tm rfl) rfl) rfl ?_;clear S;intro a S
          refine Ld (Tn ?_)
          exact ⟨Keep.refl _ _, S.nf [true, true] rfl (subR rfl)⟩
        clear S;rintro a w29 ⟨hk21, S⟩
        refine Ld ?_
        replace S := S.nk [.blk b8 (GScored.enc y3) 54, .blk b6 (GScored.enc y2) 54] [(0, O), (5, bV (x6 || ((!decide ((i3 : Int) = (i2 : Int))) && (decide (y3.Who = y2.Who))))), (6, bV (x7 || (!decide (y3.Relay = y2.Relay)))), (7, bV x4), (8, bV x5), (9, iV (i2 : Int)), (10, .pointer (some ⟨b6, 0, none⟩)), (11, iV x8), (12, iV x9), (14, .pointer (some ⟨b8, 0, none⟩)), (68, O), (69, iV (Ab.length : Int)), (70, iV (i2 : Int)), (75, O), (76, iV (Ab.length : Int)), (77, iV (i3 : Int)), (117, bV ((decide (0 < y3.Rank)) && (decide (y3.Rank < y2.Rank))))] [true, true] rfl (subR rfl)
        refine Tn ?_
        obtain ⟨j9, hj9, h⟩ := joinE h
        refine f_join (fun a w' => ∃ x14 : Int, j9 x14 = some r ∧ Sx w [] nov [.blk b8 (GScored.enc y3) 54, .blk b6 (GScored.enc y2) 54] [(0, O), (5, bV (x6 || ((!decide ((i3 : Int) = (i2 : Int))) && (decide (y3.Who = y2.Who))))), (6, bV (x7 || (!decide (y3.Relay = y2.Relay)))), (7, bV x4), (8, bV x5), (9, iV (i2 : Int)), (10, .pointer (some ⟨b6, 0, none⟩)), (11, iV x14), (12, iV x9), (14, .pointer (some ⟨b8, 0, none⟩)), (68, O), (69, iV (Ab.length : Int)), (70, iV (i2 : Int)), (75, O), (76, iV (Ab.length : Int)), (77, iV (i3 : Int))] 171 a w') ?_ ?_
        ·refine f_cond (S.tm rfl) (fun hb14 => ?_) (fun hb14 => ?_)
         ·replace h := iteT h hb14
          refine Fg (lv S (Rm (S.tm rfl)) rfl ?_);clear S;intro a S
          refine lv S (rn_add (S.tm rfl) rfl) rfl ?_;clear S;intro a S
          refine lv S (Ra (S.tm rfl)) rfl ?_;clear S;intro a S
          refine Ld ?_
          replace S := S.nk [.blk b8 (GScored.enc y3) 54, .blk b6 (GScored.enc y2) 54] [(0, O), (5, bV (x6 || ((!decide ((i3 : Int) = (i2 : Int))) && (decide (y3.Who = y2.Who))))), (6, bV (x7 || (!decide (y3.Relay = y2.Relay)))), (7, bV x4), (8, bV x5), (9, iV (i2 : Int)), (10, .pointer (some ⟨b6, 0, none⟩)), (11, iV (W (x8 + 1))), (12, iV x9), (14, .pointer (some ⟨b8, 0, none⟩)), (68, O), (69, iV (Ab.length : Int)), (70, iV (i2 : Int)), (75, O), (76, iV (Ab.length : Int)), (77, iV (i3 : Int))] [true, true] rfl (subR rfl)
          refine Tn ?_
          exact ⟨W (x8 + 1), h, S.nf [true, true] rfl (subR rfl)⟩
         ·replace h := iteF h hb14
          refine wp_skip (Tn ?_)
          exact ⟨x8, h, S.nf [true, true] rfl (subR rfl)⟩
        clear S h;rintro a w30 ⟨x14, h, S⟩;rw [hj9] at h;clear hj9 j9
        refine Tn (Fs (Fg (lv S (rn_fld fa_54_3 (S.tm rfl)) rfl ?_)));clear S;intro a S
        refine lv S (rn_load Tryz.isAgg3 (S.tm rfl) (S.cell (i := 0) rfl rfl)) rfl ?_;clear S;intro a S
        refine lv S (rn_fld fa_54_3 (S.tm rfl)) rfl ?_;clear S;intro a S
        refine lv S (rn_load Tryz.isAgg3 (S.tm rfl) (S.cell (i := 1) rfl rfl)) rfl ?_;clear S;intro a S
        refine lv S (rn_eql (S.tm rfl) (S.tm rfl)) rfl ?_;clear S;intro a S
        refine Ld ?_
        replace S := S.nk [.blk b6 (GScored.enc y2) 54] [(0, O), (5, bV (x6 || ((!decide ((i3 : Int) = (i2 : Int))) && (decide (y3.Who = y2.Who))))), (6, bV (x7 || (!decide (y3.Relay = y2.Relay)))), (7, bV x4), (8, bV x5), (9, iV (i2 : Int)), (10, .pointer (some ⟨b6, 0, none⟩)), (11, iV x14), (12, iV x9), (68, O), (69, iV (Ab.length : Int)), (70, iV (i2 : Int)), (75, O), (76, iV (Ab.length : Int)), (77, iV (i3 : Int)), (124, bV (decide (y3.Rank = y2.Rank)))] [false, true] rfl (subR rfl)
        refine Tn ?_
        obtain ⟨j10, hj10, h⟩ := joinE h
        refine f_join (fun a w' => ∃ x15 : Int, j10 x15 = some r ∧ Sx w [] nov [.blk b6 (GScored.enc y2) 54] [(0, O), (5, bV (x6 || ((!decide ((i3 : Int) = (i2 : Int))) && (decide (y3.Who = y2.Who))))), (6, bV (x7 || (!decide (y3.Relay = y2.Relay)))), (7, bV x4), (8, bV x5), (9, iV (i2 : Int)), (10, .pointer (some ⟨b6, 0, none⟩)), (11, iV x14), (12, iV x15), (68, O), (69, iV (Ab.length : Int)), (70, iV (i2 : Int)), (75, O), (76, iV (Ab.length : Int)), (77, iV (i3 : Int))] 171 a w') ?_ ?_
        ·refine f_cond (S.tm rfl) (fun hb15 => ?_) (fun hb15 => ?_)
         ·replace h := iteT h hb15
          refine Fg (lv S (Rm (S.tm rfl)) rfl ?_);clear S;intro a S
          refine lv S (rn_add (S.tm rfl) rfl) rfl ?_;clear S;intro a S
          refine lv S (Ra (S.tm rfl)) rfl ?_;clear S;intro a S
          refine Ld ?_
          replace S := S.nk [.blk b6 (GScored.enc y2) 54] [(0, O), (5, bV (x6 || ((!decide ((i3 : Int) = (i2 : Int))) && (decide (y3.Who = y2.Who))))), (6, bV (x7 || (!decide (y3.Relay = y2.Relay)))), (7, bV x4), (8, bV x5), (9, iV (i2 : Int)), (10, .pointer (some ⟨b6, 0, none⟩)), (11, iV x14), (12, iV (W (x9 + 1))), (68, O), (69, iV (Ab.length : Int)), (70, iV (i2 : Int)), (75, O), (76, iV (Ab.length : Int)), (77, iV (i3 : Int))] [true] rfl (subR rfl)
          refine Tn ?_
          exact ⟨W (x9 + 1), h, S.nf [true] rfl (subR rfl)⟩
         ·replace h := iteF h hb15
          refine wp_skip (Tn ?_)
          exact ⟨x9, h, S.nf [true] rfl (subR rfl)⟩
        clear S h;rintro a w31 ⟨x15, h, S⟩;rw [hj10] at h;clear hj10 j10
        refine blk_n (Tn ?_)
        exact ⟨(x6 || ((!decide ((i3 : Int) = (i2 : Int))) && (decide (y3.Who = y2.Who)))), (x7 || (!decide (y3.Relay = y2.Relay))), x14, x15, h, S.nf [true] rfl (subR rfl)⟩
      clear S h;rintro a w23 ⟨x10, x11, x12, x13, h, S⟩;rw [hj8] at h;clear hj8 j8
      refine Tn (Fg (lv S (rn_add (S.tm rfl) rfl) rfl ?_));clear S;intro a S
      refine lv S (Rm (S.tm rfl)) rfl ?_;clear S;intro a S
      refine Ld ?_
      replace S := S.nk [.blk b6 (GScored.enc y2) 54] [(0, O), (5, bV x10), (6, bV x11), (7, bV x4), (8, bV x5), (9, iV (i2 : Int)), (10, .pointer (some ⟨b6, 0, none⟩)), (11, iV x12), (12, iV x13), (68, O), (69, iV (Ab.length : Int)), (70, iV (i2 : Int)), (75, O), (76, iV (Ab.length : Int)), (77, iV (W ((i3 : Int) + 1)))] [true] rfl (subR rfl)
      refine Tn ?_
      exact ⟨ys3, ⟨i3 + 1, x10, x11, x12, x13, ⟨_, (hd3).trans (List.append_cons _ _ _), by simp [hi3]⟩, h, S.nf [true] rfl ⟨rfl, rfl, rfl, rfl, rfl, rfl, rfl, rfl, rfl, rfl, rfl, rfl, rfl, rfl, (congrArg (fun z => some (Value.int .i64 z)) (rng_next hd3 hi3 (slc_max Ad))), trivial⟩⟩, Nat.lt_succ_self _⟩
    clear S h;rintro a w22 ⟨x6, x7, x8, x9, h, S⟩;rw [hj7] at h;clear hj7 j7
    refine Tn (Fs (Fg (lv S (Rm (S.tm rfl)) rfl ?_)));clear S;intro a S
    refine lv S (Rm (S.tm rfl)) rfl ?_;clear S;intro a S
    refine f_cutm 11 (fun a w' => Keep [] w22 w' ∧ Sx w [] nov [.blk b6 (GScored.enc y2) 54] [(0, O), (5, bV x6), (6, bV x7), (8, bV x5), (10, .pointer (some ⟨b6, 0, none⟩)), (12, iV x9), (68, O), (69, iV (Ab.length : Int)), (70, iV (i2 : Int)), (140, bV (x4 || ((decide (0 < y2.Rank)) && (!decide (y2.Rank = (W (x8 + 1)))))))] 171 a w') ?_ ?_
    ·rcases Bool.eq_false_or_eq_true x4 with hb16 | hb16
     ·iterate 4 (refine l_skip S rfl rfl rfl (neq_t hb16) rfl ?_ rfl;clear S;intro a S)
      iterate 5 (refine l_skipU S rfl rfl rfl rfl ?_;clear S;intro a S)
      refine l_skip S rfl rfl rfl (neq_t hb16) rfl ?_ rfl;clear S;intro a S
      refine lv S (rn_or_t ((decide (0 < y2.Rank)) && (!decide (y2.Rank = (W (x8 + 1))))) hb16 (S.tm rfl) rfl) rfl ?_;clear S;intro a S
      refine Ld (Tn ?_)
      exact ⟨Keep.refl _ _, S.nf [true] rfl (subR rfl)⟩
     ·refine l_want S rfl rfl rfl hb16 (lv S (rn_fld fa_54_3 (S.tm rfl)) rfl ?_);clear S;intro a S
      refine l_want S rfl rfl rfl hb16 (lv S (rn_load Tryz.isAgg3 (S.tm rfl) (S.cell (i := 0) rfl rfl)) rfl ?_);clear S;intro a S
      refine l_want S rfl rfl rfl hb16 (lv S (rn_gtr (S.tm rfl) rfl) rfl ?_);clear S;intro a S
      refine l_want S rfl rfl rfl hb16 (lv S (Rm (S.tm rfl)) rfl ?_);clear S;intro a S
      refine f_cutm 6 (fun a w' => Keep [] w22 w' ∧ Sx w [] nov [.blk b6 (GScored.enc y2) 54] [(0, O), (5, bV x6), (6, bV x7), (8, bV x5), (10, .pointer (some ⟨b6, 0, none⟩)), (12, iV x9), (68, O), (69, iV (Ab.length : Int)), (70, iV (i2 : Int)), (129, bV x4), (130, .pointer (some ⟨b6, 3, none⟩)), (131, iV y2.Rank), (132, bV (decide (0 < y2.Rank))), (133, bV (decide (0 < y2.Rank))), (139, bV ((decide (0 < y2.Rank)) && (!decide (y2.Rank = (W (x8 + 1))))))] 171 a w') ?_ ?_
      ·rcases Bool.eq_false_or_eq_true (decide (0 < y2.Rank)) with hb17 | hb17
       ·refine l_want S rfl rfl rfl hb17 (lv S (rn_fld fa_54_3 (S.tm rfl)) rfl ?_);clear S;intro a S
        refine l_want S rfl rfl rfl hb17 (lv S (rn_load Tryz.isAgg3 (S.tm rfl) (S.cell (i := 0) rfl rfl)) rfl ?_);clear S;intro a S
        refine l_want S rfl rfl rfl hb17 (lv S (Rm (S.tm rfl)) rfl ?_);clear S;intro a S
        refine l_want S rfl rfl rfl hb17 (lv S (rn_add (S.tm rfl) rfl) rfl ?_);clear S;intro a S
        refine l_want S rfl rfl rfl hb17 (lv S (rn_neq (S.tm rfl) (S.tm rfl)) rfl ?_);clear S;intro a S
        refine l_want S rfl rfl rfl hb16 (lv S (rn_and_t hb17 (S.tm rfl) (S.tm rfl)) rfl ?_);clear S;intro a S
        refine Ld (Tn ?_)
        exact ⟨Keep.refl _ _, S.nf [true] rfl (subR rfl)⟩
       ·iterate 5 (refine l_skip S rfl rfl rfl (neq_f hb17) rfl ?_ rfl;clear S;intro a S)
        refine l_want S rfl rfl rfl hb16 (lv S (rn_and_f (!decide (y2.Rank = (W (x8 + 1)))) hb17 (S.tm rfl) rfl) rfl ?_);clear S;intro a S
        refine Ld (Tn ?_)
        exact ⟨Keep.refl _ _, S.nf [true] rfl (subR rfl)⟩
      clear S;rintro a w33 ⟨hk22, S⟩
      refine lv S (rn_or_f hb16 (S.tm rfl) (S.tm rfl)) rfl ?_;clear S;intro a S
      refine Ld (Tn ?_)
      exact ⟨hk22, S.nf [true] rfl (subR rfl)⟩
    clear S;rintro a w32 ⟨hk23, S⟩
    refine lv S (Ra (S.tm rfl)) rfl ?_;clear S;intro a S
    refine Ld (Tn (Fg (lv S (Rm (S.tm rfl)) rfl ?_)));clear S;intro a S
    refine lv S (Rm (S.tm rfl)) rfl ?_;clear S;intro a S
    refine f_cutm 8 (fun a w' => Keep [] w32 w' ∧ Sx w [] nov [.blk b6 (GScored.enc y2) 54] [(0, O), (5, bV x6), (6, bV x7), (7, bV (x4 || ((decide (0 < y2.Rank)) && (!decide (y2.Rank = (W (x8 + 1))))))), (68, O), (69, iV (Ab.length : Int)), (70, iV (i2 : Int)), (150, bV (x5 || ((decide (0 < y2.Rank)) && (decide (10 < x9)))))] 171 a w') ?_ ?_
    ·rcases Bool.eq_false_or_eq_true x5 with hb18 | hb18
     ·iterate 4 (refine l_skip S rfl rfl rfl (neq_t hb18) rfl ?_ rfl;clear S;intro a S)
      refine l_skipU S rfl rfl rfl rfl ?_;clear S;intro a S
      refine l_skipU S rfl rfl rfl rfl ?_;clear S;intro a S
      refine l_skip S rfl rfl rfl (neq_t hb18) rfl ?_ rfl;clear S;intro a S
      refine lv S (rn_or_t ((decide (0 < y2.Rank)) && (decide (10 < x9))) hb18 (S.tm rfl) rfl) rfl ?_;clear S;intro a S
      refine Ld (Tn ?_)
      exact ⟨Keep.refl _ _, S.nf [true] rfl (subR rfl)⟩
     ·refine l_want S rfl rfl rfl hb18 (lv S (rn_fld fa_54_3 (S.tm rfl)) rfl ?_);clear S;intro a S
      refine l_want S rfl rfl rfl hb18 (lv S (rn_load Tryz.isAgg3 (S.tm rfl) (S.cell (i := 0) rfl rfl)) rfl ?_);clear S;intro a S
      refine l_want S rfl rfl rfl hb18 (lv S (rn_gtr (S.tm rfl) rfl) rfl ?_);clear S;intro a S
      refine l_want S rfl rfl rfl hb18 (lv S (Rm (S.tm rfl)) rfl ?_);clear S;intro a S
      refine f_cutm 3 (fun a w' => Keep [] w32 w' ∧ Sx w [] nov [.blk b6 (GScored.enc y2) 54] [(0, O), (5, bV x6), (6, bV x7), (7, bV (x4 || ((decide (0 < y2.Rank)) && (!decide (y2.Rank = (W (x8 + 1))))))), (68, O), (69, iV (Ab.length : Int)), (70, iV (i2 : Int)), (142, bV x5), (143, .pointer (some ⟨b6, 3, none⟩)), (144, iV y2.Rank), (145, bV (decide (0 < y2.Rank))), (146, bV (decide (0 < y2.Rank))), (149, bV ((decide (0 < y2.Rank)) && (decide (10 < x9))))] 171 a w') ?_ ?_
      ·rcases Bool.eq_false_or_eq_true (decide (0 < y2.Rank)) with hb19 | hb19
       ·refine l_want S rfl rfl rfl hb19 (lv S (Rm (S.tm rfl)) rfl ?_);clear S;intro a S
        refine l_want S rfl rfl rfl hb19 (lv S (rn_gtr (S.tm rfl) rfl) rfl ?_);clear S;intro a S
        refine l_want S rfl rfl rfl hb18 (lv S (rn_and_t hb19 (S.tm rfl) (S.tm rfl)) rfl ?_);clear S;intro a S
        refine Ld (Tn ?_)
        exact ⟨Keep.refl _ _, S.nf [true] rfl (subR rfl)⟩
       ·refine l_skip S rfl rfl rfl (neq_f hb19) rfl ?_ rfl;clear S;intro a S
        refine l_skip S rfl rfl rfl (neq_f hb19) rfl ?_ rfl;clear S;intro a S
        refine l_want S rfl rfl rfl hb18 (lv S (rn_and_f (decide (10 < x9)) hb19 (S.tm rfl) rfl) rfl ?_);clear S;intro a S
        refine Ld (Tn ?_)
        exact ⟨Keep.refl _ _, S.nf [true] rfl (subR rfl)⟩
      clear S;rintro a w35 ⟨hk24, S⟩
      refine lv S (rn_or_f hb18 (S.tm rfl) (S.tm rfl)) rfl ?_;clear S;intro a S
      refine Ld (Tn ?_)
      exact ⟨hk24, S.nf [true] rfl (subR rfl)⟩
    clear S;rintro a w34 ⟨hk25, S⟩
    refine lv S (Ra (S.tm rfl)) rfl ?_;clear S;intro a S
    refine Ld (blk_n (Tn (Fg (lv S (rn_add (S.tm rfl) rfl) rfl ?_))));clear S;intro a S
    refine lv S (Rm (S.tm rfl)) rfl ?_;clear S;intro a S
    refine Ld (Tn ?_)
    exact ⟨ys2, ⟨i2 + 1, x6, x7, (x4 || ((decide (0 < y2.Rank)) && (!decide (y2.Rank = (W (x8 + 1)))))), (x5 || ((decide (0 < y2.Rank)) && (decide (10 < x9)))), ⟨_, (hd2).trans (List.append_cons _ _ _), by simp [hi2]⟩, h, S.nf [false] rfl ⟨rfl, rfl, rfl, rfl, rfl, rfl, rfl, (congrArg (fun z => some (Value.int .i64 z)) (rng_next hd2 hi2 (slc_max Ad))), trivial⟩⟩, Nat.lt_succ_self _⟩
  clear S h;rintro a w18 ⟨x2, x3, x4, x5, h, S⟩;rw [hj6] at h;clear hj6 j6
  refine Tn (Fs (Fs (Fg (lv S (Rm (S.tm rfl)) rfl ?_))));clear S;intro a S
  refine lv S (rn_bld bt_72 (pv := [(0, bV x2), (1, iV 6)]) ⟨rfl, (S.tm rfl), rfl, rfl, trivial⟩ (cs := [bV x2, iV 6]) (by kernel_rfl)) rfl ?_;clear S;intro a S
  refine lv S (Rm (S.tm rfl)) rfl ?_;clear S;intro a S
  refine lv S (rn_bld bt_72 (pv := [(0, bV x3), (1, iV 3)]) ⟨rfl, (S.tm rfl), rfl, rfl, trivial⟩ (cs := [bV x3, iV 3]) (by kernel_rfl)) rfl ?_;clear S;intro a S
  refine lv S (Rm (S.tm rfl)) rfl ?_;clear S;intro a S
  refine lv S (rn_bld bt_72 (pv := [(0, bV x4), (1, iV 16)]) ⟨rfl, (S.tm rfl), rfl, rfl, trivial⟩ (cs := [bV x4, iV 16]) (by kernel_rfl)) rfl ?_;clear S;intro a S
  refine lv S (Rm (S.tm rfl)) rfl ?_;clear S;intro a S
  refine lv S (rn_bld bt_72 (pv := [(0, bV x5), (1, iV 12)]) ⟨rfl, (S.tm rfl), rfl, rfl, trivial⟩ (cs := [bV x5, iV 12]) (by kernel_rfl)) rfl ?_;clear S;intro a S
  refine l_buildSlice S Tryz.underlying73 Tryz.sizeOf72 Tryz.zeroValue72 rfl rfl (pv := [(0, .agg #[bV x2, iV 6]), (1, .agg #[bV x3, iV 3]), (2, .agg #[bV x4, iV 16]), (3, .agg #[bV x5, iV 12])]) ⟨rfl, (S.tm rfl), rfl, (S.tm rfl), rfl, (S.tm rfl), rfl, (S.tm rfl), trivial⟩ (cs := [bV x2, iV 6, bV x3, iV 3, bV x4, iV 16, bV x5, iV 12]) (by kernel_rfl) rfl ?_;clear S;intro a w36 b9 hz4 hk26 S
  refine lv S (rn_lenT sl_73 (S.tm rfl) ⟨_, _, rfl⟩) rfl ?_;clear S;intro a S
  refine lv S (Rm rfl) rfl ?_;clear S;intro a S
  refine Ld ?_
  replace S := S.nk [.blk b9 [bV x2, iV 6, bV x3, iV 3, bV x4, iV 16, bV x5, iV 12] 72] [(160, .slice (some ⟨b9, 0, none⟩) 4 4), (161, iV (([(Gno_is_e.mk x2 6), (Gno_is_e.mk x3 3), (Gno_is_e.mk x4 16), (Gno_is_e.mk x5 12)] : List Gno_is_e).length : Int)), (162, iV 0)] [true] rfl (subR rfl)
  refine Tn ?_
  replace S := S.litOwn (i := 0) (xs := [(Gno_is_e.mk x2 6), (Gno_is_e.mk x3 3), (Gno_is_e.mk x4 16), (Gno_is_e.mk x5 12)]) rfl Gno_is_e.enc_ok rfl rfl rfl
  replace S := S.nk [.own (.slice (some ⟨b9, 0, none⟩) 4 4) 72 2 ([(Gno_is_e.mk x2 6), (Gno_is_e.mk x3 3), (Gno_is_e.mk x4 16), (Gno_is_e.mk x5 12)] : List Gno_is_e).length (([(Gno_is_e.mk x2 6), (Gno_is_e.mk x3 3), (Gno_is_e.mk x4 16), (Gno_is_e.mk x5 12)] : List Gno_is_e).flatMap Gno_is_e.enc)] [(160, (.slice (some ⟨b9, 0, none⟩) 4 4)), (161, iV (([(Gno_is_e.mk x2 6), (Gno_is_e.mk x3 3), (Gno_is_e.mk x4 16), (Gno_is_e.mk x5 12)] : List Gno_is_e).length : Int)), (162, iV 0)] [] rfl (subR rfl)
  obtain ⟨φ1, hl1, hs1, S⟩ := S.freezeT (xs := ([(Gno_is_e.mk x2 6), (Gno_is_e.mk x3 3), (Gno_is_e.mk x4 16), (Gno_is_e.mk x5 12)] : List Gno_is_e)) (enc := Gno_is_e.enc) (i := 0) rfl (fun _ h => by cases h)
  replace S := S.nk [] [(160, (.slice (some ⟨b9, 0, none⟩) 4 4)), (161, iV (([(Gno_is_e.mk x2 6), (Gno_is_e.mk x3 3), (Gno_is_e.mk x4 16), (Gno_is_e.mk x5 12)] : List Gno_is_e).length : Int)), (162, iV 0)] [] rfl (subR rfl)
  obtain ⟨j11, hj11, h⟩ := joinE h
  refine f_join (fun a w' => j11 = some r ∧ Sx w [] φ1 [] [] 171 a w') ?_ ?_
  ·refine wp_block (f_loop (fun (ys4 : List Gno_is_e) a w' => ∃ i4 : Nat, (∃ dn, ([(Gno_is_e.mk x2 6), (Gno_is_e.mk x3 3), (Gno_is_e.mk x4 16), (Gno_is_e.mk x5 12)] : List Gno_is_e) = dn ++ ys4 ∧ dn.length = i4) ∧ tumbref2_ScoredFault_l4 j11 ys4 i4 = some r ∧ Sx w [] φ1 [] [(160, (.slice (some ⟨b9, 0, none⟩) 4 4)), (161, iV (([(Gno_is_e.mk x2 6), (Gno_is_e.mk x3 3), (Gno_is_e.mk x4 16), (Gno_is_e.mk x5 12)] : List Gno_is_e).length : Int)), (162, iV (i4 : Int))] 171 a w') List.length ([(Gno_is_e.mk x2 6), (Gno_is_e.mk x3 3), (Gno_is_e.mk x4 16), (Gno_is_e.mk x5 12)] : List Gno_is_e) ⟨0, ⟨[], rfl, rfl⟩, h, S.nf [] rfl (subR rfl)⟩ ?_)
   clear S h;rintro ys4 a w37 ⟨i4, ⟨dn, hd4, hi4⟩, h, S⟩
   cases ys4 with
   | nil =>
    rw [tumbref2_ScoredFault_l4.eq_1] at h
    refine Fs (Fg (lv S (rn_lss (S.tm rfl) (S.tm rfl)) rfl ?_));clear S;intro a S
    refine Ld ?_
    replace S := S.nk [] [(160, (.slice (some ⟨b9, 0, none⟩) 4 4)), (161, iV (([(Gno_is_e.mk x2 6), (Gno_is_e.mk x3 3), (Gno_is_e.mk x4 16), (Gno_is_e.mk x5 12)] : List Gno_is_e).length : Int)), (162, iV (i4 : Int)), (163, bV (decide ((i4 : Int) < (([(Gno_is_e.mk x2 6), (Gno_is_e.mk x3 3), (Gno_is_e.mk x4 16), (Gno_is_e.mk x5 12)] : List Gno_is_e).length : Int))))] [] rfl (subR rfl)
    refine Tn (Fs (wp_cond_false ((S.tm rfl).trans (congrArg Value.bool (rng_nil hd4 hi4))) (wp_exit (then_x (then_x (x_same ?_))))))
    refine Tn ?_
    exact ⟨h, S.nf [] rfl trivial⟩
   | cons y4 ys4 =>
    rw [tumbref2_ScoredFault_l4.eq_2] at h
    refine Fs (Fg (lv S (rn_lss (S.tm rfl) (S.tm rfl)) rfl ?_));clear S;intro a S
    refine Ld ?_
    replace S := S.nk [] [(160, (.slice (some ⟨b9, 0, none⟩) 4 4)), (161, iV (([(Gno_is_e.mk x2 6), (Gno_is_e.mk x3 3), (Gno_is_e.mk x4 16), (Gno_is_e.mk x5 12)] : List Gno_is_e).length : Int)), (162, iV (i4 : Int)), (163, bV (decide ((i4 : Int) < (([(Gno_is_e.mk x2 6), (Gno_is_e.mk x3 3), (Gno_is_e.mk x4 16), (Gno_is_e.mk x5 12)] : List Gno_is_e).length : Int))))] [] rfl (subR rfl)
    refine Tn (Fs (wp_cond_true ((S.tm rfl).trans (congrArg Value.bool (rng_cons hd4 hi4))) (wp_skip (Tn (Fs (wp_block ?_))))))
    refine Fs (Fg ?_)
    obtain ⟨b10, o6, hm6, hr9⟩ := rn_indexT (a := a) (x := .tmp 160) (y := .tmp 162) (ty := 0) sl_73 (ownV_slcT Gno_is_e.enc_ok hs1) (get_mid hd4 hi4) rfl (S.tm rfl) (S.tm rfl)
    refine lv S (hr9 _) rfl ?_;clear S;intro a S
    clear hr9
    refine lv S (rn_ldA Tryz.isAgg72 Tryz.sizeOf72 (off := o6) (o := 0) (part := (Gno_is_e.enc y4)) rfl rfl (S.tm rfl) (hm6.at S.emb)) rfl ?_;clear S;intro a S
    refine l_alloc S Tryz.zeroValue72 (cs := [bV false, iV 0]) rfl rfl ?_;clear S;intro a w39 b11 hz5 hk27 S
    refine l_store S (S.tm rfl) (S.tm rfl) (i := 0) (off := 0) rfl Tryz.sizeOf72 (vs := (Gno_is_e.enc y4)) rfl rfl rfl rfl ?_;clear S;intro w40 hk28 S
    refine Ld (Tn (Fs (Fg (lv S (rn_fld fa_72_0 (S.tm rfl)) rfl ?_))));clear S;intro a S
    refine lv S (rn_load Tryz.isAgg4 (S.tm rfl) (S.cell (i := 0) rfl rfl)) rfl ?_;clear S;intro a S
    refine Ld (Tn (f_cond (S.tm rfl) (fun hb20 => ?_) (fun hb20 => ?_)))
    ·replace h := iteT h hb20
     refine Fs (Fg (lv S (rn_fld fa_72_1 (S.tm rfl)) rfl ?_));clear S;intro a S
     refine lv S (rn_load Tryz.isAgg32 (S.tm rfl) (S.cell (i := 0) rfl rfl)) rfl ?_;clear S;intro a S
     refine lv S (Ra (S.tm rfl)) rfl ?_;clear S;intro a S
     refine Ld (Tn (wp_ret (blk_r (then_r (then_r (blk_r ?_))))))
     refine then_r (then_r ?_)
     obtain rfl := Option.some.inj h
     exact f_ret S Tryz.results12 rfl rfl
    ·replace h := iteF h hb20
     refine wp_skip (blk_n (Tn (Fg (lv S (rn_add (S.tm rfl) rfl) rfl ?_))));clear S;intro a S
     refine lv S (Rm (S.tm rfl)) rfl ?_;clear S;intro a S
     refine Ld (Tn ?_)
     exact ⟨ys4, ⟨i4 + 1, ⟨_, (hd4).trans (List.append_cons _ _ _), by simp [hi4]⟩, h, S.nf [false] rfl ⟨rfl, rfl, (congrArg (fun z => some (Value.int .i64 z)) (rng_next hd4 hi4 (slc_max (ownV_slcT Gno_is_e.enc_ok hs1)))), trivial⟩⟩, Nat.lt_succ_self _⟩
  clear S h;rintro a w38 ⟨h, S⟩;rw [hj11] at h;clear hj11 j11
  refine Tn (Fs (Fg (lv S (Ra rfl) rfl ?_)));clear S;intro a S
  refine Ld (Tn (wp_ret ?_))
  obtain rfl := Option.some.inj h
  exact f_ret S Tryz.results12 rfl rfl
theorem tumblaw2_errs_ok (w : World) (O : Value) (Ab : List Int) (Ad : Slc (view w []) 1 O (Ab.map eInt)) (r : Int) (h : tumblaw2_errs Ab = r) :
    Calls Tryz.prog 10 [O].toArray w (Ret w [] fun _ v _ => v = iV r) := by
 refine f_enter [] [] Tryz.func10 rfl Tryz.ntmps10 rfl (by simp) (by simp [fps]) (by simp [fps]) fun a S => ?_
 unfold tumblaw2_errs at h
 replace S := S.nk [] [(0, O)] [] rfl ⟨rfl, trivial⟩
 refine Fs (Fg (lv S (Ra rfl) rfl ?_));clear S;intro a S
 refine Ld (Tn (Fs (Fs (Fg (lv S (Rm (S.tm rfl)) rfl ?_)))));clear S;intro a S
 refine lv S (rn_lenT sl_68 (S.tm rfl) (slc_len Ad)) rfl ?_;clear S;intro a S
 refine lv S (Rm rfl) rfl ?_;clear S;intro a S
 refine Ld (Tn ?_)
 replace S := S.nk [] [(5, O), (6, iV (Ab.length : Int)), (7, iV 0)] [] rfl (subR rfl)
 obtain ⟨j1, hj1, h⟩ := joinE h
 refine f_join (fun a w' => j1 = r ∧ Sx w [] nov [] [] 15 a w') ?_ ?_
 ·refine wp_block (f_loop (fun (ys1 : List Int) a w' => ∃ i1 : Nat, (∃ dn, Ab = dn ++ ys1 ∧ dn.length = i1) ∧ tumblaw2_errs_l1 j1 ys1 i1 = r ∧ Sx w [] nov [] [(5, O), (6, iV (Ab.length : Int)), (7, iV (i1 : Int))] 15 a w') List.length Ab ⟨0, ⟨[], rfl, rfl⟩, h, S.nf [] rfl (subR rfl)⟩ ?_)
  clear S h;rintro ys1 a w1 ⟨i1, ⟨dn, hd1, hi1⟩, h, S⟩
  cases ys1 with
  | nil =>
   rw [tumblaw2_errs_l1.eq_1] at h
   refine Fs (Fg (lv S (rn_lss (S.tm rfl) (S.tm rfl)) rfl ?_));clear S;intro a S
   refine Ld ?_
   replace S := S.nk [] [(5, O), (6, iV (Ab.length : Int)), (7, iV (i1 : Int)), (8, bV (decide ((i1 : Int) < (Ab.length : Int))))] [] rfl (subR rfl)
   refine Tn (Fs (wp_cond_false ((S.tm rfl).trans (congrArg Value.bool (rng_nil hd1 hi1))) (wp_exit (then_x (then_x (x_same ?_))))))
   refine Tn ?_
   exact ⟨h, S.nf [] rfl trivial⟩
  | cons y1 ys1 =>
   rw [tumblaw2_errs_l1.eq_2] at h
   refine Fs (Fg (lv S (rn_lss (S.tm rfl) (S.tm rfl)) rfl ?_));clear S;intro a S
   refine Ld ?_
   replace S := S.nk [] [(5, O), (6, iV (Ab.length : Int)), (7, iV (i1 : Int)), (8, bV (decide ((i1 : Int) < (Ab.length : Int))))] [] rfl (subR rfl)
   refine Tn (Fs (wp_cond_true ((S.tm rfl).trans (congrArg Value.bool (rng_cons hd1 hi1))) (wp_skip (Tn (Fs (wp_block ?_))))))
   refine Fs (Fg ?_)
   obtain ⟨b1, o1, hm1, hr1⟩ := rn_indexT (a := a) (x := .tmp 5) (y := .tmp 7) (ty := 0) sl_68 Ad (get_mid hd1 hi1) rfl (S.tm rfl) (S.tm rfl)
   refine lv S (hr1 _) rfl ?_;clear S;intro a S
   clear hr1
   refine lv S (rn_ld Tryz.isAgg32 (off := o1) (o := 0) (S.tm rfl) (hm1.at S.emb0) rfl) rfl ?_;clear S;intro a S
   refine lv S (Ra (S.tm rfl)) rfl ?_;clear S;intro a S
   refine Ld (Tn (Fs (Fg (lv S (Rm (S.tm rfl)) rfl ?_))));clear S;intro a S
   refine lv S (rn_neq (S.tm rfl) rfl) rfl ?_;clear S;intro a S
   refine Ld (Tn (f_cond (S.tm rfl) (fun hb1 => ?_) (fun hb1 => ?_)))
   ·replace h := iteT h hb1
    refine Fs (Fg (lv S (Rm (S.tm rfl)) rfl ?_));clear S;intro a S
    refine lv S (Ra (S.tm rfl)) rfl ?_;clear S;intro a S
    refine Ld (Tn (wp_ret (blk_r (then_r (then_r (blk_r ?_))))))
    refine then_r (then_r ?_)
    subst h
    exact f_ret S Tryz.results10 rfl rfl
   ·replace h := iteF h hb1
    refine wp_skip (blk_n (Tn (Fg (lv S (rn_add (S.tm rfl) rfl) rfl ?_))));clear S;intro a S
    refine lv S (Rm (S.tm rfl)) rfl ?_;clear S;intro a S
    refine Ld (Tn ?_)
    exact ⟨ys1, ⟨i1 + 1, ⟨_, (hd1).trans (List.append_cons _ _ _), by simp [hi1]⟩, h, S.nf [] rfl ⟨rfl, rfl, (congrArg (fun z => some (Value.int .i64 z)) (rng_next hd1 hi1 (slc_max Ad))), trivial⟩⟩, Nat.lt_succ_self _⟩
 clear S h;rintro a w2 ⟨h, S⟩;rw [hj1] at h;clear hj1 j1
 refine Tn (Fs (Fg (lv S (Ra rfl) rfl ?_)));clear S;intro a S
 refine Ld (Tn (wp_ret ?_))
 subst h
 exact f_ret S Tryz.results10 rfl rfl
theorem timing_IsTime_ok (w : World) (Bb : Int) (r : Bool) (h : timing_IsTime Bb = r) :
    Calls Tryz.prog 71 [iV Bb].toArray w (Ret w [] fun _ v _ => v = bV r) := by
 refine f_enter [] [] Tryz.func71 rfl Tryz.ntmps71 rfl (by simp) (by simp [fps]) (by simp [fps]) fun a S => ?_
 unfold timing_IsTime at h
 replace S := S.nk [] [(0, iV Bb)] [] rfl ⟨rfl, trivial⟩
 refine Fs (Fg (lv S (Ra rfl) rfl ?_));clear S;intro a S
 refine Ld (Tn (Fs (Fg (lv S (Rm (S.tm rfl)) rfl ?_))));clear S;intro a S
 refine l_enter S (fun _ => run_call (vs := [iV Bb, iV 1, iV 360000]) ⟨(S.tm rfl), rfl, rfl, trivial⟩ Tryz.call38) (words_Within_ok _ Bb 1 360000 _ rfl) rfl ?_;clear S;intro v1 a w1 hv1 hk1 hn1 S
 subst hv1
 refine lv S (Ra (S.tm rfl)) rfl ?_;clear S;intro a S
 refine Ld (Tn (wp_ret ?_))
 subst h
 exact f_ret S Tryz.results71 rfl rfl
set_option maxRecDepth 20000 in
theorem points_CheckBase_ok (w : World) (O : Value) (Ab : List GBase) (Ad : Slc (view w []) 2 O (Ab.map GBase.enc)) (r : Int) (h : points_CheckBase Ab = some r) :
    Calls Tryz.prog 69 [O].toArray w (Ret w [] fun _ v _ => v = iV r) := by
 refine f_enter [] [] Tryz.func69 rfl Tryz.ntmps69 rfl (by simp) (by simp [fps]) (by simp [fps]) fun a S => ?_
 unfold points_CheckBase at h
 replace S := S.nk [] [(0, O)] [] rfl ⟨rfl, trivial⟩
 refine Fs (Fg (lv S (Ra rfl) rfl ?_));clear S;intro a S
 refine Ld (Tn (Fs (Fs (Fg (lv S (Rm (S.tm rfl)) rfl ?_)))));clear S;intro a S
 refine lv S (rn_lenT sl_78 (S.tm rfl) (slc_len Ad)) rfl ?_;clear S;intro a S
 refine lv S (rn_gtr (S.tm rfl) rfl) rfl ?_;clear S;intro a S
 refine Ld (Tn (f_cond (S.tm rfl) (fun hb1 => ?_) (fun hb1 => ?_)))
 ·replace h := iteT h hb1
  refine Fs (Fg (lv S (Ra rfl) rfl ?_));clear S;intro a S
  refine Ld (Tn (wp_ret (then_r ?_)))
  obtain rfl := Option.some.inj h
  exact f_ret S Tryz.results69 rfl rfl
 ·replace h := iteF h hb1
  refine wp_skip (Tn (Fs (Fs (Fg (lv S (Rm (S.tm rfl)) rfl ?_)))));clear S;intro a S
  refine lv S (rn_lenT sl_78 (S.tm rfl) (slc_len Ad)) rfl ?_;clear S;intro a S
  refine lv S (Rm rfl) rfl ?_;clear S;intro a S
  refine Ld (Tn ?_)
  replace S := S.nk [] [(0, O), (8, O), (9, iV (Ab.length : Int)), (10, iV 0)] [] rfl (subR rfl)
  obtain ⟨j1, hj1, h⟩ := joinE h
  refine f_join (fun a w' => j1 = some r ∧ Sx w [] nov [] [] 40 a w') ?_ ?_
  ·refine wp_block (f_loop (fun (ys1 : List GBase) a w' => ∃ i1 : Nat, (∃ dn, Ab = dn ++ ys1 ∧ dn.length = i1) ∧ points_CheckBase_l1 Ab j1 ys1 i1 = some r ∧ Sx w [] nov [] [(0, O), (8, O), (9, iV (Ab.length : Int)), (10, iV (i1 : Int))] 40 a w') List.length Ab ⟨0, ⟨[], rfl, rfl⟩, h, S.nf [] rfl (subR rfl)⟩ ?_)
   clear S h;rintro ys1 a w1 ⟨i1, ⟨dn, hd1, hi1⟩, h, S⟩
   cases ys1 with
   | nil =>
    rw [points_CheckBase_l1.eq_1] at h
    refine Fs (Fg (lv S (rn_lss (S.tm rfl) (S.tm rfl)) rfl ?_));clear S;intro a S
    refine Ld ?_
    replace S := S.nk [] [(0, O), (8, O), (9, iV (Ab.length : Int)), (10, iV (i1 : Int)), (11, bV (decide ((i1 : Int) < (Ab.length : Int))))] [] rfl (subR rfl)
    refine Tn (Fs (wp_cond_false ((S.tm rfl).trans (congrArg Value.bool (rng_nil hd1 hi1))) (wp_exit (then_x (then_x (x_same ?_))))))
    refine Tn ?_
    exact ⟨h, S.nf [] rfl trivial⟩
   | cons y1 ys1 =>
    rw [points_CheckBase_l1.eq_2] at h
    refine Fs (Fg (lv S (rn_lss (S.tm rfl) (S.tm rfl)) rfl ?_));clear S;intro a S
    refine Ld ?_
    replace S := S.nk [] [(0, O), (8, O), (9, iV (Ab.length : Int)), (10, iV (i1 : Int)), (11, bV (decide ((i1 : Int) < (Ab.length : Int))))] [] rfl (subR rfl)
    refine Tn (Fs (wp_cond_true ((S.tm rfl).trans (congrArg Value.bool (rng_cons hd1 hi1))) (wp_skip (Tn (Fs (wp_block ?_))))))
    refine Fs (Fg (lv S (Rm (S.tm rfl)) rfl ?_));clear S;intro a S
    obtain ⟨b1, o1, hm1, hr1⟩ := rn_indexT (a := a) (x := .tmp 8) (y := .tmp 10) (ty := 0) sl_78 Ad (get_mid hd1 hi1) rfl (S.tm rfl) (S.tm rfl)
    refine lv S (hr1 _) rfl ?_;clear S;intro a S
    clear hr1
    refine lv S (rn_ldA Tryz.isAgg77 Tryz.sizeOf77 (off := o1) (o := 0) (part := (GBase.enc y1)) rfl rfl (S.tm rfl) (hm1.at S.emb0)) rfl ?_;clear S;intro a S
    refine l_alloc S Tryz.zeroValue77 (cs := [sV k_empty, iV 0]) rfl rfl ?_;clear S;intro a w3 b2 hz1 hk1 S
    refine lv S (Ra (S.tm rfl)) rfl ?_;clear S;intro a S
    refine l_store S (S.tm rfl) (S.tm rfl) (i := 0) (off := 0) rfl Tryz.sizeOf77 (vs := (GBase.enc y1)) rfl rfl rfl rfl ?_;clear S;intro w4 hk2 S
    refine Ld (Tn (wp_block (Fs (Fg (lv S (rn_fld fa_77_0 (S.tm rfl)) rfl ?_)))));clear S;intro a S
    refine lv S (rn_load Tryz.isAgg9 (S.tm rfl) (S.cell (i := 0) rfl rfl)) rfl ?_;clear S;intro a S
    obtain ⟨r1, hr2, h⟩ := bindE h
    refine l_enter S (fun _ => run_call (vs := [sV y1.Race]) ⟨(S.tm rfl), trivial⟩ Tryz.call39) (words_IsKey_ok _ y1.Race _ hr2) rfl ?_;clear S;intro v1 a w5 hv1 hk3 hn1 S
    subst hv1
    refine lv S (rn_not (S.tm rfl)) rfl ?_;clear S;intro a S
    refine lv S (Ra (S.tm rfl)) rfl ?_;clear S;intro a S
    refine Ld ?_
    replace S := S.nk [.blk b2 (GBase.enc y1) 77] [(0, O), (3, iV (i1 : Int)), (4, .pointer (some ⟨b2, 0, none⟩)), (8, O), (9, iV (Ab.length : Int)), (10, iV (i1 : Int)), (15, bV (!r1))] [true] rfl (subR rfl)
    refine Tn (f_cond (S.tm rfl) (fun hb2 => ?_) (fun hb2 => ?_))
    ·replace h := iteT h hb2
     refine Fs (Fg (lv S (Ra rfl) rfl ?_));clear S;intro a S
     refine Ld (Tn (wp_ret (blk_r (blk_r (then_r (then_r ?_))))))
     refine blk_r (then_r (then_r ?_))
     obtain rfl := Option.some.inj h
     exact f_ret S Tryz.results69 rfl rfl
    ·replace h := iteF h hb2
     refine Fs (d_region [] ([]) Tryz.mixed S rfl (by kernel_rfl) ?_);clear S;intro w6 hk4 hsel S
     refine d_rest [0, 1, 2, 3, 4, 5, 6, 7, 8, 9, 10, 11, 12, 13] hsel (by kernel_rfl) rfl ?_
     clear hsel
     refine s_lv S rfl (Rm (S.tm rfl)) rfl ?_;clear S;intro a S
     refine s_lv S rfl (rn_gtr (S.tm rfl) rfl) rfl ?_;clear S;intro a S
     refine s_lv S rfl (Rm (S.tm rfl)) rfl ?_;clear S;intro a S
     obtain ⟨j2, hj2, h⟩ := joinE h
     refine s_cutm 10 (fun a w' => ∃ c1, j2 c1 = some r ∧ Keep [] w6 w' ∧ Sx w [] nov [.blk b2 (GBase.enc y1) 77] [(0, O), (4, .pointer (some ⟨b2, 0, none⟩)), (8, O), (9, iV (Ab.length : Int)), (10, iV (i1 : Int)), (33, bV c1)] 40 a w') ?_ ?_
     ·rcases Bool.eq_false_or_eq_true (decide (0 < (i1 : Int))) with hb3 | hb3
      ·replace h := iteT h hb3
       refine s_want S rfl rfl rfl rfl hb3 (s_lv0 S (rn_fld fa_77_0 (S.tm rfl)) rfl ?_);clear S;intro a S
       refine s_want S rfl rfl rfl rfl hb3 (s_lv0 S (rn_load Tryz.isAgg9 (S.tm rfl) (S.cell (i := 0) rfl rfl)) rfl ?_);clear S;intro a S
       refine s_want S rfl rfl rfl rfl hb3 (s_lv0 S (Rm (S.tm rfl)) rfl ?_);clear S;intro a S
       refine s_want S rfl rfl rfl rfl hb3 (s_lv0 S (Rm (S.tm rfl)) rfl ?_);clear S;intro a S
       refine s_want S rfl rfl rfl rfl hb3 (s_lv0 S (rn_sub (S.tm rfl) rfl) rfl ?_);clear S;intro a S
       refine s_want S rfl rfl rfl rfl hb3 ?_
       obtain ⟨hc1, h⟩ := chkE h
       obtain ⟨b3, o2, hm2, hr3⟩ := rn_indexT (a := a) (x := .tmp 26) (y := .tmp 28) (ty := 0) sl_78 Ad (inB_get hc1).1 (inB_get hc1).2 (S.tm rfl) (S.tm rfl)
       refine s_lv0 S (hr3 _) rfl ?_;clear S;intro a S
       clear hr3
       refine s_want S rfl rfl rfl rfl hb3 (s_lv0 S (rn_fld fa_77_0 (S.tm rfl)) rfl ?_);clear S;intro a S
       refine s_want S rfl rfl rfl rfl hb3 (s_lv0 S (rn_ld Tryz.isAgg9 (off := o2) (o := 0) (S.tm rfl) (hm2.at S.emb0) rfl) rfl ?_);clear S;intro a S
       refine s_want S rfl rfl rfl rfl hb3 (s_lv0 S (rn_sleq (S.tm rfl) (S.tm rfl)) rfl ?_);clear S;intro a S
       refine s_lv S rfl (rn_and_t hb3 (S.tm rfl) (S.tm rfl)) rfl ?_;clear S;intro a S
       refine s_done ?_
       exact ⟨_, h, Keep.refl _ _, S.nf [true] rfl (subR rfl)⟩
      ·replace h := iteF h hb3
       iterate 9 (refine s_skip S rfl rfl rfl rfl (neq_f hb3) rfl ?_ rfl;clear S;intro a S)
       refine s_lv S rfl (rn_and_f true hb3 (S.tm rfl) rfl) rfl ?_;clear S;intro a S
       refine s_done ?_
       exact ⟨_, h, Keep.refl _ _, S.nf [true] rfl (subR rfl)⟩
     clear S h;rintro a w7 ⟨c1, h, hk5, S⟩;rw [hj2] at h;clear hj2 j2
     refine s_lv S rfl (Ra (S.tm rfl)) rfl ?_;clear S;intro a S
     refine s_done ?_
     replace S := S.nk [.blk b2 (GBase.enc y1) 77] [(0, O), (4, .pointer (some ⟨b2, 0, none⟩)), (8, O), (9, iV (Ab.length : Int)), (10, iV (i1 : Int)), (20, bV c1)] [true] rfl (subR rfl)
     refine Tn (f_cond (S.tm rfl) (fun hb4 => ?_) (fun hb4 => ?_))
     ·replace h := iteT h hb4
      refine Fs (Fg (lv S (Ra rfl) rfl ?_));clear S;intro a S
      refine Ld (Tn (wp_ret (blk_r (blk_r (then_r (then_r ?_))))))
      refine blk_r (then_r (then_r ?_))
      obtain rfl := Option.some.inj h
      exact f_ret S Tryz.results69 rfl rfl
     ·replace h := iteF h hb4
      refine Fs (Fg (lv S (rn_fld fa_77_1 (S.tm rfl)) rfl ?_));clear S;intro a S
      refine lv S (rn_load Tryz.isAgg3 (S.tm rfl) (S.cell (i := 0) rfl rfl)) rfl ?_;clear S;intro a S
      refine l_enter S (fun _ => run_call (vs := [iV y1.Time]) ⟨(S.tm rfl), trivial⟩ Tryz.call71) (timing_IsTime_ok _ y1.Time _ rfl) rfl ?_;clear S;intro v2 a w8 hv2 hk6 hn2 S
      subst hv2
      refine lv S (rn_not (S.tm rfl)) rfl ?_;clear S;intro a S
      refine lv S (Ra (S.tm rfl)) rfl ?_;clear S;intro a S
      refine Ld (Tn (f_cond (S.tm rfl) (fun hb5 => ?_) (fun hb5 => ?_)))
      ·replace h := iteT h hb5
       refine Fs (Fg (lv S (Ra rfl) rfl ?_));clear S;intro a S
       refine Ld (Tn (wp_ret (blk_r (blk_r (then_r (then_r ?_))))))
       refine blk_r (then_r (then_r ?_))
       obtain rfl := Option.some.inj h
       exact f_ret S Tryz.results69 rfl rfl
      ·replace h := iteF h hb5
       refine wp_skip (blk_n (blk_n (Tn (Fg (lv S (rn_add (S.tm rfl) rfl) rfl ?_)))));clear S;intro a S
       refine lv S (Rm (S.tm rfl)) rfl ?_;clear S;intro a S
       refine Ld (Tn ?_)
       exact ⟨ys1, ⟨i1 + 1, ⟨_, (hd1).trans (List.append_cons _ _ _), by simp [hi1]⟩, h, S.nf [false] rfl ⟨rfl, rfl, rfl, (congrArg (fun z => some (Value.int .i64 z)) (rng_next hd1 hi1 (slc_max Ad))), trivial⟩⟩, Nat.lt_succ_self _⟩
  clear S h;rintro a w2 ⟨h, S⟩;rw [hj1] at h;clear hj1 j1
  refine Tn (Fs (Fg (lv S (Ra rfl) rfl ?_)));clear S;intro a S
  refine Ld (Tn (wp_ret ?_))
  obtain rfl := Option.some.inj h
  exact f_ret S Tryz.results69 rfl rfl
theorem points_baseOf_ok (w : World) (O : Value) (Ab : List GBase) (Ad : Slc (view w []) 2 O (Ab.map GBase.enc)) (Bn : ByteArray) (r : Int) (h : points_baseOf Ab Bn = r) :
    Calls Tryz.prog 70 [O, sV Bn].toArray w (Ret w [] fun _ v _ => v = iV r) := by
 refine f_enter [] [] Tryz.func70 rfl Tryz.ntmps70 rfl (by simp) (by simp [fps]) (by simp [fps]) fun a S => ?_
 unfold points_baseOf at h
 replace S := S.nk [] [(0, O), (1, sV Bn)] [] rfl (subR rfl)
 refine Fs (Fg (lv S (Ra rfl) rfl ?_));clear S;intro a S
 refine Ld (Tn (Fs (Fs (Fg (lv S (Rm (S.tm rfl)) rfl ?_)))));clear S;intro a S
 refine lv S (rn_lenT sl_78 (S.tm rfl) (slc_len Ad)) rfl ?_;clear S;intro a S
 refine lv S (Rm rfl) rfl ?_;clear S;intro a S
 refine Ld (Tn ?_)
 replace S := S.nk [] [(1, sV Bn), (7, O), (8, iV (Ab.length : Int)), (9, iV 0)] [] rfl (subR rfl)
 obtain ⟨j1, hj1, h⟩ := joinE h
 refine f_join (fun a w' => j1 = r ∧ Sx w [] nov [] [] 20 a w') ?_ ?_
 ·refine wp_block (f_loop (fun (ys1 : List GBase) a w' => ∃ i1 : Nat, (∃ dn, Ab = dn ++ ys1 ∧ dn.length = i1) ∧ points_baseOf_l1 Bn j1 ys1 i1 = r ∧ Sx w [] nov [] [(1, sV Bn), (7, O), (8, iV (Ab.length : Int)), (9, iV (i1 : Int))] 20 a w') List.length Ab ⟨0, ⟨[], rfl, rfl⟩, h, S.nf [] rfl (subR rfl)⟩ ?_)
  clear S h;rintro ys1 a w1 ⟨i1, ⟨dn, hd1, hi1⟩, h, S⟩
  cases ys1 with
  | nil =>
   rw [points_baseOf_l1.eq_1] at h
   refine Fs (Fg (lv S (rn_lss (S.tm rfl) (S.tm rfl)) rfl ?_));clear S;intro a S
   refine Ld ?_
   replace S := S.nk [] [(1, sV Bn), (7, O), (8, iV (Ab.length : Int)), (9, iV (i1 : Int)), (10, bV (decide ((i1 : Int) < (Ab.length : Int))))] [] rfl (subR rfl)
   refine Tn (Fs (wp_cond_false ((S.tm rfl).trans (congrArg Value.bool (rng_nil hd1 hi1))) (wp_exit (then_x (then_x (x_same ?_))))))
   refine Tn ?_
   exact ⟨h, S.nf [] rfl trivial⟩
  | cons y1 ys1 =>
   rw [points_baseOf_l1.eq_2] at h
   refine Fs (Fg (lv S (rn_lss (S.tm rfl) (S.tm rfl)) rfl ?_));clear S;intro a S
   refine Ld ?_
   replace S := S.nk [] [(1, sV Bn), (7, O), (8, iV (Ab.length : Int)), (9, iV (i1 : Int)), (10, bV (decide ((i1 : Int) < (Ab.length : Int))))] [] rfl (subR rfl)
   refine Tn (Fs (wp_cond_true ((S.tm rfl).trans (congrArg Value.bool (rng_cons hd1 hi1))) (wp_skip (Tn (Fs (wp_block ?_))))))
   refine Fs (Fg ?_)
   obtain ⟨b1, o1, hm1, hr1⟩ := rn_indexT (a := a) (x := .tmp 7) (y := .tmp 9) (ty := 0) sl_78 Ad (get_mid hd1 hi1) rfl (S.tm rfl) (S.tm rfl)
   refine lv S (hr1 _) rfl ?_;clear S;intro a S
   clear hr1
   refine lv S (rn_ldA Tryz.isAgg77 Tryz.sizeOf77 (off := o1) (o := 0) (part := (GBase.enc y1)) rfl rfl (S.tm rfl) (hm1.at S.emb0)) rfl ?_;clear S;intro a S
   refine l_alloc S Tryz.zeroValue77 (cs := [sV k_empty, iV 0]) rfl rfl ?_;clear S;intro a w3 b2 hz1 hk1 S
   refine l_store S (S.tm rfl) (S.tm rfl) (i := 0) (off := 0) rfl Tryz.sizeOf77 (vs := (GBase.enc y1)) rfl rfl rfl rfl ?_;clear S;intro w4 hk2 S
   refine Ld (Tn (Fs (Fg (lv S (rn_fld fa_77_0 (S.tm rfl)) rfl ?_))));clear S;intro a S
   refine lv S (rn_load Tryz.isAgg9 (S.tm rfl) (S.cell (i := 0) rfl rfl)) rfl ?_;clear S;intro a S
   refine lv S (Rm (S.tm rfl)) rfl ?_;clear S;intro a S
   refine lv S (rn_seql (S.tm rfl) (S.tm rfl)) rfl ?_;clear S;intro a S
   refine Ld (Tn (f_cond (S.tm rfl) (fun hb1 => ?_) (fun hb1 => ?_)))
   ·replace h := iteT h hb1
    refine Fs (Fg (lv S (rn_fld fa_77_1 (S.tm rfl)) rfl ?_));clear S;intro a S
    refine lv S (rn_load Tryz.isAgg3 (S.tm rfl) (S.cell (i := 0) rfl rfl)) rfl ?_;clear S;intro a S
    refine lv S (Ra (S.tm rfl)) rfl ?_;clear S;intro a S
    refine Ld ?_
    replace S := S.nk [] [(4, iV y1.Time)] [false] rfl ⟨rfl, trivial⟩
    refine Tn (wp_ret (blk_r (then_r (then_r (blk_r (then_r ?_))))))
    refine then_r ?_
    subst h
    exact f_ret S Tryz.results70 rfl rfl
   ·replace h := iteF h hb1
    refine wp_skip (blk_n (Tn (Fg (lv S (rn_add (S.tm rfl) rfl) rfl ?_))));clear S;intro a S
    refine lv S (Rm (S.tm rfl)) rfl ?_;clear S;intro a S
    refine Ld (Tn ?_)
    exact ⟨ys1, ⟨i1 + 1, ⟨_, (hd1).trans (List.append_cons _ _ _), by simp [hi1]⟩, h, S.nf [false] rfl ⟨rfl, rfl, rfl, (congrArg (fun z => some (Value.int .i64 z)) (rng_next hd1 hi1 (slc_max Ad))), trivial⟩⟩, Nat.lt_succ_self _⟩
 clear S h;rintro a w2 ⟨h, S⟩;rw [hj1] at h;clear hj1 j1
 refine Tn (Fs (Fg (lv S (Ra rfl) rfl ?_)));clear S;intro a S
 refine Ld (Tn (wp_ret ?_))
 subst h
 exact f_ret S Tryz.results70 rfl rfl
theorem bits_Mul64_ok (w : World) (Ag : Int) (Ao : Int) (r : Int × Int) (h : bits_Mul64 Ag Ao = r) :
    Calls Tryz.prog 91 [.int .u64 Ag, .int .u64 Ao].toArray w (Ret w [] fun _ v _ => v = .tuple #[.int .u64 r.1, .int .u64 r.2]) := by
 refine f_enter [] [] Tryz.func91 rfl Tryz.ntmps91 rfl (by simp) (by simp [fps]) (by simp [fps]) fun a S => ?_
 unfold bits_Mul64 at h
 replace S := S.nk [] [(0, .int .u64 Ag), (1, .int .u64 Ao)] [] rfl (subR rfl)
 refine Fs (Fg (lv S (Ra rfl) rfl ?_));clear S;intro a S
 refine lv S (Ra rfl) rfl ?_;clear S;intro a S
 refine Ld (Tn (Fs (Fg (lv S (Rm (S.tm rfl)) rfl ?_))));clear S;intro a S
 refine lv S (rn_and_ (S.tm rfl) rfl) rfl ?_;clear S;intro a S
 refine lv S (Ra (S.tm rfl)) rfl ?_;clear S;intro a S
 refine Ld (Tn (Fs (Fg (lv S (Rm (S.tm rfl)) rfl ?_))));clear S;intro a S
 refine lv S (rn_shr (S.tm rfl) rfl (by decide)) rfl ?_;clear S;intro a S
 refine lv S (Ra (S.tm rfl)) rfl ?_;clear S;intro a S
 refine Ld (Tn (Fs (Fg (lv S (Rm (S.tm rfl)) rfl ?_))));clear S;intro a S
 refine lv S (rn_and_ (S.tm rfl) rfl) rfl ?_;clear S;intro a S
 refine lv S (Ra (S.tm rfl)) rfl ?_;clear S;intro a S
 refine Ld (Tn (Fs (Fg (lv S (Rm (S.tm rfl)) rfl ?_))));clear S;intro a S
 refine lv S (rn_shr (S.tm rfl) rfl (by decide)) rfl ?_;clear S;intro a S
 refine lv S (Ra (S.tm rfl)) rfl ?_;clear S;intro a S
 refine Ld ?_
 replace S := S.nk [] [(0, .int .u64 Ag), (1, .int .u64 Ao), (6, .int .u64 (bitAnd .u64 Ag 4294967295)), (7, .int .u64 (bitShr .u64 Ag 32)), (8, .int .u64 (bitAnd .u64 Ao 4294967295)), (9, .int .u64 (bitShr .u64 Ao 32))] [] rfl (subR rfl)
 refine Tn (Fs (Fg (lv S (Rm (S.tm rfl)) rfl ?_)));clear S;intro a S
 refine lv S (Rm (S.tm rfl)) rfl ?_;clear S;intro a S
 refine lv S (rn_mulk (S.tm rfl) (S.tm rfl)) rfl ?_;clear S;intro a S
 refine lv S (Ra (S.tm rfl)) rfl ?_;clear S;intro a S
 refine Ld (Tn (Fs (Fg (lv S (Rm (S.tm rfl)) rfl ?_))));clear S;intro a S
 refine lv S (Rm (S.tm rfl)) rfl ?_;clear S;intro a S
 refine lv S (rn_mulk (S.tm rfl) (S.tm rfl)) rfl ?_;clear S;intro a S
 refine lv S (Rm (S.tm rfl)) rfl ?_;clear S;intro a S
 refine lv S (rn_shr (S.tm rfl) rfl (by decide)) rfl ?_;clear S;intro a S
 refine lv S (rn_addk (S.tm rfl) (S.tm rfl)) rfl ?_;clear S;intro a S
 refine lv S (Ra (S.tm rfl)) rfl ?_;clear S;intro a S
 refine Ld ?_
 replace S := S.nk [] [(0, .int .u64 Ag), (1, .int .u64 Ao), (6, .int .u64 (bitAnd .u64 Ag 4294967295)), (7, .int .u64 (bitShr .u64 Ag 32)), (9, .int .u64 (bitShr .u64 Ao 32)), (11, .int .u64 (IntKind.wrap .u64 ((IntKind.wrap .u64 ((bitShr .u64 Ag 32) * (bitAnd .u64 Ao 4294967295))) + (bitShr .u64 (IntKind.wrap .u64 ((bitAnd .u64 Ag 4294967295) * (bitAnd .u64 Ao 4294967295))) 32))))] [] rfl (subR rfl)
 refine Tn (Fs (Fg (lv S (Rm (S.tm rfl)) rfl ?_)));clear S;intro a S
 refine lv S (rn_and_ (S.tm rfl) rfl) rfl ?_;clear S;intro a S
 refine lv S (Ra (S.tm rfl)) rfl ?_;clear S;intro a S
 refine Ld (Tn (Fs (Fg (lv S (Rm (S.tm rfl)) rfl ?_))));clear S;intro a S
 refine lv S (rn_shr (S.tm rfl) rfl (by decide)) rfl ?_;clear S;intro a S
 refine lv S (Ra (S.tm rfl)) rfl ?_;clear S;intro a S
 refine Ld (Tn (Fs (Fg (lv S (Rm (S.tm rfl)) rfl ?_))));clear S;intro a S
 refine lv S (Rm (S.tm rfl)) rfl ?_;clear S;intro a S
 refine lv S (Rm (S.tm rfl)) rfl ?_;clear S;intro a S
 refine lv S (rn_mulk (S.tm rfl) (S.tm rfl)) rfl ?_;clear S;intro a S
 refine lv S (rn_addk (S.tm rfl) (S.tm rfl)) rfl ?_;clear S;intro a S
 refine lv S (Ra (S.tm rfl)) rfl ?_;clear S;intro a S
 refine Ld ?_
 replace S := S.nk [] [(0, .int .u64 Ag), (1, .int .u64 Ao), (7, .int .u64 (bitShr .u64 Ag 32)), (9, .int .u64 (bitShr .u64 Ao 32)), (12, .int .u64 (IntKind.wrap .u64 ((bitAnd .u64 (IntKind.wrap .u64 ((IntKind.wrap .u64 ((bitShr .u64 Ag 32) * (bitAnd .u64 Ao 4294967295))) + (bitShr .u64 (IntKind.wrap .u64 ((bitAnd .u64 Ag 4294967295) * (bitAnd .u64 Ao 4294967295))) 32))) 4294967295) + (IntKind.wrap .u64 ((bitAnd .u64 Ag 4294967295) * (bitShr .u64 Ao 32)))))), (13, .int .u64 (bitShr .u64 (IntKind.wrap .u64 ((IntKind.wrap .u64 ((bitShr .u64 Ag 32) * (bitAnd .u64 Ao 4294967295))) + (bitShr .u64 (IntKind.wrap .u64 ((bitAnd .u64 Ag 4294967295) * (bitAnd .u64 Ao 4294967295))) 32))) 32))] [] rfl (subR rfl)
 refine Tn (Fs (Fg (lv S (Rm (S.tm rfl)) rfl ?_)));clear S;intro a S
 refine lv S (Rm (S.tm rfl)) rfl ?_;clear S;intro a S
 refine lv S (rn_mulk (S.tm rfl) (S.tm rfl)) rfl ?_;clear S;intro a S
 refine lv S (Rm (S.tm rfl)) rfl ?_;clear S;intro a S
 refine lv S (rn_addk (S.tm rfl) (S.tm rfl)) rfl ?_;clear S;intro a S
 refine lv S (Rm (S.tm rfl)) rfl ?_;clear S;intro a S
 refine lv S (rn_shr (S.tm rfl) rfl (by decide)) rfl ?_;clear S;intro a S
 refine lv S (rn_addk (S.tm rfl) (S.tm rfl)) rfl ?_;clear S;intro a S
 refine lv S (Ra (S.tm rfl)) rfl ?_;clear S;intro a S
 refine Ld ?_
 replace S := S.nk [] [(0, .int .u64 Ag), (1, .int .u64 Ao), (4, .int .u64 (IntKind.wrap .u64 ((IntKind.wrap .u64 ((IntKind.wrap .u64 ((bitShr .u64 Ag 32) * (bitShr .u64 Ao 32))) + (bitShr .u64 (IntKind.wrap .u64 ((IntKind.wrap .u64 ((bitShr .u64 Ag 32) * (bitAnd .u64 Ao 4294967295))) + (bitShr .u64 (IntKind.wrap .u64 ((bitAnd .u64 Ag 4294967295) * (bitAnd .u64 Ao 4294967295))) 32))) 32))) + (bitShr .u64 (IntKind.wrap .u64 ((bitAnd .u64 (IntKind.wrap .u64 ((IntKind.wrap .u64 ((bitShr .u64 Ag 32) * (bitAnd .u64 Ao 4294967295))) + (bitShr .u64 (IntKind.wrap .u64 ((bitAnd .u64 Ag 4294967295) * (bitAnd .u64 Ao 4294967295))) 32))) 4294967295) + (IntKind.wrap .u64 ((bitAnd .u64 Ag 4294967295) * (bitShr .u64 Ao 32))))) 32))))] [] rfl (subR rfl)
 refine Tn (Fs (Fg (lv S (Rm (S.tm rfl)) rfl ?_)));clear S;intro a S
 refine lv S (Rm (S.tm rfl)) rfl ?_;clear S;intro a S
 refine lv S (rn_mulk (S.tm rfl) (S.tm rfl)) rfl ?_;clear S;intro a S
 refine lv S (Ra (S.tm rfl)) rfl ?_;clear S;intro a S
 refine Ld (Tn (wp_ret ?_))
 subst h
 exact f_ret2 S Tryz.results91 rfl rfl rfl
theorem bits_LeadingZeros64_ok (w : World) (Ag : Int) (r : Int) (h : bits_LeadingZeros64 Ag = some r) :
    Calls Tryz.prog 119 [.int .u64 Ag].toArray w (Ret w [] fun _ v _ => v = iV r) := by
 refine f_enter [] [] Tryz.func119 rfl Tryz.ntmps119 rfl (by simp) (by simp [fps]) (by simp [fps]) fun a S => ?_
 unfold bits_LeadingZeros64 at h
 replace S := S.nk [] [(0, .int .u64 Ag)] [] rfl ⟨rfl, trivial⟩
 refine Fs (Fg (lv S (Ra rfl) rfl ?_));clear S;intro a S
 refine Ld (Tn (Fs (Fg (lv S (Rm (S.tm rfl)) rfl ?_))));clear S;intro a S
 obtain ⟨r1, hr1, h⟩ := bindE h
 refine l_enter S (fun _ => run_call (vs := [.int .u64 Ag]) ⟨(S.tm rfl), trivial⟩ Tryz.call104) (bits_Len64_ok _ Ag _ hr1) rfl ?_;clear S;intro v1 a w1 hv1 hk1 hn1 S
 subst hv1
 refine lv S (rn_sub rfl (S.tm rfl)) rfl ?_;clear S;intro a S
 refine lv S (Ra (S.tm rfl)) rfl ?_;clear S;intro a S
 refine Ld (Tn (wp_ret ?_))
 obtain rfl := Option.some.inj h
 exact f_ret S Tryz.results119 rfl rfl
set_option maxRecDepth 20000 in
theorem bits_Div64_ok (w : World) (Bf : Int) (Aq : Int) (Ao : Int) (r : Int × Int) (h : bits_Div64 Bf Aq Ao = some r) :
    Calls Tryz.prog 92 [.int .u64 Bf, .int .u64 Aq, .int .u64 Ao].toArray w (Ret w [] fun _ v _ => v = .tuple #[.int .u64 r.1, .int .u64 r.2]) := by
 refine f_enter [] [] Tryz.func92 rfl Tryz.ntmps92 rfl (by simp) (by simp [fps]) (by simp [fps]) fun a S => ?_
 unfold bits_Div64 at h
 replace S := S.nk [] [(0, .int .u64 Bf), (1, .int .u64 Aq), (2, .int .u64 Ao)] [] rfl (subR rfl)
 refine Fs (Fg (lv S (Ra rfl) rfl ?_));clear S;intro a S
 refine lv S (Ra rfl) rfl ?_;clear S;intro a S
 refine Ld (Tn (Fs (Fs (Fg (lv S (Rm (S.tm rfl)) rfl ?_)))));clear S;intro a S
 refine lv S (rn_eql (S.tm rfl) rfl) rfl ?_;clear S;intro a S
 refine Ld (Tn (f_cond (S.tm rfl) (fun hb1 => ?_) (fun hb1 => ?_)))
 ·replace h := iteT h hb1
  cases h
 ·replace h := iteF h hb1
  refine wp_skip (Tn (Fs (Fs (Fg (lv S (Rm (S.tm rfl)) rfl ?_)))));clear S;intro a S
  refine lv S (Rm (S.tm rfl)) rfl ?_;clear S;intro a S
  refine lv S (rn_leq (S.tm rfl) (S.tm rfl)) rfl ?_;clear S;intro a S
  refine Ld (Tn (f_cond (S.tm rfl) (fun hb2 => ?_) (fun hb2 => ?_)))
  ·replace h := iteT h hb2
   cases h
  ·replace h := iteF h hb2
   refine wp_skip (Tn (Fs (Fs (Fg (lv S (Rm (S.tm rfl)) rfl ?_)))));clear S;intro a S
   refine lv S (rn_eql (S.tm rfl) rfl) rfl ?_;clear S;intro a S
   refine Ld (Tn (f_cond (S.tm rfl) (fun hb3 => ?_) (fun hb3 => ?_)))
   ·replace h := iteT h hb3
    refine Fs (d_region [] ([]) Tryz.mixed S rfl (by kernel_rfl) ?_);clear S;intro w1 hk1 hsel S
    refine d_rest [0, 1, 2, 3, 4, 5, 6, 7] hsel (by kernel_rfl) rfl ?_
    clear hsel
    refine s_lv S rfl (Rm (S.tm rfl)) rfl ?_;clear S;intro a S
    refine s_lv S rfl (Rm (S.tm rfl)) rfl ?_;clear S;intro a S
    obtain ⟨hc1, h⟩ := chkE h
    refine s_lv S rfl (rn_quok (S.tm rfl) (S.tm rfl) (ne0_of hc1)) rfl ?_;clear S;intro a S
    refine s_lv S rfl (Rm (S.tm rfl)) rfl ?_;clear S;intro a S
    refine s_lv S rfl (Rm (S.tm rfl)) rfl ?_;clear S;intro a S
    obtain ⟨hc2, h⟩ := chkE h
    refine s_lv S rfl (rn_remk (S.tm rfl) (S.tm rfl) (ne0_of hc2)) rfl ?_;clear S;intro a S
    refine s_lv S rfl (Ra (S.tm rfl)) rfl ?_;clear S;intro a S
    refine s_lv S rfl (Ra (S.tm rfl)) rfl ?_;clear S;intro a S
    refine s_done ?_
    replace S := S.nk [] [(6, .int .u64 (IntKind.wrap .u64 (Int.tdiv Aq Ao))), (7, .int .u64 (Int.tmod Aq Ao))] [] rfl (subR rfl)
    refine Tn (wp_ret (then_r ?_))
    obtain rfl := Option.some.inj h
    exact f_ret2 S Tryz.results92 rfl rfl rfl
   ·replace h := iteF h hb3
    refine wp_skip (Tn (Fs (Fg (lv S (Rm (S.tm rfl)) rfl ?_))));clear S;intro a S
    obtain ⟨r1, hr1, h⟩ := bindE h
    refine l_enter S (fun _ => run_call (vs := [.int .u64 Ao]) ⟨(S.tm rfl), trivial⟩ Tryz.call119) (bits_LeadingZeros64_ok _ Ao _ hr1) rfl ?_;clear S;intro v1 a w2 hv1 hk2 hn1 S
    subst hv1
    refine lv S (rn_conv Tryz.underlying3 Tryz.underlying108 (S.tm rfl)) rfl ?_;clear S;intro a S
    refine lv S (Ra (S.tm rfl)) rfl ?_;clear S;intro a S
    refine Ld ?_
    replace S := S.nk [] [(0, .int .u64 Bf), (1, .int .u64 Aq), (2, .int .u64 Ao), (8, .int .u64 (IntKind.wrap .u64 r1))] [] rfl (subR rfl)
    refine Tn (Fs (Fg (lv S (Rm (S.tm rfl)) rfl ?_)));clear S;intro a S
    refine lv S (Rm (S.tm rfl)) rfl ?_;clear S;intro a S
    obtain ⟨hc3, h⟩ := chkE h
    refine lv S (rn_shl (S.tm rfl) (S.tm rfl) (of_decide_eq_true hc3)) rfl ?_;clear S;intro a S
    refine lv S (Ra (S.tm rfl)) rfl ?_;clear S;intro a S
    refine Ld (Tn (Fs (Fg (lv S (Rm (S.tm rfl)) rfl ?_))));clear S;intro a S
    refine lv S (rn_shr (S.tm rfl) rfl (by decide)) rfl ?_;clear S;intro a S
    refine lv S (Ra (S.tm rfl)) rfl ?_;clear S;intro a S
    refine Ld (Tn (Fs (Fg (lv S (Rm (S.tm rfl)) rfl ?_))));clear S;intro a S
    refine lv S (rn_and_ (S.tm rfl) rfl) rfl ?_;clear S;intro a S
    refine lv S (Ra (S.tm rfl)) rfl ?_;clear S;intro a S
    refine Ld (Tn (Fs (Fg (lv S (Rm (S.tm rfl)) rfl ?_))));clear S;intro a S
    refine lv S (Rm (S.tm rfl)) rfl ?_;clear S;intro a S
    obtain ⟨hc4, h⟩ := chkE h
    refine lv S (rn_shl (S.tm rfl) (S.tm rfl) (of_decide_eq_true hc4)) rfl ?_;clear S;intro a S
    refine lv S (Rm (S.tm rfl)) rfl ?_;clear S;intro a S
    refine lv S (Rm (S.tm rfl)) rfl ?_;clear S;intro a S
    refine lv S (rn_subk rfl (S.tm rfl)) rfl ?_;clear S;intro a S
    obtain ⟨hc5, h⟩ := chkE h
    refine lv S (rn_shr (S.tm rfl) (S.tm rfl) (of_decide_eq_true hc5)) rfl ?_;clear S;intro a S
    refine lv S (rn_or_ (S.tm rfl) (S.tm rfl)) rfl ?_;clear S;intro a S
    refine lv S (Ra (S.tm rfl)) rfl ?_;clear S;intro a S
    refine Ld ?_
    replace S := S.nk [] [(1, .int .u64 Aq), (2, .int .u64 (bitShl .u64 Ao (IntKind.wrap .u64 r1))), (8, .int .u64 (IntKind.wrap .u64 r1)), (9, .int .u64 (bitShr .u64 (bitShl .u64 Ao (IntKind.wrap .u64 r1)) 32)), (10, .int .u64 (bitAnd .u64 (bitShl .u64 Ao (IntKind.wrap .u64 r1)) 4294967295)), (11, .int .u64 (bitOr .u64 (bitShl .u64 Bf (IntKind.wrap .u64 r1)) (bitShr .u64 Aq (IntKind.wrap .u64 (64 - (IntKind.wrap .u64 r1))))))] [] rfl (subR rfl)
    refine Tn (Fs (Fg (lv S (Rm (S.tm rfl)) rfl ?_)));clear S;intro a S
    refine lv S (Rm (S.tm rfl)) rfl ?_;clear S;intro a S
    obtain ⟨hc6, h⟩ := chkE h
    refine lv S (rn_shl (S.tm rfl) (S.tm rfl) (of_decide_eq_true hc6)) rfl ?_;clear S;intro a S
    refine lv S (Ra (S.tm rfl)) rfl ?_;clear S;intro a S
    refine Ld (Tn (Fs (Fg (lv S (Rm (S.tm rfl)) rfl ?_))));clear S;intro a S
    refine lv S (rn_shr (S.tm rfl) rfl (by decide)) rfl ?_;clear S;intro a S
    refine lv S (Ra (S.tm rfl)) rfl ?_;clear S;intro a S
    refine Ld (Tn (Fs (Fg (lv S (Rm (S.tm rfl)) rfl ?_))));clear S;intro a S
    refine lv S (rn_and_ (S.tm rfl) rfl) rfl ?_;clear S;intro a S
    refine lv S (Ra (S.tm rfl)) rfl ?_;clear S;intro a S
    refine Ld ?_
    replace S := S.nk [] [(2, .int .u64 (bitShl .u64 Ao (IntKind.wrap .u64 r1))), (8, .int .u64 (IntKind.wrap .u64 r1)), (9, .int .u64 (bitShr .u64 (bitShl .u64 Ao (IntKind.wrap .u64 r1)) 32)), (10, .int .u64 (bitAnd .u64 (bitShl .u64 Ao (IntKind.wrap .u64 r1)) 4294967295)), (11, .int .u64 (bitOr .u64 (bitShl .u64 Bf (IntKind.wrap .u64 r1)) (bitShr .u64 Aq (IntKind.wrap .u64 (64 - (IntKind.wrap .u64 r1)))))), (13, .int .u64 (bitShr .u64 (bitShl .u64 Aq (IntKind.wrap .u64 r1)) 32)), (14, .int .u64 (bitAnd .u64 (bitShl .u64 Aq (IntKind.wrap .u64 r1)) 4294967295))] [] rfl (subR rfl)
    refine Tn (Fs (Fg (lv S (Rm (S.tm rfl)) rfl ?_)));clear S;intro a S
    refine lv S (Rm (S.tm rfl)) rfl ?_;clear S;intro a S
    obtain ⟨hc7, h⟩ := chkE h
    refine lv S (rn_quok (S.tm rfl) (S.tm rfl) (ne0_of hc7)) rfl ?_;clear S;intro a S
    refine lv S (Ra (S.tm rfl)) rfl ?_;clear S;intro a S
    refine Ld (Tn (Fs (Fg (lv S (Rm (S.tm rfl)) rfl ?_))));clear S;intro a S
    refine lv S (Rm (S.tm rfl)) rfl ?_;clear S;intro a S
    refine lv S (Rm (S.tm rfl)) rfl ?_;clear S;intro a S
    refine lv S (rn_mulk (S.tm rfl) (S.tm rfl)) rfl ?_;clear S;intro a S
    refine lv S (rn_subk (S.tm rfl) (S.tm rfl)) rfl ?_;clear S;intro a S
    refine lv S (Ra (S.tm rfl)) rfl ?_;clear S;intro a S
    refine Ld ?_
    replace S := S.nk [] [(2, .int .u64 (bitShl .u64 Ao (IntKind.wrap .u64 r1))), (8, .int .u64 (IntKind.wrap .u64 r1)), (9, .int .u64 (bitShr .u64 (bitShl .u64 Ao (IntKind.wrap .u64 r1)) 32)), (10, .int .u64 (bitAnd .u64 (bitShl .u64 Ao (IntKind.wrap .u64 r1)) 4294967295)), (11, .int .u64 (bitOr .u64 (bitShl .u64 Bf (IntKind.wrap .u64 r1)) (bitShr .u64 Aq (IntKind.wrap .u64 (64 - (IntKind.wrap .u64 r1)))))), (13, .int .u64 (bitShr .u64 (bitShl .u64 Aq (IntKind.wrap .u64 r1)) 32)), (14, .int .u64 (bitAnd .u64 (bitShl .u64 Aq (IntKind.wrap .u64 r1)) 4294967295)), (15, .int .u64 (IntKind.wrap .u64 (Int.tdiv (bitOr .u64 (bitShl .u64 Bf (IntKind.wrap .u64 r1)) (bitShr .u64 Aq (IntKind.wrap .u64 (64 - (IntKind.wrap .u64 r1))))) (bitShr .u64 (bitShl .u64 Ao (IntKind.wrap .u64 r1)) 32)))), (16, .int .u64 (IntKind.wrap .u64 ((bitOr .u64 (bitShl .u64 Bf (IntKind.wrap .u64 r1)) (bitShr .u64 Aq (IntKind.wrap .u64 (64 - (IntKind.wrap .u64 r1))))) - (IntKind.wrap .u64 ((IntKind.wrap .u64 (Int.tdiv (bitOr .u64 (bitShl .u64 Bf (IntKind.wrap .u64 r1)) (bitShr .u64 Aq (IntKind.wrap .u64 (64 - (IntKind.wrap .u64 r1))))) (bitShr .u64 (bitShl .u64 Ao (IntKind.wrap .u64 r1)) 32))) * (bitShr .u64 (bitShl .u64 Ao (IntKind.wrap .u64 r1)) 32))))))] [] rfl (subR rfl)
    refine Tn (Fs ?_)
    obtain ⟨j1, hj1, h⟩ := joinE h
    refine f_join (fun a w' => ∃ x1 : Int, j1 x1 = some r ∧ Sx w [] nov [] [(2, .int .u64 (bitShl .u64 Ao (IntKind.wrap .u64 r1))), (8, .int .u64 (IntKind.wrap .u64 r1)), (9, .int .u64 (bitShr .u64 (bitShl .u64 Ao (IntKind.wrap .u64 r1)) 32)), (10, .int .u64 (bitAnd .u64 (bitShl .u64 Ao (IntKind.wrap .u64 r1)) 4294967295)), (11, .int .u64 (bitOr .u64 (bitShl .u64 Bf (IntKind.wrap .u64 r1)) (bitShr .u64 Aq (IntKind.wrap .u64 (64 - (IntKind.wrap .u64 r1)))))), (13, .int .u64 (bitShr .u64 (bitShl .u64 Aq (IntKind.wrap .u64 r1)) 32)), (14, .int .u64 (bitAnd .u64 (bitShl .u64 Aq (IntKind.wrap .u64 r1)) 4294967295)), (15, .int .u64 x1)] 135 a w') ?_ ?_
    ·refine wp_block (f_loop (fun (m1 : Nat) a w' => ∃ x1 : Int, ∃ x2 : Int, bits_Div64_l1 Aq r1 Ao j1 m1 x1 x2 = some r ∧ Sx w [] nov [] [(2, .int .u64 (bitShl .u64 Ao (IntKind.wrap .u64 r1))), (8, .int .u64 (IntKind.wrap .u64 r1)), (9, .int .u64 (bitShr .u64 (bitShl .u64 Ao (IntKind.wrap .u64 r1)) 32)), (10, .int .u64 (bitAnd .u64 (bitShl .u64 Ao (IntKind.wrap .u64 r1)) 4294967295)), (11, .int .u64 (bitOr .u64 (bitShl .u64 Bf (IntKind.wrap .u64 r1)) (bitShr .u64 Aq (IntKind.wrap .u64 (64 - (IntKind.wrap .u64 r1)))))), (13, .int .u64 (bitShr .u64 (bitShl .u64 Aq (IntKind.wrap .u64 r1)) 32)), (14, .int .u64 (bitAnd .u64 (bitShl .u64 Aq (IntKind.wrap .u64 r1)) 4294967295)), (15, .int .u64 x1), (16, .int .u64 x2)] 135 a w') id (((IntKind.wrap .u64 (Int.tdiv (bitOr .u64 (bitShl .u64 Bf (IntKind.wrap .u64 r1)) (bitShr .u64 Aq (IntKind.wrap .u64 (64 - (IntKind.wrap .u64 r1))))) (bitShr .u64 (bitShl .u64 Ao (IntKind.wrap .u64 r1)) 32))) - 4294967296).toNat + 2) ⟨IntKind.wrap .u64 (Int.tdiv (bitOr .u64 (bitShl .u64 Bf (IntKind.wrap .u64 r1)) (bitShr .u64 Aq (IntKind.wrap .u64 (64 - (IntKind.wrap .u64 r1))))) (bitShr .u64 (bitShl .u64 Ao (IntKind.wrap .u64 r1)) 32)), IntKind.wrap .u64 ((bitOr .u64 (bitShl .u64 Bf (IntKind.wrap .u64 r1)) (bitShr .u64 Aq (IntKind.wrap .u64 (64 - (IntKind.wrap .u64 r1))))) - (IntKind.wrap .u64 ((IntKind.wrap .u64 (Int.tdiv (bitOr .u64 (bitShl .u64 Bf (IntKind.wrap .u64 r1)) (bitShr .u64 Aq (IntKind.wrap .u64 (64 - (IntKind.wrap .u64 r1))))) (bitShr .u64 (bitShl .u64 Ao (IntKind.wrap .u64 r1)) 32))) * (bitShr .u64 (bitShl .u64 Ao (IntKind.wrap .u64 r1)) 32)))), h, S.nf [] rfl (subR rfl)⟩ ?_)
     clear S h;rintro m1 a w3 ⟨x1, x2, h, S⟩
     cases m1 with
     | zero => rw [bits_Div64_l1.eq_1] at h;cases h
     | succ m1 =>
      rw [bits_Div64_l1.eq_2] at h
      refine Fs (Fs (Fg (lv S (Rm (S.tm rfl)) rfl ?_)));clear S;intro a S
      refine lv S (rn_geq (S.tm rfl) rfl) rfl ?_;clear S;intro a S
      refine lv S (Rm (S.tm rfl)) rfl ?_;clear S;intro a S
      refine f_cutm 9 (fun a w' => Keep [] w3 w' ∧ Sx w [] nov [] [(2, .int .u64 (bitShl .u64 Ao (IntKind.wrap .u64 r1))), (8, .int .u64 (IntKind.wrap .u64 r1)), (9, .int .u64 (bitShr .u64 (bitShl .u64 Ao (IntKind.wrap .u64 r1)) 32)), (10, .int .u64 (bitAnd .u64 (bitShl .u64 Ao (IntKind.wrap .u64 r1)) 4294967295)), (11, .int .u64 (bitOr .u64 (bitShl .u64 Bf (IntKind.wrap .u64 r1)) (bitShr .u64 Aq (IntKind.wrap .u64 (64 - (IntKind.wrap .u64 r1)))))), (13, .int .u64 (bitShr .u64 (bitShl .u64 Aq (IntKind.wrap .u64 r1)) 32)), (14, .int .u64 (bitAnd .u64 (bitShl .u64 Aq (IntKind.wrap .u64 r1)) 4294967295)), (15, .int .u64 x1), (16, .int .u64 x2), (78, bV ((decide (4294967296 ≤ x1)) || (decide ((IntKind.wrap .u64 ((IntKind.wrap .u64 (4294967296 * x2)) + (bitShr .u64 (bitShl .u64 Aq (IntKind.wrap .u64 r1)) 32))) < (IntKind.wrap .u64 (x1 * (bitAnd .u64 (bitShl .u64 Ao (IntKind.wrap .u64 r1)) 4294967295)))))))] 135 a w') ?_ ?_
      ·rcases Bool.eq_false_or_eq_true (decide (4294967296 ≤ x1)) with hb4 | hb4
       ·iterate 8 (refine l_skip S rfl rfl rfl (neq_t hb4) rfl ?_ rfl;clear S;intro a S)
        refine lv S (rn_or_t (decide ((IntKind.wrap .u64 ((IntKind.wrap .u64 (4294967296 * x2)) + (bitShr .u64 (bitShl .u64 Aq (IntKind.wrap .u64 r1)) 32))) < (IntKind.wrap .u64 (x1 * (bitAnd .u64 (bitShl .u64 Ao (IntKind.wrap .u64 r1)) 4294967295))))) hb4 (S.tm rfl) rfl) rfl ?_;clear S;intro a S
        refine Ld (Tn ?_)
        exact ⟨Keep.refl _ _, S.nf [] rfl (subR rfl)⟩
       ·refine l_want S rfl rfl rfl hb4 (lv S (Rm (S.tm rfl)) rfl ?_);clear S;intro a S
        refine l_want S rfl rfl rfl hb4 (lv S (Rm (S.tm rfl)) rfl ?_);clear S;intro a S
        refine l_want S rfl rfl rfl hb4 (lv S (rn_mulk (S.tm rfl) (S.tm rfl)) rfl ?_);clear S;intro a S
        refine l_want S rfl rfl rfl hb4 (lv S (Rm (S.tm rfl)) rfl ?_);clear S;intro a S
        refine l_want S rfl rfl rfl hb4 (lv S (rn_mulk rfl (S.tm rfl)) rfl ?_);clear S;intro a S
        refine l_want S rfl rfl rfl hb4 (lv S (Rm (S.tm rfl)) rfl ?_);clear S;intro a S
        refine l_want S rfl rfl rfl hb4 (lv S (rn_addk (S.tm rfl) (S.tm rfl)) rfl ?_);clear S;intro a S
        refine l_want S rfl rfl rfl hb4 (lv S (rn_gtr (S.tm rfl) (S.tm rfl)) rfl ?_);clear S;intro a S
        refine lv S (rn_or_f hb4 (S.tm rfl) (S.tm rfl)) rfl ?_;clear S;intro a S
        refine Ld (Tn ?_)
        exact ⟨Keep.refl _ _, S.nf [] rfl (subR rfl)⟩
      clear S;rintro a w5 ⟨hk3, S⟩
      refine Ld (Tn (f_cond (S.tm rfl) (fun hb5 => ?_) (fun hb5 => ?_)))
      ·replace h := iteT h hb5
       refine wp_skip (Tn (wp_block (Fs (Fg (lv S (Rm (S.tm rfl)) rfl ?_)))));clear S;intro a S
       refine lv S (rn_subk (S.tm rfl) rfl) rfl ?_;clear S;intro a S
       refine lv S (Ra (S.tm rfl)) rfl ?_;clear S;intro a S
       refine Ld (Tn (Fs (Fg (lv S (Rm (S.tm rfl)) rfl ?_))));clear S;intro a S
       refine lv S (Rm (S.tm rfl)) rfl ?_;clear S;intro a S
       refine lv S (rn_addk (S.tm rfl) (S.tm rfl)) rfl ?_;clear S;intro a S
       refine lv S (Ra (S.tm rfl)) rfl ?_;clear S;intro a S
       refine Ld ?_
       replace S := S.nk [] [(2, .int .u64 (bitShl .u64 Ao (IntKind.wrap .u64 r1))), (8, .int .u64 (IntKind.wrap .u64 r1)), (9, .int .u64 (bitShr .u64 (bitShl .u64 Ao (IntKind.wrap .u64 r1)) 32)), (10, .int .u64 (bitAnd .u64 (bitShl .u64 Ao (IntKind.wrap .u64 r1)) 4294967295)), (11, .int .u64 (bitOr .u64 (bitShl .u64 Bf (IntKind.wrap .u64 r1)) (bitShr .u64 Aq (IntKind.wrap .u64 (64 - (IntKind.wrap .u64 r1)))))), (13, .int .u64 (bitShr .u64 (bitShl .u64 Aq (IntKind.wrap .u64 r1)) 32)), (14, .int .u64 (bitAnd .u64 (bitShl .u64 Aq (IntKind.wrap .u64 r1)) 4294967295)), (15, .int .u64 (IntKind.wrap .u64 (x1 - 1))), (16, .int .u64 (IntKind.wrap .u64 (x2 + (bitShr .u64 (bitShl .u64 Ao (IntKind.wrap .u64 r1)) 32))))] [] rfl (subR rfl)
       refine Tn (Fs (Fg (lv S (Rm (S.tm rfl)) rfl ?_)));clear S;intro a S
       refine lv S (rn_geq (S.tm rfl) rfl) rfl ?_;clear S;intro a S
       refine Ld (Tn (f_cond (S.tm rfl) (fun hb6 => ?_) (fun hb6 => ?_)))
       ·replace h := iteT h hb6
        refine wp_exit (x_other rfl (then_x (x_same (Tn ?_))))
        exact ⟨IntKind.wrap .u64 (x1 - 1), h, S.nf [] rfl (subR rfl)⟩
       ·replace h := iteF h hb6
        refine wp_skip (blk_n (Tn ?_))
        exact ⟨m1, ⟨IntKind.wrap .u64 (x1 - 1), IntKind.wrap .u64 (x2 + (bitShr .u64 (bitShl .u64 Ao (IntKind.wrap .u64 r1)) 32)), h, S.nf [] rfl ⟨rfl, rfl, rfl, rfl, rfl, rfl, rfl, rfl, rfl, trivial⟩⟩, Nat.lt_succ_self _⟩
      ·replace h := iteF h hb5
       refine wp_exit (then_x (then_x (x_same (Tn ?_))))
       exact ⟨x1, h, S.nf [] rfl (subR rfl)⟩
    clear S h;rintro a w4 ⟨x1, h, S⟩;rw [hj1] at h;clear hj1 j1
    refine Tn (Fs (Fg (lv S (Rm (S.tm rfl)) rfl ?_)));clear S;intro a S
    refine lv S (rn_mulk (S.tm rfl) rfl) rfl ?_;clear S;intro a S
    refine lv S (Rm (S.tm rfl)) rfl ?_;clear S;intro a S
    refine lv S (rn_addk (S.tm rfl) (S.tm rfl)) rfl ?_;clear S;intro a S
    refine lv S (Rm (S.tm rfl)) rfl ?_;clear S;intro a S
    refine lv S (Rm (S.tm rfl)) rfl ?_;clear S;intro a S
    refine lv S (rn_mulk (S.tm rfl) (S.tm rfl)) rfl ?_;clear S;intro a S
    refine lv S (rn_subk (S.tm rfl) (S.tm rfl)) rfl ?_;clear S;intro a S
    refine lv S (Ra (S.tm rfl)) rfl ?_;clear S;intro a S
    refine Ld ?_
    replace S := S.nk [] [(2, .int .u64 (bitShl .u64 Ao (IntKind.wrap .u64 r1))), (8, .int .u64 (IntKind.wrap .u64 r1)), (9, .int .u64 (bitShr .u64 (bitShl .u64 Ao (IntKind.wrap .u64 r1)) 32)), (10, .int .u64 (bitAnd .u64 (bitShl .u64 Ao (IntKind.wrap .u64 r1)) 4294967295)), (14, .int .u64 (bitAnd .u64 (bitShl .u64 Aq (IntKind.wrap .u64 r1)) 4294967295)), (15, .int .u64 x1), (17, .int .u64 (IntKind.wrap .u64 ((IntKind.wrap .u64 ((IntKind.wrap .u64 ((bitOr .u64 (bitShl .u64 Bf (IntKind.wrap .u64 r1)) (bitShr .u64 Aq (IntKind.wrap .u64 (64 - (IntKind.wrap .u64 r1))))) * 4294967296)) + (bitShr .u64 (bitShl .u64 Aq (IntKind.wrap .u64 r1)) 32))) - (IntKind.wrap .u64 (x1 * (bitShl .u64 Ao (IntKind.wrap .u64 r1)))))))] [] rfl (subR rfl)
    refine Tn (Fs (Fg (lv S (Rm (S.tm rfl)) rfl ?_)));clear S;intro a S
    refine lv S (Rm (S.tm rfl)) rfl ?_;clear S;intro a S
    obtain ⟨hc8, h⟩ := chkE h
    refine lv S (rn_quok (S.tm rfl) (S.tm rfl) (ne0_of hc8)) rfl ?_;clear S;intro a S
    refine lv S (Ra (S.tm rfl)) rfl ?_;clear S;intro a S
    refine Ld (Tn (Fs (Fg (lv S (Rm (S.tm rfl)) rfl ?_))));clear S;intro a S
    refine lv S (Rm (S.tm rfl)) rfl ?_;clear S;intro a S
    refine lv S (Rm (S.tm rfl)) rfl ?_;clear S;intro a S
    refine lv S (rn_mulk (S.tm rfl) (S.tm rfl)) rfl ?_;clear S;intro a S
    refine lv S (rn_subk (S.tm rfl) (S.tm rfl)) rfl ?_;clear S;intro a S
    refine lv S (Ra (S.tm rfl)) rfl ?_;clear S;intro a S
    refine Ld ?_
    replace S := S.nk [] [(2, .int .u64 (bitShl .u64 Ao (IntKind.wrap .u64 r1))), (8, .int .u64 (IntKind.wrap .u64 r1)), (9, .int .u64 (bitShr .u64 (bitShl .u64 Ao (IntKind.wrap .u64 r1)) 32)), (10, .int .u64 (bitAnd .u64 (bitShl .u64 Ao (IntKind.wrap .u64 r1)) 4294967295)), (14, .int .u64 (bitAnd .u64 (bitShl .u64 Aq (IntKind.wrap .u64 r1)) 4294967295)), (15, .int .u64 x1), (16, .int .u64 (IntKind.wrap .u64 ((IntKind.wrap .u64 ((IntKind.wrap .u64 ((IntKind.wrap .u64 ((bitOr .u64 (bitShl .u64 Bf (IntKind.wrap .u64 r1)) (bitShr .u64 Aq (IntKind.wrap .u64 (64 - (IntKind.wrap .u64 r1))))) * 4294967296)) + (bitShr .u64 (bitShl .u64 Aq (IntKind.wrap .u64 r1)) 32))) - (IntKind.wrap .u64 (x1 * (bitShl .u64 Ao (IntKind.wrap .u64 r1)))))) - (IntKind.wrap .u64 ((IntKind.wrap .u64 (Int.tdiv (IntKind.wrap .u64 ((IntKind.wrap .u64 ((IntKind.wrap .u64 ((bitOr .u64 (bitShl .u64 Bf (IntKind.wrap .u64 r1)) (bitShr .u64 Aq (IntKind.wrap .u64 (64 - (IntKind.wrap .u64 r1))))) * 4294967296)) + (bitShr .u64 (bitShl .u64 Aq (IntKind.wrap .u64 r1)) 32))) - (IntKind.wrap .u64 (x1 * (bitShl .u64 Ao (IntKind.wrap .u64 r1)))))) (bitShr .u64 (bitShl .u64 Ao (IntKind.wrap .u64 r1)) 32))) * (bitShr .u64 (bitShl .u64 Ao (IntKind.wrap .u64 r1)) 32)))))), (17, .int .u64 (IntKind.wrap .u64 ((IntKind.wrap .u64 ((IntKind.wrap .u64 ((bitOr .u64 (bitShl .u64 Bf (IntKind.wrap .u64 r1)) (bitShr .u64 Aq (IntKind.wrap .u64 (64 - (IntKind.wrap .u64 r1))))) * 4294967296)) + (bitShr .u64 (bitShl .u64 Aq (IntKind.wrap .u64 r1)) 32))) - (IntKind.wrap .u64 (x1 * (bitShl .u64 Ao (IntKind.wrap .u64 r1))))))), (18, .int .u64 (IntKind.wrap .u64 (Int.tdiv (IntKind.wrap .u64 ((IntKind.wrap .u64 ((IntKind.wrap .u64 ((bitOr .u64 (bitShl .u64 Bf (IntKind.wrap .u64 r1)) (bitShr .u64 Aq (IntKind.wrap .u64 (64 - (IntKind.wrap .u64 r1))))) * 4294967296)) + (bitShr .u64 (bitShl .u64 Aq (IntKind.wrap .u64 r1)) 32))) - (IntKind.wrap .u64 (x1 * (bitShl .u64 Ao (IntKind.wrap .u64 r1)))))) (bitShr .u64 (bitShl .u64 Ao (IntKind.wrap .u64 r1)) 32))))] [] rfl (subR rfl)
    refine Tn (Fs ?_)
    obtain ⟨j2, hj2, h⟩ := joinE h
    refine f_join (fun a w' => ∃ x4 : Int, j2 x4 = some r ∧ Sx w [] nov [] [(2, .int .u64 (bitShl .u64 Ao (IntKind.wrap .u64 r1))), (8, .int .u64 (IntKind.wrap .u64 r1)), (14, .int .u64 (bitAnd .u64 (bitShl .u64 Aq (IntKind.wrap .u64 r1)) 4294967295)), (15, .int .u64 x1), (17, .int .u64 (IntKind.wrap .u64 ((IntKind.wrap .u64 ((IntKind.wrap .u64 ((bitOr .u64 (bitShl .u64 Bf (IntKind.wrap .u64 r1)) (bitShr .u64 Aq (IntKind.wrap .u64 (64 - (IntKind.wrap .u64 r1))))) * 4294967296)) + (bitShr .u64 (bitShl .u64 Aq (IntKind.wrap .u64 r1)) 32))) - (IntKind.wrap .u64 (x1 * (bitShl .u64 Ao (IntKind.wrap .u64 r1))))))), (18, .int .u64 x4)] 135 a w') ?_ ?_
    ·refine wp_block (f_loop (fun (m2 : Nat) a w' => ∃ x3 : Int, ∃ x4 : Int, bits_Div64_l2 Aq r1 Ao j2 m2 x3 x4 = some r ∧ Sx w [] nov [] [(2, .int .u64 (bitShl .u64 Ao (IntKind.wrap .u64 r1))), (8, .int .u64 (IntKind.wrap .u64 r1)), (9, .int .u64 (bitShr .u64 (bitShl .u64 Ao (IntKind.wrap .u64 r1)) 32)), (10, .int .u64 (bitAnd .u64 (bitShl .u64 Ao (IntKind.wrap .u64 r1)) 4294967295)), (14, .int .u64 (bitAnd .u64 (bitShl .u64 Aq (IntKind.wrap .u64 r1)) 4294967295)), (15, .int .u64 x1), (16, .int .u64 x3), (17, .int .u64 (IntKind.wrap .u64 ((IntKind.wrap .u64 ((IntKind.wrap .u64 ((bitOr .u64 (bitShl .u64 Bf (IntKind.wrap .u64 r1)) (bitShr .u64 Aq (IntKind.wrap .u64 (64 - (IntKind.wrap .u64 r1))))) * 4294967296)) + (bitShr .u64 (bitShl .u64 Aq (IntKind.wrap .u64 r1)) 32))) - (IntKind.wrap .u64 (x1 * (bitShl .u64 Ao (IntKind.wrap .u64 r1))))))), (18, .int .u64 x4)] 135 a w') id (((IntKind.wrap .u64 (Int.tdiv (IntKind.wrap .u64 ((IntKind.wrap .u64 ((IntKind.wrap .u64 ((bitOr .u64 (bitShl .u64 Bf (IntKind.wrap .u64 r1)) (bitShr .u64 Aq (IntKind.wrap .u64 (64 - (IntKind.wrap .u64 r1))))) * 4294967296)) + (bitShr .u64 (bitShl .u64 Aq (IntKind.wrap .u64 r1)) 32))) - (IntKind.wrap .u64 (x1 * (bitShl .u64 Ao (IntKind.wrap .u64 r1)))))) (bitShr .u64 (bitShl .u64 Ao (IntKind.wrap .u64 r1)) 32))) - 4294967296).toNat + 2) ⟨IntKind.wrap .u64 ((IntKind.wrap .u64 ((IntKind.wrap .u64 ((IntKind.wrap .u64 ((bitOr .u64 (bitShl .u64 Bf (IntKind.wrap .u64 r1)) (bitShr .u64 Aq (IntKind.wrap .u64 (64 - (IntKind.wrap .u64 r1))))) * 4294967296)) + (bitShr .u64 (bitShl .u64 Aq (IntKind.wrap .u64 r1)) 32))) - (IntKind.wrap .u64 (x1 * (bitShl .u64 Ao (IntKind.wrap .u64 r1)))))) - (IntKind.wrap .u64 ((IntKind.wrap .u64 (Int.tdiv (IntKind.wrap .u64 ((IntKind.wrap .u64 ((IntKind.wrap .u64 ((bitOr .u64 (bitShl .u64 Bf (IntKind.wrap .u64 r1)) (bitShr .u64 Aq (IntKind.wrap .u64 (64 - (IntKind.wrap .u64 r1))))) * 4294967296)) + (bitShr .u64 (bitShl .u64 Aq (IntKind.wrap .u64 r1)) 32))) - (IntKind.wrap .u64 (x1 * (bitShl .u64 Ao (IntKind.wrap .u64 r1)))))) (bitShr .u64 (bitShl .u64 Ao (IntKind.wrap .u64 r1)) 32))) * (bitShr .u64 (bitShl .u64 Ao (IntKind.wrap .u64 r1)) 32)))), IntKind.wrap .u64 (Int.tdiv (IntKind.wrap .u64 ((IntKind.wrap .u64 ((IntKind.wrap .u64 ((bitOr .u64 (bitShl .u64 Bf (IntKind.wrap .u64 r1)) (bitShr .u64 Aq (IntKind.wrap .u64 (64 - (IntKind.wrap .u64 r1))))) * 4294967296)) + (bitShr .u64 (bitShl .u64 Aq (IntKind.wrap .u64 r1)) 32))) - (IntKind.wrap .u64 (x1 * (bitShl .u64 Ao (IntKind.wrap .u64 r1)))))) (bitShr .u64 (bitShl .u64 Ao (IntKind.wrap .u64 r1)) 32)), h, S.nf [] rfl (subR rfl)⟩ ?_)
     clear S h;rintro m2 a w6 ⟨x3, x4, h, S⟩
     cases m2 with
     | zero => rw [bits_Div64_l2.eq_1] at h;cases h
     | succ m2 =>
      rw [bits_Div64_l2.eq_2] at h
      refine Fs (Fs (Fg (lv S (Rm (S.tm rfl)) rfl ?_)));clear S;intro a S
      refine lv S (rn_geq (S.tm rfl) rfl) rfl ?_;clear S;intro a S
      refine lv S (Rm (S.tm rfl)) rfl ?_;clear S;intro a S
      refine f_cutm 9 (fun a w' => Keep [] w6 w' ∧ Sx w [] nov [] [(2, .int .u64 (bitShl .u64 Ao (IntKind.wrap .u64 r1))), (8, .int .u64 (IntKind.wrap .u64 r1)), (9, .int .u64 (bitShr .u64 (bitShl .u64 Ao (IntKind.wrap .u64 r1)) 32)), (10, .int .u64 (bitAnd .u64 (bitShl .u64 Ao (IntKind.wrap .u64 r1)) 4294967295)), (14, .int .u64 (bitAnd .u64 (bitShl .u64 Aq (IntKind.wrap .u64 r1)) 4294967295)), (15, .int .u64 x1), (16, .int .u64 x3), (17, .int .u64 (IntKind.wrap .u64 ((IntKind.wrap .u64 ((IntKind.wrap .u64 ((bitOr .u64 (bitShl .u64 Bf (IntKind.wrap .u64 r1)) (bitShr .u64 Aq (IntKind.wrap .u64 (64 - (IntKind.wrap .u64 r1))))) * 4294967296)) + (bitShr .u64 (bitShl .u64 Aq (IntKind.wrap .u64 r1)) 32))) - (IntKind.wrap .u64 (x1 * (bitShl .u64 Ao (IntKind.wrap .u64 r1))))))), (18, .int .u64 x4), (113, bV ((decide (4294967296 ≤ x4)) || (decide ((IntKind.wrap .u64 ((IntKind.wrap .u64 (4294967296 * x3)) + (bitAnd .u64 (bitShl .u64 Aq (IntKind.wrap .u64 r1)) 4294967295))) < (IntKind.wrap .u64 (x4 * (bitAnd .u64 (bitShl .u64 Ao (IntKind.wrap .u64 r1)) 4294967295)))))))] 135 a w') ?_ ?_
      ·rcases Bool.eq_false_or_eq_true (decide (4294967296 ≤ x4)) with hb7 | hb7
       ·iterate 8 (refine l_skip S rfl rfl rfl (neq_t hb7) rfl ?_ rfl;clear S;intro a S)
        refine lv S (rn_or_t (decide ((IntKind.wrap .u64 ((IntKind.wrap .u64 (4294967296 * x3)) + (bitAnd .u64 (bitShl .u64 Aq (IntKind.wrap .u64 r1)) 4294967295))) < (IntKind.wrap .u64 (x4 * (bitAnd .u64 (bitShl .u64 Ao (IntKind.wrap .u64 r1)) 4294967295))))) hb7 (S.tm rfl) rfl) rfl ?_;clear S;intro a S
        refine Ld (Tn ?_)
        exact ⟨Keep.refl _ _, S.nf [] rfl (subR rfl)⟩
       ·refine l_want S rfl rfl rfl hb7 (lv S (Rm (S.tm rfl)) rfl ?_);clear S;intro a S
        refine l_want S rfl rfl rfl hb7 (lv S (Rm (S.tm rfl)) rfl ?_);clear S;intro a S
        refine l_want S rfl rfl rfl hb7 (lv S (rn_mulk (S.tm rfl) (S.tm rfl)) rfl ?_);clear S;intro a S
        refine l_want S rfl rfl rfl hb7 (lv S (Rm (S.tm rfl)) rfl ?_);clear S;intro a S
        refine l_want S rfl rfl rfl hb7 (lv S (rn_mulk rfl (S.tm rfl)) rfl ?_);clear S;intro a S
        refine l_want S rfl rfl rfl hb7 (lv S (Rm (S.tm rfl)) rfl ?_);clear S;intro a S
        refine l_want S rfl rfl rfl hb7 (lv S (rn_addk (S.tm rfl) (S.tm rfl)) rfl ?_);clear S;intro a S
        refine l_want S rfl rfl rfl hb7 (lv S (rn_gtr (S.tm rfl) (S.tm rfl)) rfl ?_);clear S;intro a S
        refine lv S (rn_or_f hb7 (S.tm rfl) (S.tm rfl)) rfl ?_;clear S;intro a S
        refine Ld (Tn ?_)
        exact ⟨Keep.refl _ _, S.nf [] rfl (subR rfl)⟩
      clear S;rintro a w8 ⟨hk4, S⟩
      refine Ld (Tn (f_cond (S.tm rfl) (fun hb8 => ?_) (fun hb8 => ?_)))
      ·replace h := iteT h hb8
       refine wp_skip (Tn (wp_block (Fs (Fg (lv S (Rm (S.tm rfl)) rfl ?_)))));clear S;intro a S
       refine lv S (rn_subk (S.tm rfl) rfl) rfl ?_;clear S;intro a S
       refine lv S (Ra (S.tm rfl)) rfl ?_;clear S;intro a S
       refine Ld (Tn (Fs (Fg (lv S (Rm (S.tm rfl)) rfl ?_))));clear S;intro a S
       refine lv S (Rm (S.tm rfl)) rfl ?_;clear S;intro a S
       refine lv S (rn_addk (S.tm rfl) (S.tm rfl)) rfl ?_;clear S;intro a S
       refine lv S (Ra (S.tm rfl)) rfl ?_;clear S;intro a S
       refine Ld ?_
       replace S := S.nk [] [(2, .int .u64 (bitShl .u64 Ao (IntKind.wrap .u64 r1))), (8, .int .u64 (IntKind.wrap .u64 r1)), (9, .int .u64 (bitShr .u64 (bitShl .u64 Ao (IntKind.wrap .u64 r1)) 32)), (10, .int .u64 (bitAnd .u64 (bitShl .u64 Ao (IntKind.wrap .u64 r1)) 4294967295)), (14, .int .u64 (bitAnd .u64 (bitShl .u64 Aq (IntKind.wrap .u64 r1)) 4294967295)), (15, .int .u64 x1), (16, .int .u64 (IntKind.wrap .u64 (x3 + (bitShr .u64 (bitShl .u64 Ao (IntKind.wrap .u64 r1)) 32)))), (17, .int .u64 (IntKind.wrap .u64 ((IntKind.wrap .u64 ((IntKind.wrap .u64 ((bitOr .u64 (bitShl .u64 Bf (IntKind.wrap .u64 r1)) (bitShr .u64 Aq (IntKind.wrap .u64 (64 - (IntKind.wrap .u64 r1))))) * 4294967296)) + (bitShr .u64 (bitShl .u64 Aq (IntKind.wrap .u64 r1)) 32))) - (IntKind.wrap .u64 (x1 * (bitShl .u64 Ao (IntKind.wrap .u64 r1))))))), (18, .int .u64 (IntKind.wrap .u64 (x4 - 1)))] [] rfl (subR rfl)
       refine Tn (Fs (Fg (lv S (Rm (S.tm rfl)) rfl ?_)));clear S;intro a S
       refine lv S (rn_geq (S.tm rfl) rfl) rfl ?_;clear S;intro a S
       refine Ld (Tn (f_cond (S.tm rfl) (fun hb9 => ?_) (fun hb9 => ?_)))
       ·replace h := iteT h hb9
        refine wp_exit (x_other rfl (then_x (x_same (Tn ?_))))
        exact ⟨IntKind.wrap .u64 (x4 - 1), h, S.nf [] rfl (subR rfl)⟩
       ·replace h := iteF h hb9
        refine wp_skip (blk_n (Tn ?_))
        exact ⟨m2, ⟨IntKind.wrap .u64 (x3 + (bitShr .u64 (bitShl .u64 Ao (IntKind.wrap .u64 r1)) 32)), IntKind.wrap .u64 (x4 - 1), h, S.nf [] rfl ⟨rfl, rfl, rfl, rfl, rfl, rfl, rfl, rfl, rfl, trivial⟩⟩, Nat.lt_succ_self _⟩
      ·replace h := iteF h hb8
       refine wp_exit (then_x (then_x (x_same (Tn ?_))))
       exact ⟨x4, h, S.nf [] rfl (subR rfl)⟩
    clear S h;rintro a w7 ⟨x4, h, S⟩;rw [hj2] at h;clear hj2 j2
    refine Tn (Fs (Fg (lv S (Rm (S.tm rfl)) rfl ?_)));clear S;intro a S
    refine lv S (rn_mulk (S.tm rfl) rfl) rfl ?_;clear S;intro a S
    refine lv S (Rm (S.tm rfl)) rfl ?_;clear S;intro a S
    refine lv S (rn_addk (S.tm rfl) (S.tm rfl)) rfl ?_;clear S;intro a S
    refine lv S (Rm (S.tm rfl)) rfl ?_;clear S;intro a S
    refine lv S (rn_mulk (S.tm rfl) rfl) rfl ?_;clear S;intro a S
    refine lv S (Rm (S.tm rfl)) rfl ?_;clear S;intro a S
    refine lv S (rn_addk (S.tm rfl) (S.tm rfl)) rfl ?_;clear S;intro a S
    refine lv S (Rm (S.tm rfl)) rfl ?_;clear S;intro a S
    refine lv S (Rm (S.tm rfl)) rfl ?_;clear S;intro a S
    refine lv S (rn_mulk (S.tm rfl) (S.tm rfl)) rfl ?_;clear S;intro a S
    refine lv S (rn_subk (S.tm rfl) (S.tm rfl)) rfl ?_;clear S;intro a S
    refine lv S (Rm (S.tm rfl)) rfl ?_;clear S;intro a S
    obtain ⟨hc9, h⟩ := chkE h
    refine lv S (rn_shr (S.tm rfl) (S.tm rfl) (of_decide_eq_true hc9)) rfl ?_;clear S;intro a S
    refine lv S (Ra (S.tm rfl)) rfl ?_;clear S;intro a S
    refine lv S (Ra (S.tm rfl)) rfl ?_;clear S;intro a S
    refine Ld ?_
    replace S := S.nk [] [(6, .int .u64 (IntKind.wrap .u64 ((IntKind.wrap .u64 (x1 * 4294967296)) + x4))), (7, .int .u64 (bitShr .u64 (IntKind.wrap .u64 ((IntKind.wrap .u64 ((IntKind.wrap .u64 ((IntKind.wrap .u64 ((IntKind.wrap .u64 ((IntKind.wrap .u64 ((bitOr .u64 (bitShl .u64 Bf (IntKind.wrap .u64 r1)) (bitShr .u64 Aq (IntKind.wrap .u64 (64 - (IntKind.wrap .u64 r1))))) * 4294967296)) + (bitShr .u64 (bitShl .u64 Aq (IntKind.wrap .u64 r1)) 32))) - (IntKind.wrap .u64 (x1 * (bitShl .u64 Ao (IntKind.wrap .u64 r1)))))) * 4294967296)) + (bitAnd .u64 (bitShl .u64 Aq (IntKind.wrap .u64 r1)) 4294967295))) - (IntKind.wrap .u64 (x4 * (bitShl .u64 Ao (IntKind.wrap .u64 r1)))))) (IntKind.wrap .u64 r1)))] [] rfl (subR rfl)
    refine Tn (wp_ret ?_)
    obtain rfl := Option.some.inj h
    exact f_ret2 S Tryz.results92 rfl rfl rfl
theorem points_byTime_ok (w : World) (Ay : Int) (Bk : Int) (r : Int) (h : points_byTime Ay Bk = some r) :
    Calls Tryz.prog 72 [iV Ay, iV Bk].toArray w (Ret w [] fun _ v _ => v = iV r) := by
 refine f_enter [] [] Tryz.func72 rfl Tryz.ntmps72 rfl (by simp) (by simp [fps]) (by simp [fps]) fun a S => ?_
 unfold points_byTime at h
 replace S := S.nk [] [(0, iV Ay), (1, iV Bk)] [] rfl (subR rfl)
 refine Fs (Fg (lv S (Ra rfl) rfl ?_));clear S;intro a S
 refine Ld (Tn (Fs (Fg (lv S (Rm (S.tm rfl)) rfl ?_))));clear S;intro a S
 refine lv S (rn_conv Tryz.underlying3 Tryz.underlying119 (S.tm rfl)) rfl ?_;clear S;intro a S
 refine lv S (Rm (S.tm rfl)) rfl ?_;clear S;intro a S
 refine lv S (rn_conv Tryz.underlying3 Tryz.underlying119 (S.tm rfl)) rfl ?_;clear S;intro a S
 refine lv S (Ra (S.tm rfl)) rfl ?_;clear S;intro a S
 refine lv S (Ra (S.tm rfl)) rfl ?_;clear S;intro a S
 refine Ld (Tn (Fs (Fg (lv S (Rm (S.tm rfl)) rfl ?_))));clear S;intro a S
 refine lv S (Rm (S.tm rfl)) rfl ?_;clear S;intro a S
 refine lv S (rn_mulk (S.tm rfl) (S.tm rfl)) rfl ?_;clear S;intro a S
 refine lv S (Rm (S.tm rfl)) rfl ?_;clear S;intro a S
 refine lv S (rn_mulk (S.tm rfl) (S.tm rfl)) rfl ?_;clear S;intro a S
 refine l_enter S (fun _ => run_call (vs := [.int .u64 (IntKind.wrap .u64 ((IntKind.wrap .u64 ((IntKind.wrap .u64 Ay) * (IntKind.wrap .u64 Ay))) * (IntKind.wrap .u64 Ay))), .int .u64 1000]) ⟨(S.tm rfl), rfl, trivial⟩ Tryz.call91) (bits_Mul64_ok _ (IntKind.wrap .u64 ((IntKind.wrap .u64 ((IntKind.wrap .u64 Ay) * (IntKind.wrap .u64 Ay))) * (IntKind.wrap .u64 Ay))) 1000 _ rfl) rfl ?_;clear S;intro v1 a w1 hv1 hk1 hn1 S
 subst hv1
 refine lv S (Rm (S.tm rfl)) rfl ?_;clear S;intro a S
 refine lv S (rn_extract (S.tm rfl) rfl) rfl ?_;clear S;intro a S
 refine lv S (rn_extract (S.tm rfl) rfl) rfl ?_;clear S;intro a S
 refine lv S (Ra (S.tm rfl)) rfl ?_;clear S;intro a S
 refine lv S (Ra (S.tm rfl)) rfl ?_;clear S;intro a S
 refine Ld ?_
 replace S := S.nk [] [(6, .int .u64 (IntKind.wrap .u64 Bk)), (7, .int .u64 ((bits_Mul64 (IntKind.wrap .u64 ((IntKind.wrap .u64 ((IntKind.wrap .u64 Ay) * (IntKind.wrap .u64 Ay))) * (IntKind.wrap .u64 Ay))) 1000).1)), (8, .int .u64 ((bits_Mul64 (IntKind.wrap .u64 ((IntKind.wrap .u64 ((IntKind.wrap .u64 Ay) * (IntKind.wrap .u64 Ay))) * (IntKind.wrap .u64 Ay))) 1000).2))] [] rfl (subR rfl)
 refine Tn (Fs (Fg (lv S (Rm (S.tm rfl)) rfl ?_)));clear S;intro a S
 refine lv S (Rm (S.tm rfl)) rfl ?_;clear S;intro a S
 refine lv S (rn_mulk (S.tm rfl) (S.tm rfl)) rfl ?_;clear S;intro a S
 refine lv S (Rm (S.tm rfl)) rfl ?_;clear S;intro a S
 refine lv S (rn_mulk (S.tm rfl) (S.tm rfl)) rfl ?_;clear S;intro a S
 refine lv S (Ra (S.tm rfl)) rfl ?_;clear S;intro a S
 refine Ld (Tn (Fs (Fs (Fg (lv S (Rm (S.tm rfl)) rfl ?_)))));clear S;intro a S
 refine lv S (Rm (S.tm rfl)) rfl ?_;clear S;intro a S
 refine lv S (rn_geq (S.tm rfl) (S.tm rfl)) rfl ?_;clear S;intro a S
 refine Ld (Tn (f_cond (S.tm rfl) (fun hb1 => ?_) (fun hb1 => ?_)))
 ·replace h := iteT h hb1
  refine Fs (Fg (lv S (Ra rfl) rfl ?_));clear S;intro a S
  refine Ld (Tn (wp_ret (then_r ?_)))
  obtain rfl := Option.some.inj h
  exact f_ret S Tryz.results72 rfl rfl
 ·replace h := iteF h hb1
  refine wp_skip (Tn (Fs (Fg (lv S (Rm (S.tm rfl)) rfl ?_))));clear S;intro a S
  refine lv S (Rm (S.tm rfl)) rfl ?_;clear S;intro a S
  refine lv S (Rm (S.tm rfl)) rfl ?_;clear S;intro a S
  obtain ⟨r1, hr1, h⟩ := bindE h
  refine l_enter S (fun _ => run_call (vs := [.int .u64 ((bits_Mul64 (IntKind.wrap .u64 ((IntKind.wrap .u64 ((IntKind.wrap .u64 Ay) * (IntKind.wrap .u64 Ay))) * (IntKind.wrap .u64 Ay))) 1000).1), .int .u64 ((bits_Mul64 (IntKind.wrap .u64 ((IntKind.wrap .u64 ((IntKind.wrap .u64 Ay) * (IntKind.wrap .u64 Ay))) * (IntKind.wrap .u64 Ay))) 1000).2), .int .u64 (IntKind.wrap .u64 ((IntKind.wrap .u64 ((IntKind.wrap .u64 Bk) * (IntKind.wrap .u64 Bk))) * (IntKind.wrap .u64 Bk)))]) ⟨(S.tm rfl), (S.tm rfl), (S.tm rfl), trivial⟩ Tryz.call92) (bits_Div64_ok _ ((bits_Mul64 (IntKind.wrap .u64 ((IntKind.wrap .u64 ((IntKind.wrap .u64 Ay) * (IntKind.wrap .u64 Ay))) * (IntKind.wrap .u64 Ay))) 1000).1) ((bits_Mul64 (IntKind.wrap .u64 ((IntKind.wrap .u64 ((IntKind.wrap .u64 Ay) * (IntKind.wrap .u64 Ay))) * (IntKind.wrap .u64 Ay))) 1000).2) (IntKind.wrap .u64 ((IntKind.wrap .u64 ((IntKind.wrap .u64 Bk) * (IntKind.wrap .u64 Bk))) * (IntKind.wrap .u64 Bk))) _ hr1) rfl ?_;clear S;intro v2 a w2 hv2 hk2 hn2 S
  subst hv2
  refine lv S (Rm (S.tm rfl)) rfl ?_;clear S;intro a S
  refine lv S (rn_extract (S.tm rfl) rfl) rfl ?_;clear S;intro a S
  refine lv S (rn_extract (S.tm rfl) rfl) rfl ?_;clear S;intro a S
  refine lv S (Ra (S.tm rfl)) rfl ?_;clear S;intro a S
  refine lv S (Ra (S.tm rfl)) rfl ?_;clear S;intro a S
  refine Ld ?_
  replace S := S.nk [] [(9, .int .u64 r1.1)] [] rfl ⟨rfl, trivial⟩
  refine Tn (Fs (Fg (lv S (Rm (S.tm rfl)) rfl ?_)));clear S;intro a S
  refine lv S (rn_min2 (S.tm rfl) rfl) rfl ?_;clear S;intro a S
  refine lv S (rn_conv Tryz.underlying119 Tryz.underlying3 (S.tm rfl)) rfl ?_;clear S;intro a S
  refine lv S (Ra (S.tm rfl)) rfl ?_;clear S;intro a S
  refine Ld (Tn (wp_ret ?_))
  obtain rfl := Option.some.inj h
  exact f_ret S Tryz.results72 rfl rfl
theorem points_ByTime_ok (w : World) (O : Value) (Ab : List GBase) (Ad : Slc (view w []) 2 O (Ab.map GBase.enc)) (Bn : ByteArray) (Bk : Int) (r : Int × Int) (h : points_ByTime Ab Bn Bk = some r) :
    Calls Tryz.prog 42 [O, sV Bn, iV Bk].toArray w (Ret w [] fun _ v _ => v = .tuple #[iV r.1, iV r.2]) := by
 refine f_enter [] [] Tryz.func42 rfl Tryz.ntmps42 rfl (by simp) (by simp [fps]) (by simp [fps]) fun a S => ?_
 unfold points_ByTime at h
 replace S := S.nk [] [(0, O), (1, sV Bn), (2, iV Bk)] [] rfl (subR rfl)
 refine Fs (Fg (lv S (Ra rfl) rfl ?_));clear S;intro a S
 refine lv S (Ra rfl) rfl ?_;clear S;intro a S
 refine Ld (Tn (Fs (Fs (Fg (lv S (Rm (S.tm rfl)) rfl ?_)))));clear S;intro a S
 obtain ⟨r1, hr1, h⟩ := bindE h
 refine l_enter S (fun _ => run_call (vs := [O]) ⟨(S.tm rfl), trivial⟩ Tryz.call69) (points_CheckBase_ok _ O Ab (Ad.mono (S.le_arg nil_sub)) _ hr1) rfl ?_;clear S;intro v1 a w1 hv1 hk1 hn1 S
 subst hv1
 refine lv S (Ra (S.tm rfl)) rfl ?_;clear S;intro a S
 refine Ld (Tn (Fs (Fg (lv S (Rm (S.tm rfl)) rfl ?_))));clear S;intro a S
 refine lv S (rn_neq (S.tm rfl) rfl) rfl ?_;clear S;intro a S
 refine Ld (Tn (f_cond (S.tm rfl) (fun hb1 => ?_) (fun hb1 => ?_)))
 ·replace h := iteT h hb1
  refine Fs (Fg (lv S (Rm (S.tm rfl)) rfl ?_));clear S;intro a S
  refine lv S (Ra rfl) rfl ?_;clear S;intro a S
  refine lv S (Ra (S.tm rfl)) rfl ?_;clear S;intro a S
  refine Ld (Tn (wp_ret (then_r ?_)))
  obtain rfl := Option.some.inj h
  exact f_ret2 S Tryz.results42 rfl rfl rfl
 ·replace h := iteF h hb1
  refine wp_skip (Tn (Fs (Fg (lv S (Rm (S.tm rfl)) rfl ?_))));clear S;intro a S
  refine lv S (Rm (S.tm rfl)) rfl ?_;clear S;intro a S
  refine l_enter S (fun _ => run_call (vs := [O, sV Bn]) ⟨(S.tm rfl), (S.tm rfl), trivial⟩ Tryz.call70) (points_baseOf_ok _ O Ab (Ad.mono (S.le_arg nil_sub)) Bn _ rfl) rfl ?_;clear S;intro v2 a w2 hv2 hk2 hn2 S
  subst hv2
  refine lv S (Ra (S.tm rfl)) rfl ?_;clear S;intro a S
  refine Ld (Tn (Fs (Fs (Fg (lv S (Rm (S.tm rfl)) rfl ?_)))));clear S;intro a S
  refine lv S (rn_eql (S.tm rfl) rfl) rfl ?_;clear S;intro a S
  refine Ld ?_
  replace S := S.nk [] [(2, iV Bk), (9, iV (points_baseOf Ab Bn)), (19, bV (decide ((points_baseOf Ab Bn) = 0)))] [] rfl (subR rfl)
  refine Tn (f_cond (S.tm rfl) (fun hb2 => ?_) (fun hb2 => ?_))
  ·replace h := iteT h hb2
   refine Fs (Fg (lv S (Ra rfl) rfl ?_));clear S;intro a S
   refine lv S (Ra rfl) rfl ?_;clear S;intro a S
   refine Ld (Tn (wp_ret (then_r ?_)))
   obtain rfl := Option.some.inj h
   exact f_ret2 S Tryz.results42 rfl rfl rfl
  ·replace h := iteF h hb2
   refine wp_skip (Tn (Fs (Fs (Fg (lv S (Rm (S.tm rfl)) rfl ?_)))));clear S;intro a S
   refine l_enter S (fun _ => run_call (vs := [iV Bk]) ⟨(S.tm rfl), trivial⟩ Tryz.call71) (timing_IsTime_ok _ Bk _ rfl) rfl ?_;clear S;intro v3 a w3 hv3 hk3 hn3 S
   subst hv3
   refine lv S (rn_not (S.tm rfl)) rfl ?_;clear S;intro a S
   refine Ld (Tn (f_cond (S.tm rfl) (fun hb3 => ?_) (fun hb3 => ?_)))
   ·replace h := iteT h hb3
    refine Fs (Fg (lv S (Ra rfl) rfl ?_));clear S;intro a S
    refine lv S (Ra rfl) rfl ?_;clear S;intro a S
    refine Ld (Tn (wp_ret (then_r ?_)))
    obtain rfl := Option.some.inj h
    exact f_ret2 S Tryz.results42 rfl rfl rfl
   ·replace h := iteF h hb3
    refine wp_skip (Tn (Fs (Fg (lv S (Rm (S.tm rfl)) rfl ?_))));clear S;intro a S
    refine lv S (Rm (S.tm rfl)) rfl ?_;clear S;intro a S
    obtain ⟨r2, hr2, h⟩ := bindE h
    refine l_enter S (fun _ => run_call (vs := [iV (points_baseOf Ab Bn), iV Bk]) ⟨(S.tm rfl), (S.tm rfl), trivial⟩ Tryz.call72) (points_byTime_ok _ (points_baseOf Ab Bn) Bk _ hr2) rfl ?_;clear S;intro v4 a w4 hv4 hk4 hn4 S
    subst hv4
    refine lv S (Ra (S.tm rfl)) rfl ?_;clear S;intro a S
    refine lv S (Ra rfl) rfl ?_;clear S;intro a S
    refine Ld (Tn (wp_ret ?_))
    obtain rfl := Option.some.inj h
    exact f_ret2 S Tryz.results42 rfl rfl rfl
theorem tumblaw2_pointed_ok (w : World) (r : Bool) (h : tumblaw2_pointed = some r) :
    Calls Tryz.prog 15 [].toArray w (Ret w [] fun _ v _ => v = bV r) := by
 refine f_enter [] [] Tryz.func15 rfl Tryz.ntmps15 rfl (by simp) (by simp [fps]) (by simp [fps]) fun a S => ?_
 unfold tumblaw2_pointed at h
 replace S := S.nk [] [] [] rfl trivial
 refine Fs (Fg (lv S (Ra rfl) rfl ?_));clear S;intro a S
 refine Ld (Tn (Fs (Fg (lv S (rn_bld bt_77 (pv := [(0, sV k_r), (1, iV 3000)]) ⟨rfl, rfl, rfl, rfl, trivial⟩ (cs := [sV k_r, iV 3000]) (by kernel_rfl)) rfl ?_))));clear S;intro a S
 refine l_buildSlice S Tryz.underlying78 Tryz.sizeOf77 Tryz.zeroValue77 rfl rfl (pv := [(0, .agg #[sV k_r, iV 3000])]) ⟨rfl, (S.tm rfl), trivial⟩ (cs := [sV k_r, iV 3000]) (by kernel_rfl) rfl ?_;clear S;intro a w1 b1 hz1 hk1 S
 obtain ⟨r1, hr1, h⟩ := bindE h
 refine l_enter S (fun _ => run_call (vs := [.slice (some ⟨b1, 0, none⟩) 1 1, sV k_r, iV 6000]) ⟨(S.tm rfl), rfl, rfl, trivial⟩ Tryz.call42) (points_ByTime_ok _ (.slice (some ⟨b1, 0, none⟩) 1 1) [(GBase.mk k_r 3000)] (lit_slcT GBase.enc_ok S (i := 0) rfl rfl rfl rfl ((ne_nil (e' := .blk b1 [sV k_r, iV 3000] 77)) _ rfl)) k_r 6000 _ hr1) rfl ?_;clear S;intro v1 a w2 hv1 hk2 hn1 S
 subst hv1
 refine lv S (Rm (S.tm rfl)) rfl ?_;clear S;intro a S
 refine lv S (rn_extract (S.tm rfl) rfl) rfl ?_;clear S;intro a S
 refine lv S (rn_extract (S.tm rfl) rfl) rfl ?_;clear S;intro a S
 refine lv S (Ra (S.tm rfl)) rfl ?_;clear S;intro a S
 refine lv S (Ra (S.tm rfl)) rfl ?_;clear S;intro a S
 refine Ld (Tn (Fs (Fg (lv S (Rm (S.tm rfl)) rfl ?_))));clear S;intro a S
 refine lv S (rn_eql (S.tm rfl) rfl) rfl ?_;clear S;intro a S
 refine lv S (Rm (S.tm rfl)) rfl ?_;clear S;intro a S
 refine f_cutm 3 (fun a w' => Keep [] w2 w' ∧ Sx w [] nov [.blk b1 [sV k_r, iV 3000] 77] [(14, bV ((decide (r1.2 = 0)) && (decide (r1.1 = 125))))] 15 a w') ?_ ?_
 ·rcases Bool.eq_false_or_eq_true (decide (r1.2 = 0)) with hb1 | hb1
  ·refine l_want S rfl rfl rfl hb1 (lv S (Rm (S.tm rfl)) rfl ?_);clear S;intro a S
   refine l_want S rfl rfl rfl hb1 (lv S (rn_eql (S.tm rfl) rfl) rfl ?_);clear S;intro a S
   refine lv S (rn_and_t hb1 (S.tm rfl) (S.tm rfl)) rfl ?_;clear S;intro a S
   refine Ld (Tn ?_)
   exact ⟨Keep.refl _ _, S.nf [true] rfl ⟨rfl, trivial⟩⟩
  ·refine l_skip S rfl rfl rfl (neq_f hb1) rfl ?_ rfl;clear S;intro a S
   refine l_skip S rfl rfl rfl (neq_f hb1) rfl ?_ rfl;clear S;intro a S
   refine lv S (rn_and_f (decide (r1.1 = 125)) hb1 (S.tm rfl) rfl) rfl ?_;clear S;intro a S
   refine Ld (Tn ?_)
   exact ⟨Keep.refl _ _, S.nf [true] rfl ⟨rfl, trivial⟩⟩
 clear S;rintro a w3 ⟨hk3, S⟩
 refine lv S (Ra (S.tm rfl)) rfl ?_;clear S;intro a S
 refine Ld (Tn (wp_ret ?_))
 obtain rfl := Option.some.inj h
 exact f_ret S Tryz.results15 rfl rfl
theorem tumbref2_counted_ok (w : World) (Ak : GScored) (r : Bool) (h : tumbref2_counted Ak = r) :
    Calls Tryz.prog 43 [.agg (GScored.enc Ak).toArray].toArray w (Ret w [] fun _ v _ => v = bV r) := by
 refine f_enter [] [] Tryz.func43 rfl Tryz.ntmps43 rfl (by simp) (by simp [fps]) (by simp [fps]) fun a S => ?_
 unfold tumbref2_counted at h
 replace S := S.nk [] [(0, .agg (GScored.enc Ak).toArray)] [] rfl ⟨rfl, trivial⟩
 refine Fs (Fg (l_box S (S.tm rfl) (cs := (GScored.enc Ak)) rfl rfl ?_));clear S;intro a w1 b1 hz1 hk1 S
 refine lv S (Ra rfl) rfl ?_;clear S;intro a S
 refine Ld (Tn (Fs (Fg (lv S (rn_fld fa_54_3 (S.tm rfl)) rfl ?_))));clear S;intro a S
 refine lv S (rn_load Tryz.isAgg3 (S.tm rfl) (S.cell (i := 0) rfl rfl)) rfl ?_;clear S;intro a S
 refine lv S (rn_gtr (S.tm rfl) rfl) rfl ?_;clear S;intro a S
 refine lv S (Rm (S.tm rfl)) rfl ?_;clear S;intro a S
 refine f_cutm 4 (fun a w' => Keep [] w1 w' ∧ Sx w [] nov [.blk b1 (GScored.enc Ak) 54] [(10, bV ((decide (0 < Ak.Rank)) && (!decide (Ak.Club = k_empty))))] 11 a w') ?_ ?_
 ·rcases Bool.eq_false_or_eq_true (decide (0 < Ak.Rank)) with hb1 | hb1
  ·refine l_want S rfl rfl rfl hb1 (lv S (rn_fld fa_54_2 (S.tm rfl)) rfl ?_);clear S;intro a S
   refine l_want S rfl rfl rfl hb1 (lv S (rn_load Tryz.isAgg9 (S.tm rfl) (S.cell (i := 0) rfl rfl)) rfl ?_);clear S;intro a S
   refine l_want S rfl rfl rfl hb1 (lv S (rn_sneq (S.tm rfl) rfl) rfl ?_);clear S;intro a S
   refine lv S (rn_and_t hb1 (S.tm rfl) (S.tm rfl)) rfl ?_;clear S;intro a S
   refine Ld (Tn ?_)
   exact ⟨Keep.refl _ _, S.nf [true] rfl ⟨rfl, trivial⟩⟩
  ·iterate 3 (refine l_skip S rfl rfl rfl (neq_f hb1) rfl ?_ rfl;clear S;intro a S)
   refine lv S (rn_and_f (!decide (Ak.Club = k_empty)) hb1 (S.tm rfl) rfl) rfl ?_;clear S;intro a S
   refine Ld (Tn ?_)
   exact ⟨Keep.refl _ _, S.nf [true] rfl ⟨rfl, trivial⟩⟩
 clear S;rintro a w2 ⟨hk2, S⟩
 refine lv S (Ra (S.tm rfl)) rfl ?_;clear S;intro a S
 refine Ld (Tn (wp_ret ?_))
 subst h
 exact f_ret S Tryz.results43 rfl rfl
set_option maxRecDepth 20000 in
theorem slices_Index_Scored_ok (w : World) (Al : Value) (Ak : List GScored) (Bq : Slc (view w []) 5 Al (Ak.map GScored.enc)) (Bz : GScored) (r : Int) (h : slices_Index_Scored Ak Bz = r) :
    Calls Tryz.prog 93 [Al, .agg (GScored.enc Bz).toArray].toArray w (Ret w [] fun _ v _ => v = iV r) := by
 refine f_enter [] [] Tryz.func93 rfl Tryz.ntmps93 rfl (by simp) (by simp [fps]) (by simp [fps]) fun a S => ?_
 unfold slices_Index_Scored at h
 replace S := S.nk [] [(0, Al), (1, .agg (GScored.enc Bz).toArray)] [] rfl (subR rfl)
 refine Fs (Fg (l_box S (S.tm rfl) (cs := (GScored.enc Bz)) rfl rfl ?_));clear S;intro a w1 b1 hz1 hk1 S
 refine lv S (Ra rfl) rfl ?_;clear S;intro a S
 refine Ld (Tn (Fs (Fs (Fg (lv S (Rm (S.tm rfl)) rfl ?_)))));clear S;intro a S
 refine lv S (rn_lenT sl_29 (S.tm rfl) (slc_len Bq)) rfl ?_;clear S;intro a S
 refine lv S (Rm rfl) rfl ?_;clear S;intro a S
 refine Ld (Tn ?_)
 replace S := S.nk [.blk b1 (GScored.enc Bz) 54] [(0, Al), (3, .pointer (some ⟨b1, 0, none⟩)), (7, iV (Ak.length : Int)), (8, iV 0)] [true] rfl (subR rfl)
 obtain ⟨j1, hj1, h⟩ := joinE h
 refine f_join (fun a w' => j1 = r ∧ Sx w [] nov [.blk b1 (GScored.enc Bz) 54] [] 19 a w') ?_ ?_
 ·refine wp_block (f_loop (fun (ys1 : List GScored) a w' => ∃ i1 : Nat, (∃ dn, Ak = dn ++ ys1 ∧ dn.length = i1) ∧ slices_Index_Scored_l1 Bz j1 ys1 i1 = r ∧ Sx w [] nov [.blk b1 (GScored.enc Bz) 54] [(0, Al), (3, .pointer (some ⟨b1, 0, none⟩)), (7, iV (Ak.length : Int)), (8, iV (i1 : Int))] 19 a w') List.length Ak ⟨0, ⟨[], rfl, rfl⟩, h, S.nf [true] rfl (subR rfl)⟩ ?_)
  clear S h;rintro ys1 a w2 ⟨i1, ⟨dn, hd1, hi1⟩, h, S⟩
  cases ys1 with
  | nil =>
   rw [slices_Index_Scored_l1.eq_1] at h
   refine Fs (Fg (lv S (rn_lss (S.tm rfl) (S.tm rfl)) rfl ?_));clear S;intro a S
   refine Ld ?_
   replace S := S.nk [.blk b1 (GScored.enc Bz) 54] [(0, Al), (3, .pointer (some ⟨b1, 0, none⟩)), (7, iV (Ak.length : Int)), (8, iV (i1 : Int)), (9, bV (decide ((i1 : Int) < (Ak.length : Int))))] [true] rfl (subR rfl)
   refine Tn (Fs (wp_cond_false ((S.tm rfl).trans (congrArg Value.bool (rng_nil hd1 hi1))) (wp_exit (then_x (then_x (x_same ?_))))))
   refine Tn ?_
   exact ⟨h, S.nf [true] rfl trivial⟩
  | cons y1 ys1 =>
   rw [slices_Index_Scored_l1.eq_2] at h
   refine Fs (Fg (lv S (rn_lss (S.tm rfl) (S.tm rfl)) rfl ?_));clear S;intro a S
   refine Ld ?_
   replace S := S.nk [.blk b1 (GScored.enc Bz) 54] [(0, Al), (3, .pointer (some ⟨b1, 0, none⟩)), (7, iV (Ak.length : Int)), (8, iV (i1 : Int)), (9, bV (decide ((i1 : Int) < (Ak.length : Int))))] [true] rfl (subR rfl)
   refine Tn (Fs (wp_cond_true ((S.tm rfl).trans (congrArg Value.bool (rng_cons hd1 hi1))) (wp_skip (Tn (Fs (wp_block ?_))))))
   refine Fs (Fg (lv S (Rm (S.tm rfl)) rfl ?_));clear S;intro a S
   refine lv S (Ra (S.tm rfl)) rfl ?_;clear S;intro a S
   refine Ld (Tn (Fs (d_region [] ([]) Tryz.mixed S rfl (by kernel_rfl) ?_)));clear S;intro w4 hk2 hsel S
   refine d_rest [0, 1, 2, 3, 4, 5] hsel (by kernel_rfl) rfl ?_
   clear hsel
   refine s_lv S rfl (rn_ldA Tryz.isAgg54 Tryz.sizeOf54 (off := 0) (o := 0) (part := (GScored.enc Bz)) rfl rfl (S.tm rfl) (S.cellsAt (i := 0) rfl)) rfl ?_;clear S;intro a S
   refine s_lv S rfl (Rm (S.tm rfl)) rfl ?_;clear S;intro a S
   refine s_lv S rfl (Rm (S.tm rfl)) rfl ?_;clear S;intro a S
   obtain ⟨b2, o1, hm1, hr1⟩ := rn_indexT (a := a) (x := .tmp 12) (y := .tmp 13) (ty := 0) sl_29 Bq (get_mid hd1 hi1) rfl (S.tm rfl) (S.tm rfl)
   refine s_lv S rfl (hr1 _) rfl ?_;clear S;intro a S
   clear hr1
   refine s_lv S rfl (rn_ldA Tryz.isAgg54 Tryz.sizeOf54 (off := o1) (o := 0) (part := (GScored.enc y1)) rfl rfl (S.tm rfl) (hm1.at S.emb0)) rfl ?_;clear S;intro a S
   refine s_lv S rfl (rn_eql_54 (m := Bz) (n := y1) (S.tm rfl) (S.tm rfl)) rfl ?_;clear S;intro a S
   refine s_done ?_
   replace S := S.nk [.blk b1 (GScored.enc Bz) 54] [(0, Al), (3, .pointer (some ⟨b1, 0, none⟩)), (5, iV (i1 : Int)), (7, iV (Ak.length : Int)), (8, iV (i1 : Int)), (16, bV (decide (Bz = y1)))] [true] rfl (subR rfl)
   refine Tn (f_cond (S.tm rfl) (fun hb1 => ?_) (fun hb1 => ?_))
   ·replace h := iteT h hb1
    refine Fs (Fg (lv S (Rm (S.tm rfl)) rfl ?_));clear S;intro a S
    refine lv S (Ra (S.tm rfl)) rfl ?_;clear S;intro a S
    refine Ld (Tn (wp_ret (blk_r (then_r (then_r (blk_r ?_))))))
    refine then_r (then_r ?_)
    subst h
    exact f_ret S Tryz.results93 rfl rfl
   ·replace h := iteF h hb1
    refine wp_skip (blk_n (Tn (Fg (lv S (rn_add (S.tm rfl) rfl) rfl ?_))));clear S;intro a S
    refine lv S (Rm (S.tm rfl)) rfl ?_;clear S;intro a S
    refine Ld (Tn ?_)
    exact ⟨ys1, ⟨i1 + 1, ⟨_, (hd1).trans (List.append_cons _ _ _), by simp [hi1]⟩, h, S.nf [true] rfl ⟨rfl, rfl, rfl, (congrArg (fun z => some (Value.int .i64 z)) (rng_next hd1 hi1 (slc_max Bq))), trivial⟩⟩, Nat.lt_succ_self _⟩
 clear S h;rintro a w3 ⟨h, S⟩;rw [hj1] at h;clear hj1 j1
 refine Tn (Fs (Fg (lv S (Ra rfl) rfl ?_)));clear S;intro a S
 refine Ld (Tn (wp_ret ?_))
 subst h
 exact f_ret S Tryz.results93 rfl rfl
theorem slices_Contains_Scored_ok (w : World) (Al : Value) (Ak : List GScored) (Bq : Slc (view w []) 5 Al (Ak.map GScored.enc)) (Bz : GScored) (r : Bool) (h : slices_Contains_Scored Ak Bz = r) :
    Calls Tryz.prog 73 [Al, .agg (GScored.enc Bz).toArray].toArray w (Ret w [] fun _ v _ => v = bV r) := by
 refine f_enter [] [] Tryz.func73 rfl Tryz.ntmps73 rfl (by simp) (by simp [fps]) (by simp [fps]) fun a S => ?_
 unfold slices_Contains_Scored at h
 replace S := S.nk [] [(0, Al), (1, .agg (GScored.enc Bz).toArray)] [] rfl (subR rfl)
 refine Fs (Fg (l_box S (S.tm rfl) (cs := (GScored.enc Bz)) rfl rfl ?_));clear S;intro a w1 b1 hz1 hk1 S
 refine lv S (Ra rfl) rfl ?_;clear S;intro a S
 refine Ld (Tn (Fs (Fg (lv S (Rm (S.tm rfl)) rfl ?_))));clear S;intro a S
 refine lv S (rn_ldA Tryz.isAgg54 Tryz.sizeOf54 (off := 0) (o := 0) (part := (GScored.enc Bz)) rfl rfl (S.tm rfl) (S.cellsAt (i := 0) rfl)) rfl ?_;clear S;intro a S
 refine l_enter S (fun _ => run_call (vs := [Al, .agg (GScored.enc Bz).toArray]) ⟨(S.tm rfl), (S.tm rfl), trivial⟩ Tryz.call93) (slices_Index_Scored_ok _ Al Ak (Bq.mono (S.le_arg nil_sub)) Bz _ rfl) rfl ?_;clear S;intro v1 a w2 hv1 hk2 hn1 S
 subst hv1
 refine lv S (rn_geq (S.tm rfl) rfl) rfl ?_;clear S;intro a S
 refine lv S (Ra (S.tm rfl)) rfl ?_;clear S;intro a S
 refine Ld (Tn (wp_ret ?_))
 subst h
 exact f_ret S Tryz.results73 rfl rfl
set_option maxRecDepth 20000 in
theorem tumbref2_Lowest_ok (w : World) (Bw : Int) (Bx : Int) (r : GFraction) (h : tumbref2_Lowest Bw Bx = some r) :
    Calls Tryz.prog 74 [iV Bw, iV Bx].toArray w (Ret w [] fun _ v _ => v = .agg (GFraction.enc r).toArray) := by
 refine f_enter [] [] Tryz.func74 rfl Tryz.ntmps74 rfl (by simp) (by simp [fps]) (by simp [fps]) fun a S => ?_
 unfold tumbref2_Lowest at h
 replace S := S.nk [] [(0, iV Bw), (1, iV Bx)] [] rfl (subR rfl)
 refine Fs (Fg (l_alloc S Tryz.zeroValue36 (cs := [iV 0, iV 0]) rfl rfl ?_));clear S;intro a w1 b1 hz1 hk1 S
 refine Ld (Tn (Fs (Fg (lv S (Rm (S.tm rfl)) rfl ?_))));clear S;intro a S
 refine lv S (Rm (S.tm rfl)) rfl ?_;clear S;intro a S
 refine lv S (Ra (S.tm rfl)) rfl ?_;clear S;intro a S
 refine lv S (Ra (S.tm rfl)) rfl ?_;clear S;intro a S
 refine Ld (Tn (Fs ?_))
 replace S := S.nk [.blk b1 [iV 0, iV 0] 36] [(0, iV Bw), (1, iV Bx), (4, .pointer (some ⟨b1, 0, none⟩)), (5, iV Bw), (6, iV Bx)] [true] rfl (subR rfl)
 obtain ⟨j1, hj1, h⟩ := joinE h
 refine f_join (fun a w' => ∃ x1 : Int, j1 x1 = some r ∧ Sx w [] nov [.blk b1 [iV 0, iV 0] 36] [(0, iV Bw), (1, iV Bx), (4, .pointer (some ⟨b1, 0, none⟩)), (5, iV x1)] 26 a w') ?_ ?_
 ·refine wp_block (f_loop (fun (m1 : Nat) a w' => ∃ x1 : Int, ∃ x2 : Int, tumbref2_Lowest_l1 j1 m1 x1 x2 = some r ∧ Sx w [] nov [.blk b1 [iV 0, iV 0] 36] [(0, iV Bw), (1, iV Bx), (4, .pointer (some ⟨b1, 0, none⟩)), (5, iV x1), (6, iV x2)] 26 a w') id 4611686018427387904 ⟨Bw, Bx, h, S.nf [true] rfl (subR rfl)⟩ ?_)
  clear S h;rintro m1 a w2 ⟨x1, x2, h, S⟩
  cases m1 with
  | zero => rw [tumbref2_Lowest_l1.eq_1] at h;cases h
  | succ m1 =>
   rw [tumbref2_Lowest_l1.eq_2] at h
   refine Fs (Fs (Fg (lv S (Rm (S.tm rfl)) rfl ?_)));clear S;intro a S
   refine lv S (rn_neq (S.tm rfl) rfl) rfl ?_;clear S;intro a S
   refine Ld (Tn (f_cond (S.tm rfl) (fun hb1 => ?_) (fun hb1 => ?_)))
   ·replace h := iteT h hb1
    refine wp_skip (Tn (wp_block (d_region [] ([]) Tryz.mixed S rfl (by kernel_rfl) ?_)));clear S;intro w4 hk2 hsel S
    refine d_rest [0, 1, 2, 3, 4, 5] hsel (by kernel_rfl) rfl ?_
    clear hsel
    iterate 3 (refine s_lv S rfl (Rm (S.tm rfl)) rfl ?_;clear S;intro a S)
    obtain ⟨hc1, h⟩ := chkE h
    refine s_lv S rfl (rn_rem (S.tm rfl) (S.tm rfl) (ne0_of hc1)) rfl ?_;clear S;intro a S
    refine s_lv S rfl (Ra (S.tm rfl)) rfl ?_;clear S;intro a S
    refine s_lv S rfl (Ra (S.tm rfl)) rfl ?_;clear S;intro a S
    refine s_done ?_
    replace S := S.nk [.blk b1 [iV 0, iV 0] 36] [(0, iV Bw), (1, iV Bx), (4, .pointer (some ⟨b1, 0, none⟩)), (5, iV x2), (6, iV (Int.tmod x1 x2))] [true] rfl (subR rfl)
    refine blk_n (Tn ?_)
    exact ⟨m1, ⟨x2, Int.tmod x1 x2, h, S.nf [true] rfl ⟨rfl, rfl, rfl, rfl, rfl, trivial⟩⟩, Nat.lt_succ_self _⟩
   ·replace h := iteF h hb1
    refine wp_exit (then_x (then_x (x_same (Tn ?_))))
    exact ⟨x1, h, S.nf [true] rfl (subR rfl)⟩
 clear S h;rintro a w3 ⟨x1, h, S⟩;rw [hj1] at h;clear hj1 j1
 refine Tn (Fs (Fs (Fg (lv S (Rm (S.tm rfl)) rfl ?_))));clear S;intro a S
 refine lv S (rn_lss (S.tm rfl) rfl) rfl ?_;clear S;intro a S
 refine Ld (Tn ?_)
 obtain ⟨j2, hj2, h⟩ := joinE h
 refine f_join (fun a w' => ∃ x3 : Int, j2 x3 = some r ∧ Sx w [] nov [.blk b1 [iV 0, iV 0] 36] [(0, iV Bw), (1, iV Bx), (4, .pointer (some ⟨b1, 0, none⟩)), (5, iV x3)] 26 a w') ?_ ?_
 ·refine f_cond (S.tm rfl) (fun hb2 => ?_) (fun hb2 => ?_)
  ·replace h := iteT h hb2
   refine Fg (lv S (Rm (S.tm rfl)) rfl ?_);clear S;intro a S
   refine lv S (rn_neg (S.tm rfl)) rfl ?_;clear S;intro a S
   refine lv S (Ra (S.tm rfl)) rfl ?_;clear S;intro a S
   refine Ld (Tn ?_)
   exact ⟨W (0 - x1), h, S.nf [true] rfl (subR rfl)⟩
  ·replace h := iteF h hb2
   refine wp_skip (Tn ?_)
   exact ⟨x1, h, S.nf [true] rfl (subR rfl)⟩
 clear S h;rintro a w5 ⟨x3, h, S⟩;rw [hj2] at h;clear hj2 j2
 refine Tn (Fs ?_)
 obtain ⟨hc2, h⟩ := chkE h
 obtain ⟨hc3, h⟩ := chkE h
 refine d_region [] ([b1]) Tryz.mixed S rfl (by kernel_rfl) ?_;clear S;intro w7 hk4 hsel S
 refine d_quiet 0 S hsel rfl rfl rfl (by kernel_rfl) (by kernel_rfl) rfl (fun _ hw => (Rm (S.tm rfl))) ?_;clear S;intro a S
 refine d_quiet 1 S hsel rfl rfl rfl (by kernel_rfl) (by kernel_rfl) rfl (fun _ hw => (Rm (S.tm rfl))) ?_;clear S;intro a S
 refine d_quiet 2 S hsel rfl rfl rfl (by kernel_rfl) (by kernel_rfl) rfl (fun _ hw => (rn_quo (S.tm rfl) (S.tm rfl) (ne0_of hc2))) ?_;clear S;intro a S
 refine d_quiet 3 S hsel rfl rfl rfl (by kernel_rfl) (by kernel_rfl) rfl (fun _ hw => (Rm (S.tm rfl))) ?_;clear S;intro a S
 refine d_quiet 4 S hsel rfl rfl rfl (by kernel_rfl) (by kernel_rfl) rfl (fun _ hw => (Rm (S.tm rfl))) ?_;clear S;intro a S
 refine d_quiet 5 S hsel rfl rfl rfl (by kernel_rfl) (by kernel_rfl) rfl (fun _ hw => (rn_quo (S.tm rfl) (S.tm rfl) (ne0_of hc3))) ?_;clear S;intro a S
 refine d_quiet 6 S hsel rfl rfl rfl (by kernel_rfl) (by kernel_rfl) rfl (fun _ hw => (rn_bld bt_36 (pv := [(0, iV (W (Int.tdiv Bw x3))), (1, iV (W (Int.tdiv Bx x3)))]) ⟨rfl, (S.tm rfl), rfl, (S.tm rfl), trivial⟩ (cs := [iV (W (Int.tdiv Bw x3)), iV (W (Int.tdiv Bx x3))]) (by kernel_rfl))) ?_;clear S;intro a S
 refine d_loud1 7 (by kernel_rfl) rfl (l_store S (S.tm rfl) (S.tm rfl) (i := 0) (off := 0) rfl Tryz.sizeOf36 (vs := [iV (W (Int.tdiv Bw x3)), iV (W (Int.tdiv Bx x3))]) rfl rfl rfl rfl ?_);clear S;intro w8 hk5 S
 refine Ld (d_next hk5 (d_end (by kernel_rfl) ?_))
 clear hsel
 replace S := S.nk [.blk b1 [iV (W (Int.tdiv Bw x3)), iV (W (Int.tdiv Bx x3))] 36] [(4, .pointer (some ⟨b1, 0, none⟩))] [true] rfl ⟨rfl, trivial⟩
 refine Tn (wp_ret ?_)
 obtain rfl := Option.some.inj h
 exact f_retG S (rs := [.cell 4 36]) (vs := [.agg #[iV (W (Int.tdiv Bw x3)), iV (W (Int.tdiv Bx x3))]]) Tryz.results74 ⟨(res_cell (off := 0) S rfl Tryz.isAgg36 Tryz.sizeOf36 rfl (S.cellsAt (i := 0) rfl)), trivial⟩ rfl rfl
theorem tumbref2_shareOf_ok (w : World) (Aa : GTable) (Ar : R27) (At : rel_27 (view w []) Aa Ar) (O : Value) (Ab : List GScored) (Ad : Slc (view w []) 5 O (Ab.map GScored.enc)) (Ag : GScored) (r : GFraction) (h : tumbref2_shareOf Aa Ab Ag = some r) :
    Calls Tryz.prog 44 [.agg (R27.enc Ar).toArray, O, .agg (GScored.enc Ag).toArray].toArray w (Ret w [] fun _ v _ => v = .agg (GFraction.enc r).toArray) := by
 obtain ⟨u1, rfl, hs1⟩ := At
 refine f_enter [] [] Tryz.func44 rfl Tryz.ntmps44 rfl (by simp) (by simp [fps]) (by simp [fps]) fun a S => ?_
 unfold tumbref2_shareOf at h
 replace S := S.nk [] [(0, .agg #[u1.val, iV Aa.Relay, iV Aa.Most]), (1, O), (2, .agg (GScored.enc Ag).toArray)] [] rfl (subR rfl)
 refine Fs (Fg (l_box S (S.tm rfl) (cs := [u1.val, iV Aa.Relay, iV Aa.Most]) rfl rfl ?_));clear S;intro a w1 b1 hz1 hk1 S
 refine l_box S (S.tm rfl) (cs := (GScored.enc Ag)) rfl rfl ?_;clear S;intro a w2 b2 hz2 hk2 S
 refine l_alloc S Tryz.zeroValue36 (cs := [iV 0, iV 0]) rfl rfl ?_;clear S;intro a w3 b3 hz3 hk3 S
 refine Ld (Tn (Fs (Fg (lv S (Ra rfl) rfl ?_))));clear S;intro a S
 replace S := S.nil 54 5
 refine Ld (Tn (Fs (Fg (l_makeMap (κ := ByteArray) (ν := Int) S rfl Value.string (Value.int .i64) ?_))));clear S;intro a w4 b4 hz4 hk4 S
 refine lv S (Ra (S.tm rfl)) rfl ?_;clear S;intro a S
 refine Ld (Tn (Fs (Fs (Fg (lv S (Rm (S.tm rfl)) rfl ?_)))));clear S;intro a S
 refine lv S (rn_lenT sl_29 (S.tm rfl) (slc_len Ad)) rfl ?_;clear S;intro a S
 refine lv S (Rm rfl) rfl ?_;clear S;intro a S
 refine Ld (Tn ?_)
 replace S := S.nk [.map b4 (ments Value.string (Value.int .i64) ([] : List (ByteArray × Int))) ([] : List (ByteArray × Int)).length, .own (.slice none 0 0) 54 5 ([] : List GScored).length (([] : List GScored).flatMap GScored.enc), .blk b3 [iV 0, iV 0] 36, .blk b2 (GScored.enc Ag) 54, .blk b1 [u1.val, iV Aa.Relay, iV Aa.Most] 27] [(3, .pointer (some ⟨b1, 0, none⟩)), (5, .pointer (some ⟨b2, 0, none⟩)), (6, .pointer (some ⟨b3, 0, none⟩)), (7, (.slice none 0 0)), (8, .map (some b4)), (16, O), (17, iV (Ab.length : Int)), (18, iV 0)] [true, true, true, true, true] rfl (subR rfl)
 obtain ⟨j1, hj1, h⟩ := joinE h
 refine f_join (fun a w' => ∃ x1 : List (ByteArray × Int), ∃ x2 : List GScored, ∃ v1 : Value, j1 x1 x2 = some r ∧ Sx w [] nov [.map b4 (ments Value.string (Value.int .i64) x1) x1.length, .own v1 54 5 x2.length (x2.flatMap GScored.enc), .blk b3 [iV 0, iV 0] 36, .blk b2 (GScored.enc Ag) 54, .blk b1 [u1.val, iV Aa.Relay, iV Aa.Most] 27] [(3, .pointer (some ⟨b1, 0, none⟩)), (5, .pointer (some ⟨b2, 0, none⟩)), (6, .pointer (some ⟨b3, 0, none⟩)), (7, v1)] 100 a w') ?_ ?_
 ·refine wp_block (f_loop (fun (ys1 : List GScored) a w' => ∃ i1 : Nat, ∃ x1 : List (ByteArray × Int), ∃ x2 : List GScored, ∃ v1 : Value, (∃ dn, Ab = dn ++ ys1 ∧ dn.length = i1) ∧ tumbref2_shareOf_l1 Ag Aa j1 ys1 i1 x1 x2 = some r ∧ Sx w [] nov [.map b4 (ments Value.string (Value.int .i64) x1) x1.length, .own v1 54 5 x2.length (x2.flatMap GScored.enc), .blk b3 [iV 0, iV 0] 36, .blk b2 (GScored.enc Ag) 54, .blk b1 [u1.val, iV Aa.Relay, iV Aa.Most] 27] [(3, .pointer (some ⟨b1, 0, none⟩)), (5, .pointer (some ⟨b2, 0, none⟩)), (6, .pointer (some ⟨b3, 0, none⟩)), (7, v1), (8, .map (some b4)), (16, O), (17, iV (Ab.length : Int)), (18, iV (i1 : Int))] 100 a w') List.length Ab ⟨0, ([] : List (ByteArray × Int)), ([] : List GScored), (.slice none 0 0), ⟨[], rfl, rfl⟩, h, S.nf [true, true, true, true, true] rfl (subR rfl)⟩ ?_)
  clear S h;rintro ys1 a w5 ⟨i1, x1, x2, v1, ⟨dn, hd1, hi1⟩, h, S⟩
  cases ys1 with
  | nil =>
   rw [tumbref2_shareOf_l1.eq_1] at h
   refine Fs (Fg (lv S (rn_lss (S.tm rfl) (S.tm rfl)) rfl ?_));clear S;intro a S
   refine Ld ?_
   replace S := S.nk [.map b4 (ments Value.string (Value.int .i64) x1) x1.length, .own v1 54 5 x2.length (x2.flatMap GScored.enc), .blk b3 [iV 0, iV 0] 36, .blk b2 (GScored.enc Ag) 54, .blk b1 [u1.val, iV Aa.Relay, iV Aa.Most] 27] [(3, .pointer (some ⟨b1, 0, none⟩)), (5, .pointer (some ⟨b2, 0, none⟩)), (6, .pointer (some ⟨b3, 0, none⟩)), (7, v1), (8, .map (some b4)), (16, O), (17, iV (Ab.length : Int)), (18, iV (i1 : Int)), (19, bV (decide ((i1 : Int) < (Ab.length : Int))))] [true, true, true, true, true] rfl (subR rfl)
   refine Tn (Fs (wp_cond_false ((S.tm rfl).trans (congrArg Value.bool (rng_nil hd1 hi1))) (wp_exit (then_x (then_x (x_same ?_))))))
   refine Tn ?_
   exact ⟨x1, x2, v1, h, S.nf [true, true, true, true, true] rfl (subR rfl)⟩
  | cons y1 ys1 =>
   rw [tumbref2_shareOf_l1.eq_2] at h
   refine Fs (Fg (lv S (rn_lss (S.tm rfl) (S.tm rfl)) rfl ?_));clear S;intro a S
   refine Ld ?_
   replace S := S.nk [.map b4 (ments Value.string (Value.int .i64) x1) x1.length, .own v1 54 5 x2.length (x2.flatMap GScored.enc), .blk b3 [iV 0, iV 0] 36, .blk b2 (GScored.enc Ag) 54, .blk b1 [u1.val, iV Aa.Relay, iV Aa.Most] 27] [(3, .pointer (some ⟨b1, 0, none⟩)), (5, .pointer (some ⟨b2, 0, none⟩)), (6, .pointer (some ⟨b3, 0, none⟩)), (7, v1), (8, .map (some b4)), (16, O), (17, iV (Ab.length : Int)), (18, iV (i1 : Int)), (19, bV (decide ((i1 : Int) < (Ab.length : Int))))] [true, true, true, true, true] rfl (subR rfl)
   refine Tn (Fs (wp_cond_true ((S.tm rfl).trans (congrArg Value.bool (rng_cons hd1 hi1))) (wp_skip (Tn (Fs ?_)))))
   obtain ⟨j2, hj2, h⟩ := joinE h
   refine f_join (fun a w' => ∃ x3 : List (ByteArray × Int), ∃ x4 : List GScored, ∃ v2 : Value, j2 x3 x4 = some r ∧ Sx w [] nov [.map b4 (ments Value.string (Value.int .i64) x3) x3.length, .own v2 54 5 x4.length (x4.flatMap GScored.enc), .blk b3 [iV 0, iV 0] 36, .blk b2 (GScored.enc Ag) 54, .blk b1 [u1.val, iV Aa.Relay, iV Aa.Most] 27] [(3, .pointer (some ⟨b1, 0, none⟩)), (5, .pointer (some ⟨b2, 0, none⟩)), (6, .pointer (some ⟨b3, 0, none⟩)), (7, v2), (8, .map (some b4)), (16, O), (17, iV (Ab.length : Int)), (18, iV (i1 : Int))] 100 a w') ?_ ?_
   ·refine wp_block (Fs (Fg ?_))
    obtain ⟨b5, o1, hm1, hr1⟩ := rn_indexT (a := a) (x := .tmp 16) (y := .tmp 18) (ty := 0) sl_29 Ad (get_mid hd1 hi1) rfl (S.tm rfl) (S.tm rfl)
    refine lv S (hr1 _) rfl ?_;clear S;intro a S
    clear hr1
    refine lv S (rn_ldA Tryz.isAgg54 Tryz.sizeOf54 (off := o1) (o := 0) (part := (GScored.enc y1)) rfl rfl (S.tm rfl) (hm1.at S.emb0)) rfl ?_;clear S;intro a S
    refine l_alloc S Tryz.zeroValue54 (cs := [sV k_empty, sV k_empty, sV k_empty, iV 0, bV false]) rfl rfl ?_;clear S;intro a w8 b6 hz5 hk5 S
    refine l_store S (S.tm rfl) (S.tm rfl) (i := 0) (off := 0) rfl Tryz.sizeOf54 (vs := (GScored.enc y1)) rfl rfl rfl rfl ?_;clear S;intro w9 hk6 S
    refine Ld ?_
    replace S := S.nk [.blk b6 (GScored.enc y1) 54, .map b4 (ments Value.string (Value.int .i64) x1) x1.length, .own v1 54 5 x2.length (x2.flatMap GScored.enc), .blk b3 [iV 0, iV 0] 36, .blk b2 (GScored.enc Ag) 54, .blk b1 [u1.val, iV Aa.Relay, iV Aa.Most] 27] [(3, .pointer (some ⟨b1, 0, none⟩)), (5, .pointer (some ⟨b2, 0, none⟩)), (6, .pointer (some ⟨b3, 0, none⟩)), (7, v1), (8, .map (some b4)), (10, .pointer (some ⟨b6, 0, none⟩)), (16, O), (17, iV (Ab.length : Int)), (18, iV (i1 : Int))] [true, true, true, true, true, true] rfl (subR rfl)
    refine Tn (Fs (Fs (Fg (lv S (rn_fld fa_54_0 (S.tm rfl)) rfl ?_))));clear S;intro a S
    refine lv S (rn_load Tryz.isAgg9 (S.tm rfl) (S.cell (i := 0) rfl rfl)) rfl ?_;clear S;intro a S
    refine lv S (rn_fld fa_54_0 (S.tm rfl)) rfl ?_;clear S;intro a S
    refine lv S (rn_load Tryz.isAgg9 (S.tm rfl) (S.cell (i := 4) rfl rfl)) rfl ?_;clear S;intro a S
    refine lv S (rn_sneq (S.tm rfl) (S.tm rfl)) rfl ?_;clear S;intro a S
    refine lv S (Rm (S.tm rfl)) rfl ?_;clear S;intro a S
    refine f_cutm 4 (fun a w' => Keep [] w9 w' ∧ Sx w [] nov [.blk b6 (GScored.enc y1) 54, .map b4 (ments Value.string (Value.int .i64) x1) x1.length, .own v1 54 5 x2.length (x2.flatMap GScored.enc), .blk b3 [iV 0, iV 0] 36, .blk b2 (GScored.enc Ag) 54, .blk b1 [u1.val, iV Aa.Relay, iV Aa.Most] 27] [(3, .pointer (some ⟨b1, 0, none⟩)), (5, .pointer (some ⟨b2, 0, none⟩)), (6, .pointer (some ⟨b3, 0, none⟩)), (7, v1), (8, .map (some b4)), (10, .pointer (some ⟨b6, 0, none⟩)), (16, O), (17, iV (Ab.length : Int)), (18, iV (i1 : Int)), (31, bV ((!decide (y1.Race = Ag.Race)) || (decide (y1.Rank = 0))))] 100 a w') ?_ ?_
    ·rcases Bool.eq_false_or_eq_true (!decide (y1.Race = Ag.Race)) with hb1 | hb1
     ·iterate 3 (refine l_skip S rfl rfl rfl (neq_t hb1) rfl ?_ rfl;clear S;intro a S)
      refine lv S (rn_or_t (decide (y1.Rank = 0)) hb1 (S.tm rfl) rfl) rfl ?_;clear S;intro a S
      refine Ld (Tn ?_)
      exact ⟨Keep.refl _ _, S.nf [true, true, true, true, true, true] rfl (subR rfl)⟩
     ·refine l_want S rfl rfl rfl hb1 (lv S (rn_fld fa_54_3 (S.tm rfl)) rfl ?_);clear S;intro a S
      refine l_want S rfl rfl rfl hb1 (lv S (rn_load Tryz.isAgg3 (S.tm rfl) (S.cell (i := 0) rfl rfl)) rfl ?_);clear S;intro a S
      refine l_want S rfl rfl rfl hb1 (lv S (rn_eql (S.tm rfl) rfl) rfl ?_);clear S;intro a S
      refine lv S (rn_or_f hb1 (S.tm rfl) (S.tm rfl)) rfl ?_;clear S;intro a S
      refine Ld (Tn ?_)
      exact ⟨Keep.refl _ _, S.nf [true, true, true, true, true, true] rfl (subR rfl)⟩
    clear S;rintro a w10 ⟨hk7, S⟩
    refine lv S (Rm (S.tm rfl)) rfl ?_;clear S;intro a S
    refine f_cutm 4 (fun a w' => Keep [] w10 w' ∧ Sx w [] nov [.blk b6 (GScored.enc y1) 54, .map b4 (ments Value.string (Value.int .i64) x1) x1.length, .own v1 54 5 x2.length (x2.flatMap GScored.enc), .blk b3 [iV 0, iV 0] 36, .blk b2 (GScored.enc Ag) 54, .blk b1 [u1.val, iV Aa.Relay, iV Aa.Most] 27] [(3, .pointer (some ⟨b1, 0, none⟩)), (5, .pointer (some ⟨b2, 0, none⟩)), (6, .pointer (some ⟨b3, 0, none⟩)), (7, v1), (8, .map (some b4)), (10, .pointer (some ⟨b6, 0, none⟩)), (16, O), (17, iV (Ab.length : Int)), (18, iV (i1 : Int)), (36, bV (((!decide (y1.Race = Ag.Race)) || (decide (y1.Rank = 0))) || (decide (y1.Club = k_empty))))] 100 a w') ?_ ?_
    ·rcases Bool.eq_false_or_eq_true ((!decide (y1.Race = Ag.Race)) || (decide (y1.Rank = 0))) with hb2 | hb2
     ·iterate 3 (refine l_skip S rfl rfl rfl (neq_t hb2) rfl ?_ rfl;clear S;intro a S)
      refine lv S (rn_or_t (decide (y1.Club = k_empty)) hb2 (S.tm rfl) rfl) rfl ?_;clear S;intro a S
      refine Ld (Tn ?_)
      exact ⟨Keep.refl _ _, S.nf [true, true, true, true, true, true] rfl (subR rfl)⟩
     ·refine l_want S rfl rfl rfl hb2 (lv S (rn_fld fa_54_2 (S.tm rfl)) rfl ?_);clear S;intro a S
      refine l_want S rfl rfl rfl hb2 (lv S (rn_load Tryz.isAgg9 (S.tm rfl) (S.cell (i := 0) rfl rfl)) rfl ?_);clear S;intro a S
      refine l_want S rfl rfl rfl hb2 (lv S (rn_seql (S.tm rfl) rfl) rfl ?_);clear S;intro a S
      refine lv S (rn_or_f hb2 (S.tm rfl) (S.tm rfl)) rfl ?_;clear S;intro a S
      refine Ld (Tn ?_)
      exact ⟨Keep.refl _ _, S.nf [true, true, true, true, true, true] rfl (subR rfl)⟩
    clear S;rintro a w11 ⟨hk8, S⟩
    refine Ld ?_
    replace S := S.nk [.blk b6 (GScored.enc y1) 54, .map b4 (ments Value.string (Value.int .i64) x1) x1.length, .own v1 54 5 x2.length (x2.flatMap GScored.enc), .blk b3 [iV 0, iV 0] 36, .blk b2 (GScored.enc Ag) 54, .blk b1 [u1.val, iV Aa.Relay, iV Aa.Most] 27] [(3, .pointer (some ⟨b1, 0, none⟩)), (5, .pointer (some ⟨b2, 0, none⟩)), (6, .pointer (some ⟨b3, 0, none⟩)), (7, v1), (8, .map (some b4)), (10, .pointer (some ⟨b6, 0, none⟩)), (16, O), (17, iV (Ab.length : Int)), (18, iV (i1 : Int)), (36, bV (((!decide (y1.Race = Ag.Race)) || (decide (y1.Rank = 0))) || (decide (y1.Club = k_empty))))] [true, true, true, true, true, true] rfl (subR rfl)
    refine Tn (f_cond (S.tm rfl) (fun hb3 => ?_) (fun hb3 => ?_))
    ·replace h := iteT h hb3
     refine wp_exit (then_x (x_same (Tn ?_)))
     exact ⟨x1, x2, v1, h, S.nf [false, true, true, true, true, true] rfl (subR rfl)⟩
    ·replace h := iteF h hb3
     refine wp_skip (Tn (Fs (Fg (lv S (Rm (S.tm rfl)) rfl ?_))));clear S;intro a S
     refine lv S (rn_fld fa_54_2 (S.tm rfl)) rfl ?_;clear S;intro a S
     refine lv S (rn_load Tryz.isAgg9 (S.tm rfl) (S.cell (i := 0) rfl rfl)) rfl ?_;clear S;intro a S
     refine lv S (rn_lookup (kv := Value.string) (vv := (Value.int .i64)) (m := x1) (key := y1.Club) (z := 0) (S.map_at (i := 1) rfl) Tryz.underlying102 (keyT_str Tryz.underlying9) Tryz.zeroValue3 (S.tm rfl) (S.tm rfl)) rfl ?_;clear S;intro a S
     refine lv S (rn_add (S.tm rfl) rfl) rfl ?_;clear S;intro a S
     refine l_mapUpdate (kv := Value.string) (vv := (Value.int .i64)) (m := x1) (key := y1.Club) (val := W ((mgetD x1 y1.Club 0) + 1)) S (i := 1) rfl Tryz.underlying102 (keyT_str Tryz.underlying9) (S.tm rfl) (S.tm rfl) (S.tm rfl) ?_;clear S;intro w12 hk9 S
     refine Ld ?_
     replace S := S.nk [.blk b6 (GScored.enc y1) 54, .map b4 (ments Value.string (Value.int .i64) (mput x1 y1.Club (W ((mgetD x1 y1.Club 0) + 1)))) (mput x1 y1.Club (W ((mgetD x1 y1.Club 0) + 1))).length, .own v1 54 5 x2.length (x2.flatMap GScored.enc), .blk b3 [iV 0, iV 0] 36, .blk b2 (GScored.enc Ag) 54, .blk b1 [u1.val, iV Aa.Relay, iV Aa.Most] 27] [(3, .pointer (some ⟨b1, 0, none⟩)), (5, .pointer (some ⟨b2, 0, none⟩)), (6, .pointer (some ⟨b3, 0, none⟩)), (7, v1), (8, .map (some b4)), (10, .pointer (some ⟨b6, 0, none⟩)), (16, O), (17, iV (Ab.length : Int)), (18, iV (i1 : Int))] [true, true, true, true, true, true] rfl (subR rfl)
     refine Tn (Fs (Fg (lv S (rn_fld fa_27_2 (S.tm rfl)) rfl ?_)));clear S;intro a S
     refine lv S (rn_load Tryz.isAgg3 (S.tm rfl) (S.cell (i := 5) rfl rfl)) rfl ?_;clear S;intro a S
     refine lv S (rn_eql (S.tm rfl) rfl) rfl ?_;clear S;intro a S
     refine lv S (Rm (S.tm rfl)) rfl ?_;clear S;intro a S
     refine f_cutm 8 (fun a w' => Keep [] w12 w' ∧ Sx w [] nov [.blk b6 (GScored.enc y1) 54, .map b4 (ments Value.string (Value.int .i64) (mput x1 y1.Club (W ((mgetD x1 y1.Club 0) + 1)))) (mput x1 y1.Club (W ((mgetD x1 y1.Club 0) + 1))).length, .own v1 54 5 x2.length (x2.flatMap GScored.enc), .blk b3 [iV 0, iV 0] 36, .blk b2 (GScored.enc Ag) 54, .blk b1 [u1.val, iV Aa.Relay, iV Aa.Most] 27] [(3, .pointer (some ⟨b1, 0, none⟩)), (5, .pointer (some ⟨b2, 0, none⟩)), (6, .pointer (some ⟨b3, 0, none⟩)), (7, v1), (8, .map (some b4)), (10, .pointer (some ⟨b6, 0, none⟩)), (16, O), (17, iV (Ab.length : Int)), (18, iV (i1 : Int)), (53, bV ((decide (Aa.Most = 0)) || (decide ((mgetD (mput x1 y1.Club (W ((mgetD x1 y1.Club 0) + 1))) y1.Club 0) ≤ Aa.Most))))] 100 a w') ?_ ?_
     ·rcases Bool.eq_false_or_eq_true (decide (Aa.Most = 0)) with hb4 | hb4
      ·iterate 7 (refine l_skip S rfl rfl rfl (neq_t hb4) rfl ?_ rfl;clear S;intro a S)
       refine lv S (rn_or_t (decide ((mgetD (mput x1 y1.Club (W ((mgetD x1 y1.Club 0) + 1))) y1.Club 0) ≤ Aa.Most)) hb4 (S.tm rfl) rfl) rfl ?_;clear S;intro a S
       refine Ld (Tn ?_)
       exact ⟨Keep.refl _ _, S.nf [true, true, true, true, true, true] rfl (subR rfl)⟩
      ·refine l_want S rfl rfl rfl hb4 (lv S (Rm (S.tm rfl)) rfl ?_);clear S;intro a S
       refine l_want S rfl rfl rfl hb4 (lv S (rn_fld fa_54_2 (S.tm rfl)) rfl ?_);clear S;intro a S
       refine l_want S rfl rfl rfl hb4 (lv S (rn_load Tryz.isAgg9 (S.tm rfl) (S.cell (i := 0) rfl rfl)) rfl ?_);clear S;intro a S
       refine l_want S rfl rfl rfl hb4 (lv S (rn_lookup (kv := Value.string) (vv := (Value.int .i64)) (m := (mput x1 y1.Club (W ((mgetD x1 y1.Club 0) + 1)))) (key := y1.Club) (z := 0) (S.map_at (i := 1) rfl) Tryz.underlying102 (keyT_str Tryz.underlying9) Tryz.zeroValue3 (S.tm rfl) (S.tm rfl)) rfl ?_);clear S;intro a S
       refine l_want S rfl rfl rfl hb4 (lv S (rn_fld fa_27_2 (S.tm rfl)) rfl ?_);clear S;intro a S
       refine l_want S rfl rfl rfl hb4 (lv S (rn_load Tryz.isAgg3 (S.tm rfl) (S.cell (i := 5) rfl rfl)) rfl ?_);clear S;intro a S
       refine l_want S rfl rfl rfl hb4 (lv S (rn_leq (S.tm rfl) (S.tm rfl)) rfl ?_);clear S;intro a S
       refine lv S (rn_or_f hb4 (S.tm rfl) (S.tm rfl)) rfl ?_;clear S;intro a S
       refine Ld (Tn ?_)
       exact ⟨Keep.refl _ _, S.nf [true, true, true, true, true, true] rfl (subR rfl)⟩
     clear S;rintro a w13 ⟨hk10, S⟩
     refine Ld ?_
     replace S := S.nk [.blk b6 (GScored.enc y1) 54, .map b4 (ments Value.string (Value.int .i64) (mput x1 y1.Club (W ((mgetD x1 y1.Club 0) + 1)))) (mput x1 y1.Club (W ((mgetD x1 y1.Club 0) + 1))).length, .own v1 54 5 x2.length (x2.flatMap GScored.enc), .blk b3 [iV 0, iV 0] 36, .blk b2 (GScored.enc Ag) 54, .blk b1 [u1.val, iV Aa.Relay, iV Aa.Most] 27] [(3, .pointer (some ⟨b1, 0, none⟩)), (5, .pointer (some ⟨b2, 0, none⟩)), (6, .pointer (some ⟨b3, 0, none⟩)), (7, v1), (8, .map (some b4)), (10, .pointer (some ⟨b6, 0, none⟩)), (16, O), (17, iV (Ab.length : Int)), (18, iV (i1 : Int)), (53, bV ((decide (Aa.Most = 0)) || (decide ((mgetD (mput x1 y1.Club (W ((mgetD x1 y1.Club 0) + 1))) y1.Club 0) ≤ Aa.Most))))] [true, true, true, true, true, true] rfl (subR rfl)
     refine Tn ?_
     obtain ⟨j3, hj3, h⟩ := joinE h
     refine f_join (fun a w' => ∃ x5 : List GScored, ∃ v3 : Value, j3 x5 = some r ∧ Sx w [] nov [.map b4 (ments Value.string (Value.int .i64) (mput x1 y1.Club (W ((mgetD x1 y1.Club 0) + 1)))) (mput x1 y1.Club (W ((mgetD x1 y1.Club 0) + 1))).length, .own v3 54 5 x5.length (x5.flatMap GScored.enc), .blk b3 [iV 0, iV 0] 36, .blk b2 (GScored.enc Ag) 54, .blk b1 [u1.val, iV Aa.Relay, iV Aa.Most] 27] [(3, .pointer (some ⟨b1, 0, none⟩)), (5, .pointer (some ⟨b2, 0, none⟩)), (6, .pointer (some ⟨b3, 0, none⟩)), (7, v3), (8, .map (some b4)), (16, O), (17, iV (Ab.length : Int)), (18, iV (i1 : Int))] 100 a w') ?_ ?_
     ·refine f_cond (S.tm rfl) (fun hb5 => ?_) (fun hb5 => ?_)
      ·replace h := iteT h hb5
       refine Fg (lv S (Rm (S.tm rfl)) rfl ?_);clear S;intro a S
       refine lv S (rn_ldA Tryz.isAgg54 Tryz.sizeOf54 (off := 0) (o := 0) (part := (GScored.enc y1)) rfl rfl (S.tm rfl) (S.cellsAt (i := 0) rfl)) rfl ?_;clear S;intro a S
       refine l_buildSlice S Tryz.underlying29 Tryz.sizeOf54 Tryz.zeroValue54 rfl rfl (pv := [(0, .agg (GScored.enc y1).toArray)]) ⟨rfl, (S.tm rfl), trivial⟩ (cs := [sV y1.Race, sV y1.Who, sV y1.Club, iV y1.Rank, bV y1.Relay]) (by kernel_rfl) rfl ?_;clear S;intro a w15 b7 hz6 hk11 S
       obtain ⟨hc1, h⟩ := chkE h
       refine l_appendT sl_29 GScored.enc_ok S (S.tm rfl) (i := 3) rfl (S.tm rfl) (j := 0) rfl (ys := [y1]) rfl rfl rfl rfl (by have := room_lt hc1;omega) rfl ?_;clear S;intro v4 a w16 hk12 S
       refine lv S (Ra (S.tm rfl)) rfl ?_;clear S;intro a S
       refine Ld ?_
       replace S := S.nk [.map b4 (ments Value.string (Value.int .i64) (mput x1 y1.Club (W ((mgetD x1 y1.Club 0) + 1)))) (mput x1 y1.Club (W ((mgetD x1 y1.Club 0) + 1))).length, .own v4 54 5 (x2 ++ [y1]).length ((x2 ++ [y1]).flatMap GScored.enc), .blk b3 [iV 0, iV 0] 36, .blk b2 (GScored.enc Ag) 54, .blk b1 [u1.val, iV Aa.Relay, iV Aa.Most] 27] [(3, .pointer (some ⟨b1, 0, none⟩)), (5, .pointer (some ⟨b2, 0, none⟩)), (6, .pointer (some ⟨b3, 0, none⟩)), (7, v4), (8, .map (some b4)), (16, O), (17, iV (Ab.length : Int)), (18, iV (i1 : Int))] [false, false, true, true, true, true, true] rfl (subR rfl)
       refine Tn ?_
       exact ⟨(x2 ++ [y1]), v4, h, S.nf [true, true, true, true, true] rfl (subR rfl)⟩
      ·replace h := iteF h hb5
       refine wp_skip (Tn ?_)
       exact ⟨x2, v1, h, S.nf [false, true, true, true, true, true] rfl (subR rfl)⟩
     clear S h;rintro a w14 ⟨x5, v3, h, S⟩;rw [hj3] at h;clear hj3 j3
     refine blk_n (Tn ?_)
     exact ⟨(mput x1 y1.Club (W ((mgetD x1 y1.Club 0) + 1))), x5, v3, h, S.nf [true, true, true, true, true] rfl (subR rfl)⟩
   clear S h;rintro a w7 ⟨x3, x4, v2, h, S⟩;rw [hj2] at h;clear hj2 j2
   refine Tn (Fg (lv S (rn_add (S.tm rfl) rfl) rfl ?_));clear S;intro a S
   refine lv S (Rm (S.tm rfl)) rfl ?_;clear S;intro a S
   refine Ld (Tn ?_)
   exact ⟨ys1, ⟨i1 + 1, x3, x4, v2, ⟨_, (hd1).trans (List.append_cons _ _ _), by simp [hi1]⟩, h, S.nf [true, true, true, true, true] rfl ⟨rfl, rfl, rfl, rfl, rfl, rfl, rfl, (congrArg (fun z => some (Value.int .i64 z)) (rng_next hd1 hi1 (slc_max Ad))), trivial⟩⟩, Nat.lt_succ_self _⟩
 clear S h;rintro a w6 ⟨x1, x2, v1, h, S⟩;rw [hj1] at h;clear hj1 j1
 refine Tn (Fs (Fs (Fg (lv S (Rm (S.tm rfl)) rfl ?_))));clear S;intro a S
 refine lv S (rn_ldA Tryz.isAgg54 Tryz.sizeOf54 (off := 0) (o := 0) (part := (GScored.enc Ag)) rfl rfl (S.tm rfl) (S.cellsAt (i := 3) rfl)) rfl ?_;clear S;intro a S
 refine l_enter S (fun _ => run_call (vs := [v1, .agg (GScored.enc Ag).toArray]) ⟨(S.tm rfl), (S.tm rfl), trivial⟩ Tryz.call73) (slices_Contains_Scored_ok _ v1 x2 (own_slcT GScored.enc_ok S (i := 1) rfl (ne_nil (e' := .own v1 54 5 x2.length (x2.flatMap GScored.enc)))) Ag _ rfl) rfl ?_;clear S;intro v5 a w17 hv1 hk13 hn1 S
 subst hv1
 refine lv S (rn_not (S.tm rfl)) rfl ?_;clear S;intro a S
 refine Ld (Tn (f_cond (S.tm rfl) (fun hb6 => ?_) (fun hb6 => ?_)))
 ·replace h := iteT h hb6
  refine Fs (Fg (lv S (rn_bld bt_36 (pv := [(1, iV 1)]) ⟨rfl, rfl, trivial⟩ (cs := [iV 0, iV 1]) (by kernel_rfl)) rfl ?_));clear S;intro a S
  refine l_store S (S.tm rfl) (S.tm rfl) (i := 2) (off := 0) rfl Tryz.sizeOf36 (vs := [iV 0, iV 1]) rfl rfl rfl rfl ?_;clear S;intro w18 hk14 S
  refine Ld (Tn (wp_ret (then_r ?_)))
  obtain rfl := Option.some.inj h
  exact f_retG S (rs := [.cell 6 36]) (vs := [.agg #[iV 0, iV 1]]) Tryz.results44 ⟨(res_cell (off := 0) S rfl Tryz.isAgg36 Tryz.sizeOf36 rfl (S.cellsAt (i := 2) rfl)), trivial⟩ rfl rfl
 ·replace h := iteF h hb6
  refine wp_skip (Tn (Fs (Fg (lv S (Ra rfl) rfl ?_))));clear S;intro a S
  refine lv S (Ra rfl) rfl ?_;clear S;intro a S
  refine Ld (Tn (Fs (Fs (Fg (lv S (Rm (S.tm rfl)) rfl ?_)))));clear S;intro a S
  refine lv S (rn_lenT sl_29 (S.tm rfl) (own_len (S.own_at (i := 1) rfl))) rfl ?_;clear S;intro a S
  refine lv S (Rm rfl) rfl ?_;clear S;intro a S
  refine Ld (Tn ?_)
  replace S := S.nk [.own v1 54 5 x2.length (x2.flatMap GScored.enc), .blk b3 [iV 0, iV 0] 36, .blk b2 (GScored.enc Ag) 54, .blk b1 [u1.val, iV Aa.Relay, iV Aa.Most] 27] [(3, .pointer (some ⟨b1, 0, none⟩)), (5, .pointer (some ⟨b2, 0, none⟩)), (6, .pointer (some ⟨b3, 0, none⟩)), (11, iV 0), (12, iV 0), (64, v1), (65, iV (x2.length : Int)), (66, iV 0)] [false, true, true, true, true] rfl (subR rfl)
  have hm2 := own_max (S.own_at (i := 0) rfl)
  obtain ⟨j4, hj4, h⟩ := joinE h
  refine f_join (fun a w' => ∃ x6 : Int, ∃ x7 : Int, j4 x6 x7 = some r ∧ Sx w [] nov [.own v1 54 5 x2.length (x2.flatMap GScored.enc), .blk b3 [iV 0, iV 0] 36, .blk b2 (GScored.enc Ag) 54, .blk b1 [u1.val, iV Aa.Relay, iV Aa.Most] 27] [(3, .pointer (some ⟨b1, 0, none⟩)), (5, .pointer (some ⟨b2, 0, none⟩)), (6, .pointer (some ⟨b3, 0, none⟩)), (11, iV x6), (12, iV x7)] 100 a w') ?_ ?_
  ·refine wp_block (f_loop (fun (ys2 : List GScored) a w' => ∃ i2 : Nat, ∃ x6 : Int, ∃ x7 : Int, (∃ dn, x2 = dn ++ ys2 ∧ dn.length = i2) ∧ tumbref2_shareOf_l2 Ag Aa j4 ys2 i2 x6 x7 = some r ∧ Sx w [] nov [.own v1 54 5 x2.length (x2.flatMap GScored.enc), .blk b3 [iV 0, iV 0] 36, .blk b2 (GScored.enc Ag) 54, .blk b1 [u1.val, iV Aa.Relay, iV Aa.Most] 27] [(3, .pointer (some ⟨b1, 0, none⟩)), (5, .pointer (some ⟨b2, 0, none⟩)), (6, .pointer (some ⟨b3, 0, none⟩)), (11, iV x6), (12, iV x7), (64, v1), (65, iV (x2.length : Int)), (66, iV (i2 : Int))] 100 a w') List.length x2 ⟨0, 0, 0, ⟨[], rfl, rfl⟩, h, S.nf [true, true, true, true] rfl (subR rfl)⟩ ?_)
   clear S h;rintro ys2 a w19 ⟨i2, x6, x7, ⟨dn, hd2, hi2⟩, h, S⟩
   cases ys2 with
   | nil =>
    rw [tumbref2_shareOf_l2.eq_1] at h
    refine Fs (Fg (lv S (rn_lss (S.tm rfl) (S.tm rfl)) rfl ?_));clear S;intro a S
    refine Ld ?_
    replace S := S.nk [.own v1 54 5 x2.length (x2.flatMap GScored.enc), .blk b3 [iV 0, iV 0] 36, .blk b2 (GScored.enc Ag) 54, .blk b1 [u1.val, iV Aa.Relay, iV Aa.Most] 27] [(3, .pointer (some ⟨b1, 0, none⟩)), (5, .pointer (some ⟨b2, 0, none⟩)), (6, .pointer (some ⟨b3, 0, none⟩)), (11, iV x6), (12, iV x7), (64, v1), (65, iV (x2.length : Int)), (66, iV (i2 : Int)), (67, bV (decide ((i2 : Int) < (x2.length : Int))))] [true, true, true, true] rfl (subR rfl)
    refine Tn (Fs (wp_cond_false ((S.tm rfl).trans (congrArg Value.bool (rng_nil hd2 hi2))) (wp_exit (then_x (then_x (x_same ?_))))))
    refine Tn ?_
    exact ⟨x6, x7, h, S.nf [true, true, true, true] rfl (subR rfl)⟩
   | cons y2 ys2 =>
    rw [tumbref2_shareOf_l2.eq_2] at h
    refine Fs (Fg (lv S (rn_lss (S.tm rfl) (S.tm rfl)) rfl ?_));clear S;intro a S
    refine Ld ?_
    replace S := S.nk [.own v1 54 5 x2.length (x2.flatMap GScored.enc), .blk b3 [iV 0, iV 0] 36, .blk b2 (GScored.enc Ag) 54, .blk b1 [u1.val, iV Aa.Relay, iV Aa.Most] 27] [(3, .pointer (some ⟨b1, 0, none⟩)), (5, .pointer (some ⟨b2, 0, none⟩)), (6, .pointer (some ⟨b3, 0, none⟩)), (11, iV x6), (12, iV x7), (64, v1), (65, iV (x2.length : Int)), (66, iV (i2 : Int)), (67, bV (decide ((i2 : Int) < (x2.length : Int))))] [true, true, true, true] rfl (subR rfl)
    refine Tn (Fs (wp_cond_true ((S.tm rfl).trans (congrArg Value.bool (rng_cons hd2 hi2))) (wp_skip (Tn (Fs ?_)))))
    obtain ⟨j5, hj5, h⟩ := joinE h
    refine f_join (fun a w' => ∃ x8 : Int, ∃ x9 : Int, j5 x8 x9 = some r ∧ Sx w [] nov [.own v1 54 5 x2.length (x2.flatMap GScored.enc), .blk b3 [iV 0, iV 0] 36, .blk b2 (GScored.enc Ag) 54, .blk b1 [u1.val, iV Aa.Relay, iV Aa.Most] 27] [(3, .pointer (some ⟨b1, 0, none⟩)), (5, .pointer (some ⟨b2, 0, none⟩)), (6, .pointer (some ⟨b3, 0, none⟩)), (11, iV x8), (12, iV x9), (64, v1), (65, iV (x2.length : Int)), (66, iV (i2 : Int))] 100 a w') ?_ ?_
    ·refine wp_block (Fs (Fg (lv S (Rm (S.tm rfl)) rfl ?_)));clear S;intro a S
     obtain ⟨b8, hg1, hr2⟩ := rn_indexS (a := a) (x := .tmp 64) (y := .tmp 66) (ty := 0) sl_29 GScored.enc_ok S (i := 0) rfl (get_mid hd2 hi2) rfl (S.tm rfl) (S.tm rfl)
     refine lv S (hr2 _) rfl ?_;clear S;intro a S
     clear hr2
     refine lv S (rn_ldA Tryz.isAgg54 Tryz.sizeOf54 (off := i2 * 5) (o := 0) (part := (GScored.enc y2)) rfl rfl (S.tm rfl) (own_cells GScored.enc_ok S (i := 0) rfl hg1 (get_mid hd2 hi2))) rfl ?_;clear S;intro a S
     refine l_alloc S Tryz.zeroValue54 (cs := [sV k_empty, sV k_empty, sV k_empty, iV 0, bV false]) rfl rfl ?_;clear S;intro a w22 b9 hz7 hk15 S
     refine lv S (Ra (S.tm rfl)) rfl ?_;clear S;intro a S
     refine l_store S (S.tm rfl) (S.tm rfl) (i := 0) (off := 0) rfl Tryz.sizeOf54 (vs := (GScored.enc y2)) rfl rfl rfl rfl ?_;clear S;intro w23 hk16 S
     refine Ld (Tn (Fs (Fg (lv S (rn_fld fa_54_3 (S.tm rfl)) rfl ?_))));clear S;intro a S
     refine lv S (rn_load Tryz.isAgg3 (S.tm rfl) (S.cell (i := 0) rfl rfl)) rfl ?_;clear S;intro a S
     refine lv S (rn_fld fa_54_3 (S.tm rfl)) rfl ?_;clear S;intro a S
     refine lv S (rn_load Tryz.isAgg3 (S.tm rfl) (S.cell (i := 3) rfl rfl)) rfl ?_;clear S;intro a S
     refine lv S (rn_eql (S.tm rfl) (S.tm rfl)) rfl ?_;clear S;intro a S
     refine Ld ?_
     replace S := S.nk [.own v1 54 5 x2.length (x2.flatMap GScored.enc), .blk b3 [iV 0, iV 0] 36, .blk b2 (GScored.enc Ag) 54, .blk b1 [u1.val, iV Aa.Relay, iV Aa.Most] 27] [(3, .pointer (some ⟨b1, 0, none⟩)), (5, .pointer (some ⟨b2, 0, none⟩)), (6, .pointer (some ⟨b3, 0, none⟩)), (11, iV x6), (12, iV x7), (13, iV (i2 : Int)), (64, v1), (65, iV (x2.length : Int)), (66, iV (i2 : Int)), (75, bV (decide (y2.Rank = Ag.Rank)))] [false, true, true, true, true] rfl (subR rfl)
     refine Tn ?_
     obtain ⟨j6, hj6, h⟩ := joinE h
     refine f_join (fun a w' => ∃ x10 : Int, ∃ x11 : Int, j6 x10 x11 = some r ∧ Sx w [] nov [.own v1 54 5 x2.length (x2.flatMap GScored.enc), .blk b3 [iV 0, iV 0] 36, .blk b2 (GScored.enc Ag) 54, .blk b1 [u1.val, iV Aa.Relay, iV Aa.Most] 27] [(3, .pointer (some ⟨b1, 0, none⟩)), (5, .pointer (some ⟨b2, 0, none⟩)), (6, .pointer (some ⟨b3, 0, none⟩)), (11, iV x10), (12, iV x11), (64, v1), (65, iV (x2.length : Int)), (66, iV (i2 : Int))] 100 a w') ?_ ?_
     ·refine f_cond (S.tm rfl) (fun hb7 => ?_) (fun hb7 => ?_)
      ·replace h := iteT h hb7
       refine Fs (Fg (lv S (Rm (S.tm rfl)) rfl ?_));clear S;intro a S
       refine lv S (rn_add (S.tm rfl) rfl) rfl ?_;clear S;intro a S
       refine lv S (Ra (S.tm rfl)) rfl ?_;clear S;intro a S
       refine Ld (Tn (Fs (Fg (lv S (Rm (S.tm rfl)) rfl ?_))));clear S;intro a S
       refine lv S (rn_fld fa_27_0 (S.tm rfl)) rfl ?_;clear S;intro a S
       refine lv S (rn_load Tryz.isAgg22 (S.tm rfl) (S.cell (i := 3) rfl rfl)) rfl ?_;clear S;intro a S
       refine lv S (rn_lenT sl_22 (S.tm rfl) (slc_len hs1)) rfl ?_;clear S;intro a S
       refine lv S (rn_lss (S.tm rfl) (S.tm rfl)) rfl ?_;clear S;intro a S
       refine Ld ?_
       replace S := S.nk [.own v1 54 5 x2.length (x2.flatMap GScored.enc), .blk b3 [iV 0, iV 0] 36, .blk b2 (GScored.enc Ag) 54, .blk b1 [u1.val, iV Aa.Relay, iV Aa.Most] 27] [(3, .pointer (some ⟨b1, 0, none⟩)), (5, .pointer (some ⟨b2, 0, none⟩)), (6, .pointer (some ⟨b3, 0, none⟩)), (11, iV x6), (12, iV (W (x7 + 1))), (13, iV (i2 : Int)), (64, v1), (65, iV (x2.length : Int)), (66, iV (i2 : Int)), (82, bV (decide ((i2 : Int) < (Aa.Points.length : Int))))] [true, true, true, true] rfl (subR rfl)
       refine Tn ?_
       obtain ⟨j7, hj7, h⟩ := joinE h
       refine f_join (fun a w' => ∃ x12 : Int, j7 x12 = some r ∧ Sx w [] nov [.own v1 54 5 x2.length (x2.flatMap GScored.enc), .blk b3 [iV 0, iV 0] 36, .blk b2 (GScored.enc Ag) 54, .blk b1 [u1.val, iV Aa.Relay, iV Aa.Most] 27] [(3, .pointer (some ⟨b1, 0, none⟩)), (5, .pointer (some ⟨b2, 0, none⟩)), (6, .pointer (some ⟨b3, 0, none⟩)), (11, iV x12), (12, iV (W (x7 + 1))), (64, v1), (65, iV (x2.length : Int)), (66, iV (i2 : Int))] 100 a w') ?_ ?_
       ·refine f_cond (S.tm rfl) (fun hb8 => ?_) (fun hb8 => ?_)
        ·replace h := iteT h hb8
         refine Fg (lv S (Rm (S.tm rfl)) rfl ?_);clear S;intro a S
         refine lv S (rn_fld fa_27_0 (S.tm rfl)) rfl ?_;clear S;intro a S
         refine lv S (rn_load Tryz.isAgg22 (S.tm rfl) (S.cell (i := 3) rfl rfl)) rfl ?_;clear S;intro a S
         refine lv S (Rm (S.tm rfl)) rfl ?_;clear S;intro a S
         obtain ⟨hc2, h⟩ := chkE h
         obtain ⟨b10, o3, hm4, hr3⟩ := rn_indexT (a := a) (x := .tmp 85) (y := .tmp 86) (ty := 0) sl_22 hs1 (inB_get hc2).1 (inB_get hc2).2 (S.tm rfl) (S.tm rfl)
         refine lv S (hr3 _) rfl ?_;clear S;intro a S
         clear hr3
         refine lv S (rn_ld Tryz.isAgg3 (off := o3) (o := 0) (S.tm rfl) (hm4.at S.emb0) rfl) rfl ?_;clear S;intro a S
         refine lv S (rn_add (S.tm rfl) (S.tm rfl)) rfl ?_;clear S;intro a S
         refine lv S (Ra (S.tm rfl)) rfl ?_;clear S;intro a S
         refine Ld ?_
         replace S := S.nk [.own v1 54 5 x2.length (x2.flatMap GScored.enc), .blk b3 [iV 0, iV 0] 36, .blk b2 (GScored.enc Ag) 54, .blk b1 [u1.val, iV Aa.Relay, iV Aa.Most] 27] [(3, .pointer (some ⟨b1, 0, none⟩)), (5, .pointer (some ⟨b2, 0, none⟩)), (6, .pointer (some ⟨b3, 0, none⟩)), (11, iV (W (x6 + (nth Aa.Points (i2 : Int))))), (12, iV (W (x7 + 1))), (64, v1), (65, iV (x2.length : Int)), (66, iV (i2 : Int))] [true, true, true, true] rfl (subR rfl)
         refine Tn ?_
         exact ⟨W (x6 + (nth Aa.Points (i2 : Int))), h, S.nf [true, true, true, true] rfl (subR rfl)⟩
        ·replace h := iteF h hb8
         refine wp_skip (Tn ?_)
         exact ⟨x6, h, S.nf [true, true, true, true] rfl (subR rfl)⟩
       clear S h;rintro a w25 ⟨x12, h, S⟩;rw [hj7] at h;clear hj7 j7
       refine Tn ?_
       exact ⟨x12, W (x7 + 1), h, S.nf [true, true, true, true] rfl (subR rfl)⟩
      ·replace h := iteF h hb7
       refine wp_skip (Tn ?_)
       exact ⟨x6, x7, h, S.nf [true, true, true, true] rfl (subR rfl)⟩
     clear S h;rintro a w24 ⟨x10, x11, h, S⟩;rw [hj6] at h;clear hj6 j6
     refine blk_n (Tn ?_)
     exact ⟨x10, x11, h, S.nf [true, true, true, true] rfl (subR rfl)⟩
    clear S h;rintro a w21 ⟨x8, x9, h, S⟩;rw [hj5] at h;clear hj5 j5
    refine Tn (Fg (lv S (rn_add (S.tm rfl) rfl) rfl ?_));clear S;intro a S
    refine lv S (Rm (S.tm rfl)) rfl ?_;clear S;intro a S
    refine Ld (Tn ?_)
    exact ⟨ys2, ⟨i2 + 1, x8, x9, ⟨_, (hd2).trans (List.append_cons _ _ _), by simp [hi2]⟩, h, S.nf [true, true, true, true] rfl ⟨rfl, rfl, rfl, rfl, rfl, rfl, rfl, (congrArg (fun z => some (Value.int .i64 z)) (rng_next hd2 hi2 hm2)), trivial⟩⟩, Nat.lt_succ_self _⟩
  clear S h;rintro a w20 ⟨x6, x7, h, S⟩;rw [hj4] at h;clear hj4 j4
  refine Tn (Fs (Fs (Fg (lv S (rn_fld fa_54_4 (S.tm rfl)) rfl ?_))));clear S;intro a S
  refine lv S (rn_load Tryz.isAgg4 (S.tm rfl) (S.cell (i := 2) rfl rfl)) rfl ?_;clear S;intro a S
  refine Ld (Tn ?_)
  obtain ⟨j8, hj8, h⟩ := joinE h
  refine f_join (fun a w' => ∃ x13 : Int, j8 x13 = some r ∧ Sx w [] nov [.own v1 54 5 x2.length (x2.flatMap GScored.enc), .blk b3 [iV 0, iV 0] 36, .blk b2 (GScored.enc Ag) 54, .blk b1 [u1.val, iV Aa.Relay, iV Aa.Most] 27] [(6, .pointer (some ⟨b3, 0, none⟩)), (11, iV x13), (12, iV x7)] 100 a w') ?_ ?_
  ·refine f_cond (S.tm rfl) (fun hb9 => ?_) (fun hb9 => ?_)
   ·replace h := iteT h hb9
    refine Fg (lv S (Rm (S.tm rfl)) rfl ?_);clear S;intro a S
    refine lv S (rn_fld fa_27_1 (S.tm rfl)) rfl ?_;clear S;intro a S
    refine lv S (rn_load Tryz.isAgg3 (S.tm rfl) (S.cell (i := 3) rfl rfl)) rfl ?_;clear S;intro a S
    refine lv S (rn_mul (S.tm rfl) (S.tm rfl)) rfl ?_;clear S;intro a S
    refine lv S (Ra (S.tm rfl)) rfl ?_;clear S;intro a S
    refine Ld (Tn ?_)
    exact ⟨W (x6 * Aa.Relay), h, S.nf [true, true, true, true] rfl (subR rfl)⟩
   ·replace h := iteF h hb9
    refine wp_skip (Tn ?_)
    exact ⟨x6, h, S.nf [true, true, true, true] rfl (subR rfl)⟩
  clear S h;rintro a w26 ⟨x13, h, S⟩;rw [hj8] at h;clear hj8 j8
  refine Tn (Fs (Fg (lv S (Rm (S.tm rfl)) rfl ?_)));clear S;intro a S
  refine lv S (Rm (S.tm rfl)) rfl ?_;clear S;intro a S
  obtain ⟨r1, hr4, h⟩ := bindE h
  refine l_enter S (fun _ => run_call (vs := [iV x13, iV x7]) ⟨(S.tm rfl), (S.tm rfl), trivial⟩ Tryz.call74) (tumbref2_Lowest_ok _ x13 x7 _ hr4) rfl ?_;clear S;intro v6 a w27 hv2 hk17 hn2 S
  subst hv2
  refine l_store S (S.tm rfl) (S.tm rfl) (i := 1) (off := 0) rfl Tryz.sizeOf36 (vs := (GFraction.enc r1)) rfl rfl rfl rfl ?_;clear S;intro w28 hk18 S
  refine Ld (Tn (wp_ret ?_))
  obtain rfl := Option.some.inj h
  exact f_retG S (rs := [.cell 6 36]) (vs := [.agg #[iV r1.Num, iV r1.Den]]) Tryz.results44 ⟨(res_cell (off := 0) S rfl Tryz.isAgg36 Tryz.sizeOf36 rfl (S.cellsAt (i := 1) rfl)), trivial⟩ rfl rfl
set_option maxRecDepth 20000 in
theorem tumbref2_GivenOf_ok (w : World) (Aa : GTable) (Ar : R27) (At : rel_27 (view w []) Aa Ar) (O : Value) (Ab : List GScored) (Ad : Slc (view w []) 5 O (Ab.map GScored.enc)) (r : (List GGiven)) (h : tumbref2_GivenOf Aa Ab = some r) :
    Calls Tryz.prog 17 [.agg (R27.enc Ar).toArray, O].toArray w (Ret w [] fun τ v _ => OwnV τ 45 3 v r.length (r.flatMap GGiven.enc)) := by
 obtain ⟨u1, rfl, hs1⟩ := At
 refine f_enter [] [] Tryz.func17 rfl Tryz.ntmps17 rfl (by simp) (by simp [fps]) (by simp [fps]) fun a S => ?_
 unfold tumbref2_GivenOf at h
 replace S := S.nk [] [(0, .agg #[u1.val, iV Aa.Relay, iV Aa.Most]), (1, O)] [] rfl (subR rfl)
 refine Fs (Fg (l_box S (S.tm rfl) (cs := [u1.val, iV Aa.Relay, iV Aa.Most]) rfl rfl ?_));clear S;intro a w1 b1 hz1 hk1 S
 refine lv S (Ra rfl) rfl ?_;clear S;intro a S
 refine Ld (Tn (Fs (Fg (lv S (Ra rfl) rfl ?_))));clear S;intro a S
 replace S := S.nil 45 3
 refine Ld (Tn (Fs (Fs (Fg (lv S (Rm (S.tm rfl)) rfl ?_)))));clear S;intro a S
 refine lv S (rn_lenT sl_29 (S.tm rfl) (slc_len Ad)) rfl ?_;clear S;intro a S
 refine lv S (Rm rfl) rfl ?_;clear S;intro a S
 refine Ld (Tn ?_)
 replace S := S.nk [.own (.slice none 0 0) 45 3 ([] : List GGiven).length (([] : List GGiven).flatMap GGiven.enc), .blk b1 [u1.val, iV Aa.Relay, iV Aa.Most] 27] [(1, O), (2, .pointer (some ⟨b1, 0, none⟩)), (5, (.slice none 0 0)), (8, O), (9, iV (Ab.length : Int)), (10, iV 0)] [true, true] rfl (subR rfl)
 obtain ⟨j1, hj1, h⟩ := joinE h
 refine f_join (fun a w' => ∃ x1 : List GGiven, ∃ v1 : Value, j1 x1 = some r ∧ Sx w [] nov [.own v1 45 3 x1.length (x1.flatMap GGiven.enc), .blk b1 [u1.val, iV Aa.Relay, iV Aa.Most] 27] [(5, v1)] 32 a w') ?_ ?_
 ·refine wp_block (f_loop (fun (ys1 : List GScored) a w' => ∃ i1 : Nat, ∃ x1 : List GGiven, ∃ v1 : Value, (∃ dn, Ab = dn ++ ys1 ∧ dn.length = i1) ∧ tumbref2_GivenOf_l1 Aa Ab j1 ys1 i1 x1 = some r ∧ Sx w [] nov [.own v1 45 3 x1.length (x1.flatMap GGiven.enc), .blk b1 [u1.val, iV Aa.Relay, iV Aa.Most] 27] [(1, O), (2, .pointer (some ⟨b1, 0, none⟩)), (5, v1), (8, O), (9, iV (Ab.length : Int)), (10, iV (i1 : Int))] 32 a w') List.length Ab ⟨0, ([] : List GGiven), (.slice none 0 0), ⟨[], rfl, rfl⟩, h, S.nf [true, true] rfl (subR rfl)⟩ ?_)
  clear S h;rintro ys1 a w2 ⟨i1, x1, v1, ⟨dn, hd1, hi1⟩, h, S⟩
  cases ys1 with
  | nil =>
   rw [tumbref2_GivenOf_l1.eq_1] at h
   refine Fs (Fg (lv S (rn_lss (S.tm rfl) (S.tm rfl)) rfl ?_));clear S;intro a S
   refine Ld ?_
   replace S := S.nk [.own v1 45 3 x1.length (x1.flatMap GGiven.enc), .blk b1 [u1.val, iV Aa.Relay, iV Aa.Most] 27] [(1, O), (2, .pointer (some ⟨b1, 0, none⟩)), (5, v1), (8, O), (9, iV (Ab.length : Int)), (10, iV (i1 : Int)), (11, bV (decide ((i1 : Int) < (Ab.length : Int))))] [true, true] rfl (subR rfl)
   refine Tn (Fs (wp_cond_false ((S.tm rfl).trans (congrArg Value.bool (rng_nil hd1 hi1))) (wp_exit (then_x (then_x (x_same ?_))))))
   refine Tn ?_
   exact ⟨x1, v1, h, S.nf [true, true] rfl ⟨rfl, trivial⟩⟩
  | cons y1 ys1 =>
   rw [tumbref2_GivenOf_l1.eq_2] at h
   refine Fs (Fg (lv S (rn_lss (S.tm rfl) (S.tm rfl)) rfl ?_));clear S;intro a S
   refine Ld ?_
   replace S := S.nk [.own v1 45 3 x1.length (x1.flatMap GGiven.enc), .blk b1 [u1.val, iV Aa.Relay, iV Aa.Most] 27] [(1, O), (2, .pointer (some ⟨b1, 0, none⟩)), (5, v1), (8, O), (9, iV (Ab.length : Int)), (10, iV (i1 : Int)), (11, bV (decide ((i1 : Int) < (Ab.length : Int))))] [true, true] rfl (subR rfl)
   refine Tn (Fs (wp_cond_true ((S.tm rfl).trans (congrArg Value.bool (rng_cons hd1 hi1))) (wp_skip (Tn (Fs ?_)))))
   obtain ⟨j2, hj2, h⟩ := joinE h
   refine f_join (fun a w' => ∃ x2 : List GGiven, ∃ v2 : Value, j2 x2 = some r ∧ Sx w [] nov [.own v2 45 3 x2.length (x2.flatMap GGiven.enc), .blk b1 [u1.val, iV Aa.Relay, iV Aa.Most] 27] [(1, O), (2, .pointer (some ⟨b1, 0, none⟩)), (5, v2), (8, O), (9, iV (Ab.length : Int)), (10, iV (i1 : Int))] 32 a w') ?_ ?_
   ·refine wp_block (Fs (Fg ?_))
    obtain ⟨b2, o1, hm1, hr1⟩ := rn_indexT (a := a) (x := .tmp 8) (y := .tmp 10) (ty := 0) sl_29 Ad (get_mid hd1 hi1) rfl (S.tm rfl) (S.tm rfl)
    refine lv S (hr1 _) rfl ?_;clear S;intro a S
    clear hr1
    refine lv S (rn_ldA Tryz.isAgg54 Tryz.sizeOf54 (off := o1) (o := 0) (part := (GScored.enc y1)) rfl rfl (S.tm rfl) (hm1.at S.emb0)) rfl ?_;clear S;intro a S
    refine l_alloc S Tryz.zeroValue54 (cs := [sV k_empty, sV k_empty, sV k_empty, iV 0, bV false]) rfl rfl ?_;clear S;intro a w5 b3 hz2 hk2 S
    refine l_store S (S.tm rfl) (S.tm rfl) (i := 0) (off := 0) rfl Tryz.sizeOf54 (vs := (GScored.enc y1)) rfl rfl rfl rfl ?_;clear S;intro w6 hk3 S
    refine Ld (Tn (Fs (Fg (lv S (rn_ldA Tryz.isAgg54 Tryz.sizeOf54 (off := 0) (o := 0) (part := (GScored.enc y1)) rfl rfl (S.tm rfl) (S.cellsAt (i := 0) rfl)) rfl ?_))));clear S;intro a S
    refine l_enter S (fun _ => run_call (vs := [.agg (GScored.enc y1).toArray]) ⟨(S.tm rfl), trivial⟩ Tryz.call43) (tumbref2_counted_ok _ y1 _ rfl) rfl ?_;clear S;intro v3 a w7 hv1 hk4 hn1 S
    subst hv1
    refine Ld (Tn ?_)
    obtain ⟨j3, hj3, h⟩ := joinE h
    refine f_join (fun a w' => ∃ x3 : List GGiven, ∃ v4 : Value, j3 x3 = some r ∧ Sx w [] nov [.own v4 45 3 x3.length (x3.flatMap GGiven.enc), .blk b1 [u1.val, iV Aa.Relay, iV Aa.Most] 27] [(1, O), (2, .pointer (some ⟨b1, 0, none⟩)), (5, v4), (8, O), (9, iV (Ab.length : Int)), (10, iV (i1 : Int))] 32 a w') ?_ ?_
    ·refine f_cond (S.tm rfl) (fun hb1 => ?_) (fun hb1 => ?_)
     ·replace h := iteT h hb1
      obtain ⟨hc1, h⟩ := chkE h
      obtain ⟨hc2, h⟩ := chkE h
      obtain ⟨r1, hr2, h⟩ := bindE h
      obtain ⟨hc3, h⟩ := chkE h
      refine d_region [] (v1.ownBlock.toList) Tryz.mixed S rfl (by kernel_rfl) ?_;clear S;intro w12 hk8 hsel S
      refine d_quiet 0 S hsel rfl rfl rfl (by kernel_rfl) (by kernel_rfl) rfl (fun _ hw => (Rm (S.tm rfl))) ?_;clear S;intro a S
      refine d_quiet 1 S hsel rfl rfl rfl (by kernel_rfl) (by kernel_rfl) rfl (fun _ hw => (rn_fld fa_54_0 (S.tm rfl))) ?_;clear S;intro a S
      refine d_quiet 2 S hsel rfl rfl rfl (by kernel_rfl) (by kernel_rfl) rfl (fun _ hw => (rn_ld Tryz.isAgg9 (off := 0) (o := 0) (S.tm rfl) ((S.blk_mem (i := 0) (cells := (GScored.enc y1)) (b := b3) (T := 54) rfl (ne_fp (i := 1) (j := 0) (e := .own v1 45 3 x1.length (x1.flatMap GGiven.enc)) (e' := .blk b3 (GScored.enc y1) 54) S rfl rfl rfl)).kept hw) rfl)) ?_;clear S;intro a S
      refine d_quiet 3 S hsel rfl rfl rfl (by kernel_rfl) (by kernel_rfl) rfl (fun _ hw => (rn_sadd (m := y1.Race) (n := k__20) (S.tm rfl) rfl (by have := room_lt hc1;omega))) ?_;clear S;intro a S
      refine d_quiet 4 S hsel rfl rfl rfl (by kernel_rfl) (by kernel_rfl) rfl (fun _ hw => (rn_fld fa_54_1 (S.tm rfl))) ?_;clear S;intro a S
      refine d_quiet 5 S hsel rfl rfl rfl (by kernel_rfl) (by kernel_rfl) rfl (fun _ hw => (rn_ld Tryz.isAgg9 (off := 0) (o := 1) (S.tm rfl) ((S.blk_mem (i := 0) (cells := (GScored.enc y1)) (b := b3) (T := 54) rfl (ne_fp (i := 1) (j := 0) (e := .own v1 45 3 x1.length (x1.flatMap GGiven.enc)) (e' := .blk b3 (GScored.enc y1) 54) S rfl rfl rfl)).kept hw) rfl)) ?_;clear S;intro a S
      refine d_quiet 6 S hsel rfl rfl rfl (by kernel_rfl) (by kernel_rfl) rfl (fun _ hw => (rn_sadd (m := (y1.Race ++ k__20)) (n := y1.Who) (S.tm rfl) (S.tm rfl) (by have := room_lt hc2;omega))) ?_;clear S;intro a S
      refine d_quiet 7 S hsel rfl rfl rfl (by kernel_rfl) (by kernel_rfl) rfl (fun _ hw => (rn_ldA Tryz.isAgg27 Tryz.sizeOf27 (off := 0) (o := 0) (part := [u1.val, iV Aa.Relay, iV Aa.Most]) rfl rfl (S.tm rfl) ((S.blk_mem (i := 2) (cells := [u1.val, iV Aa.Relay, iV Aa.Most]) (b := b1) (T := 27) rfl (ne_fp (i := 1) (j := 2) (e := .own v1 45 3 x1.length (x1.flatMap GGiven.enc)) (e' := .blk b1 [u1.val, iV Aa.Relay, iV Aa.Most] 27) S rfl rfl rfl)).kept hw))) ?_;clear S;intro a S
      refine d_quiet 8 S hsel rfl rfl rfl (by kernel_rfl) (by kernel_rfl) rfl (fun _ hw => (Rm (S.tm rfl))) ?_;clear S;intro a S
      refine d_quiet 9 S hsel rfl rfl rfl (by kernel_rfl) (by kernel_rfl) rfl (fun _ hw => (rn_ldA Tryz.isAgg54 Tryz.sizeOf54 (off := 0) (o := 0) (part := (GScored.enc y1)) rfl rfl (S.tm rfl) ((S.blk_mem (i := 0) (cells := (GScored.enc y1)) (b := b3) (T := 54) rfl (ne_fp (i := 1) (j := 0) (e := .own v1 45 3 x1.length (x1.flatMap GGiven.enc)) (e' := .blk b3 (GScored.enc y1) 54) S rfl rfl rfl)).kept hw))) ?_;clear S;intro a S
      refine d_loud1 10 (by kernel_rfl) rfl (l_enter S (fun _ => run_call (vs := [.agg (R27.enc (R27.mk u1 Aa.Relay Aa.Most)).toArray, O, .agg (GScored.enc y1).toArray]) ⟨(S.tm rfl), (S.tm rfl), (S.tm rfl), trivial⟩ Tryz.call44) (tumbref2_shareOf_ok _ Aa (R27.mk u1 Aa.Relay Aa.Most) ⟨u1, rfl, (hs1.mono (S.le_arg nil_sub))⟩ O Ab (Ad.mono (S.le_arg nil_sub)) y1 _ hr2) rfl ?_);clear S;intro v7 a w13 hv3 hk9 hn3 S
      subst hv3
      refine Ld (d_next (Keep.none hk9) (d_quiet 11 S hsel rfl rfl rfl (by kernel_rfl) (by kernel_rfl) rfl (fun _ hw => (rn_bld bt_45 (pv := [(0, sV ((y1.Race ++ k__20) ++ y1.Who)), (1, .agg (GFraction.enc r1).toArray)]) ⟨rfl, (S.tm rfl), rfl, (S.tm rfl), trivial⟩ (cs := [sV ((y1.Race ++ k__20) ++ y1.Who), iV r1.Num, iV r1.Den]) (by kernel_rfl))) ?_));clear S;intro a S
      refine d_loud1 12 (by kernel_rfl) rfl (l_buildSlice S Tryz.underlying31 Tryz.sizeOf45 Tryz.zeroValue45 rfl rfl (pv := [(0, .agg #[sV ((y1.Race ++ k__20) ++ y1.Who), iV r1.Num, iV r1.Den])]) ⟨rfl, (S.tm rfl), trivial⟩ (cs := [sV ((y1.Race ++ k__20) ++ y1.Who), iV r1.Num, iV r1.Den]) (by kernel_rfl) rfl ?_);clear S;intro a w14 b5 hz4 hk10 S
      refine Ld (d_next (Keep.none hk10) (d_loud1 13 (by kernel_rfl) rfl ?_))
      refine l_appendT sl_31 GGiven.enc_ok S (S.tm rfl) (i := 2) rfl (S.tm rfl) (j := 0) rfl (ys := [(GGiven.mk ((y1.Race ++ k__20) ++ y1.Who) r1)]) rfl rfl rfl rfl (by have := room_lt hc3;omega) rfl ?_;clear S;intro v8 a w15 hk11 S
      refine Ld (d_next hk11 (d_rest [14] hsel (by kernel_rfl) rfl ?_))
      clear hsel
      refine s_lv S rfl (Ra (S.tm rfl)) rfl ?_;clear S;intro a S
      refine s_done ?_
      replace S := S.nk [.own v8 45 3 (x1 ++ [(GGiven.mk ((y1.Race ++ k__20) ++ y1.Who) r1)]).length ((x1 ++ [(GGiven.mk ((y1.Race ++ k__20) ++ y1.Who) r1)]).flatMap GGiven.enc), .blk b1 [u1.val, iV Aa.Relay, iV Aa.Most] 27] [(1, O), (2, .pointer (some ⟨b1, 0, none⟩)), (5, v8), (8, O), (9, iV (Ab.length : Int)), (10, iV (i1 : Int))] [false, false, true, true] rfl (subR rfl)
      refine Tn ?_
      exact ⟨(x1 ++ [(GGiven.mk ((y1.Race ++ k__20) ++ y1.Who) r1)]), v8, h, S.nf [true, true] rfl (subR rfl)⟩
     ·replace h := iteF h hb1
      refine wp_skip (Tn ?_)
      exact ⟨x1, v1, h, S.nf [false, true, true] rfl (subR rfl)⟩
    clear S h;rintro a w8 ⟨x3, v4, h, S⟩;rw [hj3] at h;clear hj3 j3
    refine blk_n (Tn ?_)
    exact ⟨x3, v4, h, S.nf [true, true] rfl (subR rfl)⟩
   clear S h;rintro a w4 ⟨x2, v2, h, S⟩;rw [hj2] at h;clear hj2 j2
   refine Tn (Fg (lv S (rn_add (S.tm rfl) rfl) rfl ?_));clear S;intro a S
   refine lv S (Rm (S.tm rfl)) rfl ?_;clear S;intro a S
   refine Ld (Tn ?_)
   exact ⟨ys1, ⟨i1 + 1, x2, v2, ⟨_, (hd1).trans (List.append_cons _ _ _), by simp [hi1]⟩, h, S.nf [true, true] rfl ⟨rfl, rfl, rfl, rfl, rfl, (congrArg (fun z => some (Value.int .i64 z)) (rng_next hd1 hi1 (slc_max Ad))), trivial⟩⟩, Nat.lt_succ_self _⟩
 clear S h;rintro a w3 ⟨x1, v1, h, S⟩;rw [hj1] at h;clear hj1 j1
 refine Tn (Fs (Fg (lv S (Rm (S.tm rfl)) rfl ?_)));clear S;intro a S
 refine lv S (Ra (S.tm rfl)) rfl ?_;clear S;intro a S
 refine Ld (Tn (wp_ret ?_))
 obtain rfl := Option.some.inj h
 exact f_ret S Tryz.results17 rfl (own_retT S (i := 0) rfl rfl)
set_option maxRecDepth 20000 in
theorem slices_Equal_Given_ok (w : World) (Cj : Value) (Cm : List GGiven) (Da : Slc (view w []) 3 Cj (Cm.map GGiven.enc)) (Ck : Value) (Cu : List GGiven) (Df : Slc (view w []) 3 Ck (Cu.map GGiven.enc)) (r : Bool) (h : slices_Equal_Given Cm Cu = some r) :
    Calls Tryz.prog 16 [Cj, Ck].toArray w (Ret w [] fun _ v _ => v = bV r) := by
 refine f_enter [] [] Tryz.func16 rfl Tryz.ntmps16 rfl (by simp) (by simp [fps]) (by simp [fps]) fun a S => ?_
 unfold slices_Equal_Given at h
 replace S := S.nk [] [(0, Cj), (1, Ck)] [] rfl (subR rfl)
 refine Fs (Fg (lv S (Ra rfl) rfl ?_));clear S;intro a S
 refine Ld (Tn (Fs (Fs (Fg (lv S (Rm (S.tm rfl)) rfl ?_)))));clear S;intro a S
 refine lv S (rn_lenT sl_31 (S.tm rfl) (slc_len Da)) rfl ?_;clear S;intro a S
 refine lv S (Rm (S.tm rfl)) rfl ?_;clear S;intro a S
 refine lv S (rn_lenT sl_31 (S.tm rfl) (slc_len Df)) rfl ?_;clear S;intro a S
 refine lv S (rn_neq (S.tm rfl) (S.tm rfl)) rfl ?_;clear S;intro a S
 refine Ld (Tn (f_cond (S.tm rfl) (fun hb1 => ?_) (fun hb1 => ?_)))
 ·replace h := iteT h hb1
  refine Fs (Fg (lv S (Ra rfl) rfl ?_));clear S;intro a S
  refine Ld (Tn (wp_ret (then_r ?_)))
  obtain rfl := Option.some.inj h
  exact f_ret S Tryz.results16 rfl rfl
 ·replace h := iteF h hb1
  refine wp_skip (Tn (Fs (Fs (Fg (lv S (Rm (S.tm rfl)) rfl ?_)))));clear S;intro a S
  refine lv S (rn_lenT sl_31 (S.tm rfl) (slc_len Da)) rfl ?_;clear S;intro a S
  refine lv S (Rm rfl) rfl ?_;clear S;intro a S
  refine Ld (Tn ?_)
  replace S := S.nk [] [(0, Cj), (1, Ck), (12, iV (Cm.length : Int)), (13, iV 0)] [] rfl (subR rfl)
  obtain ⟨j1, hj1, h⟩ := joinE h
  refine f_join (fun a w' => j1 = some r ∧ Sx w [] nov [] [] 26 a w') ?_ ?_
  ·refine wp_block (f_loop (fun (ys1 : List GGiven) a w' => ∃ i1 : Nat, (∃ dn, Cm = dn ++ ys1 ∧ dn.length = i1) ∧ slices_Equal_Given_l1 Cu j1 ys1 i1 = some r ∧ Sx w [] nov [] [(0, Cj), (1, Ck), (12, iV (Cm.length : Int)), (13, iV (i1 : Int))] 26 a w') List.length Cm ⟨0, ⟨[], rfl, rfl⟩, h, S.nf [] rfl (subR rfl)⟩ ?_)
   clear S h;rintro ys1 a w1 ⟨i1, ⟨dn, hd1, hi1⟩, h, S⟩
   cases ys1 with
   | nil =>
    rw [slices_Equal_Given_l1.eq_1] at h
    refine Fs (Fg (lv S (rn_lss (S.tm rfl) (S.tm rfl)) rfl ?_));clear S;intro a S
    refine Ld ?_
    replace S := S.nk [] [(0, Cj), (1, Ck), (12, iV (Cm.length : Int)), (13, iV (i1 : Int)), (14, bV (decide ((i1 : Int) < (Cm.length : Int))))] [] rfl (subR rfl)
    refine Tn (Fs (wp_cond_false ((S.tm rfl).trans (congrArg Value.bool (rng_nil hd1 hi1))) (wp_exit (then_x (then_x (x_same ?_))))))
    refine Tn ?_
    exact ⟨h, S.nf [] rfl trivial⟩
   | cons y1 ys1 =>
    rw [slices_Equal_Given_l1.eq_2] at h
    refine Fs (Fg (lv S (rn_lss (S.tm rfl) (S.tm rfl)) rfl ?_));clear S;intro a S
    refine Ld ?_
    replace S := S.nk [] [(0, Cj), (1, Ck), (12, iV (Cm.length : Int)), (13, iV (i1 : Int)), (14, bV (decide ((i1 : Int) < (Cm.length : Int))))] [] rfl (subR rfl)
    refine Tn (Fs (wp_cond_true ((S.tm rfl).trans (congrArg Value.bool (rng_cons hd1 hi1))) (wp_skip (Tn (Fs (wp_block ?_))))))
    refine Fs (Fg (lv S (Rm (S.tm rfl)) rfl ?_));clear S;intro a S
    refine lv S (Ra (S.tm rfl)) rfl ?_;clear S;intro a S
    refine Ld (Tn (Fs (d_region [] ([]) Tryz.mixed S rfl (by kernel_rfl) ?_)));clear S;intro w3 hk1 hsel S
    refine d_rest [0, 1, 2, 3, 4, 5, 6, 7, 8] hsel (by kernel_rfl) rfl ?_
    clear hsel
    refine s_lv S rfl (Rm (S.tm rfl)) rfl ?_;clear S;intro a S
    refine s_lv S rfl (Rm (S.tm rfl)) rfl ?_;clear S;intro a S
    obtain ⟨b1, o1, hm1, hr1⟩ := rn_indexT (a := a) (x := .tmp 16) (y := .tmp 17) (ty := 0) sl_31 Da (get_mid hd1 hi1) rfl (S.tm rfl) (S.tm rfl)
    refine s_lv S rfl (hr1 _) rfl ?_;clear S;intro a S
    clear hr1
    refine s_lv S rfl (rn_ldA Tryz.isAgg45 Tryz.sizeOf45 (off := o1) (o := 0) (part := (GGiven.enc y1)) rfl rfl (S.tm rfl) (hm1.at S.emb0)) rfl ?_;clear S;intro a S
    refine s_lv S rfl (Rm (S.tm rfl)) rfl ?_;clear S;intro a S
    refine s_lv S rfl (Rm (S.tm rfl)) rfl ?_;clear S;intro a S
    obtain ⟨hc1, h⟩ := chkE h
    obtain ⟨b2, o2, hm2, hr2⟩ := rn_indexT (a := a) (x := .tmp 20) (y := .tmp 21) (ty := 0) sl_31 Df (inB_get hc1).1 (inB_get hc1).2 (S.tm rfl) (S.tm rfl)
    refine s_lv S rfl (hr2 _) rfl ?_;clear S;intro a S
    clear hr2
    refine s_lv S rfl (rn_ldA Tryz.isAgg45 Tryz.sizeOf45 (off := o2) (o := 0) (part := (GGiven.enc (GGiven.mk ((nth Cu (i1 : Int)).Key) ((nth Cu (i1 : Int)).Points)))) rfl rfl (S.tm rfl) (hm2.at S.emb0)) rfl ?_;clear S;intro a S
    refine s_lv S rfl (rn_neq_45 (m := y1) (n := (GGiven.mk ((nth Cu (i1 : Int)).Key) ((nth Cu (i1 : Int)).Points))) (S.tm rfl) (S.tm rfl)) rfl ?_;clear S;intro a S
    refine s_done ?_
    replace S := S.nk [] [(0, Cj), (1, Ck), (12, iV (Cm.length : Int)), (13, iV (i1 : Int)), (24, bV (!decide (y1 = (GGiven.mk ((nth Cu (i1 : Int)).Key) ((nth Cu (i1 : Int)).Points)))))] [] rfl (subR rfl)
    refine Tn (f_cond (S.tm rfl) (fun hb2 => ?_) (fun hb2 => ?_))
    ·replace h := iteT h hb2
     refine Fs (Fg (lv S (Ra rfl) rfl ?_));clear S;intro a S
     refine Ld (Tn (wp_ret (blk_r (then_r (then_r (blk_r ?_))))))
     refine then_r (then_r ?_)
     obtain rfl := Option.some.inj h
     exact f_ret S Tryz.results16 rfl rfl
    ·replace h := iteF h hb2
     refine wp_skip (blk_n (Tn (Fg (lv S (rn_add (S.tm rfl) rfl) rfl ?_))));clear S;intro a S
     refine lv S (Rm (S.tm rfl)) rfl ?_;clear S;intro a S
     refine Ld (Tn ?_)
     exact ⟨ys1, ⟨i1 + 1, ⟨_, (hd1).trans (List.append_cons _ _ _), by simp [hi1]⟩, h, S.nf [] rfl ⟨rfl, rfl, rfl, (congrArg (fun z => some (Value.int .i64 z)) (rng_next hd1 hi1 (slc_max Da))), trivial⟩⟩, Nat.lt_succ_self _⟩
  clear S h;rintro a w2 ⟨h, S⟩;rw [hj1] at h;clear hj1 j1
  refine Tn (Fs (Fg (lv S (Ra rfl) rfl ?_)));clear S;intro a S
  refine Ld (Tn (wp_ret ?_))
  obtain rfl := Option.some.inj h
  exact f_ret S Tryz.results16 rfl rfl
theorem slices_Sort_string_ok (w : World) (Bc : Value) (Ag : List ByteArray) (Cw : (LEnt.own Bc 9 1 Ag.length (Ag.flatMap eStr)).holds w) (r : (List ByteArray)) (h : slices_Sort_string Ag = some r) :
    Calls Tryz.prog 75 [Bc].toArray w (Ret w (Bc.ownBlock.toList) fun _ v w' => (LEnt.own Bc 9 1 r.length (r.flatMap eStr)).holds w' ∧ v = .tuple #[]) := by
  unfold slices_Sort_string at h
  obtain ⟨hc, h⟩ := chkE h
  obtain rfl := Option.some.inj h
  have hc := of_decide_eq_true hc
  have hown : w.ownsRow 0 9 1 Bc Ag.length (Ag.flatMap eStr) := Cw
  have he : ∀ l : List ByteArray, l.flatMap eStr = (l.map fun b => b.data.toList).map encStr := by
    intro l;induction l with
    | nil => rfl
    | cons x l ih => rw [List.flatMap_cons, ih];rfl
  have hs : (sortStrs Ag).length = Ag.length := by simp [sortStrs]
  have hs2 : (sortStrs Ag).map (fun b => b.data.toList) = (Ag.map fun b => b.data.toList).mergeSort fun x y => decide (x ≤ y) := by
    unfold sortStrs
    rw [List.map_map]
    exact (List.map_congr_left fun x _ => rfl).trans (List.map_id _)
  rcases hown.2 with ⟨rfl, h0⟩ | ⟨g, cap, cur, rfl, hbase, hb, h1, h2, h3, h4⟩
  · obtain rfl : Ag = [] := List.length_eq_zero_iff.1 h0
    refine (Any.slices_Sort_string_none Tryz.lays190 none 0 w).mono ?_
    rintro e w' ⟨rfl, n, rfl⟩
    exact ⟨_, rfl, ⟨rfl, rfl, rfl, Nat.le_refl _, fun _ _ _ => rfl⟩, ⟨by simp [sortStrs], .inl ⟨rfl, by simp [sortStrs]⟩⟩, rfl⟩
  · have c := Any.slices_Sort_string Tryz.lays190 g 0 cap (Ag.map fun b => b.data.toList) w (holds_of_block hb (by rw [List.length_map, ← he, ← h4, Nat.mul_one])) (Array.getElem?_eq_some_iff.1 hb).1 (by rw [List.length_map];exact hc)
    rw [List.length_map] at c
    refine c.mono ?_
    rintro e w' ⟨rfl, n, os, rfl⟩
    have gb := grownBy_sorted (w := w) (g := g) (n := n) (os := os) ((Ag.map fun b => b.data.toList).mergeSort fun x y => decide (x ≤ y)).toArray
    refine ⟨_, rfl, ⟨gb.os, gb.tape, gb.output, gb.size, fun k hk hx => gb.block k hk (fun e => hx (by simp [Value.ownBlock, ← e]))⟩, ?_, rfl⟩
    have := ownsRow_sorted (n := n) (os := os) (ss := Ag.map fun b => b.data.toList) (ts := (Ag.map fun b => b.data.toList).mergeSort fun x y => decide (x ≤ y)) (by simp) hbase hb (by rw [List.length_map];exact h1) h2 (by simpa using h3)
    show World.ownsRow _ 0 9 1 _ (sortStrs Ag).length ((sortStrs Ag).flatMap eStr)
    rw [he, hs2, hs]
    rw [List.length_map] at this
    exact this
set_option maxRecDepth 20000 in
theorem slices_Compact_string_ok (w : World) (Al : Value) (Ak : List ByteArray) (Dj : (LEnt.own Al 9 1 Ak.length (Ak.flatMap eStr)).holds w) (r : (List ByteArray)) (h : slices_Compact_string Ak = some r) :
    Calls Tryz.prog 76 [Al].toArray w (Ret w (Al.ownBlock.toList) fun _ v w' => (LEnt.own v 9 1 r.length (r.flatMap eStr)).holds w' ∧ v.ownBlock = Al.ownBlock) := by
 refine f_enter (Al.ownBlock.toList) [.own Al 9 1 Ak.length (Ak.flatMap eStr)] Tryz.func76 rfl Tryz.ntmps76 rfl (fun e he => by simp only [List.mem_singleton] at he;subst he;exact Dj) (fps_one_nodup _) (fps_one_sub _) fun a S => ?_
 unfold slices_Compact_string at h
 replace S := S.nk [.own Al 9 1 Ak.length (Ak.flatMap eStr)] [(0, Al)] [true] rfl ⟨rfl, trivial⟩
 refine Fs (Fg (lv S (Ra rfl) rfl ?_));clear S;intro a S
 refine Ld (Tn (Fs (Fs (Fg (lv S (Rm (S.tm rfl)) rfl ?_)))));clear S;intro a S
 refine lv S (rn_lenT sl_81 (S.tm rfl) (own_len (S.own_at (i := 0) rfl))) rfl ?_;clear S;intro a S
 refine lv S (rn_lss (S.tm rfl) rfl) rfl ?_;clear S;intro a S
 refine Ld (Tn (f_cond (S.tm rfl) (fun hb1 => ?_) (fun hb1 => ?_)))
 ·replace h := iteT h hb1
  refine Fs (Fg (lv S (Rm (S.tm rfl)) rfl ?_));clear S;intro a S
  refine lv S (Ra (S.tm rfl)) rfl ?_;clear S;intro a S
  refine Ld (Tn (wp_ret (then_r ?_)))
  obtain rfl := Option.some.inj h
  exact f_ret S Tryz.results76 rfl ⟨(S.holds _ (List.mem_of_getElem? (i := 0) rfl)), rfl⟩
 ·replace h := iteF h hb1
  refine wp_skip (Tn (Fs (Fs (Fg (lv S (Ra rfl) rfl ?_)))));clear S;intro a S
  refine Ld (Tn ?_)
  replace S := S.nk [.own Al 9 1 Ak.length (Ak.flatMap eStr)] [(0, Al), (3, iV 1)] [true] rfl (subR rfl)
  obtain ⟨j1, hj1, h⟩ := joinE h
  refine f_join (fun a w' => j1 = some r ∧ Sx w (Al.ownBlock.toList) nov [.own Al 9 1 Ak.length (Ak.flatMap eStr)] [(0, Al)] 61 a w') ?_ ?_
  ·refine wp_block (f_loop (fun (m1 : Nat) a w' => ∃ x1 : Int, slices_Compact_string_l1 Ak j1 m1 x1 = some r ∧ Sx w (Al.ownBlock.toList) nov [.own Al 9 1 Ak.length (Ak.flatMap eStr)] [(0, Al), (3, iV x1)] 61 a w') id (((Ak.length : Int) - 1).toNat + 2) ⟨1, h, S.nf [true] rfl (subR rfl)⟩ ?_)
   clear S h;rintro m1 a w1 ⟨x1, h, S⟩
   cases m1 with
   | zero => rw [slices_Compact_string_l1.eq_1] at h;cases h
   | succ m1 =>
    rw [slices_Compact_string_l1.eq_2] at h
    refine Fs (Fs (Fg (lv S (Rm (S.tm rfl)) rfl ?_)));clear S;intro a S
    refine lv S (Rm (S.tm rfl)) rfl ?_;clear S;intro a S
    refine lv S (rn_lenT sl_81 (S.tm rfl) (own_len (S.own_at (i := 0) rfl))) rfl ?_;clear S;intro a S
    refine lv S (rn_lss (S.tm rfl) (S.tm rfl)) rfl ?_;clear S;intro a S
    refine Ld (Tn (f_cond (S.tm rfl) (fun hb2 => ?_) (fun hb2 => ?_)))
    ·replace h := iteT h hb2
     refine wp_skip (Tn (Fs (wp_block (Fs (d_region [] ([]) Tryz.mixed S rfl (by kernel_rfl) ?_)))));clear S;intro w3 hk1 hsel S
     refine d_rest [0, 1, 2, 3, 4, 5, 6, 7, 8, 9] hsel (by kernel_rfl) rfl ?_
     clear hsel
     refine s_lv S rfl (Rm (S.tm rfl)) rfl ?_;clear S;intro a S
     refine s_lv S rfl (Rm (S.tm rfl)) rfl ?_;clear S;intro a S
     obtain ⟨hc1, h⟩ := chkE h
     obtain ⟨b1, hg1, hr1⟩ := rn_indexS (a := a) (x := .tmp 16) (y := .tmp 17) (ty := 0) sl_81 enc_str S (i := 0) rfl (inB_get hc1).1 (inB_get hc1).2 (S.tm rfl) (S.tm rfl)
     refine s_lv S rfl (hr1 _) rfl ?_;clear S;intro a S
     clear hr1
     refine s_lv S rfl (rn_ld Tryz.isAgg9 (off := x1.toNat * 1) (o := 0) (S.tm rfl) (own_cells enc_str S (i := 0) rfl hg1 (inB_get hc1).1) rfl) rfl ?_;clear S;intro a S
     refine s_lv S rfl (Rm (S.tm rfl)) rfl ?_;clear S;intro a S
     refine s_lv S rfl (Rm (S.tm rfl)) rfl ?_;clear S;intro a S
     refine s_lv S rfl (rn_sub (S.tm rfl) rfl) rfl ?_;clear S;intro a S
     obtain ⟨hc2, h⟩ := chkE h
     obtain ⟨b2, hg2, hr2⟩ := rn_indexS (a := a) (x := .tmp 20) (y := .tmp 22) (ty := 0) sl_81 enc_str S (i := 0) rfl (inB_get hc2).1 (inB_get hc2).2 (S.tm rfl) (S.tm rfl)
     refine s_lv S rfl (hr2 _) rfl ?_;clear S;intro a S
     clear hr2
     refine s_lv S rfl (rn_ld Tryz.isAgg9 (off := ((W (x1 - 1)).toNat) * 1) (o := 0) (S.tm rfl) (own_cells enc_str S (i := 0) rfl hg2 (inB_get hc2).1) rfl) rfl ?_;clear S;intro a S
     refine s_lv S rfl (rn_seql (S.tm rfl) (S.tm rfl)) rfl ?_;clear S;intro a S
     refine s_done ?_
     replace S := S.nk [.own Al 9 1 Ak.length (Ak.flatMap eStr)] [(0, Al), (3, iV x1), (25, bV (decide ((nth Ak x1) = (nth Ak (W (x1 - 1))))))] [true] rfl (subR rfl)
     refine Tn (f_cond (S.tm rfl) (fun hb3 => ?_) (fun hb3 => ?_))
     ·replace h := iteT h hb3
      refine Fs (Fg (lv S (Rm (S.tm rfl)) rfl ?_));clear S;intro a S
      refine lv S (Rm (S.tm rfl)) rfl ?_;clear S;intro a S
      obtain ⟨hc3, h⟩ := chkE h
      obtain ⟨u1, hu1, hr3⟩ := rn_subl (a := a) (x := .tmp 26) (y := .tmp 27) (ty := 81) sl_81 S (i := 0) rfl (S.tm rfl) (S.tm rfl) hc3
      refine lv S (hr3 _) rfl ?_;clear S;intro a S
      clear hr3
      refine lv S (Ra (S.tm rfl)) rfl ?_;clear S;intro a S
      refine Ld (Tn (Fs (Fs (Fg (lv S (Ra rfl) rfl ?_)))));clear S;intro a S
      refine Ld (Tn ?_)
      replace S := S.nk [.own Al 9 1 Ak.length (Ak.flatMap eStr)] [(0, Al), (3, iV x1), (4, u1), (5, iV 1)] [true] rfl (subR rfl)
      obtain ⟨j2, hj2, h⟩ := joinE h
      refine f_join (fun a w' => ∃ x2 : List ByteArray, ∃ x3 : Int, j2 x2 x3 = some r ∧ Sx w (Al.ownBlock.toList) nov [.own Al 9 1 x2.length (x2.flatMap eStr)] [(0, Al), (3, iV x3)] 61 a w') ?_ ?_
      ·refine wp_block (f_loop (fun (m2 : Nat) a w' => ∃ x2 : List ByteArray, ∃ x3 : Int, ∃ x4 : Int, slices_Compact_string_l2 Ak x1 j2 m2 x2 x3 x4 = some r ∧ Sx w (Al.ownBlock.toList) nov [.own Al 9 1 x2.length (x2.flatMap eStr)] [(0, Al), (3, iV x3), (4, u1), (5, iV x4)] 61 a w') id (((((Ak.length : Int).toNat - x1.toNat : Nat) : Int) - 1).toNat + 2) ⟨Ak, x1, 1, h, S.nf [true] rfl (subR rfl)⟩ ?_)
       clear S h;rintro m2 a w4 ⟨x2, x3, x4, h, S⟩
       cases m2 with
       | zero => rw [slices_Compact_string_l2.eq_1] at h;cases h
       | succ m2 =>
        rw [slices_Compact_string_l2.eq_2] at h
        refine Fs (Fs (Fg (lv S (Rm (S.tm rfl)) rfl ?_)));clear S;intro a S
        refine lv S (Rm (S.tm rfl)) rfl ?_;clear S;intro a S
        refine lv S (rn_lenT sl_81 (S.tm rfl) (subLen hu1)) rfl ?_;clear S;intro a S
        refine lv S (rn_lss (S.tm rfl) (S.tm rfl)) rfl ?_;clear S;intro a S
        refine Ld (Tn (f_cond (S.tm rfl) (fun hb4 => ?_) (fun hb4 => ?_)))
        ·replace h := iteT h hb4
         refine wp_skip (Tn (Fs ?_))
         obtain ⟨j3, hj3, h⟩ := joinE h
         refine f_join (fun a w' => ∃ x5 : List ByteArray, ∃ x6 : Int, j3 x5 x6 = some r ∧ Sx w (Al.ownBlock.toList) nov [.own Al 9 1 x5.length (x5.flatMap eStr)] [(0, Al), (3, iV x6), (4, u1), (5, iV x4)] 61 a w') ?_ ?_
         ·refine wp_block (Fs (d_region [] ([]) Tryz.mixed S rfl (by kernel_rfl) ?_));clear S;intro w7 hk2 hsel S
          refine d_rest [0, 1, 2, 3, 4, 5, 6, 7, 8, 9] hsel (by kernel_rfl) rfl ?_
          clear hsel
          refine s_lv S rfl (Rm (S.tm rfl)) rfl ?_;clear S;intro a S
          refine s_lv S rfl (Rm (S.tm rfl)) rfl ?_;clear S;intro a S
          obtain ⟨hc4, h⟩ := chkE h
          have hj4 := (sub_get (sub_le S (i := 0) rfl hu1) hc4).1
          obtain ⟨b3, hg3, hr4⟩ := rn_indexSub (a := a) (x := .tmp 35) (y := .tmp 36) (ty := 0) sl_81 enc_str S (i := 0) rfl hu1 hc4 (S.tm rfl) (S.tm rfl)
          refine s_lv S rfl (hr4 _) rfl ?_;clear S;intro a S
          clear hr4
          refine s_lv S rfl (rn_ld Tryz.isAgg9 (off := (x1.toNat + x4.toNat) * 1) (o := 0) (S.tm rfl) (own_cells enc_str S (i := 0) rfl hg3 hj4) rfl) rfl ?_;clear S;intro a S
          refine s_lv S rfl (Rm (S.tm rfl)) rfl ?_;clear S;intro a S
          refine s_lv S rfl (Rm (S.tm rfl)) rfl ?_;clear S;intro a S
          refine s_lv S rfl (rn_sub (S.tm rfl) rfl) rfl ?_;clear S;intro a S
          obtain ⟨hc5, h⟩ := chkE h
          have hj5 := (sub_get (sub_le S (i := 0) rfl hu1) hc5).1
          obtain ⟨b4, hg4, hr5⟩ := rn_indexSub (a := a) (x := .tmp 39) (y := .tmp 41) (ty := 0) sl_81 enc_str S (i := 0) rfl hu1 hc5 (S.tm rfl) (S.tm rfl)
          refine s_lv S rfl (hr5 _) rfl ?_;clear S;intro a S
          clear hr5
          refine s_lv S rfl (rn_ld Tryz.isAgg9 (off := (x1.toNat + (W (x4 - 1)).toNat) * 1) (o := 0) (S.tm rfl) (own_cells enc_str S (i := 0) rfl hg4 hj5) rfl) rfl ?_;clear S;intro a S
          refine s_lv S rfl (rn_sneq (S.tm rfl) (S.tm rfl)) rfl ?_;clear S;intro a S
          refine s_done ?_
          replace S := S.nk [.own Al 9 1 x2.length (x2.flatMap eStr)] [(0, Al), (3, iV x3), (4, u1), (5, iV x4), (44, bV (!decide ((nth (cut x2 x1 (Ak.length : Int)) x4) = (nth (cut x2 x1 (Ak.length : Int)) (W (x4 - 1))))))] [true] rfl (subR rfl)
          refine Tn ?_
          obtain ⟨j4, hj6, h⟩ := joinE h
          refine f_join (fun a w' => ∃ x7 : List ByteArray, ∃ x8 : Int, j4 x7 x8 = some r ∧ Sx w (Al.ownBlock.toList) nov [.own Al 9 1 x7.length (x7.flatMap eStr)] [(0, Al), (3, iV x8), (4, u1), (5, iV x4)] 61 a w') ?_ ?_
          ·refine f_cond (S.tm rfl) (fun hb5 => ?_) (fun hb5 => ?_)
           ·replace h := iteT h hb5
            refine Fs (Fg (lv S (Rm (S.tm rfl)) rfl ?_));clear S;intro a S
            iterate 3 (refine lv S (Rm (S.tm rfl)) rfl ?_;clear S;intro a S)
            obtain ⟨hc6, h⟩ := chkE h
            have hj7 := (sub_get (sub_le S (i := 0) rfl hu1) hc6).1
            obtain ⟨b5, hg5, hr6⟩ := rn_indexSub (a := a) (x := .tmp 47) (y := .tmp 48) (ty := 0) sl_81 enc_str S (i := 0) rfl hu1 hc6 (S.tm rfl) (S.tm rfl)
            refine lv S (hr6 _) rfl ?_;clear S;intro a S
            clear hr6
            refine lv S (rn_ld Tryz.isAgg9 (off := (x1.toNat + x4.toNat) * 1) (o := 0) (S.tm rfl) (own_cells enc_str S (i := 0) rfl hg5 hj7) rfl) rfl ?_;clear S;intro a S
            obtain ⟨hc7, h⟩ := chkE h
            obtain ⟨b6, hg6, hr7⟩ := rn_indexS (a := a) (x := .tmp 45) (y := .tmp 46) (ty := 0) sl_81 enc_str S (i := 0) rfl (inB_get hc7).1 (inB_get hc7).2 (S.tm rfl) (S.tm rfl)
            refine lv S (hr7 _) rfl ?_;clear S;intro a S
            clear hr7
            refine l_storeO (c := 0) (j := x3.toNat) (nth (cut x2 x1 (Ak.length : Int)) x4) enc_str S (S.tm rfl) (S.tm rfl) (i := 0) rfl hg6 (inB_get hc7).1 Tryz.sizeOf9 (vs := [sV (nth (cut x2 x1 (Ak.length : Int)) x4)]) rfl rfl rfl rfl rfl ?_;clear S;intro w10 hk4 S
            refine Ld (Tn (Fg (lv S (Rm (S.tm rfl)) rfl ?_)));clear S;intro a S
            refine lv S (rn_add (S.tm rfl) rfl) rfl ?_;clear S;intro a S
            refine lv S (Ra (S.tm rfl)) rfl ?_;clear S;intro a S
            refine Ld (Tn ?_)
            exact ⟨(x2.set x3.toNat (nth (cut x2 x1 (Ak.length : Int)) x4)), W (x3 + 1), h, S.nf [true] rfl (subR rfl)⟩
           ·replace h := iteF h hb5
            refine wp_skip (Tn ?_)
            exact ⟨x2, x3, h, S.nf [true] rfl (subR rfl)⟩
          clear S h;rintro a w8 ⟨x7, x8, h, S⟩;rw [hj6] at h;clear hj6 j4
          refine blk_n (Tn ?_)
          exact ⟨x7, x8, h, S.nf [true] rfl (subR rfl)⟩
         clear S h;rintro a w6 ⟨x5, x6, h, S⟩;rw [hj3] at h;clear hj3 j3
         refine Tn (Fg (lv S (Rm (S.tm rfl)) rfl ?_));clear S;intro a S
         refine lv S (rn_add (S.tm rfl) rfl) rfl ?_;clear S;intro a S
         refine lv S (Ra (S.tm rfl)) rfl ?_;clear S;intro a S
         refine Ld (Tn ?_)
         exact ⟨m2, ⟨x5, x6, W (x4 + 1), h, S.nf [true] rfl ⟨rfl, rfl, rfl, rfl, trivial⟩⟩, Nat.lt_succ_self _⟩
        ·replace h := iteF h hb4
         refine wp_exit (then_x (then_x (x_same (Tn ?_))))
         exact ⟨x2, x3, h, S.nf [true] rfl (subR rfl)⟩
      clear S h;rintro a w5 ⟨x2, x3, h, S⟩;rw [hj2] at h;clear hj2 j2
      refine Tn (Fs (Fg (lv S (Rm (S.tm rfl)) rfl ?_)));clear S;intro a S
      refine lv S (Rm (S.tm rfl)) rfl ?_;clear S;intro a S
      obtain ⟨hc8, h⟩ := chkE h
      obtain ⟨u2, hu2, hr8⟩ := rn_subl (a := a) (x := .tmp 54) (y := .tmp 55) (ty := 81) sl_81 S (i := 0) rfl (S.tm rfl) (S.tm rfl) hc8
      refine lv S (hr8 _) rfl ?_;clear S;intro a S
      clear hr8
      refine l_clear (zl := x3) (zh := (x2.length : Int)) (z := k_empty) sl_81 rfl enc_str S (i := 0) rfl hu2 (S.tm rfl) Tryz.zeroValue9 rfl ?_;clear S;intro w11 hk5 S
      refine Ld (Tn (Fs (Fg (lv S (Rm (S.tm rfl)) rfl ?_))));clear S;intro a S
      refine lv S (Rm (S.tm rfl)) rfl ?_;clear S;intro a S
      obtain ⟨hc9, h⟩ := chkE h
      obtain ⟨u3, hu3, hr9⟩ := rn_subh (a := a) (x := .tmp 57) (y' := .tmp 58) (ty := 81) sl_81 S (i := 0) rfl (S.tm rfl) (S.tm rfl) hc9
      refine lv S (hr9 _) rfl ?_;clear S;intro a S
      clear hr9
      refine lv S (Ra (S.tm rfl)) rfl ?_;clear S;intro a S
      refine Ld (Tn (wp_ret (blk_r (then_r (then_r (blk_r ?_))))))
      refine then_r (then_r ?_)
      obtain ⟨S, hz1⟩ := S.ownCut (zh := x3) enc_str (i := 0) rfl hu3
      obtain rfl := Option.some.inj h
      exact f_ret S Tryz.results76 rfl ⟨(S.holds _ (List.mem_of_getElem? (i := 0) rfl)), (SubV.block hu3)⟩
     ·replace h := iteF h hb3
      refine wp_skip (blk_n (Tn (Fg (lv S (Rm (S.tm rfl)) rfl ?_))));clear S;intro a S
      refine lv S (rn_add (S.tm rfl) rfl) rfl ?_;clear S;intro a S
      refine lv S (Ra (S.tm rfl)) rfl ?_;clear S;intro a S
      refine Ld (Tn ?_)
      exact ⟨m1, ⟨W (x1 + 1), h, S.nf [true] rfl ⟨rfl, rfl, trivial⟩⟩, Nat.lt_succ_self _⟩
    ·replace h := iteF h hb2
     refine wp_exit (then_x (then_x (x_same (Tn ?_))))
     exact ⟨h, S.nf [true] rfl ⟨rfl, trivial⟩⟩
  clear S h;rintro a w2 ⟨h, S⟩;rw [hj1] at h;clear hj1 j1
  refine Tn (Fs (Fg (lv S (Rm (S.tm rfl)) rfl ?_)));clear S;intro a S
  refine lv S (Ra (S.tm rfl)) rfl ?_;clear S;intro a S
  refine Ld (Tn (wp_ret ?_))
  obtain rfl := Option.some.inj h
  exact f_ret S Tryz.results76 rfl ⟨(S.holds _ (List.mem_of_getElem? (i := 0) rfl)), rfl⟩
theorem tumbref2_ClubSums_c1_c1_ok (w : World) (Ak : GScored) (Bj : Nat) (Cl : ByteArray) (Br : (view w []) Bj = some (.cells [sV Cl].toArray 9 (0, 0))) (r : Bool) (h : tumbref2_ClubSums_c1_c1 Ak Cl = r) :
    Calls Tryz.prog 48 [.agg (GScored.enc Ak).toArray, .pointer (some ⟨Bj, 0, none⟩)].toArray w (Ret w [] fun _ v _ => v = bV r) := by
 refine f_enter [] [] Tryz.func48 rfl Tryz.ntmps48 rfl (by simp) (by simp [fps]) (by simp [fps]) fun a S => ?_
 unfold tumbref2_ClubSums_c1_c1 at h
 replace S := S.nk [] [(0, .agg (GScored.enc Ak).toArray), (1, .pointer (some ⟨Bj, 0, none⟩))] [] rfl (subR rfl)
 refine Fs (Fg (l_box S (S.tm rfl) (cs := (GScored.enc Ak)) rfl rfl ?_));clear S;intro a w1 b1 hz1 hk1 S
 refine lv S (Ra rfl) rfl ?_;clear S;intro a S
 refine Ld (Tn (Fs (Fg (lv S (rn_fld fa_54_2 (S.tm rfl)) rfl ?_))));clear S;intro a S
 refine lv S (rn_load Tryz.isAgg9 (S.tm rfl) (S.cell (i := 0) rfl rfl)) rfl ?_;clear S;intro a S
 refine lv S (rn_ld Tryz.isAgg9 (off := 0) (o := 0) (S.tm rfl) ((mem_blk Br).at S.emb0) rfl) rfl ?_;clear S;intro a S
 refine lv S (rn_seql (S.tm rfl) (S.tm rfl)) rfl ?_;clear S;intro a S
 refine lv S (Ra (S.tm rfl)) rfl ?_;clear S;intro a S
 refine Ld (Tn (wp_ret ?_))
 subst h
 exact f_ret S Tryz.results48 rfl rfl
theorem tumbref2_plus_ok (w : World) (Af : GFraction) (Ah : GFraction) (r : GFraction) (h : tumbref2_plus Af Ah = some r) :
    Calls Tryz.prog 77 [.agg (GFraction.enc Af).toArray, .agg (GFraction.enc Ah).toArray].toArray w (Ret w [] fun _ v _ => v = .agg (GFraction.enc r).toArray) := by
 refine f_enter [] [] Tryz.func77 rfl Tryz.ntmps77 rfl (by simp) (by simp [fps]) (by simp [fps]) fun a S => ?_
 unfold tumbref2_plus at h
 replace S := S.nk [] [(0, .agg (GFraction.enc Af).toArray), (1, .agg (GFraction.enc Ah).toArray)] [] rfl (subR rfl)
 refine Fs (Fg (l_box S (S.tm rfl) (cs := (GFraction.enc Af)) rfl rfl ?_));clear S;intro a w1 b1 hz1 hk1 S
 refine l_box S (S.tm rfl) (cs := (GFraction.enc Ah)) rfl rfl ?_;clear S;intro a w2 b2 hz2 hk2 S
 refine l_alloc S Tryz.zeroValue36 (cs := [iV 0, iV 0]) rfl rfl ?_;clear S;intro a w3 b3 hz3 hk3 S
 refine Ld (Tn (Fs (Fg (lv S (rn_fld fa_36_0 (S.tm rfl)) rfl ?_))));clear S;intro a S
 refine lv S (rn_load Tryz.isAgg3 (S.tm rfl) (S.cell (i := 2) rfl rfl)) rfl ?_;clear S;intro a S
 refine lv S (rn_fld fa_36_1 (S.tm rfl)) rfl ?_;clear S;intro a S
 refine lv S (rn_load Tryz.isAgg3 (S.tm rfl) (S.cell (i := 1) rfl rfl)) rfl ?_;clear S;intro a S
 refine lv S (rn_mul (S.tm rfl) (S.tm rfl)) rfl ?_;clear S;intro a S
 refine lv S (rn_fld fa_36_0 (S.tm rfl)) rfl ?_;clear S;intro a S
 refine lv S (rn_load Tryz.isAgg3 (S.tm rfl) (S.cell (i := 1) rfl rfl)) rfl ?_;clear S;intro a S
 refine lv S (rn_fld fa_36_1 (S.tm rfl)) rfl ?_;clear S;intro a S
 refine lv S (rn_load Tryz.isAgg3 (S.tm rfl) (S.cell (i := 2) rfl rfl)) rfl ?_;clear S;intro a S
 refine lv S (rn_mul (S.tm rfl) (S.tm rfl)) rfl ?_;clear S;intro a S
 refine lv S (rn_add (S.tm rfl) (S.tm rfl)) rfl ?_;clear S;intro a S
 refine lv S (rn_fld fa_36_1 (S.tm rfl)) rfl ?_;clear S;intro a S
 refine lv S (rn_load Tryz.isAgg3 (S.tm rfl) (S.cell (i := 2) rfl rfl)) rfl ?_;clear S;intro a S
 refine lv S (rn_fld fa_36_1 (S.tm rfl)) rfl ?_;clear S;intro a S
 refine lv S (rn_load Tryz.isAgg3 (S.tm rfl) (S.cell (i := 1) rfl rfl)) rfl ?_;clear S;intro a S
 refine lv S (rn_mul (S.tm rfl) (S.tm rfl)) rfl ?_;clear S;intro a S
 obtain ⟨r1, hr1, h⟩ := bindE h
 refine l_enter S (fun _ => run_call (vs := [iV (W ((W (Af.Num * Ah.Den)) + (W (Ah.Num * Af.Den)))), iV (W (Af.Den * Ah.Den))]) ⟨(S.tm rfl), (S.tm rfl), trivial⟩ Tryz.call74) (tumbref2_Lowest_ok _ (W ((W (Af.Num * Ah.Den)) + (W (Ah.Num * Af.Den)))) (W (Af.Den * Ah.Den)) _ hr1) rfl ?_;clear S;intro v1 a w4 hv1 hk4 hn1 S
 subst hv1
 refine l_store S (S.tm rfl) (S.tm rfl) (i := 0) (off := 0) rfl Tryz.sizeOf36 (vs := (GFraction.enc r1)) rfl rfl rfl rfl ?_;clear S;intro w5 hk5 S
 refine Ld ?_
 replace S := S.nk [.blk b3 (GFraction.enc r1) 36] [(4, .pointer (some ⟨b3, 0, none⟩))] [true, false, false] rfl ⟨rfl, trivial⟩
 refine Tn (wp_ret ?_)
 obtain rfl := Option.some.inj h
 exact f_retG S (rs := [.cell 4 36]) (vs := [.agg #[iV r1.Num, iV r1.Den]]) Tryz.results77 ⟨(res_cell (off := 0) S rfl Tryz.isAgg36 Tryz.sizeOf36 rfl (S.cellsAt (i := 0) rfl)), trivial⟩ rfl rfl
theorem tumbref2_sumOf_tumbref2_ClubSums_c1_c1_ok (w : World) (Aa : GTable) (Ar : R27) (At : rel_27 (view w []) Aa Ar) (O : Value) (Ab : List GScored) (Ad : Slc (view w []) 5 O (Ab.map GScored.enc)) (As : Nat) (Bu : ByteArray) (Cp : (view w []) As = some (.cells [sV Bu].toArray 9 (0, 0))) (r : GFraction) (h : tumbref2_sumOf_tumbref2_ClubSums_c1_c1 Aa Ab Bu = some r) :
    Calls Tryz.prog 47 [.agg (R27.enc Ar).toArray, O, .func (.func 48) #[] #[.pointer (some ⟨As, 0, none⟩)]].toArray w (Ret w [] fun _ v _ => v = .agg (GFraction.enc r).toArray) := by
 obtain ⟨u1, rfl, hs1⟩ := At
 refine f_enter [] [] Tryz.func47 rfl Tryz.ntmps47 rfl (by simp) (by simp [fps]) (by simp [fps]) fun a S => ?_
 unfold tumbref2_sumOf_tumbref2_ClubSums_c1_c1 at h
 replace S := S.nk [] [(0, .agg #[u1.val, iV Aa.Relay, iV Aa.Most]), (1, O), (2, .func (.func 48) #[] #[.pointer (some ⟨As, 0, none⟩)])] [] rfl (subR rfl)
 refine Fs (Fg (l_box S (S.tm rfl) (cs := [u1.val, iV Aa.Relay, iV Aa.Most]) rfl rfl ?_));clear S;intro a w1 b1 hz1 hk1 S
 refine l_alloc S Tryz.zeroValue36 (cs := [iV 0, iV 0]) rfl rfl ?_;clear S;intro a w2 b2 hz2 hk2 S
 refine Ld (Tn (Fs (Fg (lv S (rn_bld bt_36 (pv := [(1, iV 1)]) ⟨rfl, rfl, trivial⟩ (cs := [iV 0, iV 1]) (by kernel_rfl)) rfl ?_))));clear S;intro a S
 refine l_alloc S Tryz.zeroValue36 (cs := [iV 0, iV 0]) rfl rfl ?_;clear S;intro a w3 b3 hz3 hk3 S
 refine l_store S (S.tm rfl) (S.tm rfl) (i := 0) (off := 0) rfl Tryz.sizeOf36 (vs := [iV 0, iV 1]) rfl rfl rfl rfl ?_;clear S;intro w4 hk4 S
 refine Ld (Tn (Fs (Fs (Fg (lv S (Rm (S.tm rfl)) rfl ?_)))));clear S;intro a S
 refine lv S (rn_lenT sl_29 (S.tm rfl) (slc_len Ad)) rfl ?_;clear S;intro a S
 refine lv S (Rm rfl) rfl ?_;clear S;intro a S
 refine Ld (Tn ?_)
 replace S := S.nk [.blk b3 [iV 0, iV 1] 36, .blk b2 [iV 0, iV 0] 36, .blk b1 [u1.val, iV Aa.Relay, iV Aa.Most] 27] [(1, O), (2, .func (.func 48) #[] #[.pointer (some ⟨As, 0, none⟩)]), (3, .pointer (some ⟨b1, 0, none⟩)), (6, .pointer (some ⟨b2, 0, none⟩)), (7, .pointer (some ⟨b3, 0, none⟩)), (11, O), (12, iV (Ab.length : Int)), (13, iV 0)] [true, true, true] rfl (subR rfl)
 obtain ⟨j1, hj1, h⟩ := joinE h
 refine f_join (fun a w' => ∃ x1 : Int, ∃ x2 : Int, j1 x1 x2 = some r ∧ Sx w [] nov [.blk b3 [iV x1, iV x2] 36, .blk b2 [iV 0, iV 0] 36, .blk b1 [u1.val, iV Aa.Relay, iV Aa.Most] 27] [(6, .pointer (some ⟨b2, 0, none⟩)), (7, .pointer (some ⟨b3, 0, none⟩))] 32 a w') ?_ ?_
 ·refine wp_block (f_loop (fun (ys1 : List GScored) a w' => ∃ i1 : Nat, ∃ x1 : Int, ∃ x2 : Int, (∃ dn, Ab = dn ++ ys1 ∧ dn.length = i1) ∧ tumbref2_sumOf_tumbref2_ClubSums_c1_c1_l1 Bu Aa Ab j1 ys1 i1 x1 x2 = some r ∧ Sx w [] nov [.blk b3 [iV x1, iV x2] 36, .blk b2 [iV 0, iV 0] 36, .blk b1 [u1.val, iV Aa.Relay, iV Aa.Most] 27] [(1, O), (2, .func (.func 48) #[] #[.pointer (some ⟨As, 0, none⟩)]), (3, .pointer (some ⟨b1, 0, none⟩)), (6, .pointer (some ⟨b2, 0, none⟩)), (7, .pointer (some ⟨b3, 0, none⟩)), (11, O), (12, iV (Ab.length : Int)), (13, iV (i1 : Int))] 32 a w') List.length Ab ⟨0, 0, 1, ⟨[], rfl, rfl⟩, h, S.nf [true, true, true] rfl (subR rfl)⟩ ?_)
  clear S h;rintro ys1 a w5 ⟨i1, x1, x2, ⟨dn, hd1, hi1⟩, h, S⟩
  cases ys1 with
  | nil =>
   rw [tumbref2_sumOf_tumbref2_ClubSums_c1_c1_l1.eq_1] at h
   refine Fs (Fg (lv S (rn_lss (S.tm rfl) (S.tm rfl)) rfl ?_));clear S;intro a S
   refine Ld ?_
   replace S := S.nk [.blk b3 [iV x1, iV x2] 36, .blk b2 [iV 0, iV 0] 36, .blk b1 [u1.val, iV Aa.Relay, iV Aa.Most] 27] [(1, O), (2, .func (.func 48) #[] #[.pointer (some ⟨As, 0, none⟩)]), (3, .pointer (some ⟨b1, 0, none⟩)), (6, .pointer (some ⟨b2, 0, none⟩)), (7, .pointer (some ⟨b3, 0, none⟩)), (11, O), (12, iV (Ab.length : Int)), (13, iV (i1 : Int)), (14, bV (decide ((i1 : Int) < (Ab.length : Int))))] [true, true, true] rfl (subR rfl)
   refine Tn (Fs (wp_cond_false ((S.tm rfl).trans (congrArg Value.bool (rng_nil hd1 hi1))) (wp_exit (then_x (then_x (x_same ?_))))))
   refine Tn ?_
   exact ⟨x1, x2, h, S.nf [true, true, true] rfl (subR rfl)⟩
  | cons y1 ys1 =>
   rw [tumbref2_sumOf_tumbref2_ClubSums_c1_c1_l1.eq_2] at h
   refine Fs (Fg (lv S (rn_lss (S.tm rfl) (S.tm rfl)) rfl ?_));clear S;intro a S
   refine Ld ?_
   replace S := S.nk [.blk b3 [iV x1, iV x2] 36, .blk b2 [iV 0, iV 0] 36, .blk b1 [u1.val, iV Aa.Relay, iV Aa.Most] 27] [(1, O), (2, .func (.func 48) #[] #[.pointer (some ⟨As, 0, none⟩)]), (3, .pointer (some ⟨b1, 0, none⟩)), (6, .pointer (some ⟨b2, 0, none⟩)), (7, .pointer (some ⟨b3, 0, none⟩)), (11, O), (12, iV (Ab.length : Int)), (13, iV (i1 : Int)), (14, bV (decide ((i1 : Int) < (Ab.length : Int))))] [true, true, true] rfl (subR rfl)
   refine Tn (Fs (wp_cond_true ((S.tm rfl).trans (congrArg Value.bool (rng_cons hd1 hi1))) (wp_skip (Tn (Fs ?_)))))
   obtain ⟨j2, hj2, h⟩ := joinE h
   refine f_join (fun a w' => ∃ x3 : Int, ∃ x4 : Int, j2 x3 x4 = some r ∧ Sx w [] nov [.blk b3 [iV x3, iV x4] 36, .blk b2 [iV 0, iV 0] 36, .blk b1 [u1.val, iV Aa.Relay, iV Aa.Most] 27] [(1, O), (2, .func (.func 48) #[] #[.pointer (some ⟨As, 0, none⟩)]), (3, .pointer (some ⟨b1, 0, none⟩)), (6, .pointer (some ⟨b2, 0, none⟩)), (7, .pointer (some ⟨b3, 0, none⟩)), (11, O), (12, iV (Ab.length : Int)), (13, iV (i1 : Int))] 32 a w') ?_ ?_
   ·refine wp_block (Fs (Fg ?_))
    obtain ⟨b4, o1, hm1, hr1⟩ := rn_indexT (a := a) (x := .tmp 11) (y := .tmp 13) (ty := 0) sl_29 Ad (get_mid hd1 hi1) rfl (S.tm rfl) (S.tm rfl)
    refine lv S (hr1 _) rfl ?_;clear S;intro a S
    clear hr1
    refine lv S (rn_ldA Tryz.isAgg54 Tryz.sizeOf54 (off := o1) (o := 0) (part := (GScored.enc y1)) rfl rfl (S.tm rfl) (hm1.at S.emb0)) rfl ?_;clear S;intro a S
    refine l_alloc S Tryz.zeroValue54 (cs := [sV k_empty, sV k_empty, sV k_empty, iV 0, bV false]) rfl rfl ?_;clear S;intro a w8 b5 hz4 hk5 S
    refine l_store S (S.tm rfl) (S.tm rfl) (i := 0) (off := 0) rfl Tryz.sizeOf54 (vs := (GScored.enc y1)) rfl rfl rfl rfl ?_;clear S;intro w9 hk6 S
    refine Ld (Tn (Fs (Fg (lv S (rn_ldA Tryz.isAgg54 Tryz.sizeOf54 (off := 0) (o := 0) (part := (GScored.enc y1)) rfl rfl (S.tm rfl) (S.cellsAt (i := 0) rfl)) rfl ?_))));clear S;intro a S
    refine l_enter S (fun _ => run_call (vs := [.agg (GScored.enc y1).toArray]) ⟨(S.tm rfl), trivial⟩ Tryz.call43) (tumbref2_counted_ok _ y1 _ rfl) rfl ?_;clear S;intro v1 a w10 hv1 hk7 hn1 S
    subst hv1
    refine lv S (Rm (S.tm rfl)) rfl ?_;clear S;intro a S
    refine f_cutm 4 (fun a w' => Keep [] w10 w' ∧ Sx w [] nov [.blk b5 (GScored.enc y1) 54, .blk b3 [iV x1, iV x2] 36, .blk b2 [iV 0, iV 0] 36, .blk b1 [u1.val, iV Aa.Relay, iV Aa.Most] 27] [(1, O), (2, .func (.func 48) #[] #[.pointer (some ⟨As, 0, none⟩)]), (3, .pointer (some ⟨b1, 0, none⟩)), (6, .pointer (some ⟨b2, 0, none⟩)), (7, .pointer (some ⟨b3, 0, none⟩)), (9, .pointer (some ⟨b5, 0, none⟩)), (11, O), (12, iV (Ab.length : Int)), (13, iV (i1 : Int)), (23, bV ((tumbref2_counted y1) && (tumbref2_ClubSums_c1_c1 y1 Bu)))] 32 a w') ?_ ?_
    ·rcases Bool.eq_false_or_eq_true (tumbref2_counted y1) with hb1 | hb1
     ·refine l_want S rfl rfl rfl hb1 (lv S (Rm (S.tm rfl)) rfl ?_);clear S;intro a S
      refine l_want S rfl rfl rfl hb1 (lv S (rn_ldA Tryz.isAgg54 Tryz.sizeOf54 (off := 0) (o := 0) (part := (GScored.enc y1)) rfl rfl (S.tm rfl) (S.cellsAt (i := 0) rfl)) rfl ?_);clear S;intro a S
      refine l_want S rfl rfl rfl hb1 (l_enter S (fun _ => run_callV (cap := [.pointer (some ⟨As, 0, none⟩)]) (S.tm rfl) (vs := [.agg (GScored.enc y1).toArray]) ⟨(S.tm rfl), trivial⟩ Tryz.call48) (tumbref2_ClubSums_c1_c1_ok _ y1 As Bu ((S.le_arg nil_sub) _ _ Cp) _ rfl) rfl ?_);clear S;intro v2 a w12 hv2 hk8 hn2 S
      subst hv2
      refine lv S (rn_and_t hb1 (S.tm rfl) (S.tm rfl)) rfl ?_;clear S;intro a S
      refine Ld (Tn ?_)
      exact ⟨hk8, S.nf [true, true, true, true] rfl (subR rfl)⟩
     ·iterate 3 (refine l_skip S rfl rfl rfl (neq_f hb1) rfl ?_ rfl;clear S;intro a S)
      refine lv S (rn_and_f (tumbref2_ClubSums_c1_c1 y1 Bu) hb1 (S.tm rfl) rfl) rfl ?_;clear S;intro a S
      refine Ld (Tn ?_)
      exact ⟨Keep.refl _ _, S.nf [true, true, true, true] rfl (subR rfl)⟩
    clear S;rintro a w11 ⟨hk9, S⟩
    refine Ld (Tn ?_)
    obtain ⟨j3, hj3, h⟩ := joinE h
    refine f_join (fun a w' => ∃ x5 : Int, ∃ x6 : Int, j3 x5 x6 = some r ∧ Sx w [] nov [.blk b3 [iV x5, iV x6] 36, .blk b2 [iV 0, iV 0] 36, .blk b1 [u1.val, iV Aa.Relay, iV Aa.Most] 27] [(1, O), (2, .func (.func 48) #[] #[.pointer (some ⟨As, 0, none⟩)]), (3, .pointer (some ⟨b1, 0, none⟩)), (6, .pointer (some ⟨b2, 0, none⟩)), (7, .pointer (some ⟨b3, 0, none⟩)), (11, O), (12, iV (Ab.length : Int)), (13, iV (i1 : Int))] 32 a w') ?_ ?_
    ·refine f_cond (S.tm rfl) (fun hb2 => ?_) (fun hb2 => ?_)
     ·replace h := iteT h hb2
      obtain ⟨r1, hr2, h⟩ := bindE h
      obtain ⟨r2, hr3, h⟩ := bindE h
      refine d_region [6] ([]) Tryz.mixed S rfl (by kernel_rfl) ?_;clear S;intro w17 hk13 hsel S
      refine d_quiet 0 S hsel rfl (by kernel_rfl) (by kernel_rfl) (by kernel_rfl) (by kernel_rfl) rfl (fun _ hw => (rn_ldA Tryz.isAgg36 Tryz.sizeOf36 (off := 0) (o := 0) (part := [iV x1, iV x2]) rfl rfl (S.tm rfl) ((S.blk_mem (i := 1) (cells := [iV x1, iV x2]) (b := b3) (T := 36) rfl (ne_nil (e' := .blk b3 [iV x1, iV x2] 36))).kept hw))) ?_;clear S;intro a S
      refine d_quiet 1 S hsel rfl (by kernel_rfl) (by kernel_rfl) (by kernel_rfl) (by kernel_rfl) rfl (fun _ hw => (rn_ldA Tryz.isAgg27 Tryz.sizeOf27 (off := 0) (o := 0) (part := [u1.val, iV Aa.Relay, iV Aa.Most]) rfl rfl (S.tm rfl) ((S.blk_mem (i := 3) (cells := [u1.val, iV Aa.Relay, iV Aa.Most]) (b := b1) (T := 27) rfl (ne_nil (e' := .blk b1 [u1.val, iV Aa.Relay, iV Aa.Most] 27))).kept hw))) ?_;clear S;intro a S
      refine d_pure 2 S hsel rfl rfl (by kernel_rfl) (by kernel_rfl) rfl (fun _ => (Rm (S.tm rfl))) ?_;clear S;intro a S
      refine d_quiet 3 S hsel rfl (by kernel_rfl) (by kernel_rfl) (by kernel_rfl) (by kernel_rfl) rfl (fun _ hw => (rn_ldA Tryz.isAgg54 Tryz.sizeOf54 (off := 0) (o := 0) (part := (GScored.enc y1)) rfl rfl (S.tm rfl) ((S.blk_mem (i := 0) (cells := (GScored.enc y1)) (b := b5) (T := 54) rfl (ne_nil (e' := .blk b5 (GScored.enc y1) 54))).kept hw))) ?_;clear S;intro a S
      refine d_loud1 4 (by kernel_rfl) rfl (l_enter S (fun _ => run_call (vs := [.agg (R27.enc (R27.mk u1 Aa.Relay Aa.Most)).toArray, O, .agg (GScored.enc y1).toArray]) ⟨(S.tm rfl), (S.tm rfl), (S.tm rfl), trivial⟩ Tryz.call44) (tumbref2_shareOf_ok _ Aa (R27.mk u1 Aa.Relay Aa.Most) ⟨u1, rfl, (hs1.mono (S.le_arg nil_sub))⟩ O Ab (Ad.mono (S.le_arg nil_sub)) y1 _ hr2) rfl ?_);clear S;intro v5 a w18 hv5 hk14 hn5 S
      subst hv5
      refine Ld (d_next hk14 (d_loud1 5 (by kernel_rfl) rfl (l_enter S (fun _ => run_call (vs := [.agg (GFraction.enc (GFraction.mk x1 x2)).toArray, .agg (GFraction.enc r1).toArray]) ⟨(S.tm rfl), (S.tm rfl), trivial⟩ Tryz.call77) (tumbref2_plus_ok _ (GFraction.mk x1 x2) r1 _ hr3) rfl ?_)));clear S;intro v6 a w19 hv6 hk15 hn6 S
      subst hv6
      refine Ld (d_next hk15 (d_loudB 6 ([b3]) rfl (by kernel_rfl) rfl (l_store S (S.tm rfl) (S.tm rfl) (i := 1) (off := 0) rfl Tryz.sizeOf36 (vs := (GFraction.enc r2)) rfl rfl rfl rfl ?_)));clear S;intro w20 hk16 S
      refine Ld (d_nextB (d_end (by kernel_rfl) ?_))
      clear hsel
      replace S := S.nk [.blk b3 (GFraction.enc r2) 36, .blk b2 [iV 0, iV 0] 36, .blk b1 [u1.val, iV Aa.Relay, iV Aa.Most] 27] [(1, O), (2, .func (.func 48) #[] #[.pointer (some ⟨As, 0, none⟩)]), (3, .pointer (some ⟨b1, 0, none⟩)), (6, .pointer (some ⟨b2, 0, none⟩)), (7, .pointer (some ⟨b3, 0, none⟩)), (11, O), (12, iV (Ab.length : Int)), (13, iV (i1 : Int))] [false, true, true, true] rfl (subR rfl)
      refine Tn ?_
      exact ⟨r2.Num, r2.Den, h, S.nf [true, true, true] rfl (subR rfl)⟩
     ·replace h := iteF h hb2
      refine wp_skip (Tn ?_)
      exact ⟨x1, x2, h, S.nf [false, true, true, true] rfl (subR rfl)⟩
    clear S h;rintro a w13 ⟨x5, x6, h, S⟩;rw [hj3] at h;clear hj3 j3
    refine blk_n (Tn ?_)
    exact ⟨x5, x6, h, S.nf [true, true, true] rfl (subR rfl)⟩
   clear S h;rintro a w7 ⟨x3, x4, h, S⟩;rw [hj2] at h;clear hj2 j2
   refine Tn (Fg (lv S (rn_add (S.tm rfl) rfl) rfl ?_));clear S;intro a S
   refine lv S (Rm (S.tm rfl)) rfl ?_;clear S;intro a S
   refine Ld (Tn ?_)
   exact ⟨ys1, ⟨i1 + 1, x3, x4, ⟨_, (hd1).trans (List.append_cons _ _ _), by simp [hi1]⟩, h, S.nf [true, true, true] rfl ⟨rfl, rfl, rfl, rfl, rfl, rfl, rfl, (congrArg (fun z => some (Value.int .i64 z)) (rng_next hd1 hi1 (slc_max Ad))), trivial⟩⟩, Nat.lt_succ_self _⟩
 clear S h;rintro a w6 ⟨x1, x2, h, S⟩;rw [hj1] at h;clear hj1 j1
 refine Tn (Fs (Fg (lv S (rn_ldA Tryz.isAgg36 Tryz.sizeOf36 (off := 0) (o := 0) (part := [iV x1, iV x2]) rfl rfl (S.tm rfl) (S.cellsAt (i := 0) rfl)) rfl ?_)));clear S;intro a S
 refine l_store S (S.tm rfl) (S.tm rfl) (i := 1) (off := 0) rfl Tryz.sizeOf36 (vs := [iV x1, iV x2]) rfl rfl rfl rfl ?_;clear S;intro w21 hk17 S
 refine Ld (Tn (wp_ret ?_))
 obtain rfl := Option.some.inj h
 exact f_retG S (rs := [.cell 6 36]) (vs := [.agg #[iV x1, iV x2]]) Tryz.results47 ⟨(res_cell (off := 0) S rfl Tryz.isAgg36 Tryz.sizeOf36 rfl (S.cellsAt (i := 1) rfl)), trivial⟩ rfl rfl
theorem tumbref2_ClubSums_c1_ok (w : World) (Bv : ByteArray) (Bj : Nat) (Av : Value) (Bs : List Int) (Bd : Slc (view w []) 1 Av (Bs.map eInt)) (Be : Int) (Bh : Int) (Br : (view w []) Bj = some (.cells [Av, iV Be, iV Bh].toArray 27 (0, 0))) (Cn : Nat) (Ce : Value) (Dc : List GScored) (Dd : Slc (view w []) 5 Ce (Dc.map GScored.enc)) (Cy : (view w []) Cn = some (.cells [Ce].toArray 29 (0, 0))) (r : GFraction) (h : tumbref2_ClubSums_c1 Bv Bs Be Bh Dc = some r) :
    Calls Tryz.prog 46 [sV Bv, .pointer (some ⟨Bj, 0, none⟩), .pointer (some ⟨Cn, 0, none⟩)].toArray w (Ret w [] fun _ v _ => v = .agg (GFraction.enc r).toArray) := by
 refine f_enter [] [] Tryz.func46 rfl Tryz.ntmps46 rfl (by simp) (by simp [fps]) (by simp [fps]) fun a S => ?_
 unfold tumbref2_ClubSums_c1 at h
 replace S := S.nk [] [(0, sV Bv), (1, .pointer (some ⟨Bj, 0, none⟩)), (2, .pointer (some ⟨Cn, 0, none⟩))] [] rfl (subR rfl)
 refine Fs (Fg (l_box S (S.tm rfl) (cs := [sV Bv]) rfl rfl ?_));clear S;intro a w1 b1 hz1 hk1 S
 refine l_alloc S Tryz.zeroValue36 (cs := [iV 0, iV 0]) rfl rfl ?_;clear S;intro a w2 b2 hz2 hk2 S
 refine Ld (Tn (Fs (Fg (lv S (rn_ldA Tryz.isAgg27 Tryz.sizeOf27 (off := 0) (o := 0) (part := [Av, iV Be, iV Bh]) rfl rfl (S.tm rfl) ((mem_blk Br).at S.emb0)) rfl ?_))));clear S;intro a S
 refine lv S (rn_ld Tryz.isAgg29 (off := 0) (o := 0) (S.tm rfl) ((mem_blk Cy).at S.emb0) rfl) rfl ?_;clear S;intro a S
 refine lv S (rn_makeFunc (us := #[]) (xs := [].toArray) (ys := [.tmp 3].toArray) (by simp) (evA ⟨(S.tm rfl), trivial⟩ (vs := [.pointer (some ⟨b1, 0, none⟩)]))) rfl ?_;clear S;intro a S
 obtain ⟨r1, hr1, h⟩ := bindE h
 refine l_enter S (fun _ => run_call (vs := [.agg (R27.enc (R27.mk ⟨Av, SlcLen.one (slc_len Bd)⟩ Be Bh)).toArray, Ce, .func (.func 48) #[] #[.pointer (some ⟨b1, 0, none⟩)]]) ⟨(S.tm rfl), (S.tm rfl), (S.tm rfl), trivial⟩ Tryz.call47) (tumbref2_sumOf_tumbref2_ClubSums_c1_c1_ok _ (GTable.mk Bs Be Bh) (R27.mk ⟨Av, SlcLen.one (slc_len Bd)⟩ Be Bh) ⟨⟨Av, SlcLen.one (slc_len Bd)⟩, rfl, (Bd.mono (S.le_arg nil_sub))⟩ Ce Dc (Dd.mono (S.le_arg nil_sub)) b1 Bv (S.blk_view (i := 1) rfl ((ne_nil (e' := .blk b1 [sV Bv] 9)) _ rfl)) _ hr1) rfl ?_;clear S;intro v1 a w3 hv1 hk3 hn1 S
 subst hv1
 refine l_store S (S.tm rfl) (S.tm rfl) (i := 0) (off := 0) rfl Tryz.sizeOf36 (vs := (GFraction.enc r1)) rfl rfl rfl rfl ?_;clear S;intro w4 hk4 S
 refine Ld (Tn (wp_ret ?_))
 obtain rfl := Option.some.inj h
 exact f_retG S (rs := [.cell 4 36]) (vs := [.agg #[iV r1.Num, iV r1.Den]]) Tryz.results46 ⟨(res_cell (off := 0) S rfl Tryz.isAgg36 Tryz.sizeOf36 rfl (S.cellsAt (i := 0) rfl)), trivial⟩ rfl rfl
theorem tumbref2_sums_tumbref2_ClubSums_c1_ok (w : World) (Am : Value) (Bi : List ByteArray) (Cv : (LEnt.own Am 9 1 Bi.length (Bi.flatMap eStr)).holds w) (Aw : Nat) (Bl : Value) (Bg : List Int) (Cc : Slc (view w (Am.ownBlock.toList)) 1 Bl (Bg.map eInt)) (Bm : Int) (Bp : Int) (Cq : (view w (Am.ownBlock.toList)) Aw = some (.cells [Bl, iV Bm, iV Bp].toArray 27 (0, 0))) (Ax : Nat) (Cd : Value) (Cf : List GScored) (Cz : Slc (view w (Am.ownBlock.toList)) 5 Cd (Cf.map GScored.enc)) (Cr : (view w (Am.ownBlock.toList)) Ax = some (.cells [Cd].toArray 29 (0, 0))) (r : (List GGiven)) (h : tumbref2_sums_tumbref2_ClubSums_c1 Bi Bg Bm Bp Cf = some r) :
    Calls Tryz.prog 45 [Am, .func (.func 46) #[] #[.pointer (some ⟨Aw, 0, none⟩), .pointer (some ⟨Ax, 0, none⟩)]].toArray w (Ret w (Am.ownBlock.toList) fun τ v _ => OwnV τ 45 3 v r.length (r.flatMap GGiven.enc)) := by
 refine f_enter (Am.ownBlock.toList) [.own Am 9 1 Bi.length (Bi.flatMap eStr)] Tryz.func45 rfl Tryz.ntmps45 rfl (fun e he => by simp only [List.mem_singleton] at he;subst he;exact Cv) (fps_one_nodup _) (fps_one_sub _) fun a S => ?_
 unfold tumbref2_sums_tumbref2_ClubSums_c1 at h
 replace S := S.nk [.own Am 9 1 Bi.length (Bi.flatMap eStr)] [(0, Am), (1, .func (.func 46) #[] #[.pointer (some ⟨Aw, 0, none⟩), .pointer (some ⟨Ax, 0, none⟩)])] [true] rfl (subR rfl)
 refine Fs (Fg (lv S (Ra rfl) rfl ?_));clear S;intro a S
 refine Ld (Tn (Fs (Fg (lv S (Rm (S.tm rfl)) rfl ?_))));clear S;intro a S
 obtain ⟨r1, hr1, h⟩ := bindE h
 refine l_enterO 0 S rfl (fun _ => .own Am 9 1 r1.length (r1.flatMap eStr)) (fun _ => run_call (vs := [Am]) ⟨(S.tm rfl), trivial⟩ Tryz.call75) (slices_Sort_string_ok _ Am Bi (S.holds _ (List.mem_of_getElem? (i := 0) rfl)) _ hr1) rfl (fun _ _ _ h => ⟨h.1, fun _ hc => hc⟩) ?_;clear S;intro v1 a w1 hv1 hk1 hn1 S
 replace hv1 := hv1.2
 subst hv1
 refine Ld (Tn (Fs (Fg (lv S (Ra rfl) rfl ?_))));clear S;intro a S
 replace S := S.nil 45 3
 refine Ld (Tn (Fs (Fs (Fg (lv S (Rm (S.tm rfl)) rfl ?_)))));clear S;intro a S
 obtain ⟨r2, hr2, h⟩ := bindE h
 have hz1 := S.keep.size
 refine l_enterO 1 S rfl (fun v2 => .own v2 9 1 r2.length (r2.flatMap eStr)) (fun _ => run_call (vs := [Am]) ⟨(S.tm rfl), trivial⟩ Tryz.call76) (slices_Compact_string_ok _ Am r1 (S.holds _ (List.mem_of_getElem? (i := 1) rfl)) _ hr2) rfl (fun _ _ _ h => ⟨h.1, fun _ hc => h.2.symm.trans hc⟩) ?_;clear S;intro v2 a w2 hv2 hk2 hn2 S
 replace hv2 := hv2.2
 refine lv S (rn_lenT sl_81 (S.tm rfl) (own_len (S.own_at (i := 1) rfl))) rfl ?_;clear S;intro a S
 refine lv S (Rm rfl) rfl ?_;clear S;intro a S
 refine Ld (Tn ?_)
 replace S := S.nk [.own (.slice none 0 0) 45 3 ([] : List GGiven).length (([] : List GGiven).flatMap GGiven.enc), .own v2 9 1 r2.length (r2.flatMap eStr)] [(1, .func (.func 46) #[] #[.pointer (some ⟨Aw, 0, none⟩), .pointer (some ⟨Ax, 0, none⟩)]), (5, (.slice none 0 0)), (11, v2), (12, iV (r2.length : Int)), (13, iV 0)] [true, true] rfl (subR rfl)
 have hm1 := own_max (S.own_at (i := 1) rfl)
 obtain ⟨j1, hj1, h⟩ := joinE h
 refine f_join (fun a w' => ∃ x1 : List GGiven, ∃ v3 : Value, j1 x1 = some r ∧ Sx w (Am.ownBlock.toList) nov [.own v3 45 3 x1.length (x1.flatMap GGiven.enc), .own v2 9 1 r2.length (r2.flatMap eStr)] [(5, v3)] 27 a w') ?_ ?_
 ·refine wp_block (f_loop (fun (ys1 : List ByteArray) a w' => ∃ i1 : Nat, ∃ x1 : List GGiven, ∃ v3 : Value, (∃ dn, r2 = dn ++ ys1 ∧ dn.length = i1) ∧ tumbref2_sums_tumbref2_ClubSums_c1_l1 Bg Bm Bp Cf j1 ys1 i1 x1 = some r ∧ Sx w (Am.ownBlock.toList) nov [.own v3 45 3 x1.length (x1.flatMap GGiven.enc), .own v2 9 1 r2.length (r2.flatMap eStr)] [(1, .func (.func 46) #[] #[.pointer (some ⟨Aw, 0, none⟩), .pointer (some ⟨Ax, 0, none⟩)]), (5, v3), (11, v2), (12, iV (r2.length : Int)), (13, iV (i1 : Int))] 27 a w') List.length r2 ⟨0, ([] : List GGiven), (.slice none 0 0), ⟨[], rfl, rfl⟩, h, S.nf [true, true] rfl (subR rfl)⟩ ?_)
  clear S h;rintro ys1 a w3 ⟨i1, x1, v3, ⟨dn, hd1, hi1⟩, h, S⟩
  cases ys1 with
  | nil =>
   rw [tumbref2_sums_tumbref2_ClubSums_c1_l1.eq_1] at h
   refine Fs (Fg (lv S (rn_lss (S.tm rfl) (S.tm rfl)) rfl ?_));clear S;intro a S
   refine Ld ?_
   replace S := S.nk [.own v3 45 3 x1.length (x1.flatMap GGiven.enc), .own v2 9 1 r2.length (r2.flatMap eStr)] [(1, .func (.func 46) #[] #[.pointer (some ⟨Aw, 0, none⟩), .pointer (some ⟨Ax, 0, none⟩)]), (5, v3), (11, v2), (12, iV (r2.length : Int)), (13, iV (i1 : Int)), (14, bV (decide ((i1 : Int) < (r2.length : Int))))] [true, true] rfl (subR rfl)
   refine Tn (Fs (wp_cond_false ((S.tm rfl).trans (congrArg Value.bool (rng_nil hd1 hi1))) (wp_exit (then_x (then_x (x_same ?_))))))
   refine Tn ?_
   exact ⟨x1, v3, h, S.nf [true, true] rfl ⟨rfl, trivial⟩⟩
  | cons y1 ys1 =>
   rw [tumbref2_sums_tumbref2_ClubSums_c1_l1.eq_2] at h
   refine Fs (Fg (lv S (rn_lss (S.tm rfl) (S.tm rfl)) rfl ?_));clear S;intro a S
   refine Ld ?_
   replace S := S.nk [.own v3 45 3 x1.length (x1.flatMap GGiven.enc), .own v2 9 1 r2.length (r2.flatMap eStr)] [(1, .func (.func 46) #[] #[.pointer (some ⟨Aw, 0, none⟩), .pointer (some ⟨Ax, 0, none⟩)]), (5, v3), (11, v2), (12, iV (r2.length : Int)), (13, iV (i1 : Int)), (14, bV (decide ((i1 : Int) < (r2.length : Int))))] [true, true] rfl (subR rfl)
   refine Tn (Fs (wp_cond_true ((S.tm rfl).trans (congrArg Value.bool (rng_cons hd1 hi1))) (wp_skip (Tn (Fs (wp_block ?_))))))
   refine Fs (Fg ?_)
   obtain ⟨b1, hg1, hr3⟩ := rn_indexS (a := a) (x := .tmp 11) (y := .tmp 13) (ty := 0) sl_81 enc_str S (i := 1) rfl (get_mid hd1 hi1) rfl (S.tm rfl) (S.tm rfl)
   refine lv S (hr3 _) rfl ?_;clear S;intro a S
   clear hr3
   refine lv S (rn_ld Tryz.isAgg9 (off := i1 * 1) (o := 0) (S.tm rfl) (own_cells enc_str S (i := 1) rfl hg1 (get_mid hd1 hi1)) rfl) rfl ?_;clear S;intro a S
   refine lv S (Ra (S.tm rfl)) rfl ?_;clear S;intro a S
   refine Ld (Tn (Fg (lv S (Rm (S.tm rfl)) rfl ?_)));clear S;intro a S
   iterate 3 (refine lv S (Rm (S.tm rfl)) rfl ?_;clear S;intro a S)
   obtain ⟨r3, hr4, h⟩ := bindE h
   refine l_enter S (fun _ => run_callV (cap := [.pointer (some ⟨Aw, 0, none⟩), .pointer (some ⟨Ax, 0, none⟩)]) (S.tm rfl) (vs := [sV y1]) ⟨(S.tm rfl), trivial⟩ Tryz.call46) (tumbref2_ClubSums_c1_ok _ y1 Aw Bl Bg (Cc.mono (S.le_arg nil_sub)) Bm Bp ((S.le_arg nil_sub) _ _ Cq) Ax Cd Cf (Cz.mono (S.le_arg nil_sub)) ((S.le_arg nil_sub) _ _ Cr) _ hr4) rfl ?_;clear S;intro v4 a w5 hv3 hk3 hn3 S
   subst hv3
   refine lv S (rn_bld bt_45 (pv := [(0, sV y1), (1, .agg (GFraction.enc r3).toArray)]) ⟨rfl, (S.tm rfl), rfl, (S.tm rfl), trivial⟩ (cs := [sV y1, iV r3.Num, iV r3.Den]) (by kernel_rfl)) rfl ?_;clear S;intro a S
   refine l_buildSlice S Tryz.underlying31 Tryz.sizeOf45 Tryz.zeroValue45 rfl rfl (pv := [(0, .agg #[sV y1, iV r3.Num, iV r3.Den])]) ⟨rfl, (S.tm rfl), trivial⟩ (cs := [sV y1, iV r3.Num, iV r3.Den]) (by kernel_rfl) rfl ?_;clear S;intro a w6 b2 hz2 hk4 S
   obtain ⟨hc1, h⟩ := chkE h
   refine l_appendT sl_31 GGiven.enc_ok S (S.tm rfl) (i := 1) rfl (S.tm rfl) (j := 0) rfl (ys := [(GGiven.mk y1 r3)]) rfl rfl rfl rfl (by have := room_lt hc1;omega) rfl ?_;clear S;intro v5 a w7 hk5 S
   refine lv S (Ra (S.tm rfl)) rfl ?_;clear S;intro a S
   refine Ld ?_
   replace S := S.nk [.own v5 45 3 (x1 ++ [(GGiven.mk y1 r3)]).length ((x1 ++ [(GGiven.mk y1 r3)]).flatMap GGiven.enc), .own v2 9 1 r2.length (r2.flatMap eStr)] [(1, .func (.func 46) #[] #[.pointer (some ⟨Aw, 0, none⟩), .pointer (some ⟨Ax, 0, none⟩)]), (5, v5), (11, v2), (12, iV (r2.length : Int)), (13, iV (i1 : Int))] [false, true, true] rfl (subR rfl)
   refine blk_n (Tn (Fg (lv S (rn_add (S.tm rfl) rfl) rfl ?_)));clear S;intro a S
   refine lv S (Rm (S.tm rfl)) rfl ?_;clear S;intro a S
   refine Ld (Tn ?_)
   exact ⟨ys1, ⟨i1 + 1, (x1 ++ [(GGiven.mk y1 r3)]), v5, ⟨_, (hd1).trans (List.append_cons _ _ _), by simp [hi1]⟩, h, S.nf [true, true] rfl ⟨rfl, rfl, rfl, rfl, (congrArg (fun z => some (Value.int .i64 z)) (rng_next hd1 hi1 hm1)), trivial⟩⟩, Nat.lt_succ_self _⟩
 clear S h;rintro a w4 ⟨x1, v3, h, S⟩;rw [hj1] at h;clear hj1 j1
 refine Tn (Fs (Fg (lv S (Rm (S.tm rfl)) rfl ?_)));clear S;intro a S
 refine lv S (Ra (S.tm rfl)) rfl ?_;clear S;intro a S
 refine Ld (Tn (wp_ret ?_))
 obtain rfl := Option.some.inj h
 exact f_ret S Tryz.results45 rfl (own_retX S (i := 0) rfl (fun c hc hh => ne_fp (i := 1) (j := 0) S rfl rfl rfl c hh (by rw [← hv2] at hc;exact hc)))
theorem tumbref2_ClubSums_ok (w : World) (Aa : GTable) (Ar : R27) (At : rel_27 (view w []) Aa Ar) (O : Value) (Ab : List GScored) (Ad : Slc (view w []) 5 O (Ab.map GScored.enc)) (r : (List GGiven)) (h : tumbref2_ClubSums Aa Ab = some r) :
    Calls Tryz.prog 18 [.agg (R27.enc Ar).toArray, O].toArray w (Ret w [] fun τ v _ => OwnV τ 45 3 v r.length (r.flatMap GGiven.enc)) := by
 obtain ⟨u1, rfl, hs1⟩ := At
 refine f_enter [] [] Tryz.func18 rfl Tryz.ntmps18 rfl (by simp) (by simp [fps]) (by simp [fps]) fun a S => ?_
 unfold tumbref2_ClubSums at h
 replace S := S.nk [] [(0, .agg #[u1.val, iV Aa.Relay, iV Aa.Most]), (1, O)] [] rfl (subR rfl)
 refine Fs (Fg (l_box S (S.tm rfl) (cs := [u1.val, iV Aa.Relay, iV Aa.Most]) rfl rfl ?_));clear S;intro a w1 b1 hz1 hk1 S
 refine l_box S (S.tm rfl) (cs := [O]) (SlcLen.cells (slc_len Ad)) rfl ?_;clear S;intro a w2 b2 hz2 hk2 S
 refine lv S (Ra rfl) rfl ?_;clear S;intro a S
 refine Ld (Tn (Fs (Fg (lv S (Ra rfl) rfl ?_))));clear S;intro a S
 replace S := S.nil 9 1
 refine Ld (Tn (Fs (Fs (Fg (lv S (rn_load Tryz.isAgg29 (S.tm rfl) (S.cell (i := 1) rfl rfl)) rfl ?_)))));clear S;intro a S
 refine lv S (rn_lenT sl_29 (S.tm rfl) (slc_len Ad)) rfl ?_;clear S;intro a S
 refine lv S (Rm rfl) rfl ?_;clear S;intro a S
 refine Ld (Tn ?_)
 replace S := S.nk [.own (.slice none 0 0) 9 1 ([] : List ByteArray).length (([] : List ByteArray).flatMap eStr), .blk b2 [O] 29, .blk b1 [u1.val, iV Aa.Relay, iV Aa.Most] 27] [(2, .pointer (some ⟨b1, 0, none⟩)), (3, .pointer (some ⟨b2, 0, none⟩)), (5, (.slice none 0 0)), (8, O), (9, iV (Ab.length : Int)), (10, iV 0)] [true, true, true] rfl (subR rfl)
 obtain ⟨j1, hj1, h⟩ := joinE h
 refine f_join (fun a w' => ∃ x1 : List ByteArray, ∃ v1 : Value, j1 x1 = some r ∧ Sx w [] nov [.own v1 9 1 x1.length (x1.flatMap eStr), .blk b2 [O] 29, .blk b1 [u1.val, iV Aa.Relay, iV Aa.Most] 27] [(2, .pointer (some ⟨b1, 0, none⟩)), (3, .pointer (some ⟨b2, 0, none⟩)), (5, v1)] 26 a w') ?_ ?_
 ·refine wp_block (f_loop (fun (ys1 : List GScored) a w' => ∃ i1 : Nat, ∃ x1 : List ByteArray, ∃ v1 : Value, (∃ dn, Ab = dn ++ ys1 ∧ dn.length = i1) ∧ tumbref2_ClubSums_l1 j1 ys1 i1 x1 = some r ∧ Sx w [] nov [.own v1 9 1 x1.length (x1.flatMap eStr), .blk b2 [O] 29, .blk b1 [u1.val, iV Aa.Relay, iV Aa.Most] 27] [(2, .pointer (some ⟨b1, 0, none⟩)), (3, .pointer (some ⟨b2, 0, none⟩)), (5, v1), (8, O), (9, iV (Ab.length : Int)), (10, iV (i1 : Int))] 26 a w') List.length Ab ⟨0, ([] : List ByteArray), (.slice none 0 0), ⟨[], rfl, rfl⟩, h, S.nf [true, true, true] rfl (subR rfl)⟩ ?_)
  clear S h;rintro ys1 a w3 ⟨i1, x1, v1, ⟨dn, hd1, hi1⟩, h, S⟩
  cases ys1 with
  | nil =>
   rw [tumbref2_ClubSums_l1.eq_1] at h
   refine Fs (Fg (lv S (rn_lss (S.tm rfl) (S.tm rfl)) rfl ?_));clear S;intro a S
   refine Ld ?_
   replace S := S.nk [.own v1 9 1 x1.length (x1.flatMap eStr), .blk b2 [O] 29, .blk b1 [u1.val, iV Aa.Relay, iV Aa.Most] 27] [(2, .pointer (some ⟨b1, 0, none⟩)), (3, .pointer (some ⟨b2, 0, none⟩)), (5, v1), (8, O), (9, iV (Ab.length : Int)), (10, iV (i1 : Int)), (11, bV (decide ((i1 : Int) < (Ab.length : Int))))] [true, true, true] rfl (subR rfl)
   refine Tn (Fs (wp_cond_false ((S.tm rfl).trans (congrArg Value.bool (rng_nil hd1 hi1))) (wp_exit (then_x (then_x (x_same ?_))))))
   refine Tn ?_
   exact ⟨x1, v1, h, S.nf [true, true, true] rfl (subR rfl)⟩
  | cons y1 ys1 =>
   rw [tumbref2_ClubSums_l1.eq_2] at h
   refine Fs (Fg (lv S (rn_lss (S.tm rfl) (S.tm rfl)) rfl ?_));clear S;intro a S
   refine Ld ?_
   replace S := S.nk [.own v1 9 1 x1.length (x1.flatMap eStr), .blk b2 [O] 29, .blk b1 [u1.val, iV Aa.Relay, iV Aa.Most] 27] [(2, .pointer (some ⟨b1, 0, none⟩)), (3, .pointer (some ⟨b2, 0, none⟩)), (5, v1), (8, O), (9, iV (Ab.length : Int)), (10, iV (i1 : Int)), (11, bV (decide ((i1 : Int) < (Ab.length : Int))))] [true, true, true] rfl (subR rfl)
   refine Tn (Fs (wp_cond_true ((S.tm rfl).trans (congrArg Value.bool (rng_cons hd1 hi1))) (wp_skip (Tn (Fs ?_)))))
   obtain ⟨j2, hj2, h⟩ := joinE h
   refine f_join (fun a w' => ∃ x2 : List ByteArray, ∃ v2 : Value, j2 x2 = some r ∧ Sx w [] nov [.own v2 9 1 x2.length (x2.flatMap eStr), .blk b2 [O] 29, .blk b1 [u1.val, iV Aa.Relay, iV Aa.Most] 27] [(2, .pointer (some ⟨b1, 0, none⟩)), (3, .pointer (some ⟨b2, 0, none⟩)), (5, v2), (8, O), (9, iV (Ab.length : Int)), (10, iV (i1 : Int))] 26 a w') ?_ ?_
   ·refine wp_block (Fs (Fg ?_))
    obtain ⟨b3, o1, hm1, hr1⟩ := rn_indexT (a := a) (x := .tmp 8) (y := .tmp 10) (ty := 0) sl_29 Ad (get_mid hd1 hi1) rfl (S.tm rfl) (S.tm rfl)
    refine lv S (hr1 _) rfl ?_;clear S;intro a S
    clear hr1
    refine lv S (rn_ldA Tryz.isAgg54 Tryz.sizeOf54 (off := o1) (o := 0) (part := (GScored.enc y1)) rfl rfl (S.tm rfl) (hm1.at S.emb0)) rfl ?_;clear S;intro a S
    refine l_alloc S Tryz.zeroValue54 (cs := [sV k_empty, sV k_empty, sV k_empty, iV 0, bV false]) rfl rfl ?_;clear S;intro a w6 b4 hz3 hk3 S
    refine l_store S (S.tm rfl) (S.tm rfl) (i := 0) (off := 0) rfl Tryz.sizeOf54 (vs := (GScored.enc y1)) rfl rfl rfl rfl ?_;clear S;intro w7 hk4 S
    refine Ld (Tn (Fs (Fg (lv S (rn_fld fa_54_2 (S.tm rfl)) rfl ?_))));clear S;intro a S
    refine lv S (rn_load Tryz.isAgg9 (S.tm rfl) (S.cell (i := 0) rfl rfl)) rfl ?_;clear S;intro a S
    refine lv S (rn_sneq (S.tm rfl) rfl) rfl ?_;clear S;intro a S
    refine Ld (Tn ?_)
    obtain ⟨j3, hj3, h⟩ := joinE h
    refine f_join (fun a w' => ∃ x3 : List ByteArray, ∃ v3 : Value, j3 x3 = some r ∧ Sx w [] nov [.own v3 9 1 x3.length (x3.flatMap eStr), .blk b2 [O] 29, .blk b1 [u1.val, iV Aa.Relay, iV Aa.Most] 27] [(2, .pointer (some ⟨b1, 0, none⟩)), (3, .pointer (some ⟨b2, 0, none⟩)), (5, v3), (8, O), (9, iV (Ab.length : Int)), (10, iV (i1 : Int))] 26 a w') ?_ ?_
    ·refine f_cond (S.tm rfl) (fun hb1 => ?_) (fun hb1 => ?_)
     ·replace h := iteT h hb1
      refine Fg (lv S (Rm (S.tm rfl)) rfl ?_);clear S;intro a S
      refine lv S (rn_fld fa_54_2 (S.tm rfl)) rfl ?_;clear S;intro a S
      refine lv S (rn_load Tryz.isAgg9 (S.tm rfl) (S.cell (i := 0) rfl rfl)) rfl ?_;clear S;intro a S
      refine l_buildSlice S Tryz.underlying81 Tryz.sizeOf9 Tryz.zeroValue9 rfl rfl (pv := [(0, sV y1.Club)]) ⟨rfl, (S.tm rfl), trivial⟩ (cs := [sV y1.Club]) (by kernel_rfl) rfl ?_;clear S;intro a w9 b5 hz4 hk5 S
      obtain ⟨hc1, h⟩ := chkE h
      refine l_appendT sl_81 enc_str S (S.tm rfl) (i := 2) rfl (S.tm rfl) (j := 0) rfl (ys := [y1.Club]) rfl rfl rfl rfl (by have := room_lt hc1;omega) rfl ?_;clear S;intro v4 a w10 hk6 S
      refine lv S (Ra (S.tm rfl)) rfl ?_;clear S;intro a S
      refine Ld ?_
      replace S := S.nk [.own v4 9 1 (x1 ++ [y1.Club]).length ((x1 ++ [y1.Club]).flatMap eStr), .blk b2 [O] 29, .blk b1 [u1.val, iV Aa.Relay, iV Aa.Most] 27] [(2, .pointer (some ⟨b1, 0, none⟩)), (3, .pointer (some ⟨b2, 0, none⟩)), (5, v4), (8, O), (9, iV (Ab.length : Int)), (10, iV (i1 : Int))] [false, false, true, true, true] rfl (subR rfl)
      refine Tn ?_
      exact ⟨(x1 ++ [y1.Club]), v4, h, S.nf [true, true, true] rfl (subR rfl)⟩
     ·replace h := iteF h hb1
      refine wp_skip (Tn ?_)
      exact ⟨x1, v1, h, S.nf [false, true, true, true] rfl (subR rfl)⟩
    clear S h;rintro a w8 ⟨x3, v3, h, S⟩;rw [hj3] at h;clear hj3 j3
    refine blk_n (Tn ?_)
    exact ⟨x3, v3, h, S.nf [true, true, true] rfl (subR rfl)⟩
   clear S h;rintro a w5 ⟨x2, v2, h, S⟩;rw [hj2] at h;clear hj2 j2
   refine Tn (Fg (lv S (rn_add (S.tm rfl) rfl) rfl ?_));clear S;intro a S
   refine lv S (Rm (S.tm rfl)) rfl ?_;clear S;intro a S
   refine Ld (Tn ?_)
   exact ⟨ys1, ⟨i1 + 1, x2, v2, ⟨_, (hd1).trans (List.append_cons _ _ _), by simp [hi1]⟩, h, S.nf [true, true, true] rfl ⟨rfl, rfl, rfl, rfl, rfl, (congrArg (fun z => some (Value.int .i64 z)) (rng_next hd1 hi1 (slc_max Ad))), trivial⟩⟩, Nat.lt_succ_self _⟩
 clear S h;rintro a w4 ⟨x1, v1, h, S⟩;rw [hj1] at h;clear hj1 j1
 refine Tn (Fs (Fg (lv S (Rm (S.tm rfl)) rfl ?_)));clear S;intro a S
 refine lv S (rn_makeFunc (us := #[]) (xs := [].toArray) (ys := [.tmp 2, .tmp 3].toArray) (by simp) (evA ⟨(S.tm rfl), (S.tm rfl), trivial⟩ (vs := [.pointer (some ⟨b1, 0, none⟩), .pointer (some ⟨b2, 0, none⟩)]))) rfl ?_;clear S;intro a S
 obtain ⟨r1, hr2, h⟩ := bindE h
 have hz5 := S.keep.size
 refine l_enterO 0 S rfl (fun _ => .own (.slice none 0 0) 9 1 ([] : List ByteArray).length (([] : List ByteArray).flatMap eStr)) (fun _ => run_call (vs := [v1, .func (.func 46) #[] #[.pointer (some ⟨b1, 0, none⟩), .pointer (some ⟨b2, 0, none⟩)]]) ⟨(S.tm rfl), (S.tm rfl), trivial⟩ Tryz.call45) (tumbref2_sums_tumbref2_ClubSums_c1_ok _ v1 x1 (S.holds _ (List.mem_of_getElem? (i := 0) rfl)) b1 u1.val Aa.Points (hs1.mono (S.le_arg (fp_sub (i := 0) (e := .own v1 9 1 x1.length (x1.flatMap eStr)) rfl))) Aa.Relay Aa.Most (S.blk_view (i := 2) rfl ((ne_fp (i := 0) (j := 2) (e := .own v1 9 1 x1.length (x1.flatMap eStr)) (e' := .blk b1 [u1.val, iV Aa.Relay, iV Aa.Most] 27) S rfl rfl rfl) _ rfl)) b2 O Ab (Ad.mono (S.le_arg (fp_sub (i := 0) (e := .own v1 9 1 x1.length (x1.flatMap eStr)) rfl))) (S.blk_view (i := 1) rfl ((ne_fp (i := 0) (j := 1) (e := .own v1 9 1 x1.length (x1.flatMap eStr)) (e' := .blk b2 [O] 29) S rfl rfl rfl) _ rfl)) _ hr2) rfl (fun _ _ _ _ => ⟨own_nil, fun _ hc => by cases hc⟩) ?_;clear S;intro v5 a w11 hv1 hk7 hn1 S
 replace hn1 := hn1.setNil (T := 9) (k := 1) 0
 obtain ⟨φ1, hl1, hm2, S⟩ := S.see' hn1 hz5
 have hs2 := hv1.mono hm2
 refine lv S (Ra (S.tm rfl)) rfl ?_;clear S;intro a S
 refine Ld (Tn (wp_ret ?_))
 obtain rfl := Option.some.inj h
 exact f_ret S Tryz.results18 rfl ((hs2).mono S.le_newer)
theorem tumbref2_SwimmerSums_c1_c1_ok (w : World) (Ak : GScored) (Bj : Nat) (Cl : ByteArray) (Br : (view w []) Bj = some (.cells [sV Cl].toArray 9 (0, 0))) (r : Bool) (h : tumbref2_SwimmerSums_c1_c1 Ak Cl = r) :
    Calls Tryz.prog 50 [.agg (GScored.enc Ak).toArray, .pointer (some ⟨Bj, 0, none⟩)].toArray w (Ret w [] fun _ v _ => v = bV r) := by
 refine f_enter [] [] Tryz.func50 rfl Tryz.ntmps50 rfl (by simp) (by simp [fps]) (by simp [fps]) fun a S => ?_
 unfold tumbref2_SwimmerSums_c1_c1 at h
 replace S := S.nk [] [(0, .agg (GScored.enc Ak).toArray), (1, .pointer (some ⟨Bj, 0, none⟩))] [] rfl (subR rfl)
 refine Fs (Fg (l_box S (S.tm rfl) (cs := (GScored.enc Ak)) rfl rfl ?_));clear S;intro a w1 b1 hz1 hk1 S
 refine lv S (Ra rfl) rfl ?_;clear S;intro a S
 refine Ld (Tn (Fs (Fg (lv S (rn_fld fa_54_1 (S.tm rfl)) rfl ?_))));clear S;intro a S
 refine lv S (rn_load Tryz.isAgg9 (S.tm rfl) (S.cell (i := 0) rfl rfl)) rfl ?_;clear S;intro a S
 refine lv S (rn_ld Tryz.isAgg9 (off := 0) (o := 0) (S.tm rfl) ((mem_blk Br).at S.emb0) rfl) rfl ?_;clear S;intro a S
 refine lv S (rn_seql (S.tm rfl) (S.tm rfl)) rfl ?_;clear S;intro a S
 refine lv S (Rm (S.tm rfl)) rfl ?_;clear S;intro a S
 refine f_cutm 4 (fun a w' => Keep [] w1 w' ∧ Sx w [] nov [.blk b1 (GScored.enc Ak) 54] [(12, bV ((decide (Ak.Who = Cl)) && (!Ak.Relay)))] 13 a w') ?_ ?_
 ·rcases Bool.eq_false_or_eq_true (decide (Ak.Who = Cl)) with hb1 | hb1
  ·refine l_want S rfl rfl rfl hb1 (lv S (rn_fld fa_54_4 (S.tm rfl)) rfl ?_);clear S;intro a S
   refine l_want S rfl rfl rfl hb1 (lv S (rn_load Tryz.isAgg4 (S.tm rfl) (S.cell (i := 0) rfl rfl)) rfl ?_);clear S;intro a S
   refine l_want S rfl rfl rfl hb1 (lv S (rn_not (S.tm rfl)) rfl ?_);clear S;intro a S
   refine lv S (rn_and_t hb1 (S.tm rfl) (S.tm rfl)) rfl ?_;clear S;intro a S
   refine Ld (Tn ?_)
   exact ⟨Keep.refl _ _, S.nf [true] rfl ⟨rfl, trivial⟩⟩
  ·iterate 3 (refine l_skip S rfl rfl rfl (neq_f hb1) rfl ?_ rfl;clear S;intro a S)
   refine lv S (rn_and_f (!Ak.Relay) hb1 (S.tm rfl) rfl) rfl ?_;clear S;intro a S
   refine Ld (Tn ?_)
   exact ⟨Keep.refl _ _, S.nf [true] rfl ⟨rfl, trivial⟩⟩
 clear S;rintro a w2 ⟨hk2, S⟩
 refine lv S (Ra (S.tm rfl)) rfl ?_;clear S;intro a S
 refine Ld (Tn (wp_ret ?_))
 subst h
 exact f_ret S Tryz.results50 rfl rfl
end Go.Proofs.YtmdjmbbmlohnlaaGreatDoor
