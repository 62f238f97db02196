/- Each Go function computes its plain twin, by program. -/
import Derived.Test.YtamfhhmfioghgaaGreatDoorWk1
namespace Go.Proofs.YtamfhhmfioghgaaGreatDoor
open Go
set_option maxRecDepth 20000 in
theorem record_compare_ok (w : World) (Am : GStep) (Ar : GStep) (r : Int) (h : record_compare Am Ar = r) :
    Calls Tryz.prog 55 [.agg (GStep.enc Am).toArray, .agg (GStep.enc Ar).toArray].toArray w (Ret w [] fun _ v _ => v = iV r) := by
 refine f_enter [] [] Tryz.func55 rfl Tryz.ntmps55 rfl (by simp) (by simp [fps]) (by simp [fps]) fun a S => ?_
 unfold record_compare at h
 replace S := S.nk [] [(0, .agg (GStep.enc Am).toArray), (1, .agg (GStep.enc Ar).toArray)] [] rfl (subR rfl)
 refine Fs (Fg (l_box S (S.tm rfl) (cs := (GStep.enc Am)) rfl rfl ?_));clear S;intro a w1 b1 hz1 hk1 S
 refine l_box S (S.tm rfl) (cs := (GStep.enc Ar)) rfl rfl ?_;clear S;intro a w2 b2 hz2 hk2 S
 refine lv S (Ra rfl) rfl ?_;clear S;intro a S
 refine Ld (Tn (Fs (d_region [] ([]) Tryz.mixed S rfl (by kernel_rfl) ?_)));clear S;intro w8 hk8 hsel S
 refine d_quiet 0 S hsel rfl rfl rfl (by kernel_rfl) (by kernel_rfl) rfl (fun _ hw => (rn_fld fa_39_0 (S.tm rfl))) ?_;clear S;intro a S
 refine d_quiet 1 S hsel rfl rfl rfl (by kernel_rfl) (by kernel_rfl) rfl (fun _ hw => (rn_ld Tryz.isAgg3 (off := 0) (o := 0) (S.tm rfl) ((S.blk_mem (i := 1) (cells := (GStep.enc Am)) (b := b1) (T := 39) rfl (ne_nil (e' := .blk b1 (GStep.enc Am) 39))).kept hw) rfl)) ?_;clear S;intro a S
 refine d_quiet 2 S hsel rfl rfl rfl (by kernel_rfl) (by kernel_rfl) rfl (fun _ hw => (rn_fld fa_39_0 (S.tm rfl))) ?_;clear S;intro a S
 refine d_quiet 3 S hsel rfl rfl rfl (by kernel_rfl) (by kernel_rfl) rfl (fun _ hw => (rn_ld Tryz.isAgg3 (off := 0) (o := 0) (S.tm rfl) ((S.blk_mem (i := 0) (cells := (GStep.enc Ar)) (b := b2) (T := 39) rfl (ne_nil (e' := .blk b2 (GStep.enc Ar) 39))).kept hw) rfl)) ?_;clear S;intro a S
 refine d_quiet 5 S hsel rfl rfl rfl (by kernel_rfl) (by kernel_rfl) rfl (fun _ hw => (rn_fld fa_39_2 (S.tm rfl))) ?_;clear S;intro a S
 refine d_quiet 6 S hsel rfl rfl rfl (by kernel_rfl) (by kernel_rfl) rfl (fun _ hw => (rn_ld Tryz.isAgg9 (off := 0) (o := 2) (S.tm rfl) ((S.blk_mem (i := 1) (cells := (GStep.enc Am)) (b := b1) (T := 39) rfl (ne_nil (e' := .blk b1 (GStep.enc Am) 39))).kept hw) rfl)) ?_;clear S;intro a S
 refine d_quiet 7 S hsel rfl rfl rfl (by kernel_rfl) (by kernel_rfl) rfl (fun _ hw => (rn_fld fa_39_2 (S.tm rfl))) ?_;clear S;intro a S
 refine d_quiet 8 S hsel rfl rfl rfl (by kernel_rfl) (by kernel_rfl) rfl (fun _ hw => (rn_ld Tryz.isAgg9 (off := 0) (o := 2) (S.tm rfl) ((S.blk_mem (i := 0) (cells := (GStep.enc Ar)) (b := b2) (T := 39) rfl (ne_nil (e' := .blk b2 (GStep.enc Ar) 39))).kept hw) rfl)) ?_;clear S;intro a S
 refine d_quiet 10 S hsel rfl rfl rfl (by kernel_rfl) (by kernel_rfl) rfl (fun _ hw => (rn_fld fa_39_1 (S.tm rfl))) ?_;clear S;intro a S
 refine d_quiet 11 S hsel rfl rfl rfl (by kernel_rfl) (by kernel_rfl) rfl (fun _ hw => (rn_ld Tryz.isAgg3 (off := 0) (o := 1) (S.tm rfl) ((S.blk_mem (i := 1) (cells := (GStep.enc Am)) (b := b1) (T := 39) rfl (ne_nil (e' := .blk b1 (GStep.enc Am) 39))).kept hw) rfl)) ?_;clear S;intro a S
 refine d_quiet 12 S hsel rfl rfl rfl (by kernel_rfl) (by kernel_rfl) rfl (fun _ hw => (rn_fld fa_39_1 (S.tm rfl))) ?_;clear S;intro a S
 refine d_quiet 13 S hsel rfl rfl rfl (by kernel_rfl) (by kernel_rfl) rfl (fun _ hw => (rn_ld Tryz.isAgg3 (off := 0) (o := 1) (S.tm rfl) ((S.blk_mem (i := 0) (cells := (GStep.enc Ar)) (b := b2) (T := 39) rfl (ne_nil (e' := .blk b2 (GStep.enc Ar) 39))).kept hw) rfl)) ?_;clear S;intro a S
 refine d_loud1 4 (by kernel_rfl) rfl (l_enter S (fun _ => run_call (vs := [iV Am.At, iV Ar.At]) ⟨(S.tm rfl), (S.tm rfl), trivial⟩ Tryz.call83) (cmp_Compare_int_ok _ Am.At Ar.At _ rfl) rfl ?_);clear S;intro v5 a w9 hv5 hk9 hn5 S
 subst hv5
 refine Ld (d_next hk9 (d_loud1 9 (by kernel_rfl) rfl (l_enter S (fun _ => run_call (vs := [sV Am.Id, sV Ar.Id]) ⟨(S.tm rfl), (S.tm rfl), trivial⟩ Tryz.call53) (strings_Compare_ok _ Am.Id Ar.Id _ rfl) rfl ?_)));clear S;intro v6 a w10 hv6 hk10 hn6 S
 subst hv6
 refine Ld (d_next hk10 (d_loud1 14 (by kernel_rfl) rfl (l_enter S (fun _ => run_call (vs := [iV Am.Kind, iV Ar.Kind]) ⟨(S.tm rfl), (S.tm rfl), trivial⟩ Tryz.call83) (cmp_Compare_int_ok _ Am.Kind Ar.Kind _ rfl) rfl ?_)));clear S;intro v7 a w11 hv7 hk11 hn7 S
 subst hv7
 refine Ld (d_next hk11 (d_loud1 15 (by kernel_rfl) rfl (l_buildSlice S Tryz.underlying22 Tryz.sizeOf3 Tryz.zeroValue3 rfl rfl (pv := [(0, iV (cmp_Compare_int Am.At Ar.At)), (1, iV (strings_Compare Am.Id Ar.Id)), (2, iV (cmp_Compare_int Am.Kind Ar.Kind))]) ⟨rfl, (S.tm rfl), rfl, (S.tm rfl), rfl, (S.tm rfl), trivial⟩ (cs := [iV (cmp_Compare_int Am.At Ar.At), iV (strings_Compare Am.Id Ar.Id), iV (cmp_Compare_int Am.Kind Ar.Kind)]) (by kernel_rfl) rfl ?_)));clear S;intro a w12 b4 hz4 hk12 S
 refine Ld (d_next hk12 (d_loud1 16 (by kernel_rfl) rfl (l_enter S (fun _ => run_call (vs := [.slice (some ⟨b4, 0, none⟩) 3 3]) ⟨(S.tm rfl), trivial⟩ Tryz.call82) (cmp_Or_int_ok _ (.slice (some ⟨b4, 0, none⟩) 3 3) [(cmp_Compare_int Am.At Ar.At), (strings_Compare Am.Id Ar.Id), (cmp_Compare_int Am.Kind Ar.Kind)] (lit_slcT enc_int S (i := 0) rfl rfl rfl rfl ((ne_nil (e' := .blk b4 [iV (cmp_Compare_int Am.At Ar.At), iV (strings_Compare Am.Id Ar.Id), iV (cmp_Compare_int Am.Kind Ar.Kind)] 3)) _ rfl)) _ rfl) rfl ?_)));clear S;intro v8 a w13 hv8 hk13 hn8 S
 subst hv8
 refine Ld (d_next hk13 (d_rest [17] hsel (by kernel_rfl) rfl ?_))
 clear hsel
 refine s_lv S rfl (Ra (S.tm rfl)) rfl ?_;clear S;intro a S
 refine s_done ?_
 replace S := S.nk [] [(4, iV (cmp_Or_int [(cmp_Compare_int Am.At Ar.At), (strings_Compare Am.Id Ar.Id), (cmp_Compare_int Am.Kind Ar.Kind)]))] [false, false, false] rfl ⟨rfl, trivial⟩
 refine Tn (wp_ret ?_)
 subst h
 exact f_ret S Tryz.results55 rfl rfl
set_option maxRecDepth 20000 in
theorem record_CheckSteps_ok (w : World) (V : Value) (Ac : List GStep) (Ag : Slc (view w []) 8 V (Ac.map GStep.enc)) (r : Int) (h : record_CheckSteps Ac = some r) :
    Calls Tryz.prog 26 [V].toArray w (Ret w [] fun _ v _ => v = iV r) := by
 refine f_enter [] [] Tryz.func26 rfl Tryz.ntmps26 rfl (by simp) (by simp [fps]) (by simp [fps]) fun a S => ?_
 unfold record_CheckSteps at h
 replace S := S.nk [] [(0, V)] [] rfl ⟨rfl, trivial⟩
 refine Fs (Fg (lv S (Ra rfl) rfl ?_));clear S;intro a S
 refine Ld (Tn (Fs (Fs (Fg (lv S (Rm (S.tm rfl)) rfl ?_)))));clear S;intro a S
 refine lv S (rn_lenT sl_26 (S.tm rfl) (slc_len Ag)) rfl ?_;clear S;intro a S
 refine lv S (rn_gtr (S.tm rfl) rfl) rfl ?_;clear S;intro a S
 refine Ld (Tn (f_cond (S.tm rfl) (fun hb1 => ?_) (fun hb1 => ?_)))
 ·replace h := iteT h hb1
  refine Fs (Fg (lv S (Ra rfl) rfl ?_));clear S;intro a S
  refine Ld (Tn (wp_ret (then_r ?_)))
  obtain rfl := Option.some.inj h
  exact f_ret S Tryz.results26 rfl rfl
 ·replace h := iteF h hb1
  refine wp_skip (Tn (Fs (Fs (Fg (lv S (Rm (S.tm rfl)) rfl ?_)))));clear S;intro a S
  refine lv S (rn_lenT sl_26 (S.tm rfl) (slc_len Ag)) rfl ?_;clear S;intro a S
  refine lv S (Rm rfl) rfl ?_;clear S;intro a S
  refine Ld (Tn ?_)
  replace S := S.nk [] [(0, V), (9, V), (10, iV (Ac.length : Int)), (11, iV 0)] [] rfl (subR rfl)
  obtain ⟨j1, hj1, h⟩ := joinE h
  refine f_join (fun a w' => j1 = some r ∧ Sx w [] nov [] [] 34 a w') ?_ ?_
  ·refine wp_block (f_loop (fun (ys1 : List GStep) a w' => ∃ i1 : Nat, (∃ dn, Ac = dn ++ ys1 ∧ dn.length = i1) ∧ record_CheckSteps_l1 Ac j1 ys1 i1 = some r ∧ Sx w [] nov [] [(0, V), (9, V), (10, iV (Ac.length : Int)), (11, iV (i1 : Int))] 34 a w') List.length Ac ⟨0, ⟨[], rfl, rfl⟩, h, S.nf [] rfl (subR rfl)⟩ ?_)
   clear S h;rintro ys1 a w1 ⟨i1, ⟨dn, hd1, hi1⟩, h, S⟩
   cases ys1 with
   | nil =>
    rw [record_CheckSteps_l1.eq_1] at h
    refine Fs (Fg (lv S (rn_lss (S.tm rfl) (S.tm rfl)) rfl ?_));clear S;intro a S
    refine Ld ?_
    replace S := S.nk [] [(0, V), (9, V), (10, iV (Ac.length : Int)), (11, iV (i1 : Int)), (12, bV (decide ((i1 : Int) < (Ac.length : Int))))] [] rfl (subR rfl)
    refine Tn (Fs (wp_cond_false ((S.tm rfl).trans (congrArg Value.bool (rng_nil hd1 hi1))) (wp_exit (then_x (then_x (x_same ?_))))))
    refine Tn ?_
    exact ⟨h, S.nf [] rfl trivial⟩
   | cons y1 ys1 =>
    rw [record_CheckSteps_l1.eq_2] at h
    refine Fs (Fg (lv S (rn_lss (S.tm rfl) (S.tm rfl)) rfl ?_));clear S;intro a S
    refine Ld ?_
    replace S := S.nk [] [(0, V), (9, V), (10, iV (Ac.length : Int)), (11, iV (i1 : Int)), (12, bV (decide ((i1 : Int) < (Ac.length : Int))))] [] rfl (subR rfl)
    refine Tn (Fs (wp_cond_true ((S.tm rfl).trans (congrArg Value.bool (rng_cons hd1 hi1))) (wp_skip (Tn (Fs (wp_block ?_))))))
    refine Fs (Fg (lv S (Rm (S.tm rfl)) rfl ?_));clear S;intro a S
    obtain ⟨b1, o1, hm1, hr1⟩ := rn_indexT (a := a) (x := .tmp 9) (y := .tmp 11) (ty := 0) sl_26 Ag (get_mid hd1 hi1) rfl (S.tm rfl) (S.tm rfl)
    refine lv S (hr1 _) rfl ?_;clear S;intro a S
    clear hr1
    refine lv S (rn_ldA Tryz.isAgg39 Tryz.sizeOf39 (off := o1) (o := 0) (part := (GStep.enc y1)) rfl rfl (S.tm rfl) (hm1.at S.emb0)) rfl ?_;clear S;intro a S
    refine l_alloc S Tryz.zeroValue39 (cs := [iV 0, iV 0, sV k_empty, sV k_empty, sV k_empty, sV k_empty, iV 0, iV 0]) rfl rfl ?_;clear S;intro a w3 b2 hz1 hk1 S
    refine lv S (Ra (S.tm rfl)) rfl ?_;clear S;intro a S
    refine l_store S (S.tm rfl) (S.tm rfl) (i := 0) (off := 0) rfl Tryz.sizeOf39 (vs := (GStep.enc y1)) rfl rfl rfl rfl ?_;clear S;intro w4 hk2 S
    refine Ld (Tn (Fs (Fs (Fg (lv S (rn_ldA Tryz.isAgg39 Tryz.sizeOf39 (off := 0) (o := 0) (part := (GStep.enc y1)) rfl rfl (S.tm rfl) (S.cellsAt (i := 0) rfl)) rfl ?_)))));clear S;intro a S
    obtain ⟨r1, hr2, h⟩ := bindE h
    refine l_enter S (fun _ => run_call (vs := [.agg (GStep.enc y1).toArray]) ⟨(S.tm rfl), trivial⟩ Tryz.call54) (record_checkStep_ok _ y1 _ hr2) rfl ?_;clear S;intro v1 a w5 hv1 hk3 hn1 S
    subst hv1
    refine lv S (Ra (S.tm rfl)) rfl ?_;clear S;intro a S
    refine Ld (Tn (Fs (Fg (lv S (Rm (S.tm rfl)) rfl ?_))));clear S;intro a S
    refine lv S (rn_neq (S.tm rfl) rfl) rfl ?_;clear S;intro a S
    refine Ld ?_
    replace S := S.nk [.blk b2 (GStep.enc y1) 39] [(0, V), (3, iV (i1 : Int)), (4, .pointer (some ⟨b2, 0, none⟩)), (5, iV r1), (9, V), (10, iV (Ac.length : Int)), (11, iV (i1 : Int)), (19, bV (!decide (r1 = 0)))] [true] rfl (subR rfl)
    refine Tn (f_cond (S.tm rfl) (fun hb2 => ?_) (fun hb2 => ?_))
    ·replace h := iteT h hb2
     refine Fs (Fg (lv S (Rm (S.tm rfl)) rfl ?_));clear S;intro a S
     refine lv S (Ra (S.tm rfl)) rfl ?_;clear S;intro a S
     refine Ld (Tn (wp_ret (then_r (blk_r (then_r (then_r ?_))))))
     refine blk_r (then_r (then_r ?_))
     obtain rfl := Option.some.inj h
     exact f_ret S Tryz.results26 rfl rfl
    ·replace h := iteF h hb2
     refine wp_skip (Tn (Fs ?_))
     obtain ⟨j2, hj2, h⟩ := joinE h
     refine f_join (fun a w' => ∃ x1 : Bool, j2 x1 = some r ∧ Sx w [] nov [] [(0, V), (9, V), (10, iV (Ac.length : Int)), (11, iV (i1 : Int)), (32, bV x1)] 34 a w') ?_ ?_
     ·rcases Bool.eq_false_or_eq_true (decide (0 < (i1 : Int))) with hb3 | hb3
      ·replace h := iteT h hb3
       obtain ⟨hc1, h⟩ := chkE h
       refine d_region [] ([]) Tryz.mixed S rfl (by kernel_rfl) ?_;clear S;intro w8 hk5 hsel S
       refine d_quiet 0 S hsel rfl rfl rfl (by kernel_rfl) (by kernel_rfl) rfl (fun _ hw => (Rm (S.tm rfl))) ?_;clear S;intro a S
       refine d_quiet 1 S hsel rfl rfl rfl (by kernel_rfl) (by kernel_rfl) rfl (fun _ hw => (rn_gtr (S.tm rfl) rfl)) ?_;clear S;intro a S
       refine d_quiet 2 S hsel rfl rfl rfl (by kernel_rfl) (by kernel_rfl) rfl (fun _ hw => (Rm (S.tm rfl))) ?_;clear S;intro a S
       refine d_quiet_g 3 S hsel rfl rfl rfl rfl hb3 rfl rfl (by kernel_rfl) (by kernel_rfl) rfl (fun _ hw => (Rm (S.tm rfl))) ?_;clear S;intro a S
       refine d_quiet_g 4 S hsel rfl rfl rfl rfl hb3 rfl rfl (by kernel_rfl) (by kernel_rfl) rfl (fun _ hw => (Rm (S.tm rfl))) ?_;clear S;intro a S
       refine d_quiet_g 5 S hsel rfl rfl rfl rfl hb3 rfl rfl (by kernel_rfl) (by kernel_rfl) rfl (fun _ hw => (rn_sub (S.tm rfl) rfl)) ?_;clear S;intro a S
       obtain ⟨b4, o3, hm3, hr4⟩ := rn_indexT (a := a) (x := .tmp 24) (y := .tmp 26) (ty := 0) sl_26 (Ag.mono (S.le_arg nil_sub)) (inB_get hc1).1 (inB_get hc1).2 (S.tm rfl) (S.tm rfl)
       refine d_quiet_g 6 S hsel rfl rfl rfl rfl hb3 rfl rfl (by kernel_rfl) (by kernel_rfl) rfl (fun _ hw => hr4 _) ?_;clear S;intro a S
       clear hr4
       refine d_quiet_g 7 S hsel rfl rfl rfl rfl hb3 rfl rfl (by kernel_rfl) (by kernel_rfl) rfl (fun _ hw => (rn_ldA Tryz.isAgg39 Tryz.sizeOf39 (off := o3) (o := 0) (part := (GStep.enc (nth Ac (W ((i1 : Int) - 1))))) rfl rfl (S.tm rfl) (hm3.kept hw))) ?_;clear S;intro a S
       refine d_quiet_g 8 S hsel rfl rfl rfl rfl hb3 rfl rfl (by kernel_rfl) (by kernel_rfl) rfl (fun _ hw => (rn_ldA Tryz.isAgg39 Tryz.sizeOf39 (off := 0) (o := 0) (part := (GStep.enc y1)) rfl rfl (S.tm rfl) ((S.blk_mem (i := 0) (cells := (GStep.enc y1)) (b := b2) (T := 39) rfl (ne_nil (e' := .blk b2 (GStep.enc y1) 39))).kept hw))) ?_;clear S;intro a S
       refine d_loud1 9 (by kernel_rfl) rfl (l_want S rfl rfl rfl hb3 (l_enter S (fun _ => run_call (vs := [.agg (GStep.enc (nth Ac (W ((i1 : Int) - 1)))).toArray, .agg (GStep.enc y1).toArray]) ⟨(S.tm rfl), (S.tm rfl), trivial⟩ Tryz.call55) (record_compare_ok _ (nth Ac (W ((i1 : Int) - 1))) y1 _ rfl) rfl ?_));clear S;intro v3 a w9 hv3 hk6 hn3 S
       subst hv3
       refine Ld (d_next hk6 (d_rest [10, 11] hsel (by kernel_rfl) rfl ?_))
       clear hsel
       refine s_want S rfl rfl rfl rfl hb3 (s_lv0 S (rn_geq (S.tm rfl) rfl) rfl ?_);clear S;intro a S
       refine s_lv S rfl (rn_pick_b hb3 (S.tm rfl) (S.tm rfl)) rfl ?_;clear S;intro a S
       refine s_done ?_
       replace S := S.nk [] [(0, V), (9, V), (10, iV (Ac.length : Int)), (11, iV (i1 : Int)), (24, V), (25, iV (i1 : Int)), (26, iV (W ((i1 : Int) - 1))), (27, .pointer (some ⟨b4, o3, none⟩)), (28, .agg (GStep.enc (nth Ac (W ((i1 : Int) - 1)))).toArray), (29, .agg (GStep.enc y1).toArray), (30, iV (record_compare (nth Ac (W ((i1 : Int) - 1))) y1)), (31, bV (decide (0 ≤ (record_compare (nth Ac (W ((i1 : Int) - 1))) y1)))), (32, bV (decide (0 ≤ (record_compare (nth Ac (W ((i1 : Int) - 1))) y1))))] [false] rfl (subR rfl)
       refine Tn ?_
       exact ⟨decide (0 ≤ (record_compare (nth Ac (W ((i1 : Int) - 1))) y1)), h, S.nf [] rfl (subR rfl)⟩
      ·replace h := iteF h hb3
       refine d_region [] ([]) Tryz.mixed S rfl (by kernel_rfl) ?_;clear S;intro w10 hk7 hsel S
       refine d_rest [0, 1, 2, 3, 4, 5, 6, 7, 8, 9, 10, 11] hsel (by kernel_rfl) rfl ?_
       clear hsel
       refine s_lv S rfl (Rm (S.tm rfl)) rfl ?_;clear S;intro a S
       refine s_lv S rfl (rn_gtr (S.tm rfl) rfl) rfl ?_;clear S;intro a S
       refine s_lv S rfl (Rm (S.tm rfl)) rfl ?_;clear S;intro a S
       iterate 8 (refine s_skip S rfl rfl rfl rfl (neq_f hb3) rfl ?_ rfl;clear S;intro a S)
       refine s_lv S rfl (rn_pick_c hb3 (S.tm rfl) rfl) rfl ?_;clear S;intro a S
       refine s_done ?_
       replace S := S.nk [] [(0, V), (9, V), (10, iV (Ac.length : Int)), (11, iV (i1 : Int)), (32, bV false)] [false] rfl (subR rfl)
       refine Tn ?_
       exact ⟨false, h, S.nf [] rfl (subR rfl)⟩
     clear S h;rintro a w6 ⟨x1, h, S⟩;rw [hj2] at h;clear hj2 j2
     refine Tn (f_cond (S.tm rfl) (fun hb4 => ?_) (fun hb4 => ?_))
     ·replace h := iteT h hb4
      refine Fs (Fg (lv S (Ra rfl) rfl ?_));clear S;intro a S
      refine Ld (Tn (wp_ret (blk_r (then_r (then_r (blk_r ?_))))))
      refine then_r (then_r ?_)
      obtain rfl := Option.some.inj h
      exact f_ret S Tryz.results26 rfl rfl
     ·replace h := iteF h hb4
      refine wp_skip (blk_n (Tn (Fg (lv S (rn_add (S.tm rfl) rfl) rfl ?_))));clear S;intro a S
      refine lv S (Rm (S.tm rfl)) rfl ?_;clear S;intro a S
      refine Ld (Tn ?_)
      exact ⟨ys1, ⟨i1 + 1, ⟨_, (hd1).trans (List.append_cons _ _ _), by simp [hi1]⟩, h, S.nf [] rfl ⟨rfl, rfl, rfl, (congrArg (fun z => some (Value.int .i64 z)) (rng_next hd1 hi1 (slc_max Ag))), trivial⟩⟩, Nat.lt_succ_self _⟩
  clear S h;rintro a w2 ⟨h, S⟩;rw [hj1] at h;clear hj1 j1
  refine Tn (Fs (Fg (lv S (Ra rfl) rfl ?_)));clear S;intro a S
  refine Ld (Tn (wp_ret ?_))
  obtain rfl := Option.some.inj h
  exact f_ret S Tryz.results26 rfl rfl
theorem record_kinds_ok (w : World) (r : (List ByteArray)) (h : record_kinds = r) :
    Calls Tryz.prog 28 [].toArray w (Ret w [] fun τ v _ => OwnV τ 9 1 v r.length (r.flatMap eStr)) := by
 refine f_enter [] [] Tryz.func28 rfl Tryz.ntmps28 rfl (by simp) (by simp [fps]) (by simp [fps]) fun a S => ?_
 unfold record_kinds at h
 replace S := S.nk [] [] [] rfl trivial
 refine Fs (Fg (lv S (Ra rfl) rfl ?_));clear S;intro a S
 refine Ld (Tn (Fs (Fg (l_buildSlice S Tryz.underlying57 Tryz.sizeOf9 Tryz.zeroValue9 rfl rfl (pv := [(0, sV k_swum), (1, sV k_ratified), (2, sV k_void)]) ⟨rfl, rfl, rfl, rfl, rfl, rfl, trivial⟩ (cs := [sV k_swum, sV k_ratified, sV k_void]) (by kernel_rfl) rfl ?_))));clear S;intro a w1 b1 hz1 hk1 S
 refine lv S (Ra (S.tm rfl)) rfl ?_;clear S;intro a S
 refine Ld (Tn (wp_ret ?_))
 replace S := S.litOwn (i := 0) (xs := [k_swum, k_ratified, k_void]) rfl enc_str rfl rfl rfl
 replace S := S.nk [.own (.slice (some ⟨b1, 0, none⟩) 3 3) 9 1 ([k_swum, k_ratified, k_void] : List ByteArray).length (([k_swum, k_ratified, k_void] : List ByteArray).flatMap eStr)] [(0, (.slice (some ⟨b1, 0, none⟩) 3 3)), (1, (.slice (some ⟨b1, 0, none⟩) 3 3))] [] rfl (subR rfl)
 subst h
 exact f_ret S Tryz.results28 rfl (own_retT S (i := 0) rfl rfl)
theorem words_Dash_ok (w : World) (Z : ByteArray) (r : ByteArray) (h : words_Dash Z = r) :
    Calls Tryz.prog 29 [sV Z].toArray w (Ret w [] fun _ v _ => v = sV r) := by
 refine f_enter [] [] Tryz.func29 rfl Tryz.ntmps29 rfl (by simp) (by simp [fps]) (by simp [fps]) fun a S => ?_
 unfold words_Dash at h
 replace S := S.nk [] [(0, sV Z)] [] rfl ⟨rfl, trivial⟩
 refine Fs (Fg (lv S (Ra rfl) rfl ?_));clear S;intro a S
 refine Ld (Tn (Fs (Fs (Fg (lv S (Rm (S.tm rfl)) rfl ?_)))));clear S;intro a S
 refine lv S (rn_seql (S.tm rfl) rfl) rfl ?_;clear S;intro a S
 refine Ld (Tn (f_cond (S.tm rfl) (fun hb1 => ?_) (fun hb1 => ?_)))
 ·replace h := iteT h hb1
  refine Fs (Fg (lv S (Ra rfl) rfl ?_));clear S;intro a S
  refine Ld (Tn (wp_ret (then_r ?_)))
  subst h
  exact f_ret S Tryz.results29 rfl rfl
 ·replace h := iteF h hb1
  refine wp_skip (Tn (Fs (Fg (lv S (Rm (S.tm rfl)) rfl ?_))));clear S;intro a S
  refine lv S (Ra (S.tm rfl)) rfl ?_;clear S;intro a S
  refine Ld (Tn (wp_ret ?_))
  subst h
  exact f_ret S Tryz.results29 rfl rfl
set_option maxRecDepth 20000 in
theorem record_Text_ok (w : World) (V : Value) (Ac : List GStep) (Ag : Slc (view w []) 8 V (Ac.map GStep.enc)) (hg_pow10 : Glob (view w []) 1 pow10Cells) (r : ByteArray × Int) (h : record_Text Ac = some r) :
    Calls Tryz.prog 7 [V].toArray w (Ret w [] fun _ v _ => v = .tuple #[sV r.1, iV r.2]) := by
 refine f_enter [] [] Tryz.func7 rfl Tryz.ntmps7 rfl (by simp) (by simp [fps]) (by simp [fps]) fun a S => ?_
 unfold record_Text at h
 replace S := S.nk [] [(0, V)] [] rfl ⟨rfl, trivial⟩
 refine Fs (Fg (lv S (Ra rfl) rfl ?_));clear S;intro a S
 refine lv S (Ra rfl) rfl ?_;clear S;intro a S
 refine Ld (Tn (Fs (Fs (Fg (lv S (Rm (S.tm rfl)) rfl ?_)))));clear S;intro a S
 obtain ⟨r1, hr1, h⟩ := bindE h
 refine l_enter S (fun _ => run_call (vs := [V]) ⟨(S.tm rfl), trivial⟩ Tryz.call26) (record_CheckSteps_ok _ V Ac (Ag.mono (S.le_arg nil_sub)) _ hr1) rfl ?_;clear S;intro v1 a w1 hv1 hk1 hn1 S
 subst hv1
 refine lv S (Ra (S.tm rfl)) rfl ?_;clear S;intro a S
 refine Ld (Tn (Fs (Fg (lv S (Rm (S.tm rfl)) rfl ?_))));clear S;intro a S
 refine lv S (rn_neq (S.tm rfl) rfl) rfl ?_;clear S;intro a S
 refine Ld (Tn (f_cond (S.tm rfl) (fun hb1 => ?_) (fun hb1 => ?_)))
 ·replace h := iteT h hb1
  refine Fs (Fg (lv S (Rm (S.tm rfl)) rfl ?_));clear S;intro a S
  refine lv S (Ra rfl) rfl ?_;clear S;intro a S
  refine lv S (Ra (S.tm rfl)) rfl ?_;clear S;intro a S
  refine Ld (Tn (wp_ret (then_r ?_)))
  obtain rfl := Option.some.inj h
  exact f_ret2 S Tryz.results7 rfl rfl rfl
 ·replace h := iteF h hb1
  refine wp_skip (Tn (Fs (Fg (l_alloc S Tryz.zeroValue55 (cs := [.pointer none, .slice none 0 0]) rfl rfl ?_))));clear S;intro a w2 b1 hz1 hk2 S
  replace S := S.newB 5
  refine Ld (Tn (Fs (Fs (Fg (lv S (Rm (S.tm rfl)) rfl ?_)))));clear S;intro a S
  refine lv S (rn_lenT sl_26 (S.tm rfl) (slc_len Ag)) rfl ?_;clear S;intro a S
  refine lv S (Rm rfl) rfl ?_;clear S;intro a S
  refine Ld (Tn ?_)
  replace S := S.nk [.ownF (.slice none 0 0) 5 ByteArray.empty.size (Lib.strCells ByteArray.empty), .blk b1 [selfP b1 false, (.slice none 0 0)] 55] [(5, .pointer (some ⟨b1, 0, none⟩)), (14, V), (15, iV (Ac.length : Int)), (16, iV 0)] [true, true] rfl (subR rfl)
  obtain ⟨j1, hj1, h⟩ := joinE h
  refine f_join (fun a w' => ∃ x1 : ByteArray, ∃ x2 : Bool, ∃ v2 : Value, j1 x1 x2 = some r ∧ Sx w [] nov [.ownF v2 5 x1.size (Lib.strCells x1), .blk b1 [selfP b1 x2, v2] 55] [(5, .pointer (some ⟨b1, 0, none⟩))] 59 a w') ?_ ?_
  ·refine wp_block (f_loop (fun (ys1 : List GStep) a w' => ∃ i1 : Nat, ∃ x1 : ByteArray, ∃ x2 : Bool, ∃ v2 : Value, (∃ dn, Ac = dn ++ ys1 ∧ dn.length = i1) ∧ record_Text_l1 j1 ys1 i1 x1 x2 = some r ∧ Sx w [] nov [.ownF v2 5 x1.size (Lib.strCells x1), .blk b1 [selfP b1 x2, v2] 55] [(5, .pointer (some ⟨b1, 0, none⟩)), (14, V), (15, iV (Ac.length : Int)), (16, iV (i1 : Int))] 59 a w') List.length Ac ⟨0, ByteArray.empty, false, (.slice none 0 0), ⟨[], rfl, rfl⟩, h, S.nf [true, true] rfl (subR rfl)⟩ ?_)
   clear S h;rintro ys1 a w3 ⟨i1, x1, x2, v2, ⟨dn, hd1, hi1⟩, h, S⟩
   cases ys1 with
   | nil =>
    rw [record_Text_l1.eq_1] at h
    refine Fs (Fg (lv S (rn_lss (S.tm rfl) (S.tm rfl)) rfl ?_));clear S;intro a S
    refine Ld ?_
    replace S := S.nk [.ownF v2 5 x1.size (Lib.strCells x1), .blk b1 [selfP b1 x2, v2] 55] [(5, .pointer (some ⟨b1, 0, none⟩)), (14, V), (15, iV (Ac.length : Int)), (16, iV (i1 : Int)), (17, bV (decide ((i1 : Int) < (Ac.length : Int))))] [true, true] rfl (subR rfl)
    refine Tn (Fs (wp_cond_false ((S.tm rfl).trans (congrArg Value.bool (rng_nil hd1 hi1))) (wp_exit (then_x (then_x (x_same ?_))))))
    refine Tn ?_
    exact ⟨x1, x2, v2, h, S.nf [true, true] rfl ⟨rfl, trivial⟩⟩
   | cons y1 ys1 =>
    rw [record_Text_l1.eq_2] at h
    refine Fs (Fg (lv S (rn_lss (S.tm rfl) (S.tm rfl)) rfl ?_));clear S;intro a S
    refine Ld ?_
    replace S := S.nk [.ownF v2 5 x1.size (Lib.strCells x1), .blk b1 [selfP b1 x2, v2] 55] [(5, .pointer (some ⟨b1, 0, none⟩)), (14, V), (15, iV (Ac.length : Int)), (16, iV (i1 : Int)), (17, bV (decide ((i1 : Int) < (Ac.length : Int))))] [true, true] rfl (subR rfl)
    refine Tn (Fs (wp_cond_true ((S.tm rfl).trans (congrArg Value.bool (rng_cons hd1 hi1))) (wp_skip (Tn (Fs (wp_block ?_))))))
    refine Fs (Fg ?_)
    obtain ⟨b2, o1, hm1, hr2⟩ := rn_indexT (a := a) (x := .tmp 14) (y := .tmp 16) (ty := 0) sl_26 Ag (get_mid hd1 hi1) rfl (S.tm rfl) (S.tm rfl)
    refine lv S (hr2 _) rfl ?_;clear S;intro a S
    clear hr2
    refine lv S (rn_ldA Tryz.isAgg39 Tryz.sizeOf39 (off := o1) (o := 0) (part := (GStep.enc y1)) rfl rfl (S.tm rfl) (hm1.at S.emb0)) rfl ?_;clear S;intro a S
    refine l_alloc S Tryz.zeroValue39 (cs := [iV 0, iV 0, sV k_empty, sV k_empty, sV k_empty, sV k_empty, iV 0, iV 0]) rfl rfl ?_;clear S;intro a w5 b3 hz2 hk3 S
    refine l_store S (S.tm rfl) (S.tm rfl) (i := 0) (off := 0) rfl Tryz.sizeOf39 (vs := (GStep.enc y1)) rfl rfl rfl rfl ?_;clear S;intro w6 hk4 S
    refine Ld (Tn (Fs ?_))
    obtain ⟨r2, hr3, h⟩ := bindE h
    obtain ⟨hc1, h⟩ := chkE h
    refine d_region [] ([]) Tryz.mixed S rfl (by kernel_rfl) ?_;clear S;intro w10 hk8 hsel S
    refine d_quiet 0 S hsel rfl rfl rfl (by kernel_rfl) (by kernel_rfl) rfl (fun _ hw => (rn_fld fa_39_0 (S.tm rfl))) ?_;clear S;intro a S
    refine d_quiet 1 S hsel rfl rfl rfl (by kernel_rfl) (by kernel_rfl) rfl (fun _ hw => (rn_ld Tryz.isAgg3 (off := 0) (o := 0) (S.tm rfl) ((S.blk_mem (i := 0) (cells := (GStep.enc y1)) (b := b3) (T := 39) rfl (ne_nil (e' := .blk b3 (GStep.enc y1) 39))).kept hw) rfl)) ?_;clear S;intro a S
    refine d_quiet 4 S hsel rfl rfl rfl (by kernel_rfl) (by kernel_rfl) rfl (fun _ hw => (rn_fld fa_39_1 (S.tm rfl))) ?_;clear S;intro a S
    refine d_quiet 5 S hsel rfl rfl rfl (by kernel_rfl) (by kernel_rfl) rfl (fun _ hw => (rn_ld Tryz.isAgg3 (off := 0) (o := 1) (S.tm rfl) ((S.blk_mem (i := 0) (cells := (GStep.enc y1)) (b := b3) (T := 39) rfl (ne_nil (e' := .blk b3 (GStep.enc y1) 39))).kept hw) rfl)) ?_;clear S;intro a S
    refine d_quiet 6 S hsel rfl rfl rfl (by kernel_rfl) (by kernel_rfl) rfl (fun _ hw => (rn_sub (S.tm rfl) rfl)) ?_;clear S;intro a S
    refine d_quiet 9 S hsel rfl rfl rfl (by kernel_rfl) (by kernel_rfl) rfl (fun _ hw => (rn_fld fa_39_2 (S.tm rfl))) ?_;clear S;intro a S
    refine d_quiet 10 S hsel rfl rfl rfl (by kernel_rfl) (by kernel_rfl) rfl (fun _ hw => (rn_ld Tryz.isAgg9 (off := 0) (o := 2) (S.tm rfl) ((S.blk_mem (i := 0) (cells := (GStep.enc y1)) (b := b3) (T := 39) rfl (ne_nil (e' := .blk b3 (GStep.enc y1) 39))).kept hw) rfl)) ?_;clear S;intro a S
    refine d_loud1 2 (by kernel_rfl) rfl (l_enter S (fun _ => run_call (vs := [iV y1.At]) ⟨(S.tm rfl), trivial⟩ Tryz.call27) (strconv_Itoa_ok _ y1.At (hg_pow10.mono (S.le_arg nil_sub)) _ hr3) rfl ?_);clear S;intro v5 a w11 hv4 hk9 hn4 S
    subst hv4
    refine Ld (d_next hk9 (d_loud1 3 (by kernel_rfl) rfl ?_))
    have hz5 := S.keep.size
    refine l_enter S (fun _ => run_call (vs := []) trivial Tryz.call28) (record_kinds_ok _ _ rfl) rfl ?_;clear S;intro v6 a w12 hv5 hk10 hn5 S
    replace S := S.take hn5 hz5 hv5
    refine Ld (d_next hk10 ?_)
    obtain ⟨b6, hg2, hr5⟩ := rn_indexS (a := a) (x := .tmp 23) (y := .tmp 26) (ty := 0) sl_57 enc_str S (i := 0) rfl (inB_get hc1).1 (inB_get hc1).2 (S.tm rfl) (S.tm rfl)
    refine d_quiet 7 S hsel rfl rfl rfl (by kernel_rfl) (by kernel_rfl) rfl (fun _ hw => (hr5 _)) ?_;clear S;intro a S
    clear hr5
    refine d_quiet 8 S hsel rfl rfl rfl (by kernel_rfl) (by kernel_rfl) rfl (fun _ hw => (rn_ld Tryz.isAgg9 (off := ((W (y1.Kind - 1)).toNat) * 1) (o := 0) (S.tm rfl) ((own_mem enc_str S (i := 0) rfl hg2 (inB_get hc1).1 (ne_nil (e' := .own v6 9 1 record_kinds.length (record_kinds.flatMap eStr)))).kept hw) rfl)) ?_;clear S;intro a S
    refine d_loud1 11 (by kernel_rfl) rfl (l_buildSlice S Tryz.underlying57 Tryz.sizeOf9 Tryz.zeroValue9 rfl rfl (pv := [(0, sV r2), (1, sV (nth record_kinds (W (y1.Kind - 1)))), (2, sV y1.Id)]) ⟨rfl, (S.tm rfl), rfl, (S.tm rfl), rfl, (S.tm rfl), trivial⟩ (cs := [sV r2, sV (nth record_kinds (W (y1.Kind - 1))), sV y1.Id]) (by kernel_rfl) rfl ?_);clear S;intro a w13 b7 hz6 hk11 S
    refine Ld (d_next hk11 (d_rest [12] hsel (by kernel_rfl) rfl ?_))
    clear hsel
    refine s_lv S rfl (Ra (S.tm rfl)) rfl ?_;clear S;intro a S
    replace S := S.litOwn (i := 0) (xs := [r2, (nth record_kinds (W (y1.Kind - 1))), y1.Id]) rfl enc_str rfl rfl rfl
    replace S := S.nk [.own (.slice (some ⟨b7, 0, none⟩) 3 3) 9 1 ([r2, (nth record_kinds (W (y1.Kind - 1))), y1.Id] : List ByteArray).length (([r2, (nth record_kinds (W (y1.Kind - 1))), y1.Id] : List ByteArray).flatMap eStr), .own v6 9 1 record_kinds.length (record_kinds.flatMap eStr), .blk b3 (GStep.enc y1) 39, .ownF v2 5 x1.size (Lib.strCells x1), .blk b1 [selfP b1 x2, v2] 55] [(5, .pointer (some ⟨b1, 0, none⟩)), (7, .pointer (some ⟨b3, 0, none⟩)), (8, (.slice (some ⟨b7, 0, none⟩) 3 3)), (14, V), (15, iV (Ac.length : Int)), (16, iV (i1 : Int)), (17, bV (decide ((i1 : Int) < (Ac.length : Int)))), (18, .pointer (some ⟨b2, o1, none⟩)), (19, .agg (GStep.enc y1).toArray), (20, .pointer (some ⟨b3, 0, none⟩)), (21, iV y1.At), (22, sV r2), (23, v6), (24, .pointer (some ⟨b3, 1, none⟩)), (25, iV y1.Kind), (26, iV (W (y1.Kind - 1))), (27, .pointer (some ⟨b6, ((W (y1.Kind - 1)).toNat) * 1, none⟩)), (28, sV (nth record_kinds (W (y1.Kind - 1)))), (29, .pointer (some ⟨b3, 2, none⟩)), (30, sV y1.Id), (31, (.slice (some ⟨b7, 0, none⟩) 3 3))] [] rfl (subR rfl)
    refine s_done ?_
    replace S := S.nk [.own (.slice (some ⟨b7, 0, none⟩) 3 3) 9 1 ([r2, (nth record_kinds (W (y1.Kind - 1))), y1.Id] : List ByteArray).length (([r2, (nth record_kinds (W (y1.Kind - 1))), y1.Id] : List ByteArray).flatMap eStr), .blk b3 (GStep.enc y1) 39, .ownF v2 5 x1.size (Lib.strCells x1), .blk b1 [selfP b1 x2, v2] 55] [(5, .pointer (some ⟨b1, 0, none⟩)), (7, .pointer (some ⟨b3, 0, none⟩)), (8, (.slice (some ⟨b7, 0, none⟩) 3 3)), (14, V), (15, iV (Ac.length : Int)), (16, iV (i1 : Int))] [true, false, true, true, true] rfl (subR rfl)
    refine Tn (Fs (Fs (Fg (lv S (rn_fld fa_39_1 (S.tm rfl)) rfl ?_))));clear S;intro a S
    refine lv S (rn_load Tryz.isAgg3 (S.tm rfl) (S.cell (i := 1) rfl rfl)) rfl ?_;clear S;intro a S
    refine lv S (rn_eql (S.tm rfl) rfl) rfl ?_;clear S;intro a S
    refine Ld (Tn ?_)
    obtain ⟨j2, hj2, h⟩ := joinE h
    refine f_join (fun a w' => ∃ x3 : List ByteArray, ∃ v7 : Value, j2 x3 = some r ∧ Sx w [] nov [.own v7 9 1 x3.length (x3.flatMap eStr), .ownF v2 5 x1.size (Lib.strCells x1), .blk b1 [selfP b1 x2, v2] 55] [(5, .pointer (some ⟨b1, 0, none⟩)), (8, v7), (14, V), (15, iV (Ac.length : Int)), (16, iV (i1 : Int))] 59 a w') ?_ ?_
    ·refine f_cond (S.tm rfl) (fun hb2 => ?_) (fun hb2 => ?_)
     ·replace h := iteT h hb2
      obtain ⟨r3, hr6, h⟩ := bindE h
      obtain ⟨r4, hr7, h⟩ := bindE h
      obtain ⟨hc2, h⟩ := chkE h
      refine d_region [] ((Value.ownBlock (.slice (some ⟨b7, 0, none⟩) 3 3)).toList) Tryz.mixed S rfl (by kernel_rfl) ?_;clear S;intro w20 hk17 hsel S
      refine d_quiet 0 S hsel rfl rfl rfl (by kernel_rfl) (by kernel_rfl) rfl (fun _ hw => (Rm (S.tm rfl))) ?_;clear S;intro a S
      refine d_quiet 1 S hsel rfl rfl rfl (by kernel_rfl) (by kernel_rfl) rfl (fun _ hw => (rn_fld fa_39_3 (S.tm rfl))) ?_;clear S;intro a S
      refine d_quiet 2 S hsel rfl rfl rfl (by kernel_rfl) (by kernel_rfl) rfl (fun _ hw => (rn_ld Tryz.isAgg9 (off := 0) (o := 3) (S.tm rfl) ((S.blk_mem (i := 1) (cells := (GStep.enc y1)) (b := b3) (T := 39) rfl (ne_fp (i := 0) (j := 1) (e := .own (.slice (some ⟨b7, 0, none⟩) 3 3) 9 1 ([r2, (nth record_kinds (W (y1.Kind - 1))), y1.Id] : List ByteArray).length (([r2, (nth record_kinds (W (y1.Kind - 1))), y1.Id] : List ByteArray).flatMap eStr)) (e' := .blk b3 (GStep.enc y1) 39) S rfl rfl rfl)).kept hw) rfl)) ?_;clear S;intro a S
      refine d_quiet 3 S hsel rfl rfl rfl (by kernel_rfl) (by kernel_rfl) rfl (fun _ hw => (rn_fld fa_39_4 (S.tm rfl))) ?_;clear S;intro a S
      refine d_quiet 4 S hsel rfl rfl rfl (by kernel_rfl) (by kernel_rfl) rfl (fun _ hw => (rn_ld Tryz.isAgg9 (off := 0) (o := 4) (S.tm rfl) ((S.blk_mem (i := 1) (cells := (GStep.enc y1)) (b := b3) (T := 39) rfl (ne_fp (i := 0) (j := 1) (e := .own (.slice (some ⟨b7, 0, none⟩) 3 3) 9 1 ([r2, (nth record_kinds (W (y1.Kind - 1))), y1.Id] : List ByteArray).length (([r2, (nth record_kinds (W (y1.Kind - 1))), y1.Id] : List ByteArray).flatMap eStr)) (e' := .blk b3 (GStep.enc y1) 39) S rfl rfl rfl)).kept hw) rfl)) ?_;clear S;intro a S
      refine d_quiet 6 S hsel rfl rfl rfl (by kernel_rfl) (by kernel_rfl) rfl (fun _ hw => (rn_fld fa_39_5 (S.tm rfl))) ?_;clear S;intro a S
      refine d_quiet 7 S hsel rfl rfl rfl (by kernel_rfl) (by kernel_rfl) rfl (fun _ hw => (rn_ld Tryz.isAgg9 (off := 0) (o := 5) (S.tm rfl) ((S.blk_mem (i := 1) (cells := (GStep.enc y1)) (b := b3) (T := 39) rfl (ne_fp (i := 0) (j := 1) (e := .own (.slice (some ⟨b7, 0, none⟩) 3 3) 9 1 ([r2, (nth record_kinds (W (y1.Kind - 1))), y1.Id] : List ByteArray).length (([r2, (nth record_kinds (W (y1.Kind - 1))), y1.Id] : List ByteArray).flatMap eStr)) (e' := .blk b3 (GStep.enc y1) 39) S rfl rfl rfl)).kept hw) rfl)) ?_;clear S;intro a S
      refine d_quiet 8 S hsel rfl rfl rfl (by kernel_rfl) (by kernel_rfl) rfl (fun _ hw => (rn_fld fa_39_6 (S.tm rfl))) ?_;clear S;intro a S
      refine d_quiet 9 S hsel rfl rfl rfl (by kernel_rfl) (by kernel_rfl) rfl (fun _ hw => (rn_ld Tryz.isAgg3 (off := 0) (o := 6) (S.tm rfl) ((S.blk_mem (i := 1) (cells := (GStep.enc y1)) (b := b3) (T := 39) rfl (ne_fp (i := 0) (j := 1) (e := .own (.slice (some ⟨b7, 0, none⟩) 3 3) 9 1 ([r2, (nth record_kinds (W (y1.Kind - 1))), y1.Id] : List ByteArray).length (([r2, (nth record_kinds (W (y1.Kind - 1))), y1.Id] : List ByteArray).flatMap eStr)) (e' := .blk b3 (GStep.enc y1) 39) S rfl rfl rfl)).kept hw) rfl)) ?_;clear S;intro a S
      refine d_quiet 11 S hsel rfl rfl rfl (by kernel_rfl) (by kernel_rfl) rfl (fun _ hw => (rn_fld fa_39_7 (S.tm rfl))) ?_;clear S;intro a S
      refine d_quiet 12 S hsel rfl rfl rfl (by kernel_rfl) (by kernel_rfl) rfl (fun _ hw => (rn_ld Tryz.isAgg3 (off := 0) (o := 7) (S.tm rfl) ((S.blk_mem (i := 1) (cells := (GStep.enc y1)) (b := b3) (T := 39) rfl (ne_fp (i := 0) (j := 1) (e := .own (.slice (some ⟨b7, 0, none⟩) 3 3) 9 1 ([r2, (nth record_kinds (W (y1.Kind - 1))), y1.Id] : List ByteArray).length (([r2, (nth record_kinds (W (y1.Kind - 1))), y1.Id] : List ByteArray).flatMap eStr)) (e' := .blk b3 (GStep.enc y1) 39) S rfl rfl rfl)).kept hw) rfl)) ?_;clear S;intro a S
      refine d_loud1 5 (by kernel_rfl) rfl (l_enter S (fun _ => run_call (vs := [sV y1.Club]) ⟨(S.tm rfl), trivial⟩ Tryz.call29) (words_Dash_ok _ y1.Club _ rfl) rfl ?_);clear S;intro v12 a w21 hv9 hk18 hn9 S
      subst hv9
      refine Ld (d_next (Keep.none hk18) (d_loud1 10 (by kernel_rfl) rfl (l_enter S (fun _ => run_call (vs := [iV y1.Age]) ⟨(S.tm rfl), trivial⟩ Tryz.call27) (strconv_Itoa_ok _ y1.Age (hg_pow10.mono (S.le_arg nil_sub)) _ hr6) rfl ?_)));clear S;intro v13 a w22 hv10 hk19 hn10 S
      subst hv10
      refine Ld (d_next (Keep.none hk19) (d_loud1 13 (by kernel_rfl) rfl (l_enter S (fun _ => run_call (vs := [iV y1.Time]) ⟨(S.tm rfl), trivial⟩ Tryz.call27) (strconv_Itoa_ok _ y1.Time (hg_pow10.mono (S.le_arg nil_sub)) _ hr7) rfl ?_)));clear S;intro v14 a w23 hv11 hk20 hn11 S
      subst hv11
      refine Ld (d_next (Keep.none hk20) (d_loud1 14 (by kernel_rfl) rfl (l_buildSlice S Tryz.underlying57 Tryz.sizeOf9 Tryz.zeroValue9 rfl rfl (pv := [(0, sV y1.Who), (1, sV (words_Dash y1.Club)), (2, sV y1.Race), (3, sV r3), (4, sV r4)]) ⟨rfl, (S.tm rfl), rfl, (S.tm rfl), rfl, (S.tm rfl), rfl, (S.tm rfl), rfl, (S.tm rfl), trivial⟩ (cs := [sV y1.Who, sV (words_Dash y1.Club), sV y1.Race, sV r3, sV r4]) (by kernel_rfl) rfl ?_)));clear S;intro a w24 b9 hz8 hk21 S
      refine Ld (d_next (Keep.none hk21) (d_loud1 15 (by kernel_rfl) rfl ?_))
      refine l_appendT sl_57 enc_str S (S.tm rfl) (i := 1) rfl (S.tm rfl) (j := 0) rfl (ys := [y1.Who, (words_Dash y1.Club), y1.Race, r3, r4]) rfl rfl rfl rfl (by have := room_lt hc2;omega) rfl ?_;clear S;intro v15 a w25 hk22 S
      refine Ld (d_next hk22 (d_rest [16] hsel (by kernel_rfl) rfl ?_))
      clear hsel
      refine s_lv S rfl (Ra (S.tm rfl)) rfl ?_;clear S;intro a S
      refine s_done ?_
      replace S := S.nk [.own v15 9 1 (([r2, (nth record_kinds (W (y1.Kind - 1))), y1.Id] : List ByteArray) ++ [y1.Who, (words_Dash y1.Club), y1.Race, r3, r4]).length ((([r2, (nth record_kinds (W (y1.Kind - 1))), y1.Id] : List ByteArray) ++ [y1.Who, (words_Dash y1.Club), y1.Race, r3, r4]).flatMap eStr), .ownF v2 5 x1.size (Lib.strCells x1), .blk b1 [selfP b1 x2, v2] 55] [(5, .pointer (some ⟨b1, 0, none⟩)), (8, v15), (14, V), (15, iV (Ac.length : Int)), (16, iV (i1 : Int))] [false, true, false, true, true] rfl (subR rfl)
      refine Tn ?_
      exact ⟨(([r2, (nth record_kinds (W (y1.Kind - 1))), y1.Id] : List ByteArray) ++ [y1.Who, (words_Dash y1.Club), y1.Race, r3, r4]), v15, h, S.nf [true, true, true] rfl (subR rfl)⟩
     ·replace h := iteF h hb2
      refine wp_skip (Tn ?_)
      exact ⟨([r2, (nth record_kinds (W (y1.Kind - 1))), y1.Id] : List ByteArray), (.slice (some ⟨b7, 0, none⟩) 3 3), h, S.nf [true, false, true, true] rfl (subR rfl)⟩
    clear S h;rintro a w14 ⟨x3, v7, h, S⟩;rw [hj2] at h;clear hj2 j2
    refine Tn (Fg (lv S (Rm (S.tm rfl)) rfl ?_));clear S;intro a S
    obtain ⟨r5, hr8, h⟩ := bindE h
    refine l_enter S (fun _ => run_call (vs := [v7, sV k__20]) ⟨(S.tm rfl), rfl, trivial⟩ Tryz.call31) (strings_Join_ok _ v7 x3 (own_slcT enc_str S (i := 0) rfl (ne_nil (e' := .own v7 9 1 x3.length (x3.flatMap eStr)))) k__20 _ hr8) rfl ?_;clear S;intro v16 a w26 hv12 hk23 hn12 S
    subst hv12
    obtain ⟨hc3, h⟩ := chkE h
    refine lv S (rn_sadd (m := r5) (n := k__0a) (S.tm rfl) rfl (by have := room_lt hc3;omega)) rfl ?_;clear S;intro a S
    obtain ⟨hc4, h⟩ := chkE h
    refine l_bwrite (b := b1) (dd := x2) (v := v2) (x := x1) (s := r5 ++ k__0a) (Lr := [.own v7 9 1 x3.length (x3.flatMap eStr)]) Tryz.lays166 Tryz.bx166 [2, 1] [0] S rfl rfl rfl rfl rfl (fun _ => run_call (vs := [.pointer (some ⟨b1, 0, none⟩), sV (r5 ++ k__0a)]) ⟨(S.tm rfl), (S.tm rfl), trivial⟩ Tryz.call30) rfl hc4 ?_;clear S;intro v17 a w27 S
    refine Ld (blk_n (Tn (Fg (lv S (rn_add (S.tm rfl) rfl) rfl ?_))));clear S;intro a S
    refine lv S (Rm (S.tm rfl)) rfl ?_;clear S;intro a S
    refine Ld (Tn ?_)
    exact ⟨ys1, ⟨i1 + 1, (x1 ++ (r5 ++ k__0a)), true, v17, ⟨_, (hd1).trans (List.append_cons _ _ _), by simp [hi1]⟩, h, S.pn [1, 0] [2] rfl rfl ⟨rfl, rfl, rfl, (congrArg (fun z => some (Value.int .i64 z)) (rng_next hd1 hi1 (slc_max Ag))), trivial⟩⟩, Nat.lt_succ_self _⟩
  clear S h;rintro a w4 ⟨x1, x2, v2, h, S⟩;rw [hj1] at h;clear hj1 j1
  refine Tn (Fs (Fs (Fg (l_blen (b := b1) (dd := x2) (v := v2) (x := x1) (Lr := []) Tryz.lays170 [1, 0] [] S rfl rfl rfl rfl rfl (fun _ => run_call (vs := [.pointer (some ⟨b1, 0, none⟩)]) ⟨(S.tm rfl), trivial⟩ Tryz.call32) rfl ?_))));clear S;intro a S
  refine lv S (rn_gtr (S.tm rfl) rfl) rfl ?_;clear S;intro a S
  refine Ld (Tn (f_cond (S.tm rfl) (fun hb3 => ?_) (fun hb3 => ?_)))
  ·replace h := iteT h hb3
   refine Fs (Fg (lv S (Ra rfl) rfl ?_));clear S;intro a S
   refine lv S (Ra rfl) rfl ?_;clear S;intro a S
   refine Ld (Tn (wp_ret (then_r ?_)))
   obtain rfl := Option.some.inj h
   exact f_ret2 S Tryz.results7 rfl rfl rfl
  ·replace h := iteF h hb3
   refine wp_skip (Tn (Fs (Fg (l_bstr (b := b1) (dd := x2) (v := v2) (x := x1) (Lr := []) Tryz.lays169 Tryz.bx169 [1, 0] [] S rfl rfl rfl rfl (fun _ => run_call (vs := [.pointer (some ⟨b1, 0, none⟩)]) ⟨(S.tm rfl), trivial⟩ Tryz.call33) rfl ?_))));clear S;intro a w28 S
   refine lv S (Ra (S.tm rfl)) rfl ?_;clear S;intro a S
   refine lv S (Ra rfl) rfl ?_;clear S;intro a S
   refine Ld (Tn (wp_ret ?_))
   obtain rfl := Option.some.inj h
   exact f_ret2 S Tryz.results7 rfl rfl rfl
theorem strings_Cut_ok (w : World) (s : ByteArray) (sep : ByteArray) (hg_maxlen : GlobI (view w []) 0) (r : ByteArray × ByteArray × Bool) (h : strings_Cut s sep = some r) : Calls Tryz.prog 62 [sV s, sV sep].toArray w (Ret w [] fun _ v _ => v = .tuple #[.string r.1, .string r.2.1, .bool r.2.2]) := by
  unfold strings_Cut at h
  obtain ⟨hc, h⟩ := chkE h
  simp only [Bool.and_eq_true, decide_eq_true_eq] at hc
  obtain rfl := Option.some.inj h
  exact cut_ret { Tryz.lays145 with } s sep w hg_maxlen hc
theorem strings_Split_ok (w : World) (s : ByteArray) (sep : ByteArray) (hg_maxlen : GlobI (view w []) 0) (r : (List ByteArray)) (h : strings_Split s sep = some r) : Calls Tryz.prog 67 [sV s, sV sep].toArray w (Ret w [] fun τ v _ => OwnV τ 9 1 v r.length (r.flatMap eStr)) := by
  unfold strings_Split at h
  obtain ⟨hc, h⟩ := chkE h
  simp only [Bool.and_eq_true, decide_eq_true_eq] at hc
  obtain rfl := Option.some.inj h
  exact split_ret { Tryz.lays146 with } (by kernel_rfl) s sep w hg_maxlen hc.1 hc.2
theorem words_Split_ok (w : World) (Av : ByteArray) (hg_maxlen : GlobI (view w []) 0) (r : (List ByteArray) × Bool) (h : words_Split Av = some r) :
    Calls Tryz.prog 63 [sV Av].toArray w (Ret w [] fun τ v _ => ∃ u1 : Value, v = .tuple #[u1, bV r.2] ∧ OwnV τ 9 1 u1 r.1.length (r.1.flatMap eStr)) := by
 refine f_enter [] [] Tryz.func63 rfl Tryz.ntmps63 rfl (by simp) (by simp [fps]) (by simp [fps]) fun a S => ?_
 unfold words_Split at h
 replace S := S.nk [] [(0, sV Av)] [] rfl ⟨rfl, trivial⟩
 refine Fs (Fg (lv S (Ra rfl) rfl ?_));clear S;intro a S
 refine lv S (Ra rfl) rfl ?_;clear S;intro a S
 refine Ld (Tn (Fs (Fg (lv S (Rm (S.tm rfl)) rfl ?_))));clear S;intro a S
 obtain ⟨r1, hr1, h⟩ := bindE h
 have hz1 := S.keep.size
 refine l_enter S (fun _ => run_call (vs := [sV Av, sV k__20]) ⟨(S.tm rfl), rfl, trivial⟩ Tryz.call67) (strings_Split_ok _ Av k__20 (hg_maxlen.mono (S.le_arg nil_sub)) _ hr1) rfl ?_;clear S;intro v1 a w1 hv1 hk1 hn1 S
 obtain ⟨φ1, hl1, hm1, S⟩ := S.see' hn1 hz1
 have hs1 := hv1.mono hm1
 refine lv S (Ra (S.tm rfl)) rfl ?_;clear S;intro a S
 refine Ld (Tn (Fs (Fs (Fg (lv S (Rm (S.tm rfl)) rfl ?_)))));clear S;intro a S
 refine lv S (rn_lenT sl_57 (S.tm rfl) (slc_len (ownV_slcT enc_str hs1))) rfl ?_;clear S;intro a S
 refine lv S (Rm rfl) rfl ?_;clear S;intro a S
 refine Ld (Tn ?_)
 replace S := S.nk [] [(4, v1), (9, v1), (10, iV (r1.length : Int)), (11, iV 0)] [] rfl (subR rfl)
 obtain ⟨j1, hj1, h⟩ := joinE h
 refine f_join (fun a w' => j1 = some r ∧ Sx w [] φ1 [] [(4, v1)] 19 a w') ?_ ?_
 ·refine wp_block (f_loop (fun (ys1 : List ByteArray) a w' => ∃ i1 : Nat, (∃ dn, r1 = dn ++ ys1 ∧ dn.length = i1) ∧ words_Split_l1 j1 ys1 i1 = some r ∧ Sx w [] φ1 [] [(4, v1), (9, v1), (10, iV (r1.length : Int)), (11, iV (i1 : Int))] 19 a w') List.length r1 ⟨0, ⟨[], rfl, rfl⟩, h, S.nf [] rfl (subR rfl)⟩ ?_)
  clear S h;rintro ys1 a w2 ⟨i1, ⟨dn, hd1, hi1⟩, h, S⟩
  cases ys1 with
  | nil =>
   rw [words_Split_l1.eq_1] at h
   refine Fs (Fg (lv S (rn_lss (S.tm rfl) (S.tm rfl)) rfl ?_));clear S;intro a S
   refine Ld ?_
   replace S := S.nk [] [(4, v1), (9, v1), (10, iV (r1.length : Int)), (11, iV (i1 : Int)), (12, bV (decide ((i1 : Int) < (r1.length : Int))))] [] rfl (subR rfl)
   refine Tn (Fs (wp_cond_false ((S.tm rfl).trans (congrArg Value.bool (rng_nil hd1 hi1))) (wp_exit (then_x (then_x (x_same ?_))))))
   refine Tn ?_
   exact ⟨h, S.nf [] rfl ⟨rfl, trivial⟩⟩
  | cons y1 ys1 =>
   rw [words_Split_l1.eq_2] at h
   refine Fs (Fg (lv S (rn_lss (S.tm rfl) (S.tm rfl)) rfl ?_));clear S;intro a S
   refine Ld ?_
   replace S := S.nk [] [(4, v1), (9, v1), (10, iV (r1.length : Int)), (11, iV (i1 : Int)), (12, bV (decide ((i1 : Int) < (r1.length : Int))))] [] rfl (subR rfl)
   refine Tn (Fs (wp_cond_true ((S.tm rfl).trans (congrArg Value.bool (rng_cons hd1 hi1))) (wp_skip (Tn (Fs (wp_block ?_))))))
   refine Fs (Fg ?_)
   obtain ⟨b1, o1, hm2, hr2⟩ := rn_indexT (a := a) (x := .tmp 9) (y := .tmp 11) (ty := 0) sl_57 (ownV_slcT enc_str hs1) (get_mid hd1 hi1) rfl (S.tm rfl) (S.tm rfl)
   refine lv S (hr2 _) rfl ?_;clear S;intro a S
   clear hr2
   refine lv S (rn_ld Tryz.isAgg9 (off := o1) (o := 0) (S.tm rfl) (hm2.at S.emb) rfl) rfl ?_;clear S;intro a S
   refine lv S (Ra (S.tm rfl)) rfl ?_;clear S;intro a S
   refine Ld (Tn (Fs (Fg (lv S (Rm (S.tm rfl)) rfl ?_))));clear S;intro a S
   refine lv S (rn_seql (S.tm rfl) rfl) rfl ?_;clear S;intro a S
   refine Ld (Tn (f_cond (S.tm rfl) (fun hb1 => ?_) (fun hb1 => ?_)))
   ·replace h := iteT h hb1
    refine Fs (Fg (lv S (Ra rfl) rfl ?_));clear S;intro a S
    refine lv S (Ra rfl) rfl ?_;clear S;intro a S
    refine Ld (Tn (wp_ret (blk_r (then_r (then_r (blk_r ?_))))))
    refine then_r (then_r ?_)
    obtain rfl := Option.some.inj h
    exact f_ret2 S Tryz.results63 rfl rfl ⟨_, rfl, (ownV_nil _ _ _)⟩
   ·replace h := iteF h hb1
    refine wp_skip (blk_n (Tn (Fg (lv S (rn_add (S.tm rfl) rfl) rfl ?_))));clear S;intro a S
    refine lv S (Rm (S.tm rfl)) rfl ?_;clear S;intro a S
    refine Ld (Tn ?_)
    exact ⟨ys1, ⟨i1 + 1, ⟨_, (hd1).trans (List.append_cons _ _ _), by simp [hi1]⟩, h, S.nf [] rfl ⟨rfl, rfl, rfl, (congrArg (fun z => some (Value.int .i64 z)) (rng_next hd1 hi1 (slc_max (ownV_slcT enc_str hs1)))), trivial⟩⟩, Nat.lt_succ_self _⟩
 clear S h;rintro a w3 ⟨h, S⟩;rw [hj1] at h;clear hj1 j1
 refine Tn (Fs (Fg (lv S (Rm (S.tm rfl)) rfl ?_)));clear S;intro a S
 refine lv S (Ra (S.tm rfl)) rfl ?_;clear S;intro a S
 refine lv S (Ra rfl) rfl ?_;clear S;intro a S
 refine Ld (Tn (wp_ret ?_))
 obtain rfl := Option.some.inj h
 exact f_ret2 S Tryz.results63 rfl rfl ⟨_, rfl, ((hs1).mono S.le_newer)⟩
theorem strings_CutPrefix_ok (w : World) (s : ByteArray) (p : ByteArray) (r : ByteArray × Bool) (h : strings_CutPrefix s p = r) : Calls Tryz.prog 88 [sV s, sV p].toArray w (Ret w [] fun _ v _ => v = .tuple #[.string r.1, .bool r.2]) := by
  subst h
  exact ret_of_same (Any.strings_CutPrefix Tryz.lays103 s p w)
theorem strconv_Atoi_ok (w : World) (s : ByteArray) (r : Int) (h : strconv_Atoi s = some r) : Calls Tryz.prog 71 [sV s].toArray w (Ret w [] fun _ v _ => v = .tuple #[.int .i64 r, .nilIface]) := by
  unfold strconv_Atoi at h
  obtain ⟨hc, h⟩ := chkE h
  simp only [Bool.and_eq_true, decide_eq_true_eq] at hc
  exact ret_of_bytes (Any.strconv_Atoi Tryz.lays172 s r hc h w)
set_option maxRecDepth 20000 in
theorem words_Number_ok (w : World) (Z : ByteArray) (Ak : Int) (r : Int × Bool) (h : words_Number Z Ak = some r) :
    Calls Tryz.prog 64 [sV Z, iV Ak].toArray w (Ret w [] fun _ v _ => v = .tuple #[iV r.1, bV r.2]) := by
 refine f_enter [] [] Tryz.func64 rfl Tryz.ntmps64 rfl (by simp) (by simp [fps]) (by simp [fps]) fun a S => ?_
 unfold words_Number at h
 replace S := S.nk [] [(0, sV Z), (1, iV Ak)] [] rfl (subR rfl)
 refine Fs (Fg (lv S (Ra rfl) rfl ?_));clear S;intro a S
 refine lv S (Ra rfl) rfl ?_;clear S;intro a S
 refine Ld (Tn (Fs (Fg (lv S (Rm (S.tm rfl)) rfl ?_))));clear S;intro a S
 refine l_enter S (fun _ => run_call (vs := [sV Z, sV k__2d]) ⟨(S.tm rfl), rfl, trivial⟩ Tryz.call88) (strings_CutPrefix_ok _ Z k__2d _ rfl) rfl ?_;clear S;intro v1 a w1 hv1 hk1 hn1 S
 subst hv1
 refine lv S (Rm (S.tm rfl)) rfl ?_;clear S;intro a S
 refine lv S (rn_extract (S.tm rfl) rfl) rfl ?_;clear S;intro a S
 refine lv S (rn_extract (S.tm rfl) rfl) rfl ?_;clear S;intro a S
 refine lv S (Ra (S.tm rfl)) rfl ?_;clear S;intro a S
 refine lv S (Ra (S.tm rfl)) rfl ?_;clear S;intro a S
 refine Ld (Tn (Fs (Fs (Fg (lv S (Rm (S.tm rfl)) rfl ?_)))));clear S;intro a S
 refine lv S (rn_seql (S.tm rfl) rfl) rfl ?_;clear S;intro a S
 refine lv S (Rm (S.tm rfl)) rfl ?_;clear S;intro a S
 refine f_cutm 5 (fun a w' => Keep [] w1 w' ∧ Sx w [] nov [] [(0, sV Z), (6, sV ((strings_CutPrefix Z k__2d).1)), (7, bV ((strings_CutPrefix Z k__2d).2)), (22, bV ((decide (((strings_CutPrefix Z k__2d).1) = k_empty)) || (decide (Ak < (((strings_CutPrefix Z k__2d).1).size : Int)))))] 48 a w') ?_ ?_
 ·rcases Bool.eq_false_or_eq_true (decide (((strings_CutPrefix Z k__2d).1) = k_empty)) with hb1 | hb1
  ·iterate 4 (refine l_skip S rfl rfl rfl (neq_t hb1) rfl ?_ rfl;clear S;intro a S)
   refine lv S (rn_or_t (decide (Ak < (((strings_CutPrefix Z k__2d).1).size : Int))) hb1 (S.tm rfl) rfl) rfl ?_;clear S;intro a S
   refine Ld (Tn ?_)
   exact ⟨Keep.refl _ _, S.nf [] rfl (subR rfl)⟩
  ·refine l_want S rfl rfl rfl hb1 (lv S (Rm (S.tm rfl)) rfl ?_);clear S;intro a S
   refine l_want S rfl rfl rfl hb1 (lv S (rn_len_str Tryz.underlying9 (S.tm rfl)) rfl ?_);clear S;intro a S
   refine l_want S rfl rfl rfl hb1 (lv S (Rm (S.tm rfl)) rfl ?_);clear S;intro a S
   refine l_want S rfl rfl rfl hb1 (lv S (rn_gtr (S.tm rfl) (S.tm rfl)) rfl ?_);clear S;intro a S
   refine lv S (rn_or_f hb1 (S.tm rfl) (S.tm rfl)) rfl ?_;clear S;intro a S
   refine Ld (Tn ?_)
   exact ⟨Keep.refl _ _, S.nf [] rfl (subR rfl)⟩
 clear S;rintro a w2 ⟨hk2, S⟩
 refine lv S (Rm (S.tm rfl)) rfl ?_;clear S;intro a S
 obtain ⟨j1, hj1, h⟩ := joinE h
 refine f_cutm 4 (fun a w' => ∃ c1, j1 c1 = some r ∧ Keep [] w2 w' ∧ Sx w [] nov [] [(0, sV Z), (6, sV ((strings_CutPrefix Z k__2d).1)), (7, bV ((strings_CutPrefix Z k__2d).2)), (27, bV c1)] 48 a w') ?_ ?_
 ·rcases Bool.eq_false_or_eq_true ((decide (((strings_CutPrefix Z k__2d).1) = k_empty)) || (decide (Ak < (((strings_CutPrefix Z k__2d).1).size : Int)))) with hb2 | hb2
  ·replace h := iteT h hb2
   iterate 3 (refine l_skip S rfl rfl rfl (neq_t hb2) rfl ?_ rfl;clear S;intro a S)
   refine lv S (rn_or_t true hb2 (S.tm rfl) rfl) rfl ?_;clear S;intro a S
   refine Ld (Tn ?_)
   exact ⟨_, h, Keep.refl _ _, S.nf [] rfl (subR rfl)⟩
  ·replace h := iteF h hb2
   refine l_want S rfl rfl rfl hb2 (lv S (Rm (S.tm rfl)) rfl ?_);clear S;intro a S
   refine l_want S rfl rfl rfl hb2 ?_
   obtain ⟨r1, hr1, h⟩ := bindE h
   refine l_enter S (fun _ => run_call (vs := [sV ((strings_CutPrefix Z k__2d).1), sV k_0123456789]) ⟨(S.tm rfl), rfl, trivial⟩ Tryz.call89) (strings_Trim_ok _ ((strings_CutPrefix Z k__2d).1) k_0123456789 _ hr1) rfl ?_;clear S;intro v2 a w4 hv2 hk3 hn2 S
   subst hv2
   refine l_want S rfl rfl rfl hb2 (lv S (rn_sneq (S.tm rfl) rfl) rfl ?_);clear S;intro a S
   refine lv S (rn_or_f hb2 (S.tm rfl) (S.tm rfl)) rfl ?_;clear S;intro a S
   refine Ld (Tn ?_)
   exact ⟨_, h, hk3, S.nf [] rfl (subR rfl)⟩
 clear S h;rintro a w3 ⟨c1, h, hk4, S⟩;rw [hj1] at h;clear hj1 j1
 refine lv S (Rm (S.tm rfl)) rfl ?_;clear S;intro a S
 obtain ⟨j2, hj2, h⟩ := joinE h
 refine f_cutm 11 (fun a w' => ∃ c2, j2 c2 = some r ∧ Keep [] w3 w' ∧ Sx w [] nov [] [(0, sV Z), (39, bV c2)] 48 a w') ?_ ?_
 ·rcases Bool.eq_false_or_eq_true c1 with hb3 | hb3
  ·replace h := iteT h hb3
   iterate 4 (refine l_skip S rfl rfl rfl (neq_t hb3) rfl ?_ rfl;clear S;intro a S)
   iterate 5 (refine l_skipU S rfl rfl rfl rfl ?_;clear S;intro a S)
   refine l_skip S rfl rfl rfl (neq_t hb3) rfl ?_ rfl;clear S;intro a S
   refine lv S (rn_or_t true hb3 (S.tm rfl) rfl) rfl ?_;clear S;intro a S
   refine Ld (Tn ?_)
   exact ⟨_, h, Keep.refl _ _, S.nf [] rfl (subR rfl)⟩
  ·replace h := iteF h hb3
   refine l_want S rfl rfl rfl hb3 (lv S (Rm (S.tm rfl)) rfl ?_);clear S;intro a S
   refine l_want S rfl rfl rfl hb3 ?_
   obtain ⟨hc1, h⟩ := chkE h
   refine lv S (rn_sindexT Tryz.underlying9 (S.tm rfl) rfl hc1) rfl ?_;clear S;intro a S
   refine l_want S rfl rfl rfl hb3 (lv S (rn_eql (S.tm rfl) rfl) rfl ?_);clear S;intro a S
   refine l_want S rfl rfl rfl hb3 (lv S (Rm (S.tm rfl)) rfl ?_);clear S;intro a S
   refine f_cutm 6 (fun a w' => Keep [] w3 w' ∧ Sx w [] nov [] [(0, sV Z), (28, bV c1), (38, bV ((decide ((sbyte ((strings_CutPrefix Z k__2d).1) 0) = 48)) && ((!decide (((strings_CutPrefix Z k__2d).1) = k_0)) || ((strings_CutPrefix Z k__2d).2))))] 48 a w') ?_ ?_
   ·rcases Bool.eq_false_or_eq_true (decide ((sbyte ((strings_CutPrefix Z k__2d).1) 0) = 48)) with hb4 | hb4
    ·refine l_want S rfl rfl rfl hb4 (lv S (Rm (S.tm rfl)) rfl ?_);clear S;intro a S
     refine l_want S rfl rfl rfl hb4 (lv S (rn_sneq (S.tm rfl) rfl) rfl ?_);clear S;intro a S
     refine l_want S rfl rfl rfl hb4 (lv S (Rm (S.tm rfl)) rfl ?_);clear S;intro a S
     refine f_cutm 2 (fun a w' => Keep [] w3 w' ∧ Sx w [] nov [] [(0, sV Z), (28, bV c1), (32, bV (decide ((sbyte ((strings_CutPrefix Z k__2d).1) 0) = 48))), (37, bV ((!decide (((strings_CutPrefix Z k__2d).1) = k_0)) || ((strings_CutPrefix Z k__2d).2)))] 48 a w') ?_ ?_
     ·rcases Bool.eq_false_or_eq_true (!decide (((strings_CutPrefix Z k__2d).1) = k_0)) with hb5 | hb5
      ·refine l_skip S rfl rfl rfl (neq_t hb5) rfl ?_ rfl;clear S;intro a S
       refine l_want S rfl rfl rfl hb4 (lv S (rn_or_t ((strings_CutPrefix Z k__2d).2) hb5 (S.tm rfl) rfl) rfl ?_);clear S;intro a S
       refine Ld (Tn ?_)
       exact ⟨Keep.refl _ _, S.nf [] rfl (subR rfl)⟩
      ·refine l_want S rfl rfl rfl hb5 (lv S (Rm (S.tm rfl)) rfl ?_);clear S;intro a S
       refine l_want S rfl rfl rfl hb4 (lv S (rn_or_f hb5 (S.tm rfl) (S.tm rfl)) rfl ?_);clear S;intro a S
       refine Ld (Tn ?_)
       exact ⟨Keep.refl _ _, S.nf [] rfl (subR rfl)⟩
     clear S;rintro a w7 ⟨hk5, S⟩
     refine l_want S rfl rfl rfl hb3 (lv S (rn_and_t hb4 (S.tm rfl) (S.tm rfl)) rfl ?_);clear S;intro a S
     refine Ld (Tn ?_)
     exact ⟨hk5, S.nf [] rfl (subR rfl)⟩
    ·iterate 3 (refine l_skip S rfl rfl rfl (neq_f hb4) rfl ?_ rfl;clear S;intro a S)
     refine l_skipU S rfl rfl rfl rfl ?_;clear S;intro a S
     refine l_skip S rfl rfl rfl (neq_f hb4) rfl ?_ rfl;clear S;intro a S
     refine l_want S rfl rfl rfl hb3 (lv S (rn_and_f ((!decide (((strings_CutPrefix Z k__2d).1) = k_0)) || ((strings_CutPrefix Z k__2d).2)) hb4 (S.tm rfl) rfl) rfl ?_);clear S;intro a S
     refine Ld (Tn ?_)
     exact ⟨Keep.refl _ _, S.nf [] rfl (subR rfl)⟩
   clear S;rintro a w6 ⟨hk6, S⟩
   refine lv S (rn_or_f hb3 (S.tm rfl) (S.tm rfl)) rfl ?_;clear S;intro a S
   refine Ld (Tn ?_)
   exact ⟨_, h, hk6, S.nf [] rfl (subR rfl)⟩
 clear S h;rintro a w5 ⟨c2, h, hk7, S⟩;rw [hj2] at h;clear hj2 j2
 refine Ld (Tn (f_cond (S.tm rfl) (fun hb6 => ?_) (fun hb6 => ?_)))
 ·replace h := iteT h hb6
  refine Fs (Fg (lv S (Ra rfl) rfl ?_));clear S;intro a S
  refine lv S (Ra rfl) rfl ?_;clear S;intro a S
  refine Ld (Tn (wp_ret (then_r ?_)))
  obtain rfl := Option.some.inj h
  exact f_ret2 S Tryz.results64 rfl rfl rfl
 ·replace h := iteF h hb6
  refine wp_skip (Tn (Fs (Fg (lv S (Rm (S.tm rfl)) rfl ?_))));clear S;intro a S
  obtain ⟨r2, hr2, h⟩ := bindE h
  refine l_enter S (fun _ => run_call (vs := [sV Z]) ⟨(S.tm rfl), trivial⟩ Tryz.call71) (strconv_Atoi_ok _ Z _ hr2) rfl ?_;clear S;intro v3 a w8 hv3 hk8 hn3 S
  subst hv3
  refine lv S (Rm (S.tm rfl)) rfl ?_;clear S;intro a S
  refine lv S (rn_extract (S.tm rfl) rfl) rfl ?_;clear S;intro a S
  refine lv S (rn_extract (S.tm rfl) rfl) rfl ?_;clear S;intro a S
  refine lv S (Ra (S.tm rfl)) rfl ?_;clear S;intro a S
  refine lv S (Ra (S.tm rfl)) rfl ?_;clear S;intro a S
  refine Ld (Tn (Fs (d_region [] ([]) Tryz.mixed S rfl (by kernel_rfl) ?_)));clear S;intro w9 hk9 hsel S
  refine d_rest [0, 1, 2, 3, 4] hsel (by kernel_rfl) rfl ?_
  clear hsel
  refine s_lv S rfl (Rm (S.tm rfl)) rfl ?_;clear S;intro a S
  refine s_lv S rfl (Rm (S.tm rfl)) rfl ?_;clear S;intro a S
  refine s_lv S rfl (rn_ifnileql Tryz.underlying61 (S.tm rfl)) rfl ?_;clear S;intro a S
  refine s_lv S rfl (Ra (S.tm rfl)) rfl ?_;clear S;intro a S
  refine s_lv S rfl (Ra (S.tm rfl)) rfl ?_;clear S;intro a S
  refine s_done ?_
  replace S := S.nk [] [(4, iV r2), (5, bV true)] [] rfl (subR rfl)
  refine Tn (wp_ret ?_)
  obtain rfl := Option.some.inj h
  exact f_ret2 S Tryz.results64 rfl rfl rfl
theorem slices_Index_string_ok (w : World) (Ah : Value) (Z : List ByteArray) (Bu : Slc (view w []) 1 Ah (Z.map eStr)) (Bp : ByteArray) (r : Int) (h : slices_Index_string Z Bp = r) :
    Calls Tryz.prog 45 [Ah, sV Bp].toArray w (Ret w [] fun _ v _ => v = iV r) := by
 refine f_enter [] [] Tryz.func45 rfl Tryz.ntmps45 rfl (by simp) (by simp [fps]) (by simp [fps]) fun a S => ?_
 unfold slices_Index_string at h
 replace S := S.nk [] [(0, Ah), (1, sV Bp)] [] rfl (subR rfl)
 refine Fs (Fg (lv S (Ra rfl) rfl ?_));clear S;intro a S
 refine Ld (Tn (Fs (Fs (Fg (lv S (Rm (S.tm rfl)) rfl ?_)))));clear S;intro a S
 refine lv S (rn_lenT sl_57 (S.tm rfl) (slc_len Bu)) rfl ?_;clear S;intro a S
 refine lv S (Rm rfl) rfl ?_;clear S;intro a S
 refine Ld (Tn ?_)
 replace S := S.nk [] [(0, Ah), (1, sV Bp), (7, iV (Z.length : Int)), (8, iV 0)] [] rfl (subR rfl)
 obtain ⟨j1, hj1, h⟩ := joinE h
 refine f_join (fun a w' => j1 = r ∧ Sx w [] nov [] [] 19 a w') ?_ ?_
 ·refine wp_block (f_loop (fun (ys1 : List ByteArray) a w' => ∃ i1 : Nat, (∃ dn, Z = dn ++ ys1 ∧ dn.length = i1) ∧ slices_Index_string_l1 Bp j1 ys1 i1 = r ∧ Sx w [] nov [] [(0, Ah), (1, sV Bp), (7, iV (Z.length : Int)), (8, iV (i1 : Int))] 19 a w') List.length Z ⟨0, ⟨[], rfl, rfl⟩, h, S.nf [] rfl (subR rfl)⟩ ?_)
  clear S h;rintro ys1 a w1 ⟨i1, ⟨dn, hd1, hi1⟩, h, S⟩
  cases ys1 with
  | nil =>
   rw [slices_Index_string_l1.eq_1] at h
   refine Fs (Fg (lv S (rn_lss (S.tm rfl) (S.tm rfl)) rfl ?_));clear S;intro a S
   refine Ld ?_
   replace S := S.nk [] [(0, Ah), (1, sV Bp), (7, iV (Z.length : Int)), (8, iV (i1 : Int)), (9, bV (decide ((i1 : Int) < (Z.length : Int))))] [] rfl (subR rfl)
   refine Tn (Fs (wp_cond_false ((S.tm rfl).trans (congrArg Value.bool (rng_nil hd1 hi1))) (wp_exit (then_x (then_x (x_same ?_))))))
   refine Tn ?_
   exact ⟨h, S.nf [] rfl trivial⟩
  | cons y1 ys1 =>
   rw [slices_Index_string_l1.eq_2] at h
   refine Fs (Fg (lv S (rn_lss (S.tm rfl) (S.tm rfl)) rfl ?_));clear S;intro a S
   refine Ld ?_
   replace S := S.nk [] [(0, Ah), (1, sV Bp), (7, iV (Z.length : Int)), (8, iV (i1 : Int)), (9, bV (decide ((i1 : Int) < (Z.length : Int))))] [] rfl (subR rfl)
   refine Tn (Fs (wp_cond_true ((S.tm rfl).trans (congrArg Value.bool (rng_cons hd1 hi1))) (wp_skip (Tn (Fs (wp_block ?_))))))
   refine Fs (Fg (lv S (Rm (S.tm rfl)) rfl ?_));clear S;intro a S
   refine lv S (Ra (S.tm rfl)) rfl ?_;clear S;intro a S
   refine Ld (Tn (Fs (Fg (lv S (Rm (S.tm rfl)) rfl ?_))));clear S;intro a S
   refine lv S (Rm (S.tm rfl)) rfl ?_;clear S;intro a S
   refine lv S (Rm (S.tm rfl)) rfl ?_;clear S;intro a S
   obtain ⟨b1, o1, hm1, hr1⟩ := rn_indexT (a := a) (x := .tmp 12) (y := .tmp 13) (ty := 0) sl_57 Bu (get_mid hd1 hi1) rfl (S.tm rfl) (S.tm rfl)
   refine lv S (hr1 _) rfl ?_;clear S;intro a S
   clear hr1
   refine lv S (rn_ld Tryz.isAgg9 (off := o1) (o := 0) (S.tm rfl) (hm1.at S.emb0) rfl) rfl ?_;clear S;intro a S
   refine lv S (rn_seql (S.tm rfl) (S.tm rfl)) rfl ?_;clear S;intro a S
   refine Ld (Tn (f_cond (S.tm rfl) (fun hb1 => ?_) (fun hb1 => ?_)))
   ·replace h := iteT h hb1
    refine Fs (Fg (lv S (Rm (S.tm rfl)) rfl ?_));clear S;intro a S
    refine lv S (Ra (S.tm rfl)) rfl ?_;clear S;intro a S
    refine Ld ?_
    replace S := S.nk [] [(4, iV (i1 : Int))] [] rfl ⟨rfl, trivial⟩
    refine Tn (wp_ret (blk_r (then_r (then_r (blk_r (then_r ?_))))))
    refine then_r ?_
    subst h
    exact f_ret S Tryz.results45 rfl rfl
   ·replace h := iteF h hb1
    refine wp_skip (blk_n (Tn (Fg (lv S (rn_add (S.tm rfl) rfl) rfl ?_))));clear S;intro a S
    refine lv S (Rm (S.tm rfl)) rfl ?_;clear S;intro a S
    refine Ld (Tn ?_)
    exact ⟨ys1, ⟨i1 + 1, ⟨_, (hd1).trans (List.append_cons _ _ _), by simp [hi1]⟩, h, S.nf [] rfl ⟨rfl, rfl, rfl, (congrArg (fun z => some (Value.int .i64 z)) (rng_next hd1 hi1 (slc_max Bu))), trivial⟩⟩, Nat.lt_succ_self _⟩
 clear S h;rintro a w2 ⟨h, S⟩;rw [hj1] at h;clear hj1 j1
 refine Tn (Fs (Fg (lv S (Ra rfl) rfl ?_)));clear S;intro a S
 refine Ld (Tn (wp_ret ?_))
 subst h
 exact f_ret S Tryz.results45 rfl rfl
theorem words_Numbers_ok (w : World) (V : Value) (Ac : List ByteArray) (Ag : Slc (view w []) 1 V (Ac.map eStr)) (Ak : Int) (r : (List Int) × Bool) (h : words_Numbers Ac Ak = some r) :
    Calls Tryz.prog 65 [V, iV Ak].toArray w (Ret w [] fun τ v _ => ∃ u1 : Value, v = .tuple #[u1, bV r.2] ∧ OwnV τ 3 1 u1 r.1.length (r.1.flatMap eInt)) := by
 refine f_enter [] [] Tryz.func65 rfl Tryz.ntmps65 rfl (by simp) (by simp [fps]) (by simp [fps]) fun a S => ?_
 unfold words_Numbers at h
 replace S := S.nk [] [(0, V), (1, iV Ak)] [] rfl (subR rfl)
 refine Fs (Fg (lv S (Ra rfl) rfl ?_));clear S;intro a S
 refine lv S (Ra rfl) rfl ?_;clear S;intro a S
 refine Ld (Tn (Fs (Fg (lv S (Ra rfl) rfl ?_))));clear S;intro a S
 replace S := S.nil 3 1
 refine Ld (Tn (Fs (Fs (Fg (lv S (Rm (S.tm rfl)) rfl ?_)))));clear S;intro a S
 refine lv S (rn_lenT sl_57 (S.tm rfl) (slc_len Ag)) rfl ?_;clear S;intro a S
 refine lv S (Rm rfl) rfl ?_;clear S;intro a S
 refine Ld (Tn ?_)
 replace S := S.nk [.own (.slice none 0 0) 3 1 ([] : List Int).length (([] : List Int).flatMap eInt)] [(1, iV Ak), (6, (.slice none 0 0)), (11, V), (12, iV (Ac.length : Int)), (13, iV 0)] [true] rfl (subR rfl)
 obtain ⟨j1, hj1, h⟩ := joinE h
 refine f_join (fun a w' => ∃ x1 : List Int, ∃ v1 : Value, j1 x1 = some r ∧ Sx w [] nov [.own v1 3 1 x1.length (x1.flatMap eInt)] [(6, v1)] 31 a w') ?_ ?_
 ·refine wp_block (f_loop (fun (ys1 : List ByteArray) a w' => ∃ i1 : Nat, ∃ x1 : List Int, ∃ v1 : Value, (∃ dn, Ac = dn ++ ys1 ∧ dn.length = i1) ∧ words_Numbers_l1 Ak j1 ys1 i1 x1 = some r ∧ Sx w [] nov [.own v1 3 1 x1.length (x1.flatMap eInt)] [(1, iV Ak), (6, v1), (11, V), (12, iV (Ac.length : Int)), (13, iV (i1 : Int))] 31 a w') List.length Ac ⟨0, ([] : List Int), (.slice none 0 0), ⟨[], rfl, rfl⟩, h, S.nf [true] rfl (subR rfl)⟩ ?_)
  clear S h;rintro ys1 a w1 ⟨i1, x1, v1, ⟨dn, hd1, hi1⟩, h, S⟩
  cases ys1 with
  | nil =>
   rw [words_Numbers_l1.eq_1] at h
   refine Fs (Fg (lv S (rn_lss (S.tm rfl) (S.tm rfl)) rfl ?_));clear S;intro a S
   refine Ld ?_
   replace S := S.nk [.own v1 3 1 x1.length (x1.flatMap eInt)] [(1, iV Ak), (6, v1), (11, V), (12, iV (Ac.length : Int)), (13, iV (i1 : Int)), (14, bV (decide ((i1 : Int) < (Ac.length : Int))))] [true] rfl (subR rfl)
   refine Tn (Fs (wp_cond_false ((S.tm rfl).trans (congrArg Value.bool (rng_nil hd1 hi1))) (wp_exit (then_x (then_x (x_same ?_))))))
   refine Tn ?_
   exact ⟨x1, v1, h, S.nf [true] rfl ⟨rfl, trivial⟩⟩
  | cons y1 ys1 =>
   rw [words_Numbers_l1.eq_2] at h
   refine Fs (Fg (lv S (rn_lss (S.tm rfl) (S.tm rfl)) rfl ?_));clear S;intro a S
   refine Ld ?_
   replace S := S.nk [.own v1 3 1 x1.length (x1.flatMap eInt)] [(1, iV Ak), (6, v1), (11, V), (12, iV (Ac.length : Int)), (13, iV (i1 : Int)), (14, bV (decide ((i1 : Int) < (Ac.length : Int))))] [true] rfl (subR rfl)
   refine Tn (Fs (wp_cond_true ((S.tm rfl).trans (congrArg Value.bool (rng_cons hd1 hi1))) (wp_skip (Tn (Fs (wp_block ?_))))))
   refine Fs (Fg ?_)
   obtain ⟨b1, o1, hm1, hr1⟩ := rn_indexT (a := a) (x := .tmp 11) (y := .tmp 13) (ty := 0) sl_57 Ag (get_mid hd1 hi1) rfl (S.tm rfl) (S.tm rfl)
   refine lv S (hr1 _) rfl ?_;clear S;intro a S
   clear hr1
   refine lv S (rn_ld Tryz.isAgg9 (off := o1) (o := 0) (S.tm rfl) (hm1.at S.emb0) rfl) rfl ?_;clear S;intro a S
   refine lv S (Ra (S.tm rfl)) rfl ?_;clear S;intro a S
   refine Ld (Tn (Fs (Fg (lv S (Rm (S.tm rfl)) rfl ?_))));clear S;intro a S
   refine lv S (Rm (S.tm rfl)) rfl ?_;clear S;intro a S
   obtain ⟨r1, hr2, h⟩ := bindE h
   refine l_enter S (fun _ => run_call (vs := [sV y1, iV Ak]) ⟨(S.tm rfl), (S.tm rfl), trivial⟩ Tryz.call64) (words_Number_ok _ y1 Ak _ hr2) rfl ?_;clear S;intro v2 a w3 hv1 hk1 hn1 S
   subst hv1
   refine lv S (Rm (S.tm rfl)) rfl ?_;clear S;intro a S
   refine lv S (rn_extract (S.tm rfl) rfl) rfl ?_;clear S;intro a S
   refine lv S (rn_extract (S.tm rfl) rfl) rfl ?_;clear S;intro a S
   refine lv S (Ra (S.tm rfl)) rfl ?_;clear S;intro a S
   refine lv S (Ra (S.tm rfl)) rfl ?_;clear S;intro a S
   refine Ld ?_
   replace S := S.nk [.own v1 3 1 x1.length (x1.flatMap eInt)] [(1, iV Ak), (6, v1), (9, iV r1.1), (10, bV r1.2), (11, V), (12, iV (Ac.length : Int)), (13, iV (i1 : Int))] [true] rfl (subR rfl)
   refine Tn (Fs (Fs (Fg (lv S (Rm (S.tm rfl)) rfl ?_))));clear S;intro a S
   refine lv S (rn_not (S.tm rfl)) rfl ?_;clear S;intro a S
   refine Ld (Tn (f_cond (S.tm rfl) (fun hb1 => ?_) (fun hb1 => ?_)))
   ·replace h := iteT h hb1
    refine Fs (Fg (lv S (Ra rfl) rfl ?_));clear S;intro a S
    refine lv S (Ra rfl) rfl ?_;clear S;intro a S
    refine Ld (Tn (wp_ret (then_r (blk_r (then_r (then_r ?_))))))
    refine blk_r (then_r (then_r ?_))
    obtain rfl := Option.some.inj h
    exact f_ret2 S Tryz.results65 rfl rfl ⟨_, rfl, (ownV_nil _ _ _)⟩
   ·replace h := iteF h hb1
    refine wp_skip (Tn (Fg (lv S (Rm (S.tm rfl)) rfl ?_)));clear S;intro a S
    refine lv S (Rm (S.tm rfl)) rfl ?_;clear S;intro a S
    refine l_buildSlice S Tryz.underlying22 Tryz.sizeOf3 Tryz.zeroValue3 rfl rfl (pv := [(0, iV r1.1)]) ⟨rfl, (S.tm rfl), trivial⟩ (cs := [iV r1.1]) (by kernel_rfl) rfl ?_;clear S;intro a w4 b2 hz1 hk2 S
    obtain ⟨hc1, h⟩ := chkE h
    refine l_appendT sl_22 enc_int S (S.tm rfl) (i := 1) rfl (S.tm rfl) (j := 0) rfl (ys := [r1.1]) rfl rfl rfl rfl (by have := room_lt hc1;omega) rfl ?_;clear S;intro v3 a w5 hk3 S
    refine lv S (Ra (S.tm rfl)) rfl ?_;clear S;intro a S
    refine Ld (blk_n (Tn (Fg (lv S (rn_add (S.tm rfl) rfl) rfl ?_))));clear S;intro a S
    refine lv S (Rm (S.tm rfl)) rfl ?_;clear S;intro a S
    refine Ld (Tn ?_)
    exact ⟨ys1, ⟨i1 + 1, (x1 ++ [r1.1]), v3, ⟨_, (hd1).trans (List.append_cons _ _ _), by simp [hi1]⟩, h, S.nf [false, true] rfl ⟨rfl, rfl, rfl, rfl, (congrArg (fun z => some (Value.int .i64 z)) (rng_next hd1 hi1 (slc_max Ag))), trivial⟩⟩, Nat.lt_succ_self _⟩
 clear S h;rintro a w2 ⟨x1, v1, h, S⟩;rw [hj1] at h;clear hj1 j1
 refine Tn (Fs (Fg (lv S (Rm (S.tm rfl)) rfl ?_)));clear S;intro a S
 refine lv S (Ra (S.tm rfl)) rfl ?_;clear S;intro a S
 refine lv S (Ra rfl) rfl ?_;clear S;intro a S
 refine Ld (Tn (wp_ret ?_))
 obtain rfl := Option.some.inj h
 exact f_ret2 S Tryz.results65 rfl rfl ⟨_, rfl, (own_retT S (i := 0) rfl rfl)⟩
theorem words_Undash_ok (w : World) (Z : ByteArray) (r : ByteArray) (h : words_Undash Z = r) :
    Calls Tryz.prog 66 [sV Z].toArray w (Ret w [] fun _ v _ => v = sV r) := by
 refine f_enter [] [] Tryz.func66 rfl Tryz.ntmps66 rfl (by simp) (by simp [fps]) (by simp [fps]) fun a S => ?_
 unfold words_Undash at h
 replace S := S.nk [] [(0, sV Z)] [] rfl ⟨rfl, trivial⟩
 refine Fs (Fg (lv S (Ra rfl) rfl ?_));clear S;intro a S
 refine Ld (Tn (Fs (Fs (Fg (lv S (Rm (S.tm rfl)) rfl ?_)))));clear S;intro a S
 refine lv S (rn_seql (S.tm rfl) rfl) rfl ?_;clear S;intro a S
 refine Ld (Tn (f_cond (S.tm rfl) (fun hb1 => ?_) (fun hb1 => ?_)))
 ·replace h := iteT h hb1
  refine Fs (Fg (lv S (Ra rfl) rfl ?_));clear S;intro a S
  refine Ld (Tn (wp_ret (then_r ?_)))
  subst h
  exact f_ret S Tryz.results66 rfl rfl
 ·replace h := iteF h hb1
  refine wp_skip (Tn (Fs (Fg (lv S (Rm (S.tm rfl)) rfl ?_))));clear S;intro a S
  refine lv S (Ra (S.tm rfl)) rfl ?_;clear S;intro a S
  refine Ld (Tn (wp_ret ?_))
  subst h
  exact f_ret S Tryz.results66 rfl rfl
set_option maxRecDepth 20000 in
theorem record_readStep_ok (w : World) (Av : ByteArray) (hg_maxlen : GlobI (view w []) 0) (r : GStep × Bool) (h : record_readStep Av = some r) :
    Calls Tryz.prog 40 [sV Av].toArray w (Ret w [] fun _ v _ => v = .tuple #[.agg (GStep.enc r.1).toArray, bV r.2]) := by
 refine f_enter [] [] Tryz.func40 rfl Tryz.ntmps40 rfl (by simp) (by simp [fps]) (by simp [fps]) fun a S => ?_
 unfold record_readStep at h
 replace S := S.nk [] [(0, sV Av)] [] rfl ⟨rfl, trivial⟩
 refine Fs (Fg (l_alloc S Tryz.zeroValue39 (cs := [iV 0, iV 0, sV k_empty, sV k_empty, sV k_empty, sV k_empty, iV 0, iV 0]) rfl rfl ?_));clear S;intro a w1 b1 hz1 hk1 S
 refine lv S (Ra rfl) rfl ?_;clear S;intro a S
 refine Ld (Tn (Fs (Fg (lv S (Rm (S.tm rfl)) rfl ?_))));clear S;intro a S
 obtain ⟨r1, hr1, h⟩ := bindE h
 have hz2 := S.keep.size
 refine l_enter S (fun _ => run_call (vs := [sV Av]) ⟨(S.tm rfl), trivial⟩ Tryz.call63) (words_Split_ok _ Av (hg_maxlen.mono (S.le_arg nil_sub)) _ hr1) rfl ?_;clear S;intro v1 a w2 hv1 hk2 hn1 S
 obtain ⟨u1, rfl, ho1⟩ := hv1
 obtain ⟨φ1, hl1, hm1, S⟩ := S.see' hn1 hz2
 have hs1 := ho1.mono hm1
 refine lv S (Rm (S.tm rfl)) rfl ?_;clear S;intro a S
 refine lv S (rn_extract (S.tm rfl) rfl) rfl ?_;clear S;intro a S
 refine lv S (rn_extract (S.tm rfl) rfl) rfl ?_;clear S;intro a S
 refine lv S (Ra (S.tm rfl)) rfl ?_;clear S;intro a S
 refine lv S (Ra (S.tm rfl)) rfl ?_;clear S;intro a S
 refine Ld (Tn (Fs (Fs (Fg (lv S (Rm (S.tm rfl)) rfl ?_)))));clear S;intro a S
 refine lv S (rn_not (S.tm rfl)) rfl ?_;clear S;intro a S
 refine lv S (Rm (S.tm rfl)) rfl ?_;clear S;intro a S
 refine f_cutm 4 (fun a w' => Keep [] w2 w' ∧ Sx w [] φ1 [.blk b1 (GStep.enc (GStep.mk 0 0 k_empty k_empty k_empty k_empty 0 0)) 39] [(2, .pointer (some ⟨b1, 0, none⟩)), (4, u1), (22, bV ((!r1.2) || (decide ((r1.1.length : Int) < 3))))] 95 a w') ?_ ?_
 ·rcases Bool.eq_false_or_eq_true (!r1.2) with hb1 | hb1
  ·iterate 3 (refine l_skip S rfl rfl rfl (neq_t hb1) rfl ?_ rfl;clear S;intro a S)
   refine lv S (rn_or_t (decide ((r1.1.length : Int) < 3)) hb1 (S.tm rfl) rfl) rfl ?_;clear S;intro a S
   refine Ld (Tn ?_)
   exact ⟨Keep.refl _ _, S.nf [true] rfl (subR rfl)⟩
  ·refine l_want S rfl rfl rfl hb1 (lv S (Rm (S.tm rfl)) rfl ?_);clear S;intro a S
   refine l_want S rfl rfl rfl hb1 (lv S (rn_lenT sl_57 (S.tm rfl) (slc_len (ownV_slcT enc_str hs1))) rfl ?_);clear S;intro a S
   refine l_want S rfl rfl rfl hb1 (lv S (rn_lss (S.tm rfl) rfl) rfl ?_);clear S;intro a S
   refine lv S (rn_or_f hb1 (S.tm rfl) (S.tm rfl)) rfl ?_;clear S;intro a S
   refine Ld (Tn ?_)
   exact ⟨Keep.refl _ _, S.nf [true] rfl (subR rfl)⟩
 clear S;rintro a w3 ⟨hk3, S⟩
 refine Ld (Tn (f_cond (S.tm rfl) (fun hb2 => ?_) (fun hb2 => ?_)))
 ·replace h := iteT h hb2
  refine Fs (Fg (lv S (rn_bld bt_39 (pv := []) trivial (cs := [iV 0, iV 0, sV k_empty, sV k_empty, sV k_empty, sV k_empty, iV 0, iV 0]) (by kernel_rfl)) rfl ?_));clear S;intro a S
  refine l_store S (S.tm rfl) (S.tm rfl) (i := 0) (off := 0) rfl Tryz.sizeOf39 (vs := (GStep.enc (GStep.mk 0 0 k_empty k_empty k_empty k_empty 0 0))) rfl rfl rfl rfl ?_;clear S;intro w4 hk4 S
  refine lv S (Ra rfl) rfl ?_;clear S;intro a S
  refine Ld (Tn (wp_ret (then_r ?_)))
  obtain rfl := Option.some.inj h
  exact f_retG S (rs := [.cell 2 39, .tmp 3]) (vs := [.agg (GStep.enc (GStep.mk 0 0 k_empty k_empty k_empty k_empty 0 0)).toArray, bV false]) Tryz.results40 ⟨(res_cell (off := 0) S rfl Tryz.isAgg39 Tryz.sizeOf39 rfl (S.cellsAt (i := 0) rfl)), (res_tmp S rfl), trivial⟩ rfl rfl
 ·replace h := iteF h hb2
  refine wp_skip (Tn (Fs (Fg (lv S (Rm (S.tm rfl)) rfl ?_))));clear S;intro a S
  obtain ⟨hc1, h⟩ := chkE h
  obtain ⟨b2, o1, hm2, hr2⟩ := rn_indexT (a := a) (x := .tmp 25) (y := .const (iV 0)) (ty := 0) sl_57 (ownV_slcT enc_str hs1) (inB_get hc1).1 (inB_get hc1).2 (S.tm rfl) rfl
  refine lv S (hr2 _) rfl ?_;clear S;intro a S
  clear hr2
  refine lv S (rn_ld Tryz.isAgg9 (off := o1) (o := 0) (S.tm rfl) (hm2.at S.emb) rfl) rfl ?_;clear S;intro a S
  obtain ⟨r2, hr3, h⟩ := bindE h
  refine l_enter S (fun _ => run_call (vs := [sV (nth r1.1 0), iV 15]) ⟨(S.tm rfl), rfl, trivial⟩ Tryz.call64) (words_Number_ok _ (nth r1.1 0) 15 _ hr3) rfl ?_;clear S;intro v2 a w5 hv2 hk5 hn2 S
  subst hv2
  refine lv S (Rm (S.tm rfl)) rfl ?_;clear S;intro a S
  refine lv S (rn_extract (S.tm rfl) rfl) rfl ?_;clear S;intro a S
  refine lv S (rn_extract (S.tm rfl) rfl) rfl ?_;clear S;intro a S
  refine lv S (Ra (S.tm rfl)) rfl ?_;clear S;intro a S
  refine lv S (Ra (S.tm rfl)) rfl ?_;clear S;intro a S
  refine Ld (Tn (Fs ?_))
  obtain ⟨hc2, h⟩ := chkE h
  refine d_region [] ([]) Tryz.mixed S rfl (by kernel_rfl) ?_;clear S;intro w8 hk8 hsel S
  refine d_quiet 1 S hsel rfl rfl rfl (by kernel_rfl) (by kernel_rfl) rfl (fun _ hw => (Rm (S.tm rfl))) ?_;clear S;intro a S
  obtain ⟨b4, o3, hm5, hr5⟩ := rn_indexT (a := a) (x := .tmp 32) (y := .const (iV 1)) (ty := 0) sl_57 ((ownV_slcT enc_str hs1).mono (S.le_new nil_sub)) (inB_get hc2).1 (inB_get hc2).2 (S.tm rfl) rfl
  refine d_quiet 2 S hsel rfl rfl rfl (by kernel_rfl) (by kernel_rfl) rfl (fun _ hw => hr5 _) ?_;clear S;intro a S
  clear hr5
  refine d_quiet 3 S hsel rfl rfl rfl (by kernel_rfl) (by kernel_rfl) rfl (fun _ hw => (rn_ld Tryz.isAgg9 (off := o3) (o := 0) (S.tm rfl) (hm5.kept hw) rfl)) ?_;clear S;intro a S
  refine d_loud1 0 (by kernel_rfl) rfl ?_
  have hz4 := S.keep.size
  refine l_enter S (fun _ => run_call (vs := []) trivial Tryz.call28) (record_kinds_ok _ _ rfl) rfl ?_;clear S;intro v5 a w9 hv5 hk9 hn5 S
  obtain ⟨φ3, hl3, hm6, S⟩ := S.see' hn5 hz4
  have hs3 := hv5.mono hm6
  refine Ld (d_next hk9 (d_loud1 4 (by kernel_rfl) rfl (l_enter S (fun _ => run_call (vs := [v5, sV (nth r1.1 1)]) ⟨(S.tm rfl), (S.tm rfl), trivial⟩ Tryz.call45) (slices_Index_string_ok _ v5 record_kinds ((ownV_slcT enc_str hs3).mono (S.le_new nil_sub)) (nth r1.1 1) _ rfl) rfl ?_)));clear S;intro v6 a w10 hv6 hk10 hn6 S
  subst hv6
  refine Ld (d_next hk10 (d_rest [5, 6] hsel (by kernel_rfl) rfl ?_))
  clear hsel
  refine s_lv S rfl (rn_add (S.tm rfl) rfl) rfl ?_;clear S;intro a S
  refine s_lv S rfl (Ra (S.tm rfl)) rfl ?_;clear S;intro a S
  refine s_done ?_
  replace S := S.nk [.blk b1 (GStep.enc (GStep.mk 0 0 k_empty k_empty k_empty k_empty 0 0)) 39] [(2, .pointer (some ⟨b1, 0, none⟩)), (4, u1), (6, iV r2.1), (7, bV r2.2), (8, iV (W ((slices_Index_string record_kinds (nth r1.1 1)) + 1)))] [true] rfl (subR rfl)
  refine Tn (Fs (Fg (lv S (Rm (S.tm rfl)) rfl ?_)));clear S;intro a S
  refine lv S (Rm (S.tm rfl)) rfl ?_;clear S;intro a S
  refine lv S (Rm (S.tm rfl)) rfl ?_;clear S;intro a S
  obtain ⟨hc3, h⟩ := chkE h
  obtain ⟨b5, o4, hm7, hr6⟩ := rn_indexT (a := a) (x := .tmp 39) (y := .const (iV 2)) (ty := 0) sl_57 (ownV_slcT enc_str hs1) (inB_get hc3).1 (inB_get hc3).2 (S.tm rfl) rfl
  refine lv S (hr6 _) rfl ?_;clear S;intro a S
  clear hr6
  refine lv S (rn_ld Tryz.isAgg9 (off := o4) (o := 0) (S.tm rfl) ((hm7.mono hl3).at S.emb) rfl) rfl ?_;clear S;intro a S
  refine lv S (rn_bld bt_39 (pv := [(0, iV r2.1), (1, iV (W ((slices_Index_string record_kinds (nth r1.1 1)) + 1))), (2, sV (nth r1.1 2))]) ⟨rfl, (S.tm rfl), rfl, (S.tm rfl), rfl, (S.tm rfl), trivial⟩ (cs := [iV r2.1, iV (W ((slices_Index_string record_kinds (nth r1.1 1)) + 1)), sV (nth r1.1 2), sV k_empty, sV k_empty, sV k_empty, iV 0, iV 0]) (by kernel_rfl)) rfl ?_;clear S;intro a S
  refine l_alloc S Tryz.zeroValue39 (cs := [iV 0, iV 0, sV k_empty, sV k_empty, sV k_empty, sV k_empty, iV 0, iV 0]) rfl rfl ?_;clear S;intro a w11 b6 hz5 hk11 S
  refine l_store S (S.tm rfl) (S.tm rfl) (i := 0) (off := 0) rfl Tryz.sizeOf39 (vs := (GStep.enc (GStep.mk r2.1 (W ((slices_Index_string record_kinds (nth r1.1 1)) + 1)) (nth r1.1 2) k_empty k_empty k_empty 0 0))) rfl rfl rfl rfl ?_;clear S;intro w12 hk12 S
  refine Ld (Tn (Fs (Fs (Fg (lv S (Rm (S.tm rfl)) rfl ?_)))));clear S;intro a S
  refine lv S (rn_not (S.tm rfl)) rfl ?_;clear S;intro a S
  refine lv S (Rm (S.tm rfl)) rfl ?_;clear S;intro a S
  refine f_cutm 3 (fun a w' => Keep [] w12 w' ∧ Sx w [] φ3 [.blk b6 (GStep.enc (GStep.mk r2.1 (W ((slices_Index_string record_kinds (nth r1.1 1)) + 1)) (nth r1.1 2) k_empty k_empty k_empty 0 0)) 39, .blk b1 (GStep.enc (GStep.mk 0 0 k_empty k_empty k_empty k_empty 0 0)) 39] [(2, .pointer (some ⟨b1, 0, none⟩)), (4, u1), (7, bV r2.2), (8, iV (W ((slices_Index_string record_kinds (nth r1.1 1)) + 1))), (9, .pointer (some ⟨b6, 0, none⟩)), (48, bV ((!r2.2) || (!decide ((W ((slices_Index_string record_kinds (nth r1.1 1)) + 1)) = 1))))] 95 a w') ?_ ?_
  ·rcases Bool.eq_false_or_eq_true (!r2.2) with hb3 | hb3
   ·refine l_skip S rfl rfl rfl (neq_t hb3) rfl ?_ rfl;clear S;intro a S
    refine l_skip S rfl rfl rfl (neq_t hb3) rfl ?_ rfl;clear S;intro a S
    refine lv S (rn_or_t (!decide ((W ((slices_Index_string record_kinds (nth r1.1 1)) + 1)) = 1)) hb3 (S.tm rfl) rfl) rfl ?_;clear S;intro a S
    refine Ld (Tn ?_)
    exact ⟨Keep.refl _ _, S.nf [true, true] rfl (subR rfl)⟩
   ·refine l_want S rfl rfl rfl hb3 (lv S (Rm (S.tm rfl)) rfl ?_);clear S;intro a S
    refine l_want S rfl rfl rfl hb3 (lv S (rn_neq (S.tm rfl) rfl) rfl ?_);clear S;intro a S
    refine lv S (rn_or_f hb3 (S.tm rfl) (S.tm rfl)) rfl ?_;clear S;intro a S
    refine Ld (Tn ?_)
    exact ⟨Keep.refl _ _, S.nf [true, true] rfl (subR rfl)⟩
  clear S;rintro a w13 ⟨hk13, S⟩
  refine Ld (Tn (f_cond (S.tm rfl) (fun hb4 => ?_) (fun hb4 => ?_)))
  ·replace h := iteT h hb4
   refine Fs (Fg (lv S (rn_ldA Tryz.isAgg39 Tryz.sizeOf39 (off := 0) (o := 0) (part := (GStep.enc (GStep.mk r2.1 (W ((slices_Index_string record_kinds (nth r1.1 1)) + 1)) (nth r1.1 2) k_empty k_empty k_empty 0 0))) rfl rfl (S.tm rfl) (S.cellsAt (i := 0) rfl)) rfl ?_));clear S;intro a S
   refine lv S (Rm (S.tm rfl)) rfl ?_;clear S;intro a S
   refine lv S (Rm (S.tm rfl)) rfl ?_;clear S;intro a S
   refine f_cutm 3 (fun a w' => Keep [] w13 w' ∧ Sx w [] φ3 [.blk b6 (GStep.enc (GStep.mk r2.1 (W ((slices_Index_string record_kinds (nth r1.1 1)) + 1)) (nth r1.1 2) k_empty k_empty k_empty 0 0)) 39, .blk b1 (GStep.enc (GStep.mk 0 0 k_empty k_empty k_empty k_empty 0 0)) 39] [(2, .pointer (some ⟨b1, 0, none⟩)), (4, u1), (49, .agg (GStep.enc (GStep.mk r2.1 (W ((slices_Index_string record_kinds (nth r1.1 1)) + 1)) (nth r1.1 2) k_empty k_empty k_empty 0 0)).toArray), (54, bV (r2.2 && (decide (0 < (W ((slices_Index_string record_kinds (nth r1.1 1)) + 1))))))] 95 a w') ?_ ?_
   ·rcases Bool.eq_false_or_eq_true r2.2 with hb5 | hb5
    ·refine l_want S rfl rfl rfl hb5 (lv S (Rm (S.tm rfl)) rfl ?_);clear S;intro a S
     refine l_want S rfl rfl rfl hb5 (lv S (rn_gtr (S.tm rfl) rfl) rfl ?_);clear S;intro a S
     refine lv S (rn_and_t hb5 (S.tm rfl) (S.tm rfl)) rfl ?_;clear S;intro a S
     refine Ld (Tn ?_)
     exact ⟨Keep.refl _ _, S.nf [true, true] rfl (subR rfl)⟩
    ·refine l_skip S rfl rfl rfl (neq_f hb5) rfl ?_ rfl;clear S;intro a S
     refine l_skip S rfl rfl rfl (neq_f hb5) rfl ?_ rfl;clear S;intro a S
     refine lv S (rn_and_f (decide (0 < (W ((slices_Index_string record_kinds (nth r1.1 1)) + 1)))) hb5 (S.tm rfl) rfl) rfl ?_;clear S;intro a S
     refine Ld (Tn ?_)
     exact ⟨Keep.refl _ _, S.nf [true, true] rfl (subR rfl)⟩
   clear S;rintro a w14 ⟨hk14, S⟩
   refine lv S (Rm (S.tm rfl)) rfl ?_;clear S;intro a S
   refine f_cutm 4 (fun a w' => Keep [] w14 w' ∧ Sx w [] φ3 [.blk b6 (GStep.enc (GStep.mk r2.1 (W ((slices_Index_string record_kinds (nth r1.1 1)) + 1)) (nth r1.1 2) k_empty k_empty k_empty 0 0)) 39, .blk b1 (GStep.enc (GStep.mk 0 0 k_empty k_empty k_empty k_empty 0 0)) 39] [(2, .pointer (some ⟨b1, 0, none⟩)), (49, .agg (GStep.enc (GStep.mk r2.1 (W ((slices_Index_string record_kinds (nth r1.1 1)) + 1)) (nth r1.1 2) k_empty k_empty k_empty 0 0)).toArray), (59, bV ((r2.2 && (decide (0 < (W ((slices_Index_string record_kinds (nth r1.1 1)) + 1))))) && (decide ((r1.1.length : Int) = 3))))] 95 a w') ?_ ?_
   ·rcases Bool.eq_false_or_eq_true (r2.2 && (decide (0 < (W ((slices_Index_string record_kinds (nth r1.1 1)) + 1))))) with hb6 | hb6
    ·refine l_want S rfl rfl rfl hb6 (lv S (Rm (S.tm rfl)) rfl ?_);clear S;intro a S
     refine l_want S rfl rfl rfl hb6 (lv S (rn_lenT sl_57 (S.tm rfl) (slc_len (ownV_slcT enc_str hs1))) rfl ?_);clear S;intro a S
     refine l_want S rfl rfl rfl hb6 (lv S (rn_eql (S.tm rfl) rfl) rfl ?_);clear S;intro a S
     refine lv S (rn_and_t hb6 (S.tm rfl) (S.tm rfl)) rfl ?_;clear S;intro a S
     refine Ld (Tn ?_)
     exact ⟨Keep.refl _ _, S.nf [true, true] rfl (subR rfl)⟩
    ·iterate 3 (refine l_skip S rfl rfl rfl (neq_f hb6) rfl ?_ rfl;clear S;intro a S)
     refine lv S (rn_and_f (decide ((r1.1.length : Int) = 3)) hb6 (S.tm rfl) rfl) rfl ?_;clear S;intro a S
     refine Ld (Tn ?_)
     exact ⟨Keep.refl _ _, S.nf [true, true] rfl (subR rfl)⟩
   clear S;rintro a w15 ⟨hk15, S⟩
   refine l_store S (S.tm rfl) (S.tm rfl) (i := 1) (off := 0) rfl Tryz.sizeOf39 (vs := (GStep.enc (GStep.mk r2.1 (W ((slices_Index_string record_kinds (nth r1.1 1)) + 1)) (nth r1.1 2) k_empty k_empty k_empty 0 0))) rfl rfl rfl rfl ?_;clear S;intro w16 hk16 S
   refine lv S (Ra (S.tm rfl)) rfl ?_;clear S;intro a S
   refine Ld (Tn (wp_ret (then_r ?_)))
   obtain rfl := Option.some.inj h
   exact f_retG S (rs := [.cell 2 39, .tmp 3]) (vs := [.agg (GStep.enc (GStep.mk r2.1 (W ((slices_Index_string record_kinds (nth r1.1 1)) + 1)) (nth r1.1 2) k_empty k_empty k_empty 0 0)).toArray, bV ((r2.2 && (decide (0 < (W ((slices_Index_string record_kinds (nth r1.1 1)) + 1))))) && (decide ((r1.1.length : Int) = 3)))]) Tryz.results40 ⟨(res_cell (off := 0) S rfl Tryz.isAgg39 Tryz.sizeOf39 rfl (S.cellsAt (i := 1) rfl)), (res_tmp S rfl), trivial⟩ rfl rfl
  ·replace h := iteF h hb4
   refine wp_skip (Tn (Fs (Fs (Fg (lv S (Rm (S.tm rfl)) rfl ?_)))));clear S;intro a S
   refine lv S (rn_lenT sl_57 (S.tm rfl) (slc_len (ownV_slcT enc_str hs1))) rfl ?_;clear S;intro a S
   refine lv S (rn_neq (S.tm rfl) rfl) rfl ?_;clear S;intro a S
   refine Ld (Tn (f_cond (S.tm rfl) (fun hb7 => ?_) (fun hb7 => ?_)))
   ·replace h := iteT h hb7
    refine Fs (Fg (lv S (rn_ldA Tryz.isAgg39 Tryz.sizeOf39 (off := 0) (o := 0) (part := (GStep.enc (GStep.mk r2.1 (W ((slices_Index_string record_kinds (nth r1.1 1)) + 1)) (nth r1.1 2) k_empty k_empty k_empty 0 0))) rfl rfl (S.tm rfl) (S.cellsAt (i := 0) rfl)) rfl ?_));clear S;intro a S
    refine l_store S (S.tm rfl) (S.tm rfl) (i := 1) (off := 0) rfl Tryz.sizeOf39 (vs := (GStep.enc (GStep.mk r2.1 (W ((slices_Index_string record_kinds (nth r1.1 1)) + 1)) (nth r1.1 2) k_empty k_empty k_empty 0 0))) rfl rfl rfl rfl ?_;clear S;intro w17 hk17 S
    refine lv S (Ra rfl) rfl ?_;clear S;intro a S
    refine Ld (Tn (wp_ret (then_r ?_)))
    obtain rfl := Option.some.inj h
    exact f_retG S (rs := [.cell 2 39, .tmp 3]) (vs := [.agg (GStep.enc (GStep.mk r2.1 (W ((slices_Index_string record_kinds (nth r1.1 1)) + 1)) (nth r1.1 2) k_empty k_empty k_empty 0 0)).toArray, bV false]) Tryz.results40 ⟨(res_cell (off := 0) S rfl Tryz.isAgg39 Tryz.sizeOf39 rfl (S.cellsAt (i := 1) rfl)), (res_tmp S rfl), trivial⟩ rfl rfl
   ·replace h := iteF h hb7
    refine wp_skip (Tn (Fs (Fg (lv S (Rm (S.tm rfl)) rfl ?_))));clear S;intro a S
    obtain ⟨hc4, h⟩ := chkE h
    obtain ⟨v7, hs4, hr7⟩ := rn_cutTl (a := a) (x := .tmp 65) (y := .const (iV 6)) (ty := 57) sl_57 (ownV_slcT enc_str hs1) (S.tm rfl) rfl hc4
    refine lv S (hr7 _) rfl ?_;clear S;intro a S
    clear hr7
    obtain ⟨r3, hr8, h⟩ := bindE h
    have hz6 := S.keep.size
    refine l_enter S (fun _ => run_call (vs := [v7, iV 15]) ⟨(S.tm rfl), rfl, trivial⟩ Tryz.call65) (words_Numbers_ok _ v7 (cut r1.1 6 r1.1.length) (hs4.mono (View.le_trans hl3 (S.le_new nil_sub))) 15 _ hr8) rfl ?_;clear S;intro v8 a w18 hv7 hk18 hn7 S
    obtain ⟨u4, rfl, ho4⟩ := hv7
    obtain ⟨φ4, hl4, hm8, S⟩ := S.see' hn7 hz6
    have hs5 := ho4.mono hm8
    refine lv S (Rm (S.tm rfl)) rfl ?_;clear S;intro a S
    refine lv S (rn_extract (S.tm rfl) rfl) rfl ?_;clear S;intro a S
    refine lv S (rn_extract (S.tm rfl) rfl) rfl ?_;clear S;intro a S
    refine lv S (Ra (S.tm rfl)) rfl ?_;clear S;intro a S
    refine lv S (Ra (S.tm rfl)) rfl ?_;clear S;intro a S
    refine Ld ?_
    replace S := S.nk [.blk b6 (GStep.enc (GStep.mk r2.1 (W ((slices_Index_string record_kinds (nth r1.1 1)) + 1)) (nth r1.1 2) k_empty k_empty k_empty 0 0)) 39, .blk b1 (GStep.enc (GStep.mk 0 0 k_empty k_empty k_empty k_empty 0 0)) 39] [(2, .pointer (some ⟨b1, 0, none⟩)), (4, u1), (7, bV r3.2), (9, .pointer (some ⟨b6, 0, none⟩)), (10, u4)] [true, true] rfl (subR rfl)
    refine Tn (Fs (Fs (Fg (lv S (Rm (S.tm rfl)) rfl ?_))));clear S;intro a S
    refine lv S (rn_not (S.tm rfl)) rfl ?_;clear S;intro a S
    refine Ld (Tn (f_cond (S.tm rfl) (fun hb8 => ?_) (fun hb8 => ?_)))
    ·replace h := iteT h hb8
     refine Fs (Fg (lv S (rn_ldA Tryz.isAgg39 Tryz.sizeOf39 (off := 0) (o := 0) (part := (GStep.enc (GStep.mk r2.1 (W ((slices_Index_string record_kinds (nth r1.1 1)) + 1)) (nth r1.1 2) k_empty k_empty k_empty 0 0))) rfl rfl (S.tm rfl) (S.cellsAt (i := 0) rfl)) rfl ?_));clear S;intro a S
     refine l_store S (S.tm rfl) (S.tm rfl) (i := 1) (off := 0) rfl Tryz.sizeOf39 (vs := (GStep.enc (GStep.mk r2.1 (W ((slices_Index_string record_kinds (nth r1.1 1)) + 1)) (nth r1.1 2) k_empty k_empty k_empty 0 0))) rfl rfl rfl rfl ?_;clear S;intro w19 hk19 S
     refine lv S (Ra rfl) rfl ?_;clear S;intro a S
     refine Ld (Tn (wp_ret (then_r ?_)))
     obtain rfl := Option.some.inj h
     exact f_retG S (rs := [.cell 2 39, .tmp 3]) (vs := [.agg (GStep.enc (GStep.mk r2.1 (W ((slices_Index_string record_kinds (nth r1.1 1)) + 1)) (nth r1.1 2) k_empty k_empty k_empty 0 0)).toArray, bV false]) Tryz.results40 ⟨(res_cell (off := 0) S rfl Tryz.isAgg39 Tryz.sizeOf39 rfl (S.cellsAt (i := 1) rfl)), (res_tmp S rfl), trivial⟩ rfl rfl
    ·replace h := iteF h hb8
     refine wp_skip (Tn (Fs ?_))
     obtain ⟨hc5, h⟩ := chkE h
     obtain ⟨hc6, h⟩ := chkE h
     obtain ⟨hc7, h⟩ := chkE h
     obtain ⟨hc8, h⟩ := chkE h
     obtain ⟨hc9, h⟩ := chkE h
     refine d_region [] ([b6]) Tryz.mixed S rfl (by kernel_rfl) ?_;clear S;intro w26 hk26 hsel S
     refine d_quiet 0 S hsel rfl rfl rfl (by kernel_rfl) (by kernel_rfl) rfl (fun _ hw => (Rm (S.tm rfl))) ?_;clear S;intro a S
     obtain ⟨b12, o10, hm14, hr14⟩ := rn_indexT (a := a) (x := .tmp 73) (y := .const (iV 3)) (ty := 0) sl_57 ((ownV_slcT enc_str hs1).mono (View.le_trans (View.le_trans hl3 hl4) (S.le_new (fp_sub (i := 0) (e := .blk b6 (GStep.enc (GStep.mk r2.1 (W ((slices_Index_string record_kinds (nth r1.1 1)) + 1)) (nth r1.1 2) k_empty k_empty k_empty 0 0)) 39) rfl)))) (inB_get hc5).1 (inB_get hc5).2 (S.tm rfl) rfl
     refine d_quiet 1 S hsel rfl rfl rfl (by kernel_rfl) (by kernel_rfl) rfl (fun _ hw => hr14 _) ?_;clear S;intro a S
     clear hr14
     refine d_quiet 2 S hsel rfl rfl rfl (by kernel_rfl) (by kernel_rfl) rfl (fun _ hw => (rn_ld Tryz.isAgg9 (off := o10) (o := 0) (S.tm rfl) (hm14.kept hw) rfl)) ?_;clear S;intro a S
     refine d_quiet 3 S hsel rfl rfl rfl (by kernel_rfl) (by kernel_rfl) rfl (fun _ hw => (Rm (S.tm rfl))) ?_;clear S;intro a S
     obtain ⟨b13, o11, hm15, hr15⟩ := rn_indexT (a := a) (x := .tmp 76) (y := .const (iV 4)) (ty := 0) sl_57 ((ownV_slcT enc_str hs1).mono (View.le_trans (View.le_trans hl3 hl4) (S.le_new (fp_sub (i := 0) (e := .blk b6 (GStep.enc (GStep.mk r2.1 (W ((slices_Index_string record_kinds (nth r1.1 1)) + 1)) (nth r1.1 2) k_empty k_empty k_empty 0 0)) 39) rfl)))) (inB_get hc6).1 (inB_get hc6).2 (S.tm rfl) rfl
     refine d_quiet 4 S hsel rfl rfl rfl (by kernel_rfl) (by kernel_rfl) rfl (fun _ hw => hr15 _) ?_;clear S;intro a S
     clear hr15
     refine d_quiet 5 S hsel rfl rfl rfl (by kernel_rfl) (by kernel_rfl) rfl (fun _ hw => (rn_ld Tryz.isAgg9 (off := o11) (o := 0) (S.tm rfl) (hm15.kept hw) rfl)) ?_;clear S;intro a S
     refine d_quiet 7 S hsel rfl rfl rfl (by kernel_rfl) (by kernel_rfl) rfl (fun _ hw => (Rm (S.tm rfl))) ?_;clear S;intro a S
     obtain ⟨b14, o12, hm16, hr16⟩ := rn_indexT (a := a) (x := .tmp 80) (y := .const (iV 5)) (ty := 0) sl_57 ((ownV_slcT enc_str hs1).mono (View.le_trans (View.le_trans hl3 hl4) (S.le_new (fp_sub (i := 0) (e := .blk b6 (GStep.enc (GStep.mk r2.1 (W ((slices_Index_string record_kinds (nth r1.1 1)) + 1)) (nth r1.1 2) k_empty k_empty k_empty 0 0)) 39) rfl)))) (inB_get hc7).1 (inB_get hc7).2 (S.tm rfl) rfl
     refine d_quiet 8 S hsel rfl rfl rfl (by kernel_rfl) (by kernel_rfl) rfl (fun _ hw => hr16 _) ?_;clear S;intro a S
     clear hr16
     refine d_quiet 9 S hsel rfl rfl rfl (by kernel_rfl) (by kernel_rfl) rfl (fun _ hw => (rn_ld Tryz.isAgg9 (off := o12) (o := 0) (S.tm rfl) (hm16.kept hw) rfl)) ?_;clear S;intro a S
     refine d_quiet 10 S hsel rfl rfl rfl (by kernel_rfl) (by kernel_rfl) rfl (fun _ hw => (Rm (S.tm rfl))) ?_;clear S;intro a S
     obtain ⟨b15, o13, hm17, hr17⟩ := rn_indexT (a := a) (x := .tmp 83) (y := .const (iV 0)) (ty := 0) sl_22 ((ownV_slcT enc_int hs5).mono (S.le_new (fp_sub (i := 0) (e := .blk b6 (GStep.enc (GStep.mk r2.1 (W ((slices_Index_string record_kinds (nth r1.1 1)) + 1)) (nth r1.1 2) k_empty k_empty k_empty 0 0)) 39) rfl))) (inB_get hc8).1 (inB_get hc8).2 (S.tm rfl) rfl
     refine d_quiet 11 S hsel rfl rfl rfl (by kernel_rfl) (by kernel_rfl) rfl (fun _ hw => hr17 _) ?_;clear S;intro a S
     clear hr17
     refine d_quiet 12 S hsel rfl rfl rfl (by kernel_rfl) (by kernel_rfl) rfl (fun _ hw => (rn_ld Tryz.isAgg3 (off := o13) (o := 0) (S.tm rfl) (hm17.kept hw) rfl)) ?_;clear S;intro a S
     refine d_quiet 13 S hsel rfl rfl rfl (by kernel_rfl) (by kernel_rfl) rfl (fun _ hw => (Rm (S.tm rfl))) ?_;clear S;intro a S
     obtain ⟨b16, o14, hm18, hr18⟩ := rn_indexT (a := a) (x := .tmp 86) (y := .const (iV 1)) (ty := 0) sl_22 ((ownV_slcT enc_int hs5).mono (S.le_new (fp_sub (i := 0) (e := .blk b6 (GStep.enc (GStep.mk r2.1 (W ((slices_Index_string record_kinds (nth r1.1 1)) + 1)) (nth r1.1 2) k_empty k_empty k_empty 0 0)) 39) rfl))) (inB_get hc9).1 (inB_get hc9).2 (S.tm rfl) rfl
     refine d_quiet 14 S hsel rfl rfl rfl (by kernel_rfl) (by kernel_rfl) rfl (fun _ hw => hr18 _) ?_;clear S;intro a S
     clear hr18
     refine d_quiet 15 S hsel rfl rfl rfl (by kernel_rfl) (by kernel_rfl) rfl (fun _ hw => (rn_ld Tryz.isAgg3 (off := o14) (o := 0) (S.tm rfl) (hm18.kept hw) rfl)) ?_;clear S;intro a S
     refine d_quiet 16 S hsel rfl rfl rfl (by kernel_rfl) (by kernel_rfl) rfl (fun _ hw => (rn_fld fa_39_3 (S.tm rfl))) ?_;clear S;intro a S
     refine d_loud1 6 (by kernel_rfl) rfl (l_enter S (fun _ => run_call (vs := [sV (nth r1.1 4)]) ⟨(S.tm rfl), trivial⟩ Tryz.call66) (words_Undash_ok _ (nth r1.1 4) _ rfl) rfl ?_);clear S;intro v10 a w27 hv9 hk27 hn9 S
     subst hv9
     refine Ld (d_next (Keep.none hk27) (d_loud1 17 (by kernel_rfl) rfl (l_store S (S.tm rfl) (S.tm rfl) (i := 0) (off := 3) rfl Tryz.sizeOf9 (vs := [sV (nth r1.1 3)]) rfl rfl rfl rfl ?_)));clear S;intro w28 hk28 S
     refine Ld (d_next hk28 (d_quiet 18 S hsel rfl rfl rfl (by kernel_rfl) (by kernel_rfl) rfl (fun _ hw => (rn_fld fa_39_4 (S.tm rfl))) ?_));clear S;intro a S
     refine d_loud1 19 (by kernel_rfl) rfl (l_store S (S.tm rfl) (S.tm rfl) (i := 0) (off := 4) rfl Tryz.sizeOf9 (vs := [sV (words_Undash (nth r1.1 4))]) rfl rfl rfl rfl ?_);clear S;intro w29 hk29 S
     refine Ld (d_next hk29 (d_quiet 20 S hsel rfl rfl rfl (by kernel_rfl) (by kernel_rfl) rfl (fun _ hw => (rn_fld fa_39_5 (S.tm rfl))) ?_));clear S;intro a S
     refine d_loud1 21 (by kernel_rfl) rfl (l_store S (S.tm rfl) (S.tm rfl) (i := 0) (off := 5) rfl Tryz.sizeOf9 (vs := [sV (nth r1.1 5)]) rfl rfl rfl rfl ?_);clear S;intro w30 hk30 S
     refine Ld (d_next hk30 (d_quiet 22 S hsel rfl rfl rfl (by kernel_rfl) (by kernel_rfl) rfl (fun _ hw => (rn_fld fa_39_6 (S.tm rfl))) ?_));clear S;intro a S
     refine d_loud1 23 (by kernel_rfl) rfl (l_store S (S.tm rfl) (S.tm rfl) (i := 0) (off := 6) rfl Tryz.sizeOf3 (vs := [iV (nth r3.1 0)]) rfl rfl rfl rfl ?_);clear S;intro w31 hk31 S
     refine Ld (d_next hk31 (d_quiet 24 S hsel rfl rfl rfl (by kernel_rfl) (by kernel_rfl) rfl (fun _ hw => (rn_fld fa_39_7 (S.tm rfl))) ?_));clear S;intro a S
     refine d_loud1 25 (by kernel_rfl) rfl (l_store S (S.tm rfl) (S.tm rfl) (i := 0) (off := 7) rfl Tryz.sizeOf3 (vs := [iV (nth r3.1 1)]) rfl rfl rfl rfl ?_);clear S;intro w32 hk32 S
     refine Ld (d_next hk32 (d_end (by kernel_rfl) ?_))
     clear hsel
     replace S := S.nk [.blk b6 (GStep.enc (GStep.mk r2.1 (W ((slices_Index_string record_kinds (nth r1.1 1)) + 1)) (nth r1.1 2) (nth r1.1 3) (words_Undash (nth r1.1 4)) (nth r1.1 5) (nth r3.1 0) (nth r3.1 1))) 39, .blk b1 (GStep.enc (GStep.mk 0 0 k_empty k_empty k_empty k_empty 0 0)) 39] [(2, .pointer (some ⟨b1, 0, none⟩)), (9, .pointer (some ⟨b6, 0, none⟩))] [true, true] rfl (subR rfl)
     refine Tn (Fs (Fg (lv S (rn_ldA Tryz.isAgg39 Tryz.sizeOf39 (off := 0) (o := 0) (part := (GStep.enc (GStep.mk r2.1 (W ((slices_Index_string record_kinds (nth r1.1 1)) + 1)) (nth r1.1 2) (nth r1.1 3) (words_Undash (nth r1.1 4)) (nth r1.1 5) (nth r3.1 0) (nth r3.1 1)))) rfl rfl (S.tm rfl) (S.cellsAt (i := 0) rfl)) rfl ?_)));clear S;intro a S
     refine l_store S (S.tm rfl) (S.tm rfl) (i := 1) (off := 0) rfl Tryz.sizeOf39 (vs := (GStep.enc (GStep.mk r2.1 (W ((slices_Index_string record_kinds (nth r1.1 1)) + 1)) (nth r1.1 2) (nth r1.1 3) (words_Undash (nth r1.1 4)) (nth r1.1 5) (nth r3.1 0) (nth r3.1 1)))) rfl rfl rfl rfl ?_;clear S;intro w33 hk33 S
     refine lv S (Ra rfl) rfl ?_;clear S;intro a S
     refine Ld (Tn (wp_ret ?_))
     obtain rfl := Option.some.inj h
     exact f_retG S (rs := [.cell 2 39, .tmp 3]) (vs := [.agg (GStep.enc (GStep.mk r2.1 (W ((slices_Index_string record_kinds (nth r1.1 1)) + 1)) (nth r1.1 2) (nth r1.1 3) (words_Undash (nth r1.1 4)) (nth r1.1 5) (nth r3.1 0) (nth r3.1 1))).toArray, bV true]) Tryz.results40 ⟨(res_cell (off := 0) S rfl Tryz.isAgg39 Tryz.sizeOf39 rfl (S.cellsAt (i := 1) rfl)), (res_tmp S rfl), trivial⟩ rfl rfl
theorem record_Read_c1_ok (w : World) (X : List Nat) (Av : ByteArray) (As : Nat) (Ap : Value) (Ax : List GStep) (By : (LEnt.own Ap 39 8 Ax.length (Ax.flatMap GStep.enc)).holds w) (Bz : (LEnt.blk As [Ap] 26).holds w) (hg_maxlen : GlobI (view w X) 0) (hXn : X.Nodup) (hXe : X = fps [.blk As [Ap] 26, .own Ap 39 8 Ax.length (Ax.flatMap GStep.enc)]) (r : Bool × (List GStep)) (h : record_Read_c1 Av Ax = some r) :
    Calls Tryz.prog 39 [sV Av, .pointer (some ⟨As, 0, none⟩)].toArray w (Ret w X fun _ v w' => ∃ y1 : Value, Grp w w' X [.blk As [y1] 26, .own y1 39 8 r.2.length (r.2.flatMap GStep.enc)] ∧ v = bV r.1) := by
 refine f_enter X [.blk As [Ap] 26, .own Ap 39 8 Ax.length (Ax.flatMap GStep.enc)] Tryz.func39 rfl Tryz.ntmps39 rfl (fun e he => by simp only [List.mem_cons, List.not_mem_nil, or_false] at he;rcases he with rfl | rfl <;> assumption) (by rw [← hXe];exact hXn) (fun b hb => by rw [hXe];exact hb) fun a S => ?_
 unfold record_Read_c1 at h
 replace S := S.nk [.blk As [Ap] 26, .own Ap 39 8 Ax.length (Ax.flatMap GStep.enc)] [(0, sV Av), (1, .pointer (some ⟨As, 0, none⟩))] [true, true] rfl (subR rfl)
 refine Fs (Fg (lv S (Ra rfl) rfl ?_));clear S;intro a S
 refine Ld (Tn (Fs (Fg (lv S (Rm (S.tm rfl)) rfl ?_))));clear S;intro a S
 obtain ⟨r1, hr1, h⟩ := bindE h
 refine l_enter S (fun _ => run_call (vs := [sV Av]) ⟨(S.tm rfl), trivial⟩ Tryz.call40) (record_readStep_ok _ Av (hg_maxlen.mono (S.le_arg nil_sub)) _ hr1) rfl ?_;clear S;intro v1 a w1 hv1 hk1 hn1 S
 subst hv1
 refine lv S (Rm (S.tm rfl)) rfl ?_;clear S;intro a S
 refine lv S (rn_extract (S.tm rfl) rfl) rfl ?_;clear S;intro a S
 refine lv S (rn_extract (S.tm rfl) rfl) rfl ?_;clear S;intro a S
 refine l_alloc S Tryz.zeroValue39 (cs := [iV 0, iV 0, sV k_empty, sV k_empty, sV k_empty, sV k_empty, iV 0, iV 0]) rfl rfl ?_;clear S;intro a w2 b1 hz1 hk2 S
 refine l_store S (S.tm rfl) (S.tm rfl) (i := 0) (off := 0) rfl Tryz.sizeOf39 (vs := (GStep.enc r1.1)) rfl rfl rfl rfl ?_;clear S;intro w3 hk3 S
 refine lv S (Ra (S.tm rfl)) rfl ?_;clear S;intro a S
 refine Ld (Tn (Fs (Fg (lv S (rn_load Tryz.isAgg26 (S.tm rfl) (S.cell (i := 1) rfl rfl)) rfl ?_))));clear S;intro a S
 refine lv S (rn_ldA Tryz.isAgg39 Tryz.sizeOf39 (off := 0) (o := 0) (part := (GStep.enc r1.1)) rfl rfl (S.tm rfl) (S.cellsAt (i := 0) rfl)) rfl ?_;clear S;intro a S
 refine l_buildSlice S Tryz.underlying26 Tryz.sizeOf39 Tryz.zeroValue39 rfl rfl (pv := [(0, .agg (GStep.enc r1.1).toArray)]) ⟨rfl, (S.tm rfl), trivial⟩ (cs := [iV r1.1.At, iV r1.1.Kind, sV r1.1.Id, sV r1.1.Who, sV r1.1.Club, sV r1.1.Race, iV r1.1.Age, iV r1.1.Time]) (by kernel_rfl) rfl ?_;clear S;intro a w4 b2 hz2 hk4 S
 obtain ⟨hc1, h⟩ := chkE h
 refine l_appendT sl_26 GStep.enc_ok S (S.tm rfl) (i := 3) rfl (S.tm rfl) (j := 0) rfl (ys := [r1.1]) rfl rfl rfl rfl (by have := room_lt hc1;omega) rfl ?_;clear S;intro v2 a w5 hk5 S
 refine l_store S (S.tm rfl) (S.tm rfl) (i := 2) (off := 0) rfl Tryz.sizeOf26 (vs := [v2]) (SlcLen.cells (own_len (S.own_at (i := 3) rfl))) rfl rfl (all1 (SlcLen.one (own_len (S.own_at (i := 3) rfl))) rfl) ?_;clear S;intro w6 hk6 S
 refine Ld (Tn (Fs (Fg (lv S (Rm (S.tm rfl)) rfl ?_))));clear S;intro a S
 refine lv S (Ra (S.tm rfl)) rfl ?_;clear S;intro a S
 refine Ld ?_
 replace S := S.nk [.blk As [v2] 26, .own v2 39 8 (Ax ++ [r1.1]).length ((Ax ++ [r1.1]).flatMap GStep.enc)] [(3, bV r1.2)] [false, false, true, true] rfl ⟨rfl, trivial⟩
 refine Tn (wp_ret ?_)
 obtain rfl := Option.some.inj h
 exact f_ret S Tryz.results39 rfl ⟨v2, S.grp [0, 1] [] rfl rfl rfl, rfl⟩
theorem words_Lines_record_Read_c1_ok (w : World) (X : List Nat) (Ba : ByteArray) (Af : Nat) (Ai : Value) (Aq : List GStep) (Bv : (LEnt.own Ai 39 8 Aq.length (Aq.flatMap GStep.enc)).holds w) (Bw : (LEnt.blk Af [Ai] 26).holds w) (hg_maxlen : GlobI (view w X) 0) (hXn : X.Nodup) (hXe : X = fps [.blk Af [Ai] 26, .own Ai 39 8 Aq.length (Aq.flatMap GStep.enc)]) (r : Int × Bool × (List GStep)) (h : words_Lines_record_Read_c1 Ba Aq = some r) :
    Calls Tryz.prog 38 [sV Ba, .func (.func 39) #[] #[.pointer (some ⟨Af, 0, none⟩)]].toArray w (Ret w X fun _ v w' => ∃ y1 : Value, Grp w w' X [.blk Af [y1] 26, .own y1 39 8 r.2.2.length (r.2.2.flatMap GStep.enc)] ∧ v = .tuple #[iV r.1, bV r.2.1]) := by
 refine f_enter X [.blk Af [Ai] 26, .own Ai 39 8 Aq.length (Aq.flatMap GStep.enc)] Tryz.func38 rfl Tryz.ntmps38 rfl (fun e he => by simp only [List.mem_cons, List.not_mem_nil, or_false] at he;rcases he with rfl | rfl <;> assumption) (by rw [← hXe];exact hXn) (fun b hb => by rw [hXe];exact hb) fun a S => ?_
 unfold words_Lines_record_Read_c1 at h
 replace S := S.nk [.blk Af [Ai] 26, .own Ai 39 8 Aq.length (Aq.flatMap GStep.enc)] [(0, sV Ba), (1, .func (.func 39) #[] #[.pointer (some ⟨Af, 0, none⟩)])] [true, true] rfl (subR rfl)
 refine Fs (Fg (lv S (Ra rfl) rfl ?_));clear S;intro a S
 refine lv S (Ra rfl) rfl ?_;clear S;intro a S
 refine Ld (Tn (Fs (Fs (Fg (lv S (Ra rfl) rfl ?_)))));clear S;intro a S
 refine Ld (Tn ?_)
 replace S := S.nk [.blk Af [Ai] 26, .own Ai 39 8 Aq.length (Aq.flatMap GStep.enc)] [(0, sV Ba), (1, .func (.func 39) #[] #[.pointer (some ⟨Af, 0, none⟩)]), (6, iV 0)] [true, true] rfl (subR rfl)
 obtain ⟨j1, hj1, h⟩ := joinE h
 refine f_join (fun a w' => ∃ x1 : List GStep, ∃ v1 : Value, j1 x1 = some r ∧ Sx w X nov [.blk Af [v1] 26, .own v1 39 8 x1.length (x1.flatMap GStep.enc)] [] 30 a w') ?_ ?_
 ·refine wp_block (f_loop (fun (m1 : Nat) a w' => ∃ x1 : List GStep, ∃ x2 : ByteArray, ∃ x3 : Int, ∃ v1 : Value, words_Lines_record_Read_c1_l1 j1 m1 x1 x2 x3 = some r ∧ Sx w X nov [.blk Af [v1] 26, .own v1 39 8 x1.length (x1.flatMap GStep.enc)] [(0, sV x2), (1, .func (.func 39) #[] #[.pointer (some ⟨Af, 0, none⟩)]), (6, iV x3)] 30 a w') id 4611686018427387904 ⟨Aq, Ba, 0, Ai, h, S.nf [true, true] rfl (subR rfl)⟩ ?_)
  clear S h;rintro m1 a w1 ⟨x1, x2, x3, v1, h, S⟩
  cases m1 with
  | zero => rw [words_Lines_record_Read_c1_l1.eq_1] at h;cases h
  | succ m1 =>
   rw [words_Lines_record_Read_c1_l1.eq_2] at h
   refine Fs (Fs (Fg (lv S (Rm (S.tm rfl)) rfl ?_)));clear S;intro a S
   refine lv S (rn_sneq (S.tm rfl) rfl) rfl ?_;clear S;intro a S
   refine Ld (Tn (f_cond (S.tm rfl) (fun hb1 => ?_) (fun hb1 => ?_)))
   ·replace h := iteT h hb1
    refine wp_skip (Tn (Fs (wp_block (Fs (Fg (lv S (Rm (S.tm rfl)) rfl ?_))))));clear S;intro a S
    obtain ⟨r1, hr1, h⟩ := bindE h
    refine l_enter S (fun _ => run_call (vs := [sV x2, sV k__0a]) ⟨(S.tm rfl), rfl, trivial⟩ Tryz.call62) (strings_Cut_ok _ x2 k__0a (hg_maxlen.mono (S.le_arg nil_sub)) _ hr1) rfl ?_;clear S;intro v2 a w3 hv1 hk1 hn1 S
    subst hv1
    refine lv S (Rm (S.tm rfl)) rfl ?_;clear S;intro a S
    iterate 3 (refine lv S (rn_extract (S.tm rfl) rfl) rfl ?_;clear S;intro a S)
    iterate 3 (refine lv S (Ra (S.tm rfl)) rfl ?_;clear S;intro a S)
    refine Ld (Tn (Fs (Fs (Fg (lv S (Rm (S.tm rfl)) rfl ?_)))));clear S;intro a S
    refine lv S (rn_not (S.tm rfl)) rfl ?_;clear S;intro a S
    refine lv S (Rm (S.tm rfl)) rfl ?_;clear S;intro a S
    obtain ⟨j2, hj2, h⟩ := joinE h
    refine f_cutm 5 (fun a w' => ∃ x4 : List GStep, ∃ x5 : Bool, ∃ v3 : Value, j2 x4 x5 = some r ∧ Sx w X nov [.blk Af [v3] 26, .own v3 39 8 x4.length (x4.flatMap GStep.enc)] [(1, .func (.func 39) #[] #[.pointer (some ⟨Af, 0, none⟩)]), (6, iV x3), (8, sV r1.2.1), (27, bV x5)] 30 a w') ?_ ?_
    ·rcases Bool.eq_false_or_eq_true (!r1.2.2) with hb2 | hb2
     ·replace h := iteT h hb2
      iterate 4 (refine l_skip S rfl rfl rfl (neq_t hb2) rfl ?_ rfl;clear S;intro a S)
      refine lv S (rn_pick_b hb2 (S.tm rfl) rfl) rfl ?_;clear S;intro a S
      refine Ld (Tn ?_)
      exact ⟨x1, true, v1, h, S.nf [true, true] rfl (subR rfl)⟩
     ·replace h := iteF h hb2
      refine l_want S rfl rfl rfl hb2 (lv S (Rm (S.tm rfl)) rfl ?_);clear S;intro a S
      refine l_want S rfl rfl rfl hb2 (lv S (Rm (S.tm rfl)) rfl ?_);clear S;intro a S
      refine l_want S rfl rfl rfl hb2 ?_
      obtain ⟨r2, hr2, h⟩ := bindE h
      refine l_enterG [0, 1] [] (Ls := [.blk Af [v1] 26, .own v1 39 8 x1.length (x1.flatMap GStep.enc)]) (Lr := []) (Y := [Af] ++ v1.ownBlock.toList) S rfl rfl rfl (by simp [fps_cons, fps_nil, LEnt.fp]) (fun _ => run_callV (cap := [.pointer (some ⟨Af, 0, none⟩)]) (S.tm rfl) (vs := [sV r1.1]) ⟨(S.tm rfl), trivial⟩ Tryz.call39) (record_Read_c1_ok _ ([Af] ++ v1.ownBlock.toList) r1.1 Af v1 x1 (S.holds _ (List.mem_of_getElem? (i := 1) rfl)) (S.holds _ (List.mem_of_getElem? (i := 0) rfl)) (hg_maxlen.mono (S.le_arg (app_sub (fp_sub (i := 0) (e := .blk Af [v1] 26) rfl) (fp_sub (i := 1) (e := .own v1 39 8 x1.length (x1.flatMap GStep.enc)) rfl)))) (S.ndg [0, 1] [] rfl rfl rfl (by simp [fps_cons, fps_nil, LEnt.fp])) (by simp [fps_cons, fps_nil, LEnt.fp]) _ hr2) rfl ?_;clear S;intro v4 a w5 hv2 hk2 hn2 S
      obtain ⟨v5, hg1, hv2⟩ := hv2;replace S := S _ hg1;clear hg1
      subst hv2
      refine l_want S rfl rfl rfl hb2 (lv S (rn_not (S.tm rfl)) rfl ?_);clear S;intro a S
      refine lv S (rn_pick_c hb2 (S.tm rfl) (S.tm rfl)) rfl ?_;clear S;intro a S
      refine Ld (Tn ?_)
      exact ⟨r2.2, !r2.1, v5, h, S.nf [true, true] rfl (subR rfl)⟩
    clear S h;rintro a w4 ⟨x4, x5, v3, h, S⟩;rw [hj2] at h;clear hj2 j2
    refine Ld (Tn (f_cond (S.tm rfl) (fun hb3 => ?_) (fun hb3 => ?_)))
    ·replace h := iteT h hb3
     refine Fs (Fg (lv S (Rm (S.tm rfl)) rfl ?_));clear S;intro a S
     refine lv S (Ra (S.tm rfl)) rfl ?_;clear S;intro a S
     refine lv S (Ra rfl) rfl ?_;clear S;intro a S
     refine Ld (Tn (wp_ret (then_r (blk_r (then_r (then_r ?_))))))
     refine blk_r (then_r (then_r ?_))
     obtain rfl := Option.some.inj h
     exact f_ret2 S Tryz.results38 rfl rfl ⟨v3, S.grp [0, 1] [] rfl rfl rfl, rfl⟩
    ·replace h := iteF h hb3
     refine wp_skip (Tn (Fg (lv S (Rm (S.tm rfl)) rfl ?_)));clear S;intro a S
     refine lv S (Ra (S.tm rfl)) rfl ?_;clear S;intro a S
     refine Ld (blk_n (Tn (Fg (lv S (Rm (S.tm rfl)) rfl ?_))));clear S;intro a S
     refine lv S (rn_add (S.tm rfl) rfl) rfl ?_;clear S;intro a S
     refine lv S (Ra (S.tm rfl)) rfl ?_;clear S;intro a S
     refine Ld (Tn ?_)
     exact ⟨m1, ⟨x4, r1.2.1, W (x3 + 1), v3, h, S.nf [true, true] rfl ⟨rfl, rfl, rfl, trivial⟩⟩, Nat.lt_succ_self _⟩
   ·replace h := iteF h hb1
    refine wp_exit (then_x (then_x (x_same (Tn ?_))))
    exact ⟨x1, v1, h, S.nf [true, true] rfl trivial⟩
 clear S h;rintro a w2 ⟨x1, v1, h, S⟩;rw [hj1] at h;clear hj1 j1
 refine Tn (Fs (Fg (lv S (Ra rfl) rfl ?_)));clear S;intro a S
 refine lv S (Ra rfl) rfl ?_;clear S;intro a S
 refine Ld (Tn (wp_ret ?_))
 obtain rfl := Option.some.inj h
 exact f_ret2 S Tryz.results38 rfl rfl ⟨v1, S.grp [0, 1] [] rfl rfl rfl, rfl⟩
theorem record_Read_ok (w : World) (Ba : ByteArray) (hg_maxlen : GlobI (view w []) 0) (r : (List GStep) × Int × Int) (h : record_Read Ba = some r) :
    Calls Tryz.prog 10 [sV Ba].toArray w (Ret w [] fun τ v _ => ∃ u1 : Value, v = .tuple #[u1, iV r.2.1, iV r.2.2] ∧ OwnV τ 39 8 u1 r.1.length (r.1.flatMap GStep.enc)) := by
 refine f_enter [] [] Tryz.func10 rfl Tryz.ntmps10 rfl (by simp) (by simp [fps]) (by simp [fps]) fun a S => ?_
 unfold record_Read at h
 replace S := S.nk [] [(0, sV Ba)] [] rfl ⟨rfl, trivial⟩
 refine Fs (Fg (lv S (Ra rfl) rfl ?_));clear S;intro a S
 refine lv S (Ra rfl) rfl ?_;clear S;intro a S
 refine lv S (Ra rfl) rfl ?_;clear S;intro a S
 refine Ld (Tn (Fs (Fs (Fg (lv S (Rm (S.tm rfl)) rfl ?_)))));clear S;intro a S
 refine lv S (rn_len_str Tryz.underlying9 (S.tm rfl)) rfl ?_;clear S;intro a S
 refine lv S (rn_gtr (S.tm rfl) rfl) rfl ?_;clear S;intro a S
 refine Ld (Tn (f_cond (S.tm rfl) (fun hb1 => ?_) (fun hb1 => ?_)))
 ·replace h := iteT h hb1
  refine Fs (Fg (lv S (Ra rfl) rfl ?_));clear S;intro a S
  refine lv S (Ra rfl) rfl ?_;clear S;intro a S
  refine lv S (Ra rfl) rfl ?_;clear S;intro a S
  refine Ld (Tn (wp_ret (then_r ?_)))
  obtain rfl := Option.some.inj h
  exact f_ret3 S Tryz.results10 rfl rfl rfl ⟨_, rfl, (ownV_nil _ _ _)⟩
 ·replace h := iteF h hb1
  refine wp_skip (Tn (Fs (Fg (l_alloc S Tryz.zeroValue26 (cs := [.slice none 0 0]) rfl rfl ?_))));clear S;intro a w1 b1 hz1 hk1 S
  refine Ld (Tn (Fs (Fs (Fg (lv S (Rm (S.tm rfl)) rfl ?_)))));clear S;intro a S
  refine lv S (rn_makeFunc (us := #[]) (xs := [].toArray) (ys := [.tmp 5].toArray) (by simp) (evA ⟨(S.tm rfl), trivial⟩ (vs := [.pointer (some ⟨b1, 0, none⟩)]))) rfl ?_;clear S;intro a S
  replace S := S.nil 39 8
  obtain ⟨r1, hr1, h⟩ := bindE h
  refine l_enterG [1, 0] [] (Ls := [.blk b1 [(.slice none 0 0)] 26, .own (.slice none 0 0) 39 8 ([] : List GStep).length (([] : List GStep).flatMap GStep.enc)]) (Lr := []) (Y := [b1] ++ (Value.ownBlock (.slice none 0 0)).toList) S rfl rfl rfl (by simp [fps_cons, fps_nil, LEnt.fp]) (fun _ => run_call (vs := [sV Ba, .func (.func 39) #[] #[.pointer (some ⟨b1, 0, none⟩)]]) ⟨(S.tm rfl), (S.tm rfl), trivial⟩ Tryz.call38) (words_Lines_record_Read_c1_ok _ ([b1] ++ (Value.ownBlock (.slice none 0 0)).toList) Ba b1 (.slice none 0 0) ([] : List GStep) (S.holds _ (List.mem_of_getElem? (i := 0) rfl)) (S.holds _ (List.mem_of_getElem? (i := 1) rfl)) (hg_maxlen.mono (S.le_arg (app_sub (fp_sub (i := 1) (e := .blk b1 [(.slice none 0 0)] 26) rfl) (fp_sub (i := 0) (e := .own (.slice none 0 0) 39 8 ([] : List GStep).length (([] : List GStep).flatMap GStep.enc)) rfl)))) (S.ndg [1, 0] [] rfl rfl rfl (by simp [fps_cons, fps_nil, LEnt.fp])) (by simp [fps_cons, fps_nil, LEnt.fp]) _ hr1) rfl ?_;clear S;intro v1 a w2 hv1 hk2 hn1 S
  obtain ⟨v2, hg1, hv1⟩ := hv1;replace S := S _ hg1;clear hg1
  subst hv1
  refine lv S (Rm (S.tm rfl)) rfl ?_;clear S;intro a S
  refine lv S (rn_extract (S.tm rfl) rfl) rfl ?_;clear S;intro a S
  refine lv S (rn_extract (S.tm rfl) rfl) rfl ?_;clear S;intro a S
  refine lv S (Ra (S.tm rfl)) rfl ?_;clear S;intro a S
  refine lv S (Ra (S.tm rfl)) rfl ?_;clear S;intro a S
  refine Ld ?_
  replace S := S.nk [.blk b1 [v2] 26, .own v2 39 8 r1.2.2.length (r1.2.2.flatMap GStep.enc)] [(5, .pointer (some ⟨b1, 0, none⟩)), (6, iV r1.1), (7, bV r1.2.1)] [true, true] rfl (subR rfl)
  refine Tn (Fs (Fg (lv S (Rm (S.tm rfl)) rfl ?_)));clear S;intro a S
  refine lv S (rn_not (S.tm rfl)) rfl ?_;clear S;intro a S
  refine Ld (Tn (f_cond (S.tm rfl) (fun hb2 => ?_) (fun hb2 => ?_)))
  ·replace h := iteT h hb2
   refine Fs (Fg (lv S (Rm (S.tm rfl)) rfl ?_));clear S;intro a S
   refine lv S (Ra rfl) rfl ?_;clear S;intro a S
   refine lv S (Ra (S.tm rfl)) rfl ?_;clear S;intro a S
   refine lv S (Ra rfl) rfl ?_;clear S;intro a S
   refine Ld (Tn (wp_ret (then_r ?_)))
   obtain rfl := Option.some.inj h
   exact f_ret3 S Tryz.results10 rfl rfl rfl ⟨_, rfl, (ownV_nil _ _ _)⟩
  ·replace h := iteF h hb2
   refine wp_skip (Tn (Fs (Fs (Fg (lv S (rn_load Tryz.isAgg26 (S.tm rfl) (S.cell (i := 0) rfl rfl)) rfl ?_)))));clear S;intro a S
   obtain ⟨r2, hr2, h⟩ := bindE h
   refine l_enter S (fun _ => run_call (vs := [v2]) ⟨(S.tm rfl), trivial⟩ Tryz.call26) (record_CheckSteps_ok _ v2 r1.2.2 (own_slcT GStep.enc_ok S (i := 1) rfl (ne_nil (e' := .own v2 39 8 r1.2.2.length (r1.2.2.flatMap GStep.enc)))) _ hr2) rfl ?_;clear S;intro v3 a w3 hv2 hk3 hn2 S
   subst hv2
   refine lv S (Ra (S.tm rfl)) rfl ?_;clear S;intro a S
   refine Ld (Tn (Fs (Fg (lv S (Rm (S.tm rfl)) rfl ?_))));clear S;intro a S
   refine lv S (rn_neq (S.tm rfl) rfl) rfl ?_;clear S;intro a S
   refine Ld (Tn (f_cond (S.tm rfl) (fun hb3 => ?_) (fun hb3 => ?_)))
   ·replace h := iteT h hb3
    refine Fs (Fg (lv S (Rm (S.tm rfl)) rfl ?_));clear S;intro a S
    refine lv S (Ra rfl) rfl ?_;clear S;intro a S
    refine lv S (Ra rfl) rfl ?_;clear S;intro a S
    refine lv S (Ra (S.tm rfl)) rfl ?_;clear S;intro a S
    refine Ld (Tn (wp_ret (then_r ?_)))
    obtain rfl := Option.some.inj h
    exact f_ret3 S Tryz.results10 rfl rfl rfl ⟨_, rfl, (ownV_nil _ _ _)⟩
   ·replace h := iteF h hb3
    refine wp_skip (Tn (Fs (Fg (lv S (rn_load Tryz.isAgg26 (S.tm rfl) (S.cell (i := 0) rfl rfl)) rfl ?_))));clear S;intro a S
    refine lv S (Ra (S.tm rfl)) rfl ?_;clear S;intro a S
    refine lv S (Ra rfl) rfl ?_;clear S;intro a S
    refine lv S (Ra rfl) rfl ?_;clear S;intro a S
    refine Ld (Tn (wp_ret ?_))
    obtain rfl := Option.some.inj h
    exact f_ret3 S Tryz.results10 rfl rfl rfl ⟨_, rfl, (own_retT S (i := 1) rfl rfl)⟩
theorem slices_Contains_string_ok (w : World) (Ah : Value) (Z : List ByteArray) (Bu : Slc (view w []) 1 Ah (Z.map eStr)) (Bp : ByteArray) (r : Bool) (h : slices_Contains_string Z Bp = r) :
    Calls Tryz.prog 68 [Ah, sV Bp].toArray w (Ret w [] fun _ v _ => v = bV r) := by
 refine f_enter [] [] Tryz.func68 rfl Tryz.ntmps68 rfl (by simp) (by simp [fps]) (by simp [fps]) fun a S => ?_
 unfold slices_Contains_string at h
 replace S := S.nk [] [(0, Ah), (1, sV Bp)] [] rfl (subR rfl)
 refine Fs (Fg (lv S (Ra rfl) rfl ?_));clear S;intro a S
 refine Ld (Tn (Fs (Fg (lv S (Rm (S.tm rfl)) rfl ?_))));clear S;intro a S
 refine lv S (Rm (S.tm rfl)) rfl ?_;clear S;intro a S
 refine l_enter S (fun _ => run_call (vs := [Ah, sV Bp]) ⟨(S.tm rfl), (S.tm rfl), trivial⟩ Tryz.call45) (slices_Index_string_ok _ Ah Z (Bu.mono (S.le_arg nil_sub)) Bp _ rfl) rfl ?_;clear S;intro v1 a w1 hv1 hk1 hn1 S
 subst hv1
 refine lv S (rn_geq (S.tm rfl) rfl) rfl ?_;clear S;intro a S
 refine lv S (Ra (S.tm rfl)) rfl ?_;clear S;intro a S
 refine Ld (Tn (wp_ret ?_))
 subst h
 exact f_ret S Tryz.results68 rfl rfl
theorem tumbref2_Words_ok (w : World) (Av : ByteArray) (hg_maxlen : GlobI (view w []) 0) (r : (List ByteArray) × Bool) (h : tumbref2_Words Av = some r) :
    Calls Tryz.prog 43 [sV Av].toArray w (Ret w [] fun τ v _ => ∃ u1 : Value, v = .tuple #[u1, bV r.2] ∧ OwnV τ 9 1 u1 r.1.length (r.1.flatMap eStr)) := by
 refine f_enter [] [] Tryz.func43 rfl Tryz.ntmps43 rfl (by simp) (by simp [fps]) (by simp [fps]) fun a S => ?_
 unfold tumbref2_Words at h
 replace S := S.nk [] [(0, sV Av)] [] rfl ⟨rfl, trivial⟩
 refine Fs (Fg (lv S (Ra rfl) rfl ?_));clear S;intro a S
 refine lv S (Ra rfl) rfl ?_;clear S;intro a S
 refine Ld (Tn (Fs (Fg (lv S (Rm (S.tm rfl)) rfl ?_))));clear S;intro a S
 obtain ⟨r1, hr1, h⟩ := bindE h
 have hz1 := S.keep.size
 refine l_enter S (fun _ => run_call (vs := [sV Av, sV k__20]) ⟨(S.tm rfl), rfl, trivial⟩ Tryz.call67) (strings_Split_ok _ Av k__20 (hg_maxlen.mono (S.le_arg nil_sub)) _ hr1) rfl ?_;clear S;intro v1 a w1 hv1 hk1 hn1 S
 obtain ⟨φ1, hl1, hm1, S⟩ := S.see' hn1 hz1
 have hs1 := hv1.mono hm1
 refine lv S (Ra (S.tm rfl)) rfl ?_;clear S;intro a S
 refine Ld (Tn (Fs (Fg (lv S (Rm (S.tm rfl)) rfl ?_))));clear S;intro a S
 refine lv S (Rm (S.tm rfl)) rfl ?_;clear S;intro a S
 refine l_enter S (fun _ => run_call (vs := [v1, sV k_empty]) ⟨(S.tm rfl), rfl, trivial⟩ Tryz.call68) (slices_Contains_string_ok _ v1 r1 ((ownV_slcT enc_str hs1).mono (S.le_new nil_sub)) k_empty _ rfl) rfl ?_;clear S;intro v2 a w2 hv2 hk2 hn2 S
 subst hv2
 refine lv S (rn_not (S.tm rfl)) rfl ?_;clear S;intro a S
 refine lv S (Ra (S.tm rfl)) rfl ?_;clear S;intro a S
 refine lv S (Ra (S.tm rfl)) rfl ?_;clear S;intro a S
 refine Ld (Tn (wp_ret ?_))
 obtain rfl := Option.some.inj h
 exact f_ret2 S Tryz.results43 rfl rfl ⟨_, rfl, ((hs1).mono S.le_newer)⟩
theorem strings_TrimPrefix_ok (w : World) (s : ByteArray) (p : ByteArray) (r : ByteArray) (h : strings_TrimPrefix s p = r) : Calls Tryz.prog 69 [sV s, sV p].toArray w (Ret w [] fun _ v _ => v = .string r) := by
  subst h
  exact ret_of_same (Any.strings_TrimPrefix Tryz.lays101 s p w)
theorem tumbref2_Number_ok (w : World) (Z : ByteArray) (Ak : Int) (hg_pow10 : Glob (view w []) 1 pow10Cells) (r : Int × Bool) (h : tumbref2_Number Z Ak = some r) :
    Calls Tryz.prog 44 [sV Z, iV Ak].toArray w (Ret w [] fun _ v _ => v = .tuple #[iV r.1, bV r.2]) := by
 refine f_enter [] [] Tryz.func44 rfl Tryz.ntmps44 rfl (by simp) (by simp [fps]) (by simp [fps]) fun a S => ?_
 unfold tumbref2_Number at h
 replace S := S.nk [] [(0, sV Z), (1, iV Ak)] [] rfl (subR rfl)
 refine Fs (Fg (lv S (Ra rfl) rfl ?_));clear S;intro a S
 refine lv S (Ra rfl) rfl ?_;clear S;intro a S
 refine Ld (Tn (Fs (Fg (lv S (Rm (S.tm rfl)) rfl ?_))));clear S;intro a S
 refine l_enter S (fun _ => run_call (vs := [sV Z, sV k__2d]) ⟨(S.tm rfl), rfl, trivial⟩ Tryz.call69) (strings_TrimPrefix_ok _ Z k__2d _ rfl) rfl ?_;clear S;intro v1 a w1 hv1 hk1 hn1 S
 subst hv1
 refine lv S (Ra (S.tm rfl)) rfl ?_;clear S;intro a S
 refine Ld (Tn (Fs (Fs (Fg (lv S (Rm (S.tm rfl)) rfl ?_)))));clear S;intro a S
 refine lv S (rn_seql (S.tm rfl) rfl) rfl ?_;clear S;intro a S
 refine lv S (Rm (S.tm rfl)) rfl ?_;clear S;intro a S
 refine f_cutm 5 (fun a w' => Keep [] w1 w' ∧ Sx w [] nov [] [(0, sV Z), (6, sV (strings_TrimPrefix Z k__2d)), (18, bV ((decide ((strings_TrimPrefix Z k__2d) = k_empty)) || (decide (Ak < ((strings_TrimPrefix Z k__2d).size : Int)))))] 38 a w') ?_ ?_
 ·rcases Bool.eq_false_or_eq_true (decide ((strings_TrimPrefix Z k__2d) = k_empty)) with hb1 | hb1
  ·iterate 4 (refine l_skip S rfl rfl rfl (neq_t hb1) rfl ?_ rfl;clear S;intro a S)
   refine lv S (rn_or_t (decide (Ak < ((strings_TrimPrefix Z k__2d).size : Int))) hb1 (S.tm rfl) rfl) rfl ?_;clear S;intro a S
   refine Ld (Tn ?_)
   exact ⟨Keep.refl _ _, S.nf [] rfl (subR rfl)⟩
  ·refine l_want S rfl rfl rfl hb1 (lv S (Rm (S.tm rfl)) rfl ?_);clear S;intro a S
   refine l_want S rfl rfl rfl hb1 (lv S (rn_len_str Tryz.underlying9 (S.tm rfl)) rfl ?_);clear S;intro a S
   refine l_want S rfl rfl rfl hb1 (lv S (Rm (S.tm rfl)) rfl ?_);clear S;intro a S
   refine l_want S rfl rfl rfl hb1 (lv S (rn_gtr (S.tm rfl) (S.tm rfl)) rfl ?_);clear S;intro a S
   refine lv S (rn_or_f hb1 (S.tm rfl) (S.tm rfl)) rfl ?_;clear S;intro a S
   refine Ld (Tn ?_)
   exact ⟨Keep.refl _ _, S.nf [] rfl (subR rfl)⟩
 clear S;rintro a w2 ⟨hk2, S⟩
 refine lv S (Rm (S.tm rfl)) rfl ?_;clear S;intro a S
 obtain ⟨j1, hj1, h⟩ := joinE h
 refine f_cutm 4 (fun a w' => ∃ c1, j1 c1 = some r ∧ Keep [] w2 w' ∧ Sx w [] nov [] [(0, sV Z), (23, bV c1)] 38 a w') ?_ ?_
 ·rcases Bool.eq_false_or_eq_true ((decide ((strings_TrimPrefix Z k__2d) = k_empty)) || (decide (Ak < ((strings_TrimPrefix Z k__2d).size : Int)))) with hb2 | hb2
  ·replace h := iteT h hb2
   iterate 3 (refine l_skip S rfl rfl rfl (neq_t hb2) rfl ?_ rfl;clear S;intro a S)
   refine lv S (rn_or_t true hb2 (S.tm rfl) rfl) rfl ?_;clear S;intro a S
   refine Ld (Tn ?_)
   exact ⟨_, h, Keep.refl _ _, S.nf [] rfl (subR rfl)⟩
  ·replace h := iteF h hb2
   refine l_want S rfl rfl rfl hb2 (lv S (Rm (S.tm rfl)) rfl ?_);clear S;intro a S
   refine l_want S rfl rfl rfl hb2 ?_
   obtain ⟨r1, hr1, h⟩ := bindE h
   refine l_enter S (fun _ => run_call (vs := [sV (strings_TrimPrefix Z k__2d), sV k_0123456789]) ⟨(S.tm rfl), rfl, trivial⟩ Tryz.call70) (tumbref2_only_ok _ (strings_TrimPrefix Z k__2d) k_0123456789 _ hr1) rfl ?_;clear S;intro v2 a w4 hv2 hk3 hn2 S
   subst hv2
   refine l_want S rfl rfl rfl hb2 (lv S (rn_not (S.tm rfl)) rfl ?_);clear S;intro a S
   refine lv S (rn_or_f hb2 (S.tm rfl) (S.tm rfl)) rfl ?_;clear S;intro a S
   refine Ld (Tn ?_)
   exact ⟨_, h, hk3, S.nf [] rfl (subR rfl)⟩
 clear S h;rintro a w3 ⟨c1, h, hk4, S⟩;rw [hj1] at h;clear hj1 j1
 refine Ld (Tn (f_cond (S.tm rfl) (fun hb3 => ?_) (fun hb3 => ?_)))
 ·replace h := iteT h hb3
  refine Fs (Fg (lv S (Ra rfl) rfl ?_));clear S;intro a S
  refine lv S (Ra rfl) rfl ?_;clear S;intro a S
  refine Ld (Tn (wp_ret (then_r ?_)))
  obtain rfl := Option.some.inj h
  exact f_ret2 S Tryz.results44 rfl rfl rfl
 ·replace h := iteF h hb3
  refine wp_skip (Tn (Fs (Fg (lv S (Rm (S.tm rfl)) rfl ?_))));clear S;intro a S
  obtain ⟨r2, hr2, h⟩ := bindE h
  refine l_enter S (fun _ => run_call (vs := [sV Z]) ⟨(S.tm rfl), trivial⟩ Tryz.call71) (strconv_Atoi_ok _ Z _ hr2) rfl ?_;clear S;intro v3 a w5 hv3 hk5 hn3 S
  subst hv3
  refine lv S (Rm (S.tm rfl)) rfl ?_;clear S;intro a S
  refine lv S (rn_extract (S.tm rfl) rfl) rfl ?_;clear S;intro a S
  refine lv S (rn_extract (S.tm rfl) rfl) rfl ?_;clear S;intro a S
  refine lv S (Ra (S.tm rfl)) rfl ?_;clear S;intro a S
  refine lv S (Ra (S.tm rfl)) rfl ?_;clear S;intro a S
  refine Ld (Tn (Fs (Fg (lv S (Rm (S.tm rfl)) rfl ?_))));clear S;intro a S
  refine lv S (Rm (S.tm rfl)) rfl ?_;clear S;intro a S
  refine lv S (rn_ifnileql Tryz.underlying61 (S.tm rfl)) rfl ?_;clear S;intro a S
  refine lv S (Rm (S.tm rfl)) rfl ?_;clear S;intro a S
  obtain ⟨j2, hj2, h⟩ := joinE h
  refine f_cutm 5 (fun a w' => ∃ c2, j2 c2 = some r ∧ Keep [] w5 w' ∧ Sx w [] nov [] [(29, iV r2), (37, bV c2)] 38 a w') ?_ ?_
  ·rcases Bool.eq_false_or_eq_true true with hb4 | hb4
   ·replace h := iteT h hb4
    refine l_want S rfl rfl rfl hb4 (lv S (Rm (S.tm rfl)) rfl ?_);clear S;intro a S
    refine l_want S rfl rfl rfl hb4 ?_
    obtain ⟨r3, hr3, h⟩ := bindE h
    refine l_enter S (fun _ => run_call (vs := [iV r2]) ⟨(S.tm rfl), trivial⟩ Tryz.call27) (strconv_Itoa_ok _ r2 (hg_pow10.mono (S.le_arg nil_sub)) _ hr3) rfl ?_;clear S;intro v4 a w7 hv4 hk6 hn4 S
    subst hv4
    refine l_want S rfl rfl rfl hb4 (lv S (Rm (S.tm rfl)) rfl ?_);clear S;intro a S
    refine l_want S rfl rfl rfl hb4 (lv S (rn_seql (S.tm rfl) (S.tm rfl)) rfl ?_);clear S;intro a S
    refine lv S (rn_and_t hb4 (S.tm rfl) (S.tm rfl)) rfl ?_;clear S;intro a S
    refine Ld (Tn ?_)
    exact ⟨_, h, hk6, S.nf [] rfl (subR rfl)⟩
   ·replace h := iteF h hb4
    iterate 4 (refine l_skip S rfl rfl rfl (neq_f hb4) rfl ?_ rfl;clear S;intro a S)
    refine lv S (rn_and_f true hb4 (S.tm rfl) rfl) rfl ?_;clear S;intro a S
    refine Ld (Tn ?_)
    exact ⟨_, h, Keep.refl _ _, S.nf [] rfl (subR rfl)⟩
  clear S h;rintro a w6 ⟨c2, h, hk7, S⟩;rw [hj2] at h;clear hj2 j2
  refine lv S (Ra (S.tm rfl)) rfl ?_;clear S;intro a S
  refine lv S (Ra (S.tm rfl)) rfl ?_;clear S;intro a S
  refine Ld (Tn (wp_ret ?_))
  obtain rfl := Option.some.inj h
  exact f_ret2 S Tryz.results44 rfl rfl rfl
theorem tumbref2_numbersIn_ok (w : World) (V : Value) (Ac : List ByteArray) (Ag : Slc (view w []) 1 V (Ac.map eStr)) (Ak : Int) (hg_pow10 : Glob (view w []) 1 pow10Cells) (r : (List Int) × Bool) (h : tumbref2_numbersIn Ac Ak = some r) :
    Calls Tryz.prog 46 [V, iV Ak].toArray w (Ret w [] fun τ v _ => ∃ u1 : Value, v = .tuple #[u1, bV r.2] ∧ OwnV τ 3 1 u1 r.1.length (r.1.flatMap eInt)) := by
 refine f_enter [] [] Tryz.func46 rfl Tryz.ntmps46 rfl (by simp) (by simp [fps]) (by simp [fps]) fun a S => ?_
 unfold tumbref2_numbersIn at h
 replace S := S.nk [] [(0, V), (1, iV Ak)] [] rfl (subR rfl)
 refine Fs (Fg (lv S (Ra rfl) rfl ?_));clear S;intro a S
 refine lv S (Ra rfl) rfl ?_;clear S;intro a S
 refine Ld (Tn (Fs (Fg (lv S (Ra rfl) rfl ?_))));clear S;intro a S
 replace S := S.nil 3 1
 refine Ld (Tn (Fs (Fg (lv S (Ra rfl) rfl ?_))));clear S;intro a S
 refine Ld (Tn (Fs (Fs (Fg (lv S (Rm (S.tm rfl)) rfl ?_)))));clear S;intro a S
 refine lv S (rn_lenT sl_57 (S.tm rfl) (slc_len Ag)) rfl ?_;clear S;intro a S
 refine lv S (Rm rfl) rfl ?_;clear S;intro a S
 refine Ld (Tn ?_)
 replace S := S.nk [.own (.slice none 0 0) 3 1 ([] : List Int).length (([] : List Int).flatMap eInt)] [(1, iV Ak), (6, (.slice none 0 0)), (7, bV true), (12, V), (13, iV (Ac.length : Int)), (14, iV 0)] [true] rfl (subR rfl)
 obtain ⟨j1, hj1, h⟩ := joinE h
 refine f_join (fun a w' => ∃ x1 : List Int, ∃ x2 : Bool, ∃ v1 : Value, j1 x1 x2 = some r ∧ Sx w [] nov [.own v1 3 1 x1.length (x1.flatMap eInt)] [(6, v1), (7, bV x2)] 35 a w') ?_ ?_
 ·refine wp_block (f_loop (fun (ys1 : List ByteArray) a w' => ∃ i1 : Nat, ∃ x1 : List Int, ∃ x2 : Bool, ∃ v1 : Value, (∃ dn, Ac = dn ++ ys1 ∧ dn.length = i1) ∧ tumbref2_numbersIn_l1 Ak j1 ys1 i1 x1 x2 = some r ∧ Sx w [] nov [.own v1 3 1 x1.length (x1.flatMap eInt)] [(1, iV Ak), (6, v1), (7, bV x2), (12, V), (13, iV (Ac.length : Int)), (14, iV (i1 : Int))] 35 a w') List.length Ac ⟨0, ([] : List Int), true, (.slice none 0 0), ⟨[], rfl, rfl⟩, h, S.nf [true] rfl (subR rfl)⟩ ?_)
  clear S h;rintro ys1 a w1 ⟨i1, x1, x2, v1, ⟨dn, hd1, hi1⟩, h, S⟩
  cases ys1 with
  | nil =>
   rw [tumbref2_numbersIn_l1.eq_1] at h
   refine Fs (Fg (lv S (rn_lss (S.tm rfl) (S.tm rfl)) rfl ?_));clear S;intro a S
   refine Ld ?_
   replace S := S.nk [.own v1 3 1 x1.length (x1.flatMap eInt)] [(1, iV Ak), (6, v1), (7, bV x2), (12, V), (13, iV (Ac.length : Int)), (14, iV (i1 : Int)), (15, bV (decide ((i1 : Int) < (Ac.length : Int))))] [true] rfl (subR rfl)
   refine Tn (Fs (wp_cond_false ((S.tm rfl).trans (congrArg Value.bool (rng_nil hd1 hi1))) (wp_exit (then_x (then_x (x_same ?_))))))
   refine Tn ?_
   exact ⟨x1, x2, v1, h, S.nf [true] rfl (subR rfl)⟩
  | cons y1 ys1 =>
   rw [tumbref2_numbersIn_l1.eq_2] at h
   refine Fs (Fg (lv S (rn_lss (S.tm rfl) (S.tm rfl)) rfl ?_));clear S;intro a S
   refine Ld ?_
   replace S := S.nk [.own v1 3 1 x1.length (x1.flatMap eInt)] [(1, iV Ak), (6, v1), (7, bV x2), (12, V), (13, iV (Ac.length : Int)), (14, iV (i1 : Int)), (15, bV (decide ((i1 : Int) < (Ac.length : Int))))] [true] rfl (subR rfl)
   refine Tn (Fs (wp_cond_true ((S.tm rfl).trans (congrArg Value.bool (rng_cons hd1 hi1))) (wp_skip (Tn (Fs (wp_block ?_))))))
   refine Fs (Fg ?_)
   obtain ⟨b1, o1, hm1, hr1⟩ := rn_indexT (a := a) (x := .tmp 12) (y := .tmp 14) (ty := 0) sl_57 Ag (get_mid hd1 hi1) rfl (S.tm rfl) (S.tm rfl)
   refine lv S (hr1 _) rfl ?_;clear S;intro a S
   clear hr1
   refine lv S (rn_ld Tryz.isAgg9 (off := o1) (o := 0) (S.tm rfl) (hm1.at S.emb0) rfl) rfl ?_;clear S;intro a S
   refine lv S (Ra (S.tm rfl)) rfl ?_;clear S;intro a S
   refine Ld (Tn (Fs (Fg (lv S (Rm (S.tm rfl)) rfl ?_))));clear S;intro a S
   refine lv S (Rm (S.tm rfl)) rfl ?_;clear S;intro a S
   obtain ⟨r1, hr2, h⟩ := bindE h
   refine l_enter S (fun _ => run_call (vs := [sV y1, iV Ak]) ⟨(S.tm rfl), (S.tm rfl), trivial⟩ Tryz.call44) (tumbref2_Number_ok _ y1 Ak (hg_pow10.mono (S.le_arg nil_sub)) _ hr2) rfl ?_;clear S;intro v2 a w3 hv1 hk1 hn1 S
   subst hv1
   refine lv S (Rm (S.tm rfl)) rfl ?_;clear S;intro a S
   refine lv S (rn_extract (S.tm rfl) rfl) rfl ?_;clear S;intro a S
   refine lv S (rn_extract (S.tm rfl) rfl) rfl ?_;clear S;intro a S
   refine lv S (Ra (S.tm rfl)) rfl ?_;clear S;intro a S
   refine lv S (Ra (S.tm rfl)) rfl ?_;clear S;intro a S
   refine Ld ?_
   replace S := S.nk [.own v1 3 1 x1.length (x1.flatMap eInt)] [(1, iV Ak), (6, v1), (7, bV x2), (10, iV r1.1), (11, bV r1.2), (12, V), (13, iV (Ac.length : Int)), (14, iV (i1 : Int))] [true] rfl (subR rfl)
   refine Tn (Fg (lv S (Rm (S.tm rfl)) rfl ?_));clear S;intro a S
   refine lv S (Rm (S.tm rfl)) rfl ?_;clear S;intro a S
   refine l_buildSlice S Tryz.underlying22 Tryz.sizeOf3 Tryz.zeroValue3 rfl rfl (pv := [(0, iV r1.1)]) ⟨rfl, (S.tm rfl), trivial⟩ (cs := [iV r1.1]) (by kernel_rfl) rfl ?_;clear S;intro a w4 b2 hz1 hk2 S
   obtain ⟨hc1, h⟩ := chkE h
   refine l_appendT sl_22 enc_int S (S.tm rfl) (i := 1) rfl (S.tm rfl) (j := 0) rfl (ys := [r1.1]) rfl rfl rfl rfl (by have := room_lt hc1;omega) rfl ?_;clear S;intro v3 a w5 hk3 S
   refine lv S (Rm (S.tm rfl)) rfl ?_;clear S;intro a S
   refine lv S (Rm (S.tm rfl)) rfl ?_;clear S;intro a S
   refine f_cutm 2 (fun a w' => Keep [] w5 w' ∧ Sx w [] nov [.blk b2 [iV r1.1] 3, .own v3 3 1 (x1 ++ [r1.1]).length ((x1 ++ [r1.1]).flatMap eInt)] [(1, iV Ak), (12, V), (13, iV (Ac.length : Int)), (14, iV (i1 : Int)), (27, v3), (31, bV (x2 && r1.2))] 35 a w') ?_ ?_
   ·rcases Bool.eq_false_or_eq_true x2 with hb1 | hb1
    ·refine l_want S rfl rfl rfl hb1 (lv S (Rm (S.tm rfl)) rfl ?_);clear S;intro a S
     refine lv S (rn_and_t hb1 (S.tm rfl) (S.tm rfl)) rfl ?_;clear S;intro a S
     refine Ld (Tn ?_)
     exact ⟨Keep.refl _ _, S.nf [true, true] rfl (subR rfl)⟩
    ·refine l_skip S rfl rfl rfl (neq_f hb1) rfl ?_ rfl;clear S;intro a S
     refine lv S (rn_and_f r1.2 hb1 (S.tm rfl) rfl) rfl ?_;clear S;intro a S
     refine Ld (Tn ?_)
     exact ⟨Keep.refl _ _, S.nf [true, true] rfl (subR rfl)⟩
   clear S;rintro a w6 ⟨hk4, S⟩
   refine lv S (Ra (S.tm rfl)) rfl ?_;clear S;intro a S
   refine lv S (Ra (S.tm rfl)) rfl ?_;clear S;intro a S
   refine Ld (blk_n (Tn (Fg (lv S (rn_add (S.tm rfl) rfl) rfl ?_))));clear S;intro a S
   refine lv S (Rm (S.tm rfl)) rfl ?_;clear S;intro a S
   refine Ld (Tn ?_)
   exact ⟨ys1, ⟨i1 + 1, (x1 ++ [r1.1]), (x2 && r1.2), v3, ⟨_, (hd1).trans (List.append_cons _ _ _), by simp [hi1]⟩, h, S.nf [false, true] rfl ⟨rfl, rfl, rfl, rfl, rfl, (congrArg (fun z => some (Value.int .i64 z)) (rng_next hd1 hi1 (slc_max Ag))), trivial⟩⟩, Nat.lt_succ_self _⟩
 clear S h;rintro a w2 ⟨x1, x2, v1, h, S⟩;rw [hj1] at h;clear hj1 j1
 refine Tn (Fs (Fg (lv S (Rm (S.tm rfl)) rfl ?_)));clear S;intro a S
 refine lv S (Rm (S.tm rfl)) rfl ?_;clear S;intro a S
 refine lv S (Ra (S.tm rfl)) rfl ?_;clear S;intro a S
 refine lv S (Ra (S.tm rfl)) rfl ?_;clear S;intro a S
 refine Ld (Tn (wp_ret ?_))
 obtain rfl := Option.some.inj h
 exact f_ret2 S Tryz.results46 rfl rfl ⟨_, rfl, (own_retT S (i := 0) rfl rfl)⟩
theorem tumbref2_undash_ok (w : World) (Z : ByteArray) (r : ByteArray) (h : tumbref2_undash Z = r) :
    Calls Tryz.prog 47 [sV Z].toArray w (Ret w [] fun _ v _ => v = sV r) := by
 refine f_enter [] [] Tryz.func47 rfl Tryz.ntmps47 rfl (by simp) (by simp [fps]) (by simp [fps]) fun a S => ?_
 unfold tumbref2_undash at h
 replace S := S.nk [] [(0, sV Z)] [] rfl ⟨rfl, trivial⟩
 refine Fs (Fg (lv S (Ra rfl) rfl ?_));clear S;intro a S
 refine Ld (Tn (Fs (Fs (Fg (lv S (Rm (S.tm rfl)) rfl ?_)))));clear S;intro a S
 refine lv S (rn_seql (S.tm rfl) rfl) rfl ?_;clear S;intro a S
 refine Ld (Tn (f_cond (S.tm rfl) (fun hb1 => ?_) (fun hb1 => ?_)))
 ·replace h := iteT h hb1
  refine Fs (Fg (lv S (Ra rfl) rfl ?_));clear S;intro a S
  refine Ld (Tn (wp_ret (then_r ?_)))
  subst h
  exact f_ret S Tryz.results47 rfl rfl
 ·replace h := iteF h hb1
  refine wp_skip (Tn (Fs (Fg (lv S (Rm (S.tm rfl)) rfl ?_))));clear S;intro a S
  refine lv S (Ra (S.tm rfl)) rfl ?_;clear S;intro a S
  refine Ld (Tn (wp_ret ?_))
  subst h
  exact f_ret S Tryz.results47 rfl rfl
theorem tumbref2_StepsRead_c1_ok (w : World) (X : List Nat) (Av : ByteArray) (As : Nat) (Ap : Value) (Ax : List GStep) (By : (LEnt.own Ap 39 8 Ax.length (Ax.flatMap GStep.enc)).holds w) (Bz : (LEnt.blk As [Ap] 26).holds w) (hg_maxlen : GlobI (view w X) 0) (hg_pow10 : Glob (view w X) 1 pow10Cells) (hXn : X.Nodup) (hXe : X = fps [.blk As [Ap] 26, .own Ap 39 8 Ax.length (Ax.flatMap GStep.enc)]) (r : Bool × (List GStep)) (h : tumbref2_StepsRead_c1 Av Ax = some r) :
    Calls Tryz.prog 42 [sV Av, .pointer (some ⟨As, 0, none⟩)].toArray w (Ret w X fun _ v w' => ∃ y1 : Value, Grp w w' X [.blk As [y1] 26, .own y1 39 8 r.2.length (r.2.flatMap GStep.enc)] ∧ v = bV r.1) := by
 refine f_enter X [.blk As [Ap] 26, .own Ap 39 8 Ax.length (Ax.flatMap GStep.enc)] Tryz.func42 rfl Tryz.ntmps42 rfl (fun e he => by simp only [List.mem_cons, List.not_mem_nil, or_false] at he;rcases he with rfl | rfl <;> assumption) (by rw [← hXe];exact hXn) (fun b hb => by rw [hXe];exact hb) fun a S => ?_
 unfold tumbref2_StepsRead_c1 at h
 replace S := S.nk [.blk As [Ap] 26, .own Ap 39 8 Ax.length (Ax.flatMap GStep.enc)] [(0, sV Av), (1, .pointer (some ⟨As, 0, none⟩))] [true, true] rfl (subR rfl)
 refine Fs (Fg (lv S (Ra rfl) rfl ?_));clear S;intro a S
 refine Ld (Tn (Fs (Fg (lv S (Rm (S.tm rfl)) rfl ?_))));clear S;intro a S
 obtain ⟨r1, hr1, h⟩ := bindE h
 have hz1 := S.keep.size
 refine l_enter S (fun _ => run_call (vs := [sV Av]) ⟨(S.tm rfl), trivial⟩ Tryz.call43) (tumbref2_Words_ok _ Av (hg_maxlen.mono (S.le_arg nil_sub)) _ hr1) rfl ?_;clear S;intro v1 a w1 hv1 hk1 hn1 S
 obtain ⟨u1, rfl, ho1⟩ := hv1
 obtain ⟨φ1, hl1, hm1, S⟩ := S.see' hn1 hz1
 have hs1 := ho1.mono hm1
 refine lv S (Rm (S.tm rfl)) rfl ?_;clear S;intro a S
 refine lv S (rn_extract (S.tm rfl) rfl) rfl ?_;clear S;intro a S
 refine lv S (rn_extract (S.tm rfl) rfl) rfl ?_;clear S;intro a S
 refine lv S (Ra (S.tm rfl)) rfl ?_;clear S;intro a S
 refine lv S (Ra (S.tm rfl)) rfl ?_;clear S;intro a S
 refine Ld (Tn (Fs (Fs (Fg (lv S (Rm (S.tm rfl)) rfl ?_)))));clear S;intro a S
 refine lv S (rn_not (S.tm rfl)) rfl ?_;clear S;intro a S
 refine lv S (Rm (S.tm rfl)) rfl ?_;clear S;intro a S
 refine f_cutm 4 (fun a w' => Keep [] w1 w' ∧ Sx w X φ1 [.blk As [Ap] 26, .own Ap 39 8 Ax.length (Ax.flatMap GStep.enc)] [(1, .pointer (some ⟨As, 0, none⟩)), (4, u1), (22, bV ((!r1.2) || (decide ((r1.1.length : Int) < 3))))] 97 a w') ?_ ?_
 ·rcases Bool.eq_false_or_eq_true (!r1.2) with hb1 | hb1
  ·iterate 3 (refine l_skip S rfl rfl rfl (neq_t hb1) rfl ?_ rfl;clear S;intro a S)
   refine lv S (rn_or_t (decide ((r1.1.length : Int) < 3)) hb1 (S.tm rfl) rfl) rfl ?_;clear S;intro a S
   refine Ld (Tn ?_)
   exact ⟨Keep.refl _ _, S.nf [true, true] rfl (subR rfl)⟩
  ·refine l_want S rfl rfl rfl hb1 (lv S (Rm (S.tm rfl)) rfl ?_);clear S;intro a S
   refine l_want S rfl rfl rfl hb1 (lv S (rn_lenT sl_57 (S.tm rfl) (slc_len (ownV_slcT enc_str hs1))) rfl ?_);clear S;intro a S
   refine l_want S rfl rfl rfl hb1 (lv S (rn_lss (S.tm rfl) rfl) rfl ?_);clear S;intro a S
   refine lv S (rn_or_f hb1 (S.tm rfl) (S.tm rfl)) rfl ?_;clear S;intro a S
   refine Ld (Tn ?_)
   exact ⟨Keep.refl _ _, S.nf [true, true] rfl (subR rfl)⟩
 clear S;rintro a w2 ⟨hk2, S⟩
 refine Ld (Tn (f_cond (S.tm rfl) (fun hb2 => ?_) (fun hb2 => ?_)))
 ·replace h := iteT h hb2
  refine Fs (Fg (lv S (Ra rfl) rfl ?_));clear S;intro a S
  refine Ld (Tn (wp_ret (then_r ?_)))
  obtain rfl := Option.some.inj h
  exact f_ret S Tryz.results42 rfl ⟨Ap, S.grp [0, 1] [] rfl rfl rfl, rfl⟩
 ·replace h := iteF h hb2
  refine wp_skip (Tn (Fs (Fg (lv S (Rm (S.tm rfl)) rfl ?_))));clear S;intro a S
  obtain ⟨hc1, h⟩ := chkE h
  obtain ⟨b1, o1, hm2, hr2⟩ := rn_indexT (a := a) (x := .tmp 24) (y := .const (iV 0)) (ty := 0) sl_57 (ownV_slcT enc_str hs1) (inB_get hc1).1 (inB_get hc1).2 (S.tm rfl) rfl
  refine lv S (hr2 _) rfl ?_;clear S;intro a S
  clear hr2
  refine lv S (rn_ld Tryz.isAgg9 (off := o1) (o := 0) (S.tm rfl) (hm2.at S.emb) rfl) rfl ?_;clear S;intro a S
  obtain ⟨r2, hr3, h⟩ := bindE h
  refine l_enter S (fun _ => run_call (vs := [sV (nth r1.1 0), iV 15]) ⟨(S.tm rfl), rfl, trivial⟩ Tryz.call44) (tumbref2_Number_ok _ (nth r1.1 0) 15 (hg_pow10.mono (S.le_arg nil_sub)) _ hr3) rfl ?_;clear S;intro v2 a w3 hv2 hk3 hn2 S
  subst hv2
  refine lv S (Rm (S.tm rfl)) rfl ?_;clear S;intro a S
  refine lv S (rn_extract (S.tm rfl) rfl) rfl ?_;clear S;intro a S
  refine lv S (rn_extract (S.tm rfl) rfl) rfl ?_;clear S;intro a S
  refine lv S (Ra (S.tm rfl)) rfl ?_;clear S;intro a S
  refine lv S (Ra (S.tm rfl)) rfl ?_;clear S;intro a S
  refine Ld (Tn (Fs ?_))
  obtain ⟨j1, hj1, h⟩ := joinE h
  refine f_join (fun a w' => ∃ φ2 : View, ∃ b2 : Nat, j1 = some r ∧ View.le φ1 φ2 ∧ Sx w X φ2 [.blk b2 (GStep.enc (GStep.mk r2.1 (slices_Index_string tumbref2_stepWords (nth r1.1 1)) (nth r1.1 2) k_empty k_empty k_empty 0 0)) 39, .blk As [Ap] 26, .own Ap 39 8 Ax.length (Ax.flatMap GStep.enc)] [(1, .pointer (some ⟨As, 0, none⟩)), (4, u1), (7, bV r2.2), (8, .pointer (some ⟨b2, 0, none⟩))] 97 a w') ?_ ?_
  ·obtain ⟨hc2, h⟩ := chkE h
   obtain ⟨hc3, h⟩ := chkE h
   refine d_region [] ([]) Tryz.mixed S rfl (by kernel_rfl) ?_;clear S;intro w9 hk8 hsel S
   refine d_quiet 0 S hsel rfl rfl rfl (by kernel_rfl) (by kernel_rfl) rfl (fun _ hw => (Rm (S.tm rfl))) ?_;clear S;intro a S
   refine d_quiet 2 S hsel rfl rfl rfl (by kernel_rfl) (by kernel_rfl) rfl (fun _ hw => (Rm (S.tm rfl))) ?_;clear S;intro a S
   obtain ⟨b6, o4, hm6, hr6⟩ := rn_indexT (a := a) (x := .tmp 32) (y := .const (iV 1)) (ty := 0) sl_57 ((ownV_slcT enc_str hs1).mono (S.le_new nil_sub)) (inB_get hc2).1 (inB_get hc2).2 (S.tm rfl) rfl
   refine d_quiet 3 S hsel rfl rfl rfl (by kernel_rfl) (by kernel_rfl) rfl (fun _ hw => hr6 _) ?_;clear S;intro a S
   clear hr6
   refine d_quiet 4 S hsel rfl rfl rfl (by kernel_rfl) (by kernel_rfl) rfl (fun _ hw => (rn_ld Tryz.isAgg9 (off := o4) (o := 0) (S.tm rfl) (hm6.kept hw) rfl)) ?_;clear S;intro a S
   refine d_quiet 6 S hsel rfl rfl rfl (by kernel_rfl) (by kernel_rfl) rfl (fun _ hw => (Rm (S.tm rfl))) ?_;clear S;intro a S
   obtain ⟨b7, o5, hm7, hr7⟩ := rn_indexT (a := a) (x := .tmp 36) (y := .const (iV 2)) (ty := 0) sl_57 ((ownV_slcT enc_str hs1).mono (S.le_new nil_sub)) (inB_get hc3).1 (inB_get hc3).2 (S.tm rfl) rfl
   refine d_quiet 7 S hsel rfl rfl rfl (by kernel_rfl) (by kernel_rfl) rfl (fun _ hw => hr7 _) ?_;clear S;intro a S
   clear hr7
   refine d_quiet 8 S hsel rfl rfl rfl (by kernel_rfl) (by kernel_rfl) rfl (fun _ hw => (rn_ld Tryz.isAgg9 (off := o5) (o := 0) (S.tm rfl) (hm7.kept hw) rfl)) ?_;clear S;intro a S
   refine d_loud2 1 10 (by kernel_rfl) rfl rfl ?_ ?_
   ·have hz4 := S.keep.size
    refine l_enter S (fun _ => run_call (vs := []) trivial Tryz.call36) (tumbref2_stepWords_ok _ _ rfl) rfl ?_;clear S;intro v5 a w10 hv5 hk9 hn5 S
    obtain ⟨φ4, hl4, hm8, S⟩ := S.see' hn5 hz4
    have hs3 := hv5.mono hm8
    refine Ld (d_next hk9 (d_loud2 5 10 (by kernel_rfl) rfl rfl ?_ ?_))
    ·refine l_enter S (fun _ => run_call (vs := [v5, sV (nth r1.1 1)]) ⟨(S.tm rfl), (S.tm rfl), trivial⟩ Tryz.call45) (slices_Index_string_ok _ v5 tumbref2_stepWords ((ownV_slcT enc_str hs3).mono (S.le_new nil_sub)) (nth r1.1 1) _ rfl) rfl ?_;clear S;intro v6 a w11 hv6 hk10 hn6 S
     subst hv6
     refine Ld (d_next hk10 (d_quiet 9 S hsel rfl rfl rfl (by kernel_rfl) (by kernel_rfl) rfl (fun _ hw => (rn_bld bt_39 (pv := [(0, iV r2.1), (1, iV (slices_Index_string tumbref2_stepWords (nth r1.1 1))), (2, sV (nth r1.1 2))]) ⟨rfl, (S.tm rfl), rfl, (S.tm rfl), rfl, (S.tm rfl), trivial⟩ (cs := [iV r2.1, iV (slices_Index_string tumbref2_stepWords (nth r1.1 1)), sV (nth r1.1 2), sV k_empty, sV k_empty, sV k_empty, iV 0, iV 0]) (by kernel_rfl))) ?_));clear S;intro a S
     refine d_loud1 10 (by kernel_rfl) rfl (l_alloc S Tryz.zeroValue39 (cs := [iV 0, iV 0, sV k_empty, sV k_empty, sV k_empty, sV k_empty, iV 0, iV 0]) rfl rfl ?_);clear S;intro a w12 b8 hz5 hk11 S
     refine Ld (d_nextN ([b8]) hk11 (new1 hz5) (d_loud1 11 (by kernel_rfl) rfl (l_store S (S.tm rfl) (S.tm rfl) (i := 0) (off := 0) rfl Tryz.sizeOf39 (vs := (GStep.enc (GStep.mk r2.1 (slices_Index_string tumbref2_stepWords (nth r1.1 1)) (nth r1.1 2) k_empty k_empty k_empty 0 0))) rfl rfl rfl rfl ?_)));clear S;intro w13 hk12 S
     refine Ld (d_next hk12 (d_end (by kernel_rfl) ?_))
     clear hsel
     replace S := S.nk [.blk b8 (GStep.enc (GStep.mk r2.1 (slices_Index_string tumbref2_stepWords (nth r1.1 1)) (nth r1.1 2) k_empty k_empty k_empty 0 0)) 39, .blk As [Ap] 26, .own Ap 39 8 Ax.length (Ax.flatMap GStep.enc)] [(1, .pointer (some ⟨As, 0, none⟩)), (4, u1), (7, bV r2.2), (8, .pointer (some ⟨b8, 0, none⟩))] [true, true, true] rfl (subR rfl)
     refine Tn ?_
     exact ⟨φ4, b8, h, hl4, S.nf [true, true, true] rfl (subR rfl)⟩
    ·refine l_alloc S Tryz.zeroValue39 (cs := [iV 0, iV 0, sV k_empty, sV k_empty, sV k_empty, sV k_empty, iV 0, iV 0]) rfl rfl ?_;clear S;intro a w14 b9 hz6 hk13 S
     refine Ld (d_nextN ([b9]) hk13 (new1 hz6) (d_loud1 5 (by kernel_rfl) rfl (l_enter S (fun _ => run_call (vs := [v5, sV (nth r1.1 1)]) ⟨(S.tm rfl), (S.tm rfl), trivial⟩ Tryz.call45) (slices_Index_string_ok _ v5 tumbref2_stepWords ((ownV_slcT enc_str hs3).mono (S.le_new nil_sub)) (nth r1.1 1) _ rfl) rfl ?_)));clear S;intro v7 a w15 hv7 hk14 hn7 S
     subst hv7
     refine Ld (d_next (Keep.none hk14) (d_quiet 9 S hsel rfl rfl rfl (by kernel_rfl) (by kernel_rfl) rfl (fun _ hw => (rn_bld bt_39 (pv := [(0, iV r2.1), (1, iV (slices_Index_string tumbref2_stepWords (nth r1.1 1))), (2, sV (nth r1.1 2))]) ⟨rfl, (S.tm rfl), rfl, (S.tm rfl), rfl, (S.tm rfl), trivial⟩ (cs := [iV r2.1, iV (slices_Index_string tumbref2_stepWords (nth r1.1 1)), sV (nth r1.1 2), sV k_empty, sV k_empty, sV k_empty, iV 0, iV 0]) (by kernel_rfl))) ?_));clear S;intro a S
     refine d_loud1 11 (by kernel_rfl) rfl (l_store S (S.tm rfl) (S.tm rfl) (i := 0) (off := 0) rfl Tryz.sizeOf39 (vs := (GStep.enc (GStep.mk r2.1 (slices_Index_string tumbref2_stepWords (nth r1.1 1)) (nth r1.1 2) k_empty k_empty k_empty 0 0))) rfl rfl rfl rfl ?_);clear S;intro w16 hk15 S
     refine Ld (d_next hk15 (d_end (by kernel_rfl) ?_))
     clear hsel
     replace S := S.nk [.blk b9 (GStep.enc (GStep.mk r2.1 (slices_Index_string tumbref2_stepWords (nth r1.1 1)) (nth r1.1 2) k_empty k_empty k_empty 0 0)) 39, .blk As [Ap] 26, .own Ap 39 8 Ax.length (Ax.flatMap GStep.enc)] [(1, .pointer (some ⟨As, 0, none⟩)), (4, u1), (7, bV r2.2), (8, .pointer (some ⟨b9, 0, none⟩))] [true, true, true] rfl (subR rfl)
     refine Tn ?_
     exact ⟨φ4, b9, h, hl4, S.nf [true, true, true] rfl (subR rfl)⟩
   ·refine l_alloc S Tryz.zeroValue39 (cs := [iV 0, iV 0, sV k_empty, sV k_empty, sV k_empty, sV k_empty, iV 0, iV 0]) rfl rfl ?_;clear S;intro a w17 b10 hz7 hk16 S
    refine Ld (d_nextN ([b10]) hk16 (new1 hz7) (d_loud1 1 (by kernel_rfl) rfl ?_))
    have hz8 := S.keep.size
    refine l_enter S (fun _ => run_call (vs := []) trivial Tryz.call36) (tumbref2_stepWords_ok _ _ rfl) rfl ?_;clear S;intro v8 a w18 hv8 hk17 hn8 S
    obtain ⟨φ5, hl5, hm9, S⟩ := S.see' hn8 hz8
    have hs4 := hv8.mono hm9
    refine Ld (d_next (Keep.none hk17) (d_loud1 5 (by kernel_rfl) rfl (l_enter S (fun _ => run_call (vs := [v8, sV (nth r1.1 1)]) ⟨(S.tm rfl), (S.tm rfl), trivial⟩ Tryz.call45) (slices_Index_string_ok _ v8 tumbref2_stepWords ((ownV_slcT enc_str hs4).mono (S.le_new nil_sub)) (nth r1.1 1) _ rfl) rfl ?_)));clear S;intro v9 a w19 hv9 hk18 hn9 S
    subst hv9
    refine Ld (d_next (Keep.none hk18) (d_quiet 9 S hsel rfl rfl rfl (by kernel_rfl) (by kernel_rfl) rfl (fun _ hw => (rn_bld bt_39 (pv := [(0, iV r2.1), (1, iV (slices_Index_string tumbref2_stepWords (nth r1.1 1))), (2, sV (nth r1.1 2))]) ⟨rfl, (S.tm rfl), rfl, (S.tm rfl), rfl, (S.tm rfl), trivial⟩ (cs := [iV r2.1, iV (slices_Index_string tumbref2_stepWords (nth r1.1 1)), sV (nth r1.1 2), sV k_empty, sV k_empty, sV k_empty, iV 0, iV 0]) (by kernel_rfl))) ?_));clear S;intro a S
    refine d_loud1 11 (by kernel_rfl) rfl (l_store S (S.tm rfl) (S.tm rfl) (i := 0) (off := 0) rfl Tryz.sizeOf39 (vs := (GStep.enc (GStep.mk r2.1 (slices_Index_string tumbref2_stepWords (nth r1.1 1)) (nth r1.1 2) k_empty k_empty k_empty 0 0))) rfl rfl rfl rfl ?_);clear S;intro w20 hk19 S
    refine Ld (d_next hk19 (d_end (by kernel_rfl) ?_))
    clear hsel
    replace S := S.nk [.blk b10 (GStep.enc (GStep.mk r2.1 (slices_Index_string tumbref2_stepWords (nth r1.1 1)) (nth r1.1 2) k_empty k_empty k_empty 0 0)) 39, .blk As [Ap] 26, .own Ap 39 8 Ax.length (Ax.flatMap GStep.enc)] [(1, .pointer (some ⟨As, 0, none⟩)), (4, u1), (7, bV r2.2), (8, .pointer (some ⟨b10, 0, none⟩))] [true, true, true] rfl (subR rfl)
    refine Tn ?_
    exact ⟨φ5, b10, h, hl5, S.nf [true, true, true] rfl (subR rfl)⟩
  clear S h;rintro a w4 ⟨φ2, b2, h, hl2, S⟩;rw [hj1] at h;clear hj1 j1
  refine Tn (Fs (wp_block (Fs (Fg (lv S (rn_fld fa_39_1 (S.tm rfl)) rfl ?_)))));clear S;intro a S
  refine lv S (rn_load Tryz.isAgg3 (S.tm rfl) (S.cell (i := 0) rfl rfl)) rfl ?_;clear S;intro a S
  refine lv S (rn_lss (S.tm rfl) rfl) rfl ?_;clear S;intro a S
  refine lv S (Ra (S.tm rfl)) rfl ?_;clear S;intro a S
  refine Ld (Tn (f_cond (S.tm rfl) (fun hb3 => ?_) (fun hb3 => ?_)))
  ·replace h := iteT h hb3
   refine Fs (Fg (lv S (Ra rfl) rfl ?_));clear S;intro a S
   refine Ld (Tn (wp_ret (blk_r (then_r ?_))))
   obtain rfl := Option.some.inj h
   exact f_ret S Tryz.results42 rfl ⟨Ap, S.grp [1, 2] [0] rfl rfl rfl, rfl⟩
  ·replace h := iteF h hb3
   refine Fs (Fg (lv S (rn_fld fa_39_1 (S.tm rfl)) rfl ?_));clear S;intro a S
   refine lv S (rn_load Tryz.isAgg3 (S.tm rfl) (S.cell (i := 0) rfl rfl)) rfl ?_;clear S;intro a S
   refine lv S (rn_gtr (S.tm rfl) rfl) rfl ?_;clear S;intro a S
   refine lv S (Ra (S.tm rfl)) rfl ?_;clear S;intro a S
   refine Ld (Tn (f_cond (S.tm rfl) (fun hb4 => ?_) (fun hb4 => ?_)))
   ·replace h := iteT h hb4
    refine Fs (Fg (lv S (rn_load Tryz.isAgg26 (S.tm rfl) (S.cell (i := 1) rfl rfl)) rfl ?_));clear S;intro a S
    refine lv S (rn_ldA Tryz.isAgg39 Tryz.sizeOf39 (off := 0) (o := 0) (part := (GStep.enc (GStep.mk r2.1 (slices_Index_string tumbref2_stepWords (nth r1.1 1)) (nth r1.1 2) k_empty k_empty k_empty 0 0))) rfl rfl (S.tm rfl) (S.cellsAt (i := 0) rfl)) rfl ?_;clear S;intro a S
    refine l_buildSlice S Tryz.underlying26 Tryz.sizeOf39 Tryz.zeroValue39 rfl rfl (pv := [(0, .agg (GStep.enc (GStep.mk r2.1 (slices_Index_string tumbref2_stepWords (nth r1.1 1)) (nth r1.1 2) k_empty k_empty k_empty 0 0)).toArray)]) ⟨rfl, (S.tm rfl), trivial⟩ (cs := [iV r2.1, iV (slices_Index_string tumbref2_stepWords (nth r1.1 1)), sV (nth r1.1 2), sV k_empty, sV k_empty, sV k_empty, iV 0, iV 0]) (by kernel_rfl) rfl ?_;clear S;intro a w21 b11 hz9 hk20 S
    obtain ⟨hc4, h⟩ := chkE h
    refine l_appendT sl_26 GStep.enc_ok S (S.tm rfl) (i := 3) rfl (S.tm rfl) (j := 0) rfl (ys := [(GStep.mk r2.1 (slices_Index_string tumbref2_stepWords (nth r1.1 1)) (nth r1.1 2) k_empty k_empty k_empty 0 0)]) rfl rfl rfl rfl (by have := room_lt hc4;omega) rfl ?_;clear S;intro v10 a w22 hk21 S
    refine l_store S (S.tm rfl) (S.tm rfl) (i := 2) (off := 0) rfl Tryz.sizeOf26 (vs := [v10]) (SlcLen.cells (own_len (S.own_at (i := 3) rfl))) rfl rfl (all1 (SlcLen.one (own_len (S.own_at (i := 3) rfl))) rfl) ?_;clear S;intro w23 hk22 S
    refine Ld ?_
    replace S := S.nk [.blk As [v10] 26, .own v10 39 8 (Ax ++ [(GStep.mk r2.1 (slices_Index_string tumbref2_stepWords (nth r1.1 1)) (nth r1.1 2) k_empty k_empty k_empty 0 0)]).length ((Ax ++ [(GStep.mk r2.1 (slices_Index_string tumbref2_stepWords (nth r1.1 1)) (nth r1.1 2) k_empty k_empty k_empty 0 0)]).flatMap GStep.enc)] [(4, u1), (7, bV r2.2)] [false, false, true, true] rfl (subR rfl)
    refine Tn (Fs (Fg (lv S (Rm (S.tm rfl)) rfl ?_)));clear S;intro a S
    refine lv S (Rm (S.tm rfl)) rfl ?_;clear S;intro a S
    refine f_cutm 4 (fun a w' => Keep [] w23 w' ∧ Sx w X φ2 [.blk As [v10] 26, .own v10 39 8 (Ax ++ [(GStep.mk r2.1 (slices_Index_string tumbref2_stepWords (nth r1.1 1)) (nth r1.1 2) k_empty k_empty k_empty 0 0)]).length ((Ax ++ [(GStep.mk r2.1 (slices_Index_string tumbref2_stepWords (nth r1.1 1)) (nth r1.1 2) k_empty k_empty k_empty 0 0)]).flatMap GStep.enc)] [(57, bV (r2.2 && (decide ((r1.1.length : Int) = 3))))] 97 a w') ?_ ?_
    ·rcases Bool.eq_false_or_eq_true r2.2 with hb5 | hb5
     ·refine l_want S rfl rfl rfl hb5 (lv S (Rm (S.tm rfl)) rfl ?_);clear S;intro a S
      refine l_want S rfl rfl rfl hb5 (lv S (rn_lenT sl_57 (S.tm rfl) (slc_len (ownV_slcT enc_str hs1))) rfl ?_);clear S;intro a S
      refine l_want S rfl rfl rfl hb5 (lv S (rn_eql (S.tm rfl) rfl) rfl ?_);clear S;intro a S
      refine lv S (rn_and_t hb5 (S.tm rfl) (S.tm rfl)) rfl ?_;clear S;intro a S
      refine Ld (Tn ?_)
      exact ⟨Keep.refl _ _, S.nf [true, true] rfl ⟨rfl, trivial⟩⟩
     ·iterate 3 (refine l_skip S rfl rfl rfl (neq_f hb5) rfl ?_ rfl;clear S;intro a S)
      refine lv S (rn_and_f (decide ((r1.1.length : Int) = 3)) hb5 (S.tm rfl) rfl) rfl ?_;clear S;intro a S
      refine Ld (Tn ?_)
      exact ⟨Keep.refl _ _, S.nf [true, true] rfl ⟨rfl, trivial⟩⟩
    clear S;rintro a w24 ⟨hk23, S⟩
    refine lv S (Ra (S.tm rfl)) rfl ?_;clear S;intro a S
    refine Ld (Tn (wp_ret (blk_r (then_r ?_))))
    obtain rfl := Option.some.inj h
    exact f_ret S Tryz.results42 rfl ⟨v10, S.grp [0, 1] [] rfl rfl rfl, rfl⟩
   ·replace h := iteF h hb4
    refine Fs (Fg (lv S (Rm (S.tm rfl)) rfl ?_));clear S;intro a S
    refine lv S (rn_lenT sl_57 (S.tm rfl) (slc_len (ownV_slcT enc_str hs1))) rfl ?_;clear S;intro a S
    refine lv S (rn_neq (S.tm rfl) rfl) rfl ?_;clear S;intro a S
    refine lv S (Ra (S.tm rfl)) rfl ?_;clear S;intro a S
    refine Ld ?_
    replace S := S.nk [.blk b2 (GStep.enc (GStep.mk r2.1 (slices_Index_string tumbref2_stepWords (nth r1.1 1)) (nth r1.1 2) k_empty k_empty k_empty 0 0)) 39, .blk As [Ap] 26, .own Ap 39 8 Ax.length (Ax.flatMap GStep.enc)] [(1, .pointer (some ⟨As, 0, none⟩)), (4, u1), (7, bV r2.2), (8, .pointer (some ⟨b2, 0, none⟩)), (58, bV (!decide ((r1.1.length : Int) = 8)))] [true, true, true] rfl (subR rfl)
    refine Tn (f_cond (S.tm rfl) (fun hb6 => ?_) (fun hb6 => ?_))
    ·replace h := iteT h hb6
     refine Fs (Fg (lv S (Ra rfl) rfl ?_));clear S;intro a S
     refine Ld (Tn (wp_ret (blk_r (then_r ?_))))
     obtain rfl := Option.some.inj h
     exact f_ret S Tryz.results42 rfl ⟨Ap, S.grp [1, 2] [0] rfl rfl rfl, rfl⟩
    ·replace h := iteF h hb6
     refine wp_skip (blk_n (Tn (Fs (Fg (lv S (Rm (S.tm rfl)) rfl ?_)))));clear S;intro a S
     obtain ⟨hc5, h⟩ := chkE h
     obtain ⟨v11, hs5, hr8⟩ := rn_cutTl (a := a) (x := .tmp 63) (y := .const (iV 6)) (ty := 57) sl_57 (ownV_slcT enc_str hs1) (S.tm rfl) rfl hc5
     refine lv S (hr8 _) rfl ?_;clear S;intro a S
     clear hr8
     obtain ⟨r3, hr9, h⟩ := bindE h
     have hz10 := S.keep.size
     refine l_enter S (fun _ => run_call (vs := [v11, iV 15]) ⟨(S.tm rfl), rfl, trivial⟩ Tryz.call46) (tumbref2_numbersIn_ok _ v11 (cut r1.1 6 r1.1.length) (hs5.mono (View.le_trans hl2 (S.le_new nil_sub))) 15 (hg_pow10.mono (S.le_arg nil_sub)) _ hr9) rfl ?_;clear S;intro v12 a w25 hv10 hk24 hn10 S
     obtain ⟨u5, rfl, ho5⟩ := hv10
     obtain ⟨φ6, hl6, hm10, S⟩ := S.see' hn10 hz10
     have hs6 := ho5.mono hm10
     refine lv S (Rm (S.tm rfl)) rfl ?_;clear S;intro a S
     refine lv S (rn_extract (S.tm rfl) rfl) rfl ?_;clear S;intro a S
     refine lv S (rn_extract (S.tm rfl) rfl) rfl ?_;clear S;intro a S
     refine lv S (Ra (S.tm rfl)) rfl ?_;clear S;intro a S
     refine lv S (Ra (S.tm rfl)) rfl ?_;clear S;intro a S
     refine Ld (Tn (Fs ?_))
     obtain ⟨hc6, h⟩ := chkE h
     obtain ⟨hc7, h⟩ := chkE h
     obtain ⟨hc8, h⟩ := chkE h
     obtain ⟨hc9, h⟩ := chkE h
     obtain ⟨hc10, h⟩ := chkE h
     refine d_region [] ([b2]) Tryz.mixed S rfl (by kernel_rfl) ?_;clear S;intro w32 hk31 hsel S
     refine d_quiet 0 S hsel rfl rfl rfl (by kernel_rfl) (by kernel_rfl) rfl (fun _ hw => (Rm (S.tm rfl))) ?_;clear S;intro a S
     obtain ⟨b17, o11, hm16, hr15⟩ := rn_indexT (a := a) (x := .tmp 68) (y := .const (iV 3)) (ty := 0) sl_57 ((ownV_slcT enc_str hs1).mono (View.le_trans (View.le_trans hl2 hl6) (S.le_new (fp_sub (i := 0) (e := .blk b2 (GStep.enc (GStep.mk r2.1 (slices_Index_string tumbref2_stepWords (nth r1.1 1)) (nth r1.1 2) k_empty k_empty k_empty 0 0)) 39) rfl)))) (inB_get hc6).1 (inB_get hc6).2 (S.tm rfl) rfl
     refine d_quiet 1 S hsel rfl rfl rfl (by kernel_rfl) (by kernel_rfl) rfl (fun _ hw => hr15 _) ?_;clear S;intro a S
     clear hr15
     refine d_quiet 2 S hsel rfl rfl rfl (by kernel_rfl) (by kernel_rfl) rfl (fun _ hw => (rn_ld Tryz.isAgg9 (off := o11) (o := 0) (S.tm rfl) (hm16.kept hw) rfl)) ?_;clear S;intro a S
     refine d_quiet 3 S hsel rfl rfl rfl (by kernel_rfl) (by kernel_rfl) rfl (fun _ hw => (Rm (S.tm rfl))) ?_;clear S;intro a S
     obtain ⟨b18, o12, hm17, hr16⟩ := rn_indexT (a := a) (x := .tmp 71) (y := .const (iV 4)) (ty := 0) sl_57 ((ownV_slcT enc_str hs1).mono (View.le_trans (View.le_trans hl2 hl6) (S.le_new (fp_sub (i := 0) (e := .blk b2 (GStep.enc (GStep.mk r2.1 (slices_Index_string tumbref2_stepWords (nth r1.1 1)) (nth r1.1 2) k_empty k_empty k_empty 0 0)) 39) rfl)))) (inB_get hc7).1 (inB_get hc7).2 (S.tm rfl) rfl
     refine d_quiet 4 S hsel rfl rfl rfl (by kernel_rfl) (by kernel_rfl) rfl (fun _ hw => hr16 _) ?_;clear S;intro a S
     clear hr16
     refine d_quiet 5 S hsel rfl rfl rfl (by kernel_rfl) (by kernel_rfl) rfl (fun _ hw => (rn_ld Tryz.isAgg9 (off := o12) (o := 0) (S.tm rfl) (hm17.kept hw) rfl)) ?_;clear S;intro a S
     refine d_quiet 7 S hsel rfl rfl rfl (by kernel_rfl) (by kernel_rfl) rfl (fun _ hw => (Rm (S.tm rfl))) ?_;clear S;intro a S
     obtain ⟨b19, o13, hm18, hr17⟩ := rn_indexT (a := a) (x := .tmp 75) (y := .const (iV 5)) (ty := 0) sl_57 ((ownV_slcT enc_str hs1).mono (View.le_trans (View.le_trans hl2 hl6) (S.le_new (fp_sub (i := 0) (e := .blk b2 (GStep.enc (GStep.mk r2.1 (slices_Index_string tumbref2_stepWords (nth r1.1 1)) (nth r1.1 2) k_empty k_empty k_empty 0 0)) 39) rfl)))) (inB_get hc8).1 (inB_get hc8).2 (S.tm rfl) rfl
     refine d_quiet 8 S hsel rfl rfl rfl (by kernel_rfl) (by kernel_rfl) rfl (fun _ hw => hr17 _) ?_;clear S;intro a S
     clear hr17
     refine d_quiet 9 S hsel rfl rfl rfl (by kernel_rfl) (by kernel_rfl) rfl (fun _ hw => (rn_ld Tryz.isAgg9 (off := o13) (o := 0) (S.tm rfl) (hm18.kept hw) rfl)) ?_;clear S;intro a S
     refine d_quiet 10 S hsel rfl rfl rfl (by kernel_rfl) (by kernel_rfl) rfl (fun _ hw => (Rm (S.tm rfl))) ?_;clear S;intro a S
     obtain ⟨b20, o14, hm19, hr18⟩ := rn_indexT (a := a) (x := .tmp 78) (y := .const (iV 0)) (ty := 0) sl_22 ((ownV_slcT enc_int hs6).mono (S.le_new (fp_sub (i := 0) (e := .blk b2 (GStep.enc (GStep.mk r2.1 (slices_Index_string tumbref2_stepWords (nth r1.1 1)) (nth r1.1 2) k_empty k_empty k_empty 0 0)) 39) rfl))) (inB_get hc9).1 (inB_get hc9).2 (S.tm rfl) rfl
     refine d_quiet 11 S hsel rfl rfl rfl (by kernel_rfl) (by kernel_rfl) rfl (fun _ hw => hr18 _) ?_;clear S;intro a S
     clear hr18
     refine d_quiet 12 S hsel rfl rfl rfl (by kernel_rfl) (by kernel_rfl) rfl (fun _ hw => (rn_ld Tryz.isAgg3 (off := o14) (o := 0) (S.tm rfl) (hm19.kept hw) rfl)) ?_;clear S;intro a S
     refine d_quiet 13 S hsel rfl rfl rfl (by kernel_rfl) (by kernel_rfl) rfl (fun _ hw => (Rm (S.tm rfl))) ?_;clear S;intro a S
     obtain ⟨b21, o15, hm20, hr19⟩ := rn_indexT (a := a) (x := .tmp 81) (y := .const (iV 1)) (ty := 0) sl_22 ((ownV_slcT enc_int hs6).mono (S.le_new (fp_sub (i := 0) (e := .blk b2 (GStep.enc (GStep.mk r2.1 (slices_Index_string tumbref2_stepWords (nth r1.1 1)) (nth r1.1 2) k_empty k_empty k_empty 0 0)) 39) rfl))) (inB_get hc10).1 (inB_get hc10).2 (S.tm rfl) rfl
     refine d_quiet 14 S hsel rfl rfl rfl (by kernel_rfl) (by kernel_rfl) rfl (fun _ hw => hr19 _) ?_;clear S;intro a S
     clear hr19
     refine d_quiet 15 S hsel rfl rfl rfl (by kernel_rfl) (by kernel_rfl) rfl (fun _ hw => (rn_ld Tryz.isAgg3 (off := o15) (o := 0) (S.tm rfl) (hm20.kept hw) rfl)) ?_;clear S;intro a S
     refine d_quiet 16 S hsel rfl rfl rfl (by kernel_rfl) (by kernel_rfl) rfl (fun _ hw => (rn_fld fa_39_3 (S.tm rfl))) ?_;clear S;intro a S
     refine d_loud1 6 (by kernel_rfl) rfl (l_enter S (fun _ => run_call (vs := [sV (nth r1.1 4)]) ⟨(S.tm rfl), trivial⟩ Tryz.call47) (tumbref2_undash_ok _ (nth r1.1 4) _ rfl) rfl ?_);clear S;intro v14 a w33 hv12 hk32 hn12 S
     subst hv12
     refine Ld (d_next (Keep.none hk32) (d_loud1 17 (by kernel_rfl) rfl (l_store S (S.tm rfl) (S.tm rfl) (i := 0) (off := 3) rfl Tryz.sizeOf9 (vs := [sV (nth r1.1 3)]) rfl rfl rfl rfl ?_)));clear S;intro w34 hk33 S
     refine Ld (d_next hk33 (d_quiet 18 S hsel rfl rfl rfl (by kernel_rfl) (by kernel_rfl) rfl (fun _ hw => (rn_fld fa_39_4 (S.tm rfl))) ?_));clear S;intro a S
     refine d_loud1 19 (by kernel_rfl) rfl (l_store S (S.tm rfl) (S.tm rfl) (i := 0) (off := 4) rfl Tryz.sizeOf9 (vs := [sV (tumbref2_undash (nth r1.1 4))]) rfl rfl rfl rfl ?_);clear S;intro w35 hk34 S
     refine Ld (d_next hk34 (d_quiet 20 S hsel rfl rfl rfl (by kernel_rfl) (by kernel_rfl) rfl (fun _ hw => (rn_fld fa_39_5 (S.tm rfl))) ?_));clear S;intro a S
     refine d_loud1 21 (by kernel_rfl) rfl (l_store S (S.tm rfl) (S.tm rfl) (i := 0) (off := 5) rfl Tryz.sizeOf9 (vs := [sV (nth r1.1 5)]) rfl rfl rfl rfl ?_);clear S;intro w36 hk35 S
     refine Ld (d_next hk35 (d_quiet 22 S hsel rfl rfl rfl (by kernel_rfl) (by kernel_rfl) rfl (fun _ hw => (rn_fld fa_39_6 (S.tm rfl))) ?_));clear S;intro a S
     refine d_loud1 23 (by kernel_rfl) rfl (l_store S (S.tm rfl) (S.tm rfl) (i := 0) (off := 6) rfl Tryz.sizeOf3 (vs := [iV (nth r3.1 0)]) rfl rfl rfl rfl ?_);clear S;intro w37 hk36 S
     refine Ld (d_next hk36 (d_quiet 24 S hsel rfl rfl rfl (by kernel_rfl) (by kernel_rfl) rfl (fun _ hw => (rn_fld fa_39_7 (S.tm rfl))) ?_));clear S;intro a S
     refine d_loud1 25 (by kernel_rfl) rfl (l_store S (S.tm rfl) (S.tm rfl) (i := 0) (off := 7) rfl Tryz.sizeOf3 (vs := [iV (nth r3.1 1)]) rfl rfl rfl rfl ?_);clear S;intro w38 hk37 S
     refine Ld (d_next hk37 (d_end (by kernel_rfl) ?_))
     clear hsel
     replace S := S.nk [.blk b2 (GStep.enc (GStep.mk r2.1 (slices_Index_string tumbref2_stepWords (nth r1.1 1)) (nth r1.1 2) (nth r1.1 3) (tumbref2_undash (nth r1.1 4)) (nth r1.1 5) (nth r3.1 0) (nth r3.1 1))) 39, .blk As [Ap] 26, .own Ap 39 8 Ax.length (Ax.flatMap GStep.enc)] [(1, .pointer (some ⟨As, 0, none⟩)), (7, bV r2.2), (8, .pointer (some ⟨b2, 0, none⟩)), (10, bV r3.2)] [true, true, true] rfl (subR rfl)
     refine Tn (Fs (Fg (lv S (rn_load Tryz.isAgg26 (S.tm rfl) (S.cell (i := 1) rfl rfl)) rfl ?_)));clear S;intro a S
     refine lv S (rn_ldA Tryz.isAgg39 Tryz.sizeOf39 (off := 0) (o := 0) (part := (GStep.enc (GStep.mk r2.1 (slices_Index_string tumbref2_stepWords (nth r1.1 1)) (nth r1.1 2) (nth r1.1 3) (tumbref2_undash (nth r1.1 4)) (nth r1.1 5) (nth r3.1 0) (nth r3.1 1)))) rfl rfl (S.tm rfl) (S.cellsAt (i := 0) rfl)) rfl ?_;clear S;intro a S
     refine l_buildSlice S Tryz.underlying26 Tryz.sizeOf39 Tryz.zeroValue39 rfl rfl (pv := [(0, .agg (GStep.enc (GStep.mk r2.1 (slices_Index_string tumbref2_stepWords (nth r1.1 1)) (nth r1.1 2) (nth r1.1 3) (tumbref2_undash (nth r1.1 4)) (nth r1.1 5) (nth r3.1 0) (nth r3.1 1))).toArray)]) ⟨rfl, (S.tm rfl), trivial⟩ (cs := [iV r2.1, iV (slices_Index_string tumbref2_stepWords (nth r1.1 1)), sV (nth r1.1 2), sV (nth r1.1 3), sV (tumbref2_undash (nth r1.1 4)), sV (nth r1.1 5), iV (nth r3.1 0), iV (nth r3.1 1)]) (by kernel_rfl) rfl ?_;clear S;intro a w39 b22 hz11 hk38 S
     obtain ⟨hc11, h⟩ := chkE h
     refine l_appendT sl_26 GStep.enc_ok S (S.tm rfl) (i := 3) rfl (S.tm rfl) (j := 0) rfl (ys := [(GStep.mk r2.1 (slices_Index_string tumbref2_stepWords (nth r1.1 1)) (nth r1.1 2) (nth r1.1 3) (tumbref2_undash (nth r1.1 4)) (nth r1.1 5) (nth r3.1 0) (nth r3.1 1))]) rfl rfl rfl rfl (by have := room_lt hc11;omega) rfl ?_;clear S;intro v15 a w40 hk39 S
     refine l_store S (S.tm rfl) (S.tm rfl) (i := 2) (off := 0) rfl Tryz.sizeOf26 (vs := [v15]) (SlcLen.cells (own_len (S.own_at (i := 3) rfl))) rfl rfl (all1 (SlcLen.one (own_len (S.own_at (i := 3) rfl))) rfl) ?_;clear S;intro w41 hk40 S
     refine Ld (Tn (Fs (Fg (lv S (Rm (S.tm rfl)) rfl ?_))));clear S;intro a S
     refine lv S (Rm (S.tm rfl)) rfl ?_;clear S;intro a S
     refine f_cutm 2 (fun a w' => Keep [] w41 w' ∧ Sx w X φ6 [.blk b22 (GStep.enc (GStep.mk r2.1 (slices_Index_string tumbref2_stepWords (nth r1.1 1)) (nth r1.1 2) (nth r1.1 3) (tumbref2_undash (nth r1.1 4)) (nth r1.1 5) (nth r3.1 0) (nth r3.1 1))) 39, .blk b2 (GStep.enc (GStep.mk r2.1 (slices_Index_string tumbref2_stepWords (nth r1.1 1)) (nth r1.1 2) (nth r1.1 3) (tumbref2_undash (nth r1.1 4)) (nth r1.1 5) (nth r3.1 0) (nth r3.1 1))) 39, .blk As [v15] 26, .own v15 39 8 (Ax ++ [(GStep.mk r2.1 (slices_Index_string tumbref2_stepWords (nth r1.1 1)) (nth r1.1 2) (nth r1.1 3) (tumbref2_undash (nth r1.1 4)) (nth r1.1 5) (nth r3.1 0) (nth r3.1 1))]).length ((Ax ++ [(GStep.mk r2.1 (slices_Index_string tumbref2_stepWords (nth r1.1 1)) (nth r1.1 2) (nth r1.1 3) (tumbref2_undash (nth r1.1 4)) (nth r1.1 5) (nth r3.1 0) (nth r3.1 1))]).flatMap GStep.enc)] [(96, bV (r2.2 && r3.2))] 97 a w') ?_ ?_
     ·rcases Bool.eq_false_or_eq_true r2.2 with hb7 | hb7
      ·refine l_want S rfl rfl rfl hb7 (lv S (Rm (S.tm rfl)) rfl ?_);clear S;intro a S
       refine lv S (rn_and_t hb7 (S.tm rfl) (S.tm rfl)) rfl ?_;clear S;intro a S
       refine Ld (Tn ?_)
       exact ⟨Keep.refl _ _, S.nf [true, true, true, true] rfl ⟨rfl, trivial⟩⟩
      ·refine l_skip S rfl rfl rfl (neq_f hb7) rfl ?_ rfl;clear S;intro a S
       refine lv S (rn_and_f r3.2 hb7 (S.tm rfl) rfl) rfl ?_;clear S;intro a S
       refine Ld (Tn ?_)
       exact ⟨Keep.refl _ _, S.nf [true, true, true, true] rfl ⟨rfl, trivial⟩⟩
     clear S;rintro a w42 ⟨hk41, S⟩
     refine lv S (Ra (S.tm rfl)) rfl ?_;clear S;intro a S
     refine Ld (Tn (wp_ret ?_))
     obtain rfl := Option.some.inj h
     exact f_ret S Tryz.results42 rfl ⟨v15, S.grp [2, 3] [0, 1] rfl rfl rfl, rfl⟩
theorem tumbref2_Lines_tumbref2_StepsRead_c1_ok (w : World) (X : List Nat) (Ba : ByteArray) (Af : Nat) (Ai : Value) (Aq : List GStep) (Bv : (LEnt.own Ai 39 8 Aq.length (Aq.flatMap GStep.enc)).holds w) (Bw : (LEnt.blk Af [Ai] 26).holds w) (hg_maxlen : GlobI (view w X) 0) (hg_pow10 : Glob (view w X) 1 pow10Cells) (hXn : X.Nodup) (hXe : X = fps [.blk Af [Ai] 26, .own Ai 39 8 Aq.length (Aq.flatMap GStep.enc)]) (r : Int × Bool × (List GStep)) (h : tumbref2_Lines_tumbref2_StepsRead_c1 Ba Aq = some r) :
    Calls Tryz.prog 41 [sV Ba, .func (.func 42) #[] #[.pointer (some ⟨Af, 0, none⟩)]].toArray w (Ret w X fun _ v w' => ∃ y1 : Value, Grp w w' X [.blk Af [y1] 26, .own y1 39 8 r.2.2.length (r.2.2.flatMap GStep.enc)] ∧ v = .tuple #[iV r.1, bV r.2.1]) := by
 refine f_enter X [.blk Af [Ai] 26, .own Ai 39 8 Aq.length (Aq.flatMap GStep.enc)] Tryz.func41 rfl Tryz.ntmps41 rfl (fun e he => by simp only [List.mem_cons, List.not_mem_nil, or_false] at he;rcases he with rfl | rfl <;> assumption) (by rw [← hXe];exact hXn) (fun b hb => by rw [hXe];exact hb) fun a S => ?_
 unfold tumbref2_Lines_tumbref2_StepsRead_c1 at h
 replace S := S.nk [.blk Af [Ai] 26, .own Ai 39 8 Aq.length (Aq.flatMap GStep.enc)] [(0, sV Ba), (1, .func (.func 42) #[] #[.pointer (some ⟨Af, 0, none⟩)])] [true, true] rfl (subR rfl)
 refine Fs (Fg (lv S (Ra rfl) rfl ?_));clear S;intro a S
 refine lv S (Ra rfl) rfl ?_;clear S;intro a S
 refine Ld (Tn (Fs (Fs (Fg (lv S (Ra rfl) rfl ?_)))));clear S;intro a S
 refine Ld (Tn ?_)
 replace S := S.nk [.blk Af [Ai] 26, .own Ai 39 8 Aq.length (Aq.flatMap GStep.enc)] [(0, sV Ba), (1, .func (.func 42) #[] #[.pointer (some ⟨Af, 0, none⟩)]), (6, iV 0)] [true, true] rfl (subR rfl)
 obtain ⟨j1, hj1, h⟩ := joinE h
 refine f_join (fun a w' => ∃ x1 : List GStep, ∃ v1 : Value, j1 x1 = some r ∧ Sx w X nov [.blk Af [v1] 26, .own v1 39 8 x1.length (x1.flatMap GStep.enc)] [] 30 a w') ?_ ?_
 ·refine wp_block (f_loop (fun (m1 : Nat) a w' => ∃ x1 : List GStep, ∃ x2 : ByteArray, ∃ x3 : Int, ∃ v1 : Value, tumbref2_Lines_tumbref2_StepsRead_c1_l1 j1 m1 x1 x2 x3 = some r ∧ Sx w X nov [.blk Af [v1] 26, .own v1 39 8 x1.length (x1.flatMap GStep.enc)] [(0, sV x2), (1, .func (.func 42) #[] #[.pointer (some ⟨Af, 0, none⟩)]), (6, iV x3)] 30 a w') id 4611686018427387904 ⟨Aq, Ba, 0, Ai, h, S.nf [true, true] rfl (subR rfl)⟩ ?_)
  clear S h;rintro m1 a w1 ⟨x1, x2, x3, v1, h, S⟩
  cases m1 with
  | zero => rw [tumbref2_Lines_tumbref2_StepsRead_c1_l1.eq_1] at h;cases h
  | succ m1 =>
   rw [tumbref2_Lines_tumbref2_StepsRead_c1_l1.eq_2] at h
   refine Fs (Fs (Fg (lv S (Rm (S.tm rfl)) rfl ?_)));clear S;intro a S
   refine lv S (rn_sneq (S.tm rfl) rfl) rfl ?_;clear S;intro a S
   refine Ld (Tn (f_cond (S.tm rfl) (fun hb1 => ?_) (fun hb1 => ?_)))
   ·replace h := iteT h hb1
    refine wp_skip (Tn (Fs (wp_block (Fs (Fg (lv S (Rm (S.tm rfl)) rfl ?_))))));clear S;intro a S
    obtain ⟨r1, hr1, h⟩ := bindE h
    refine l_enter S (fun _ => run_call (vs := [sV x2, sV k__0a]) ⟨(S.tm rfl), rfl, trivial⟩ Tryz.call62) (strings_Cut_ok _ x2 k__0a (hg_maxlen.mono (S.le_arg nil_sub)) _ hr1) rfl ?_;clear S;intro v2 a w3 hv1 hk1 hn1 S
    subst hv1
    refine lv S (Rm (S.tm rfl)) rfl ?_;clear S;intro a S
    iterate 3 (refine lv S (rn_extract (S.tm rfl) rfl) rfl ?_;clear S;intro a S)
    iterate 3 (refine lv S (Ra (S.tm rfl)) rfl ?_;clear S;intro a S)
    refine Ld (Tn (Fs (Fs (Fg (lv S (Rm (S.tm rfl)) rfl ?_)))));clear S;intro a S
    refine lv S (rn_not (S.tm rfl)) rfl ?_;clear S;intro a S
    refine lv S (Rm (S.tm rfl)) rfl ?_;clear S;intro a S
    obtain ⟨j2, hj2, h⟩ := joinE h
    refine f_cutm 5 (fun a w' => ∃ x4 : List GStep, ∃ x5 : Bool, ∃ v3 : Value, j2 x4 x5 = some r ∧ Sx w X nov [.blk Af [v3] 26, .own v3 39 8 x4.length (x4.flatMap GStep.enc)] [(1, .func (.func 42) #[] #[.pointer (some ⟨Af, 0, none⟩)]), (6, iV x3), (8, sV r1.2.1), (27, bV x5)] 30 a w') ?_ ?_
    ·rcases Bool.eq_false_or_eq_true (!r1.2.2) with hb2 | hb2
     ·replace h := iteT h hb2
      iterate 4 (refine l_skip S rfl rfl rfl (neq_t hb2) rfl ?_ rfl;clear S;intro a S)
      refine lv S (rn_pick_b hb2 (S.tm rfl) rfl) rfl ?_;clear S;intro a S
      refine Ld (Tn ?_)
      exact ⟨x1, true, v1, h, S.nf [true, true] rfl (subR rfl)⟩
     ·replace h := iteF h hb2
      refine l_want S rfl rfl rfl hb2 (lv S (Rm (S.tm rfl)) rfl ?_);clear S;intro a S
      refine l_want S rfl rfl rfl hb2 (lv S (Rm (S.tm rfl)) rfl ?_);clear S;intro a S
      refine l_want S rfl rfl rfl hb2 ?_
      obtain ⟨r2, hr2, h⟩ := bindE h
      refine l_enterG [0, 1] [] (Ls := [.blk Af [v1] 26, .own v1 39 8 x1.length (x1.flatMap GStep.enc)]) (Lr := []) (Y := [Af] ++ v1.ownBlock.toList) S rfl rfl rfl (by simp [fps_cons, fps_nil, LEnt.fp]) (fun _ => run_callV (cap := [.pointer (some ⟨Af, 0, none⟩)]) (S.tm rfl) (vs := [sV r1.1]) ⟨(S.tm rfl), trivial⟩ Tryz.call42) (tumbref2_StepsRead_c1_ok _ ([Af] ++ v1.ownBlock.toList) r1.1 Af v1 x1 (S.holds _ (List.mem_of_getElem? (i := 1) rfl)) (S.holds _ (List.mem_of_getElem? (i := 0) rfl)) (hg_maxlen.mono (S.le_arg (app_sub (fp_sub (i := 0) (e := .blk Af [v1] 26) rfl) (fp_sub (i := 1) (e := .own v1 39 8 x1.length (x1.flatMap GStep.enc)) rfl)))) (hg_pow10.mono (S.le_arg (app_sub (fp_sub (i := 0) (e := .blk Af [v1] 26) rfl) (fp_sub (i := 1) (e := .own v1 39 8 x1.length (x1.flatMap GStep.enc)) rfl)))) (S.ndg [0, 1] [] rfl rfl rfl (by simp [fps_cons, fps_nil, LEnt.fp])) (by simp [fps_cons, fps_nil, LEnt.fp]) _ hr2) rfl ?_;clear S;intro v4 a w5 hv2 hk2 hn2 S
      obtain ⟨v5, hg1, hv2⟩ := hv2;replace S := S _ hg1;clear hg1
      subst hv2
      refine l_want S rfl rfl rfl hb2 (lv S (rn_not (S.tm rfl)) rfl ?_);clear S;intro a S
      refine lv S (rn_pick_c hb2 (S.tm rfl) (S.tm rfl)) rfl ?_;clear S;intro a S
      refine Ld (Tn ?_)
      exact ⟨r2.2, !r2.1, v5, h, S.nf [true, true] rfl (subR rfl)⟩
    clear S h;rintro a w4 ⟨x4, x5, v3, h, S⟩;rw [hj2] at h;clear hj2 j2
    refine Ld (Tn (f_cond (S.tm rfl) (fun hb3 => ?_) (fun hb3 => ?_)))
    ·replace h := iteT h hb3
     refine Fs (Fg (lv S (Rm (S.tm rfl)) rfl ?_));clear S;intro a S
     refine lv S (Ra (S.tm rfl)) rfl ?_;clear S;intro a S
     refine lv S (Ra rfl) rfl ?_;clear S;intro a S
     refine Ld (Tn (wp_ret (then_r (blk_r (then_r (then_r ?_))))))
     refine blk_r (then_r (then_r ?_))
     obtain rfl := Option.some.inj h
     exact f_ret2 S Tryz.results41 rfl rfl ⟨v3, S.grp [0, 1] [] rfl rfl rfl, rfl⟩
    ·replace h := iteF h hb3
     refine wp_skip (Tn (Fg (lv S (Rm (S.tm rfl)) rfl ?_)));clear S;intro a S
     refine lv S (Ra (S.tm rfl)) rfl ?_;clear S;intro a S
     refine Ld (blk_n (Tn (Fg (lv S (Rm (S.tm rfl)) rfl ?_))));clear S;intro a S
     refine lv S (rn_add (S.tm rfl) rfl) rfl ?_;clear S;intro a S
     refine lv S (Ra (S.tm rfl)) rfl ?_;clear S;intro a S
     refine Ld (Tn ?_)
     exact ⟨m1, ⟨x4, r1.2.1, W (x3 + 1), v3, h, S.nf [true, true] rfl ⟨rfl, rfl, rfl, trivial⟩⟩, Nat.lt_succ_self _⟩
   ·replace h := iteF h hb1
    refine wp_exit (then_x (then_x (x_same (Tn ?_))))
    exact ⟨x1, v1, h, S.nf [true, true] rfl trivial⟩
 clear S h;rintro a w2 ⟨x1, v1, h, S⟩;rw [hj1] at h;clear hj1 j1
 refine Tn (Fs (Fg (lv S (Ra rfl) rfl ?_)));clear S;intro a S
 refine lv S (Ra rfl) rfl ?_;clear S;intro a S
 refine Ld (Tn (wp_ret ?_))
 obtain rfl := Option.some.inj h
 exact f_ret2 S Tryz.results41 rfl rfl ⟨v1, S.grp [0, 1] [] rfl rfl rfl, rfl⟩
theorem tumbref2_StepsRead_ok (w : World) (Ba : ByteArray) (hg_maxlen : GlobI (view w []) 0) (hg_pow10 : Glob (view w []) 1 pow10Cells) (r : (List GStep) × Int × Int) (h : tumbref2_StepsRead Ba = some r) :
    Calls Tryz.prog 11 [sV Ba].toArray w (Ret w [] fun τ v _ => ∃ u1 : Value, v = .tuple #[u1, iV r.2.1, iV r.2.2] ∧ OwnV τ 39 8 u1 r.1.length (r.1.flatMap GStep.enc)) := by
 refine f_enter [] [] Tryz.func11 rfl Tryz.ntmps11 rfl (by simp) (by simp [fps]) (by simp [fps]) fun a S => ?_
 unfold tumbref2_StepsRead at h
 replace S := S.nk [] [(0, sV Ba)] [] rfl ⟨rfl, trivial⟩
 refine Fs (Fg (lv S (Ra rfl) rfl ?_));clear S;intro a S
 refine lv S (Ra rfl) rfl ?_;clear S;intro a S
 refine lv S (Ra rfl) rfl ?_;clear S;intro a S
 refine Ld (Tn (Fs (Fs (Fg (lv S (Rm (S.tm rfl)) rfl ?_)))));clear S;intro a S
 refine lv S (rn_len_str Tryz.underlying9 (S.tm rfl)) rfl ?_;clear S;intro a S
 refine lv S (rn_gtr (S.tm rfl) rfl) rfl ?_;clear S;intro a S
 refine Ld (Tn (f_cond (S.tm rfl) (fun hb1 => ?_) (fun hb1 => ?_)))
 ·replace h := iteT h hb1
  refine Fs (Fg (lv S (Ra rfl) rfl ?_));clear S;intro a S
  refine lv S (Ra rfl) rfl ?_;clear S;intro a S
  refine lv S (Ra rfl) rfl ?_;clear S;intro a S
  refine Ld (Tn (wp_ret (then_r ?_)))
  obtain rfl := Option.some.inj h
  exact f_ret3 S Tryz.results11 rfl rfl rfl ⟨_, rfl, (ownV_nil _ _ _)⟩
 ·replace h := iteF h hb1
  refine wp_skip (Tn (Fs (Fg (l_alloc S Tryz.zeroValue26 (cs := [.slice none 0 0]) rfl rfl ?_))));clear S;intro a w1 b1 hz1 hk1 S
  refine Ld (Tn (Fs (Fg (lv S (Rm (S.tm rfl)) rfl ?_))));clear S;intro a S
  refine lv S (rn_makeFunc (us := #[]) (xs := [].toArray) (ys := [.tmp 5].toArray) (by simp) (evA ⟨(S.tm rfl), trivial⟩ (vs := [.pointer (some ⟨b1, 0, none⟩)]))) rfl ?_;clear S;intro a S
  replace S := S.nil 39 8
  obtain ⟨r1, hr1, h⟩ := bindE h
  refine l_enterG [1, 0] [] (Ls := [.blk b1 [(.slice none 0 0)] 26, .own (.slice none 0 0) 39 8 ([] : List GStep).length (([] : List GStep).flatMap GStep.enc)]) (Lr := []) (Y := [b1] ++ (Value.ownBlock (.slice none 0 0)).toList) S rfl rfl rfl (by simp [fps_cons, fps_nil, LEnt.fp]) (fun _ => run_call (vs := [sV Ba, .func (.func 42) #[] #[.pointer (some ⟨b1, 0, none⟩)]]) ⟨(S.tm rfl), (S.tm rfl), trivial⟩ Tryz.call41) (tumbref2_Lines_tumbref2_StepsRead_c1_ok _ ([b1] ++ (Value.ownBlock (.slice none 0 0)).toList) Ba b1 (.slice none 0 0) ([] : List GStep) (S.holds _ (List.mem_of_getElem? (i := 0) rfl)) (S.holds _ (List.mem_of_getElem? (i := 1) rfl)) (hg_maxlen.mono (S.le_arg (app_sub (fp_sub (i := 1) (e := .blk b1 [(.slice none 0 0)] 26) rfl) (fp_sub (i := 0) (e := .own (.slice none 0 0) 39 8 ([] : List GStep).length (([] : List GStep).flatMap GStep.enc)) rfl)))) (hg_pow10.mono (S.le_arg (app_sub (fp_sub (i := 1) (e := .blk b1 [(.slice none 0 0)] 26) rfl) (fp_sub (i := 0) (e := .own (.slice none 0 0) 39 8 ([] : List GStep).length (([] : List GStep).flatMap GStep.enc)) rfl)))) (S.ndg [1, 0] [] rfl rfl rfl (by simp [fps_cons, fps_nil, LEnt.fp])) (by simp [fps_cons, fps_nil, LEnt.fp]) _ hr1) rfl ?_;clear S;intro v1 a w2 hv1 hk2 hn1 S
  obtain ⟨v2, hg1, hv1⟩ := hv1;replace S := S _ hg1;clear hg1
  subst hv1
  refine lv S (Rm (S.tm rfl)) rfl ?_;clear S;intro a S
  refine lv S (rn_extract (S.tm rfl) rfl) rfl ?_;clear S;intro a S
  refine lv S (rn_extract (S.tm rfl) rfl) rfl ?_;clear S;intro a S
  refine lv S (Ra (S.tm rfl)) rfl ?_;clear S;intro a S
  refine lv S (Ra (S.tm rfl)) rfl ?_;clear S;intro a S
  refine Ld ?_
  replace S := S.nk [.blk b1 [v2] 26, .own v2 39 8 r1.2.2.length (r1.2.2.flatMap GStep.enc)] [(5, .pointer (some ⟨b1, 0, none⟩)), (6, iV r1.1), (7, bV r1.2.1)] [true, true] rfl (subR rfl)
  refine Tn (Fs (Fs (Fg (lv S (Rm (S.tm rfl)) rfl ?_))));clear S;intro a S
  refine lv S (rn_not (S.tm rfl)) rfl ?_;clear S;intro a S
  refine Ld (Tn (f_cond (S.tm rfl) (fun hb2 => ?_) (fun hb2 => ?_)))
  ·replace h := iteT h hb2
   refine Fs (Fg (lv S (Rm (S.tm rfl)) rfl ?_));clear S;intro a S
   refine lv S (Ra rfl) rfl ?_;clear S;intro a S
   refine lv S (Ra (S.tm rfl)) rfl ?_;clear S;intro a S
   refine lv S (Ra rfl) rfl ?_;clear S;intro a S
   refine Ld (Tn (wp_ret (then_r ?_)))
   obtain rfl := Option.some.inj h
   exact f_ret3 S Tryz.results11 rfl rfl rfl ⟨_, rfl, (ownV_nil _ _ _)⟩
  ·replace h := iteF h hb2
   refine wp_skip (Tn (Fs (Fs (Fg (lv S (rn_load Tryz.isAgg26 (S.tm rfl) (S.cell (i := 0) rfl rfl)) rfl ?_)))));clear S;intro a S
   obtain ⟨r2, hr2, h⟩ := bindE h
   refine l_enter S (fun _ => run_call (vs := [v2]) ⟨(S.tm rfl), trivial⟩ Tryz.call8) (tumbref2_StepsFault_ok _ v2 r1.2.2 (own_slcT GStep.enc_ok S (i := 1) rfl (ne_nil (e' := .own v2 39 8 r1.2.2.length (r1.2.2.flatMap GStep.enc)))) _ hr2) rfl ?_;clear S;intro v3 a w3 hv2 hk3 hn2 S
   subst hv2
   refine lv S (Ra (S.tm rfl)) rfl ?_;clear S;intro a S
   refine Ld (Tn (Fs (Fg (lv S (Rm (S.tm rfl)) rfl ?_))));clear S;intro a S
   refine lv S (rn_neq (S.tm rfl) rfl) rfl ?_;clear S;intro a S
   refine Ld (Tn (f_cond (S.tm rfl) (fun hb3 => ?_) (fun hb3 => ?_)))
   ·replace h := iteT h hb3
    refine Fs (Fg (lv S (Rm (S.tm rfl)) rfl ?_));clear S;intro a S
    refine lv S (Ra rfl) rfl ?_;clear S;intro a S
    refine lv S (Ra rfl) rfl ?_;clear S;intro a S
    refine lv S (Ra (S.tm rfl)) rfl ?_;clear S;intro a S
    refine Ld (Tn (wp_ret (then_r ?_)))
    obtain rfl := Option.some.inj h
    exact f_ret3 S Tryz.results11 rfl rfl rfl ⟨_, rfl, (ownV_nil _ _ _)⟩
   ·replace h := iteF h hb3
    refine wp_skip (Tn (Fs (Fg (lv S (rn_load Tryz.isAgg26 (S.tm rfl) (S.cell (i := 0) rfl rfl)) rfl ?_))));clear S;intro a S
    refine lv S (Ra (S.tm rfl)) rfl ?_;clear S;intro a S
    refine lv S (Ra rfl) rfl ?_;clear S;intro a S
    refine lv S (Ra rfl) rfl ?_;clear S;intro a S
    refine Ld (Tn (wp_ret ?_))
    obtain rfl := Option.some.inj h
    exact f_ret3 S Tryz.results11 rfl rfl rfl ⟨_, rfl, (own_retT S (i := 1) rfl rfl)⟩
set_option maxRecDepth 20000 in
theorem slices_Equal_Step_ok (w : World) (Bc : Value) (Bf : List GStep) (Bh : Slc (view w []) 8 Bc (Bf.map GStep.enc)) (Bd : Value) (Bo : List GStep) (Bq : Slc (view w []) 8 Bd (Bo.map GStep.enc)) (r : Bool) (h : slices_Equal_Step Bf Bo = some r) :
    Calls Tryz.prog 12 [Bc, Bd].toArray w (Ret w [] fun _ v _ => v = bV r) := by
 refine f_enter [] [] Tryz.func12 rfl Tryz.ntmps12 rfl (by simp) (by simp [fps]) (by simp [fps]) fun a S => ?_
 unfold slices_Equal_Step at h
 replace S := S.nk [] [(0, Bc), (1, Bd)] [] rfl (subR rfl)
 refine Fs (Fg (lv S (Ra rfl) rfl ?_));clear S;intro a S
 refine Ld (Tn (Fs (Fs (Fg (lv S (Rm (S.tm rfl)) rfl ?_)))));clear S;intro a S
 refine lv S (rn_lenT sl_26 (S.tm rfl) (slc_len Bh)) rfl ?_;clear S;intro a S
 refine lv S (Rm (S.tm rfl)) rfl ?_;clear S;intro a S
 refine lv S (rn_lenT sl_26 (S.tm rfl) (slc_len Bq)) rfl ?_;clear S;intro a S
 refine lv S (rn_neq (S.tm rfl) (S.tm rfl)) rfl ?_;clear S;intro a S
 refine Ld (Tn (f_cond (S.tm rfl) (fun hb1 => ?_) (fun hb1 => ?_)))
 ·replace h := iteT h hb1
  refine Fs (Fg (lv S (Ra rfl) rfl ?_));clear S;intro a S
  refine Ld (Tn (wp_ret (then_r ?_)))
  obtain rfl := Option.some.inj h
  exact f_ret S Tryz.results12 rfl rfl
 ·replace h := iteF h hb1
  refine wp_skip (Tn (Fs (Fs (Fg (lv S (Rm (S.tm rfl)) rfl ?_)))));clear S;intro a S
  refine lv S (rn_lenT sl_26 (S.tm rfl) (slc_len Bh)) rfl ?_;clear S;intro a S
  refine lv S (Rm rfl) rfl ?_;clear S;intro a S
  refine Ld (Tn ?_)
  replace S := S.nk [] [(0, Bc), (1, Bd), (12, iV (Bf.length : Int)), (13, iV 0)] [] rfl (subR rfl)
  obtain ⟨j1, hj1, h⟩ := joinE h
  refine f_join (fun a w' => j1 = some r ∧ Sx w [] nov [] [] 26 a w') ?_ ?_
  ·refine wp_block (f_loop (fun (ys1 : List GStep) a w' => ∃ i1 : Nat, (∃ dn, Bf = dn ++ ys1 ∧ dn.length = i1) ∧ slices_Equal_Step_l1 Bo j1 ys1 i1 = some r ∧ Sx w [] nov [] [(0, Bc), (1, Bd), (12, iV (Bf.length : Int)), (13, iV (i1 : Int))] 26 a w') List.length Bf ⟨0, ⟨[], rfl, rfl⟩, h, S.nf [] rfl (subR rfl)⟩ ?_)
   clear S h;rintro ys1 a w1 ⟨i1, ⟨dn, hd1, hi1⟩, h, S⟩
   cases ys1 with
   | nil =>
    rw [slices_Equal_Step_l1.eq_1] at h
    refine Fs (Fg (lv S (rn_lss (S.tm rfl) (S.tm rfl)) rfl ?_));clear S;intro a S
    refine Ld ?_
    replace S := S.nk [] [(0, Bc), (1, Bd), (12, iV (Bf.length : Int)), (13, iV (i1 : Int)), (14, bV (decide ((i1 : Int) < (Bf.length : Int))))] [] rfl (subR rfl)
    refine Tn (Fs (wp_cond_false ((S.tm rfl).trans (congrArg Value.bool (rng_nil hd1 hi1))) (wp_exit (then_x (then_x (x_same ?_))))))
    refine Tn ?_
    exact ⟨h, S.nf [] rfl trivial⟩
   | cons y1 ys1 =>
    rw [slices_Equal_Step_l1.eq_2] at h
    refine Fs (Fg (lv S (rn_lss (S.tm rfl) (S.tm rfl)) rfl ?_));clear S;intro a S
    refine Ld ?_
    replace S := S.nk [] [(0, Bc), (1, Bd), (12, iV (Bf.length : Int)), (13, iV (i1 : Int)), (14, bV (decide ((i1 : Int) < (Bf.length : Int))))] [] rfl (subR rfl)
    refine Tn (Fs (wp_cond_true ((S.tm rfl).trans (congrArg Value.bool (rng_cons hd1 hi1))) (wp_skip (Tn (Fs (wp_block ?_))))))
    refine Fs (Fg (lv S (Rm (S.tm rfl)) rfl ?_));clear S;intro a S
    refine lv S (Ra (S.tm rfl)) rfl ?_;clear S;intro a S
    refine Ld (Tn (Fs (d_region [] ([]) Tryz.mixed S rfl (by kernel_rfl) ?_)));clear S;intro w3 hk1 hsel S
    refine d_rest [0, 1, 2, 3, 4, 5, 6, 7, 8] hsel (by kernel_rfl) rfl ?_
    clear hsel
    refine s_lv S rfl (Rm (S.tm rfl)) rfl ?_;clear S;intro a S
    refine s_lv S rfl (Rm (S.tm rfl)) rfl ?_;clear S;intro a S
    obtain ⟨b1, o1, hm1, hr1⟩ := rn_indexT (a := a) (x := .tmp 16) (y := .tmp 17) (ty := 0) sl_26 Bh (get_mid hd1 hi1) rfl (S.tm rfl) (S.tm rfl)
    refine s_lv S rfl (hr1 _) rfl ?_;clear S;intro a S
    clear hr1
    refine s_lv S rfl (rn_ldA Tryz.isAgg39 Tryz.sizeOf39 (off := o1) (o := 0) (part := (GStep.enc y1)) rfl rfl (S.tm rfl) (hm1.at S.emb0)) rfl ?_;clear S;intro a S
    refine s_lv S rfl (Rm (S.tm rfl)) rfl ?_;clear S;intro a S
    refine s_lv S rfl (Rm (S.tm rfl)) rfl ?_;clear S;intro a S
    obtain ⟨hc1, h⟩ := chkE h
    obtain ⟨b2, o2, hm2, hr2⟩ := rn_indexT (a := a) (x := .tmp 20) (y := .tmp 21) (ty := 0) sl_26 Bq (inB_get hc1).1 (inB_get hc1).2 (S.tm rfl) (S.tm rfl)
    refine s_lv S rfl (hr2 _) rfl ?_;clear S;intro a S
    clear hr2
    refine s_lv S rfl (rn_ldA Tryz.isAgg39 Tryz.sizeOf39 (off := o2) (o := 0) (part := (GStep.enc (nth Bo (i1 : Int)))) rfl rfl (S.tm rfl) (hm2.at S.emb0)) rfl ?_;clear S;intro a S
    refine s_lv S rfl (rn_neq_39 (m := y1) (n := (nth Bo (i1 : Int))) (S.tm rfl) (S.tm rfl)) rfl ?_;clear S;intro a S
    refine s_done ?_
    replace S := S.nk [] [(0, Bc), (1, Bd), (12, iV (Bf.length : Int)), (13, iV (i1 : Int)), (24, bV (!decide (y1 = (nth Bo (i1 : Int)))))] [] rfl (subR rfl)
    refine Tn (f_cond (S.tm rfl) (fun hb2 => ?_) (fun hb2 => ?_))
    ·replace h := iteT h hb2
     refine Fs (Fg (lv S (Ra rfl) rfl ?_));clear S;intro a S
     refine Ld (Tn (wp_ret (blk_r (then_r (then_r (blk_r ?_))))))
     refine then_r (then_r ?_)
     obtain rfl := Option.some.inj h
     exact f_ret S Tryz.results12 rfl rfl
    ·replace h := iteF h hb2
     refine wp_skip (blk_n (Tn (Fg (lv S (rn_add (S.tm rfl) rfl) rfl ?_))));clear S;intro a S
     refine lv S (Rm (S.tm rfl)) rfl ?_;clear S;intro a S
     refine Ld (Tn ?_)
     exact ⟨ys1, ⟨i1 + 1, ⟨_, (hd1).trans (List.append_cons _ _ _), by simp [hi1]⟩, h, S.nf [] rfl ⟨rfl, rfl, rfl, (congrArg (fun z => some (Value.int .i64 z)) (rng_next hd1 hi1 (slc_max Bh))), trivial⟩⟩, Nat.lt_succ_self _⟩
  clear S h;rintro a w2 ⟨h, S⟩;rw [hj1] at h;clear hj1 j1
  refine Tn (Fs (Fg (lv S (Ra rfl) rfl ?_)));clear S;intro a S
  refine Ld (Tn (wp_ret ?_))
  obtain rfl := Option.some.inj h
  exact f_ret S Tryz.results12 rfl rfl
set_option maxRecDepth 20000 in
theorem record_CheckKinds_ok (w : World) (V : Value) (Ac : List GKind) (Br : List R82) (Ag : Slc (view w []) 5 V (Br.map R82.enc)) (Bj : All2 (rel_82 (view w [])) Ac Br) (r : Int) (h : record_CheckKinds Ac = some r) :
    Calls Tryz.prog 72 [V].toArray w (Ret w [] fun _ v _ => v = iV r) := by
 refine f_enter [] [] Tryz.func72 rfl Tryz.ntmps72 rfl (by simp) (by simp [fps]) (by simp [fps]) fun a S => ?_
 unfold record_CheckKinds at h
 replace S := S.nk [] [(0, V)] [] rfl ⟨rfl, trivial⟩
 refine Fs (Fg (lv S (Ra rfl) rfl ?_));clear S;intro a S
 refine Ld (Tn (Fs (Fs (Fg (lv S (Rm (S.tm rfl)) rfl ?_)))));clear S;intro a S
 refine lv S (rn_lenT sl_83 (S.tm rfl) (slc_lenD Ag Bj)) rfl ?_;clear S;intro a S
 refine lv S (rn_gtr (S.tm rfl) rfl) rfl ?_;clear S;intro a S
 refine Ld (Tn (f_cond (S.tm rfl) (fun hb1 => ?_) (fun hb1 => ?_)))
 ·replace h := iteT h hb1
  refine Fs (Fg (lv S (Ra rfl) rfl ?_));clear S;intro a S
  refine Ld (Tn (wp_ret (then_r ?_)))
  obtain rfl := Option.some.inj h
  exact f_ret S Tryz.results72 rfl rfl
 ·replace h := iteF h hb1
  refine wp_skip (Tn (Fs (Fs (Fg (lv S (Rm (S.tm rfl)) rfl ?_)))));clear S;intro a S
  refine lv S (rn_lenT sl_83 (S.tm rfl) (slc_lenD Ag Bj)) rfl ?_;clear S;intro a S
  refine lv S (Rm rfl) rfl ?_;clear S;intro a S
  refine Ld (Tn ?_)
  replace S := S.nk [] [(0, V), (10, V), (11, iV (Ac.length : Int)), (12, iV 0)] [] rfl (subR rfl)
  obtain ⟨j1, hj1, h⟩ := joinE h
  refine f_join (fun a w' => j1 = some r ∧ Sx w [] nov [] [] 87 a w') ?_ ?_
  ·refine wp_block (f_loop (fun (ys1 : List GKind) a w' => ∃ i1 : Nat, (∃ dn, Ac = dn ++ ys1 ∧ dn.length = i1) ∧ record_CheckKinds_l1 Ac j1 ys1 i1 = some r ∧ Sx w [] nov [] [(0, V), (10, V), (11, iV (Ac.length : Int)), (12, iV (i1 : Int))] 87 a w') List.length Ac ⟨0, ⟨[], rfl, rfl⟩, h, S.nf [] rfl (subR rfl)⟩ ?_)
   clear S h;rintro ys1 a w1 ⟨i1, ⟨dn, hd1, hi1⟩, h, S⟩
   cases ys1 with
   | nil =>
    rw [record_CheckKinds_l1.eq_1] at h
    refine Fs (Fg (lv S (rn_lss (S.tm rfl) (S.tm rfl)) rfl ?_));clear S;intro a S
    refine Ld ?_
    replace S := S.nk [] [(0, V), (10, V), (11, iV (Ac.length : Int)), (12, iV (i1 : Int)), (13, bV (decide ((i1 : Int) < (Ac.length : Int))))] [] rfl (subR rfl)
    refine Tn (Fs (wp_cond_false ((S.tm rfl).trans (congrArg Value.bool (rng_nil hd1 hi1))) (wp_exit (then_x (then_x (x_same ?_))))))
    refine Tn ?_
    exact ⟨h, S.nf [] rfl trivial⟩
   | cons y1 ys1 =>
    rw [record_CheckKinds_l1.eq_2] at h
    refine Fs (Fg (lv S (rn_lss (S.tm rfl) (S.tm rfl)) rfl ?_));clear S;intro a S
    refine Ld ?_
    replace S := S.nk [] [(0, V), (10, V), (11, iV (Ac.length : Int)), (12, iV (i1 : Int)), (13, bV (decide ((i1 : Int) < (Ac.length : Int))))] [] rfl (subR rfl)
    refine Tn (Fs (wp_cond_true ((S.tm rfl).trans (congrArg Value.bool (rng_cons hd1 hi1))) (wp_skip (Tn (Fs (wp_block ?_))))))
    refine Fs (Fg (lv S (Rm (S.tm rfl)) rfl ?_));clear S;intro a S
    obtain ⟨r1, hg1, hl1⟩ := All2.at Bj (get_mid hd1 hi1)
    obtain ⟨u1, rfl, hs1⟩ := hl1
    obtain ⟨b1, o1, hm1, hr1⟩ := rn_indexT (a := a) (x := .tmp 10) (y := .tmp 12) (ty := 0) sl_83 Ag hg1 rfl (S.tm rfl) (S.tm rfl)
    refine lv S (hr1 _) rfl ?_;clear S;intro a S
    clear hr1
    refine lv S (rn_ldA Tryz.isAgg82 Tryz.sizeOf82 (off := o1) (o := 0) (part := [sV y1.Key, sV y1.Race, u1.val, iV y1.Young, iV y1.Old]) rfl rfl (S.tm rfl) (hm1.at S.emb0)) rfl ?_;clear S;intro a S
    refine l_alloc S Tryz.zeroValue82 (cs := [sV k_empty, sV k_empty, .slice none 0 0, iV 0, iV 0]) rfl rfl ?_;clear S;intro a w3 b2 hz1 hk1 S
    refine lv S (Ra (S.tm rfl)) rfl ?_;clear S;intro a S
    refine l_store S (S.tm rfl) (S.tm rfl) (i := 0) (off := 0) rfl Tryz.sizeOf82 (vs := [sV y1.Key, sV y1.Race, u1.val, iV y1.Young, iV y1.Old]) rfl rfl rfl (all1 rfl (all1 rfl (all1 (SlcLen.one (slc_len hs1)) (all1 rfl (all1 rfl rfl))))) ?_;clear S;intro w4 hk2 S
    refine Ld (Tn (Fs (wp_block (Fs (Fg (lv S (rn_fld fa_82_0 (S.tm rfl)) rfl ?_))))));clear S;intro a S
    refine lv S (rn_load Tryz.isAgg9 (S.tm rfl) (S.cell (i := 0) rfl rfl)) rfl ?_;clear S;intro a S
    obtain ⟨r2, hr2, h⟩ := bindE h
    refine l_enter S (fun _ => run_call (vs := [sV y1.Key]) ⟨(S.tm rfl), trivial⟩ Tryz.call80) (words_IsKey_ok _ y1.Key _ hr2) rfl ?_;clear S;intro v1 a w5 hv1 hk3 hn1 S
    subst hv1
    refine lv S (rn_not (S.tm rfl)) rfl ?_;clear S;intro a S
    refine lv S (Rm (S.tm rfl)) rfl ?_;clear S;intro a S
    obtain ⟨j2, hj2, h⟩ := joinE h
    refine f_cutm 5 (fun a w' => ∃ c1, j2 c1 = some r ∧ Keep [] w5 w' ∧ Sx w [] nov [.blk b2 [sV y1.Key, sV y1.Race, u1.val, iV y1.Young, iV y1.Old] 82] [(0, V), (3, iV (i1 : Int)), (4, .pointer (some ⟨b2, 0, none⟩)), (10, V), (11, iV (Ac.length : Int)), (12, iV (i1 : Int)), (27, bV c1)] 87 a w') ?_ ?_
    ·rcases Bool.eq_false_or_eq_true (!r2) with hb2 | hb2
     ·replace h := iteT h hb2
      iterate 4 (refine l_skip S rfl rfl rfl (neq_t hb2) rfl ?_ rfl;clear S;intro a S)
      refine lv S (rn_or_t true hb2 (S.tm rfl) rfl) rfl ?_;clear S;intro a S
      refine Ld (Tn ?_)
      exact ⟨_, h, Keep.refl _ _, S.nf [true] rfl (subR rfl)⟩
     ·replace h := iteF h hb2
      refine l_want S rfl rfl rfl hb2 (lv S (rn_fld fa_82_1 (S.tm rfl)) rfl ?_);clear S;intro a S
      refine l_want S rfl rfl rfl hb2 (lv S (rn_load Tryz.isAgg9 (S.tm rfl) (S.cell (i := 0) rfl rfl)) rfl ?_);clear S;intro a S
      refine l_want S rfl rfl rfl hb2 ?_
      obtain ⟨r3, hr3, h⟩ := bindE h
      refine l_enter S (fun _ => run_call (vs := [sV y1.Race]) ⟨(S.tm rfl), trivial⟩ Tryz.call80) (words_IsKey_ok _ y1.Race _ hr3) rfl ?_;clear S;intro v2 a w7 hv2 hk4 hn2 S
      subst hv2
      refine l_want S rfl rfl rfl hb2 (lv S (rn_not (S.tm rfl)) rfl ?_);clear S;intro a S
      refine lv S (rn_or_f hb2 (S.tm rfl) (S.tm rfl)) rfl ?_;clear S;intro a S
      refine Ld (Tn ?_)
      exact ⟨_, h, hk4, S.nf [true] rfl (subR rfl)⟩
    clear S h;rintro a w6 ⟨c1, h, hk5, S⟩;rw [hj2] at h;clear hj2 j2
    refine lv S (Ra (S.tm rfl)) rfl ?_;clear S;intro a S
    refine Ld (Tn (f_cond (S.tm rfl) (fun hb3 => ?_) (fun hb3 => ?_)))
    ·replace h := iteT h hb3
     refine Fs (Fg (lv S (Ra rfl) rfl ?_));clear S;intro a S
     refine Ld (Tn (wp_ret (blk_r (then_r (blk_r (then_r ?_))))))
     refine then_r (blk_r (then_r (then_r ?_)))
     obtain rfl := Option.some.inj h
     exact f_ret S Tryz.results72 rfl rfl
    ·replace h := iteF h hb3
     refine Fs (d_region [] ([]) Tryz.mixed S rfl (by kernel_rfl) ?_);clear S;intro w8 hk6 hsel S
     refine d_rest [0, 1, 2, 3, 4, 5, 6, 7, 8, 9, 10, 11, 12, 13] hsel (by kernel_rfl) rfl ?_
     clear hsel
     refine s_lv S rfl (Rm (S.tm rfl)) rfl ?_;clear S;intro a S
     refine s_lv S rfl (rn_gtr (S.tm rfl) rfl) rfl ?_;clear S;intro a S
     refine s_lv S rfl (Rm (S.tm rfl)) rfl ?_;clear S;intro a S
     obtain ⟨j3, hj3, h⟩ := joinE h
     refine s_cutm 10 (fun a w' => ∃ c2, j3 c2 = some r ∧ Keep [] w8 w' ∧ Sx w [] nov [.blk b2 [sV y1.Key, sV y1.Race, u1.val, iV y1.Young, iV y1.Old] 82] [(0, V), (4, .pointer (some ⟨b2, 0, none⟩)), (10, V), (11, iV (Ac.length : Int)), (12, iV (i1 : Int)), (41, bV c2)] 87 a w') ?_ ?_
     ·rcases Bool.eq_false_or_eq_true (decide (0 < (i1 : Int))) with hb4 | hb4
      ·replace h := iteT h hb4
       refine s_want S rfl rfl rfl rfl hb4 (s_lv0 S (rn_fld fa_82_0 (S.tm rfl)) rfl ?_);clear S;intro a S
       refine s_want S rfl rfl rfl rfl hb4 (s_lv0 S (rn_load Tryz.isAgg9 (S.tm rfl) (S.cell (i := 0) rfl rfl)) rfl ?_);clear S;intro a S
       refine s_want S rfl rfl rfl rfl hb4 (s_lv0 S (Rm (S.tm rfl)) rfl ?_);clear S;intro a S
       refine s_want S rfl rfl rfl rfl hb4 (s_lv0 S (Rm (S.tm rfl)) rfl ?_);clear S;intro a S
       refine s_want S rfl rfl rfl rfl hb4 (s_lv0 S (rn_sub (S.tm rfl) rfl) rfl ?_);clear S;intro a S
       refine s_want S rfl rfl rfl rfl hb4 ?_
       obtain ⟨hc1, h⟩ := chkE h
       obtain ⟨r4, hg2, hl2⟩ := all2_get Bj hc1
       obtain ⟨u2, rfl, hs2⟩ := hl2
       obtain ⟨b3, o2, hm2, hr4⟩ := rn_indexT (a := a) (x := .tmp 34) (y := .tmp 36) (ty := 0) sl_83 Ag hg2 (inB_get hc1).2 (S.tm rfl) (S.tm rfl)
       refine s_lv0 S (hr4 _) rfl ?_;clear S;intro a S
       clear hr4
       refine s_want S rfl rfl rfl rfl hb4 (s_lv0 S (rn_fld fa_82_0 (S.tm rfl)) rfl ?_);clear S;intro a S
       refine s_want S rfl rfl rfl rfl hb4 (s_lv0 S (rn_ld Tryz.isAgg9 (off := o2) (o := 0) (S.tm rfl) (hm2.at S.emb0) rfl) rfl ?_);clear S;intro a S
       refine s_want S rfl rfl rfl rfl hb4 (s_lv0 S (rn_sleq (S.tm rfl) (S.tm rfl)) rfl ?_);clear S;intro a S
       refine s_lv S rfl (rn_and_t hb4 (S.tm rfl) (S.tm rfl)) rfl ?_;clear S;intro a S
       refine s_done ?_
       exact ⟨_, h, Keep.refl _ _, S.nf [true] rfl (subR rfl)⟩
      ·replace h := iteF h hb4
       iterate 9 (refine s_skip S rfl rfl rfl rfl (neq_f hb4) rfl ?_ rfl;clear S;intro a S)
       refine s_lv S rfl (rn_and_f true hb4 (S.tm rfl) rfl) rfl ?_;clear S;intro a S
       refine s_done ?_
       exact ⟨_, h, Keep.refl _ _, S.nf [true] rfl (subR rfl)⟩
     clear S h;rintro a w9 ⟨c2, h, hk7, S⟩;rw [hj3] at h;clear hj3 j3
     refine s_lv S rfl (Ra (S.tm rfl)) rfl ?_;clear S;intro a S
     refine s_done ?_
     replace S := S.nk [.blk b2 [sV y1.Key, sV y1.Race, u1.val, iV y1.Young, iV y1.Old] 82] [(0, V), (4, .pointer (some ⟨b2, 0, none⟩)), (10, V), (11, iV (Ac.length : Int)), (12, iV (i1 : Int)), (28, bV c2)] [true] rfl (subR rfl)
     refine Tn (f_cond (S.tm rfl) (fun hb5 => ?_) (fun hb5 => ?_))
     ·replace h := iteT h hb5
      refine Fs (Fg (lv S (Ra rfl) rfl ?_));clear S;intro a S
      refine Ld (Tn (wp_ret (blk_r (then_r (blk_r (then_r ?_))))))
      refine then_r (blk_r (then_r (then_r ?_)))
      obtain rfl := Option.some.inj h
      exact f_ret S Tryz.results72 rfl rfl
     ·replace h := iteF h hb5
      refine Fs (Fg (lv S (rn_fld fa_82_2 (S.tm rfl)) rfl ?_));clear S;intro a S
      refine lv S (rn_load Tryz.isAgg57 (S.tm rfl) (S.cell (i := 0) rfl rfl)) rfl ?_;clear S;intro a S
      refine lv S (rn_lenT sl_57 (S.tm rfl) (slc_len hs1)) rfl ?_;clear S;intro a S
      refine lv S (rn_gtr (S.tm rfl) rfl) rfl ?_;clear S;intro a S
      refine lv S (Ra (S.tm rfl)) rfl ?_;clear S;intro a S
      refine Ld (Tn (f_cond (S.tm rfl) (fun hb6 => ?_) (fun hb6 => ?_)))
      ·replace h := iteT h hb6
       refine Fs (Fg (lv S (Ra rfl) rfl ?_));clear S;intro a S
       refine Ld (Tn (wp_ret (blk_r (then_r (blk_r (then_r ?_))))))
       refine then_r (blk_r (then_r (then_r ?_)))
       obtain rfl := Option.some.inj h
       exact f_ret S Tryz.results72 rfl rfl
      ·replace h := iteF h hb6
       refine wp_skip (blk_n (Tn (Fs (Fs (Fg (lv S (rn_fld fa_82_2 (S.tm rfl)) rfl ?_))))));clear S;intro a S
       refine lv S (rn_load Tryz.isAgg57 (S.tm rfl) (S.cell (i := 0) rfl rfl)) rfl ?_;clear S;intro a S
       refine lv S (rn_lenT sl_57 (S.tm rfl) (slc_len hs1)) rfl ?_;clear S;intro a S
       refine lv S (Rm rfl) rfl ?_;clear S;intro a S
       refine Ld ?_
       replace S := S.nk [.blk b2 [sV y1.Key, sV y1.Race, u1.val, iV y1.Young, iV y1.Old] 82] [(0, V), (4, .pointer (some ⟨b2, 0, none⟩)), (10, V), (11, iV (Ac.length : Int)), (12, iV (i1 : Int)), (48, u1.val), (49, iV (y1.Clubs.length : Int)), (50, iV 0)] [true] rfl (subR rfl)
       refine Tn ?_
       obtain ⟨j4, hj4, h⟩ := joinE h
       refine f_join (fun a w' => j4 = some r ∧ Sx w [] nov [.blk b2 [sV y1.Key, sV y1.Race, u1.val, iV y1.Young, iV y1.Old] 82] [(0, V), (4, .pointer (some ⟨b2, 0, none⟩)), (10, V), (11, iV (Ac.length : Int)), (12, iV (i1 : Int))] 87 a w') ?_ ?_
       ·refine wp_block (f_loop (fun (ys2 : List ByteArray) a w' => ∃ i2 : Nat, (∃ dn, y1.Clubs = dn ++ ys2 ∧ dn.length = i2) ∧ record_CheckKinds_l2 y1 j4 ys2 i2 = some r ∧ Sx w [] nov [.blk b2 [sV y1.Key, sV y1.Race, u1.val, iV y1.Young, iV y1.Old] 82] [(0, V), (4, .pointer (some ⟨b2, 0, none⟩)), (10, V), (11, iV (Ac.length : Int)), (12, iV (i1 : Int)), (48, u1.val), (49, iV (y1.Clubs.length : Int)), (50, iV (i2 : Int))] 87 a w') List.length y1.Clubs ⟨0, ⟨[], rfl, rfl⟩, h, S.nf [true] rfl (subR rfl)⟩ ?_)
        clear S h;rintro ys2 a w10 ⟨i2, ⟨dn, hd2, hi2⟩, h, S⟩
        cases ys2 with
        | nil =>
         rw [record_CheckKinds_l2.eq_1] at h
         refine Fs (Fg (lv S (rn_lss (S.tm rfl) (S.tm rfl)) rfl ?_));clear S;intro a S
         refine Ld ?_
         replace S := S.nk [.blk b2 [sV y1.Key, sV y1.Race, u1.val, iV y1.Young, iV y1.Old] 82] [(0, V), (4, .pointer (some ⟨b2, 0, none⟩)), (10, V), (11, iV (Ac.length : Int)), (12, iV (i1 : Int)), (48, u1.val), (49, iV (y1.Clubs.length : Int)), (50, iV (i2 : Int)), (51, bV (decide ((i2 : Int) < (y1.Clubs.length : Int))))] [true] rfl (subR rfl)
         refine Tn (Fs (wp_cond_false ((S.tm rfl).trans (congrArg Value.bool (rng_nil hd2 hi2))) (wp_exit (then_x (then_x (x_same ?_))))))
         refine Tn ?_
         exact ⟨h, S.nf [true] rfl (subR rfl)⟩
        | cons y2 ys2 =>
         rw [record_CheckKinds_l2.eq_2] at h
         refine Fs (Fg (lv S (rn_lss (S.tm rfl) (S.tm rfl)) rfl ?_));clear S;intro a S
         refine Ld ?_
         replace S := S.nk [.blk b2 [sV y1.Key, sV y1.Race, u1.val, iV y1.Young, iV y1.Old] 82] [(0, V), (4, .pointer (some ⟨b2, 0, none⟩)), (10, V), (11, iV (Ac.length : Int)), (12, iV (i1 : Int)), (48, u1.val), (49, iV (y1.Clubs.length : Int)), (50, iV (i2 : Int)), (51, bV (decide ((i2 : Int) < (y1.Clubs.length : Int))))] [true] rfl (subR rfl)
         refine Tn (Fs (wp_cond_true ((S.tm rfl).trans (congrArg Value.bool (rng_cons hd2 hi2))) (wp_skip (Tn (Fs (wp_block ?_))))))
         refine Fs (Fg (lv S (Rm (S.tm rfl)) rfl ?_));clear S;intro a S
         obtain ⟨b4, o3, hm3, hr5⟩ := rn_indexT (a := a) (x := .tmp 48) (y := .tmp 50) (ty := 0) sl_57 hs1 (get_mid hd2 hi2) rfl (S.tm rfl) (S.tm rfl)
         refine lv S (hr5 _) rfl ?_;clear S;intro a S
         clear hr5
         refine lv S (rn_ld Tryz.isAgg9 (off := o3) (o := 0) (S.tm rfl) (hm3.at S.emb0) rfl) rfl ?_;clear S;intro a S
         refine lv S (Ra (S.tm rfl)) rfl ?_;clear S;intro a S
         refine lv S (Ra (S.tm rfl)) rfl ?_;clear S;intro a S
         refine Ld (Tn (Fs (Fs (Fg (lv S (Rm (S.tm rfl)) rfl ?_)))));clear S;intro a S
         obtain ⟨r5, hr6, h⟩ := bindE h
         refine l_enter S (fun _ => run_call (vs := [sV y2]) ⟨(S.tm rfl), trivial⟩ Tryz.call80) (words_IsKey_ok _ y2 _ hr6) rfl ?_;clear S;intro v3 a w12 hv3 hk8 hn3 S
         subst hv3
         refine lv S (rn_not (S.tm rfl)) rfl ?_;clear S;intro a S
         refine Ld ?_
         replace S := S.nk [.blk b2 [sV y1.Key, sV y1.Race, u1.val, iV y1.Young, iV y1.Old] 82] [(0, V), (4, .pointer (some ⟨b2, 0, none⟩)), (5, iV (i2 : Int)), (6, sV y2), (10, V), (11, iV (Ac.length : Int)), (12, iV (i1 : Int)), (48, u1.val), (49, iV (y1.Clubs.length : Int)), (50, iV (i2 : Int)), (57, bV (!r5))] [true] rfl (subR rfl)
         refine Tn (f_cond (S.tm rfl) (fun hb7 => ?_) (fun hb7 => ?_))
         ·replace h := iteT h hb7
          refine Fs (Fg (lv S (Ra rfl) rfl ?_));clear S;intro a S
          refine Ld (Tn (wp_ret (then_r (blk_r (then_r (then_r ?_))))))
          refine blk_r (then_r (then_r (blk_r (then_r (then_r (blk_r ?_))))))
          refine then_r (then_r ?_)
          obtain rfl := Option.some.inj h
          exact f_ret S Tryz.results72 rfl rfl
         ·replace h := iteF h hb7
          refine wp_skip (Tn (Fs (Fg (lv S (Rm (S.tm rfl)) rfl ?_))));clear S;intro a S
          refine lv S (rn_gtr (S.tm rfl) rfl) rfl ?_;clear S;intro a S
          refine lv S (Rm (S.tm rfl)) rfl ?_;clear S;intro a S
          obtain ⟨j5, hj5, h⟩ := joinE h
          refine f_cutm 9 (fun a w' => ∃ c3, j5 c3 = some r ∧ Keep [] w12 w' ∧ Sx w [] nov [.blk b2 [sV y1.Key, sV y1.Race, u1.val, iV y1.Young, iV y1.Old] 82] [(0, V), (4, .pointer (some ⟨b2, 0, none⟩)), (10, V), (11, iV (Ac.length : Int)), (12, iV (i1 : Int)), (48, u1.val), (49, iV (y1.Clubs.length : Int)), (50, iV (i2 : Int)), (69, bV c3)] 87 a w') ?_ ?_
          ·rcases Bool.eq_false_or_eq_true (decide (0 < (i2 : Int))) with hb8 | hb8
           ·replace h := iteT h hb8
            refine l_want S rfl rfl rfl hb8 (lv S (Rm (S.tm rfl)) rfl ?_);clear S;intro a S
            refine l_want S rfl rfl rfl hb8 (lv S (rn_fld fa_82_2 (S.tm rfl)) rfl ?_);clear S;intro a S
            refine l_want S rfl rfl rfl hb8 (lv S (rn_load Tryz.isAgg57 (S.tm rfl) (S.cell (i := 0) rfl rfl)) rfl ?_);clear S;intro a S
            refine l_want S rfl rfl rfl hb8 (lv S (Rm (S.tm rfl)) rfl ?_);clear S;intro a S
            refine l_want S rfl rfl rfl hb8 (lv S (rn_sub (S.tm rfl) rfl) rfl ?_);clear S;intro a S
            refine l_want S rfl rfl rfl hb8 ?_
            obtain ⟨hc2, h⟩ := chkE h
            obtain ⟨b5, o4, hm4, hr7⟩ := rn_indexT (a := a) (x := .tmp 63) (y := .tmp 65) (ty := 0) sl_57 hs1 (inB_get hc2).1 (inB_get hc2).2 (S.tm rfl) (S.tm rfl)
            refine lv S (hr7 _) rfl ?_;clear S;intro a S
            clear hr7
            refine l_want S rfl rfl rfl hb8 (lv S (rn_ld Tryz.isAgg9 (off := o4) (o := 0) (S.tm rfl) (hm4.at S.emb0) rfl) rfl ?_);clear S;intro a S
            refine l_want S rfl rfl rfl hb8 (lv S (rn_sleq (S.tm rfl) (S.tm rfl)) rfl ?_);clear S;intro a S
            refine lv S (rn_and_t hb8 (S.tm rfl) (S.tm rfl)) rfl ?_;clear S;intro a S
            refine Ld (Tn ?_)
            exact ⟨_, h, Keep.refl _ _, S.nf [true] rfl (subR rfl)⟩
           ·replace h := iteF h hb8
            iterate 8 (refine l_skip S rfl rfl rfl (neq_f hb8) rfl ?_ rfl;clear S;intro a S)
            refine lv S (rn_and_f true hb8 (S.tm rfl) rfl) rfl ?_;clear S;intro a S
            refine Ld (Tn ?_)
            exact ⟨_, h, Keep.refl _ _, S.nf [true] rfl (subR rfl)⟩
          clear S h;rintro a w13 ⟨c3, h, hk9, S⟩;rw [hj5] at h;clear hj5 j5
          refine Ld (Tn (f_cond (S.tm rfl) (fun hb9 => ?_) (fun hb9 => ?_)))
          ·replace h := iteT h hb9
           refine Fs (Fg (lv S (Ra rfl) rfl ?_));clear S;intro a S
           refine Ld (Tn (wp_ret (blk_r (then_r (then_r (blk_r ?_))))))
           refine then_r (then_r (blk_r (then_r (then_r (blk_r (then_r ?_))))))
           refine then_r ?_
           obtain rfl := Option.some.inj h
           exact f_ret S Tryz.results72 rfl rfl
          ·replace h := iteF h hb9
           refine wp_skip (blk_n (Tn (Fg (lv S (rn_add (S.tm rfl) rfl) rfl ?_))));clear S;intro a S
           refine lv S (Rm (S.tm rfl)) rfl ?_;clear S;intro a S
           refine Ld (Tn ?_)
           exact ⟨ys2, ⟨i2 + 1, ⟨_, (hd2).trans (List.append_cons _ _ _), by simp [hi2]⟩, h, S.nf [true] rfl ⟨rfl, rfl, rfl, rfl, rfl, rfl, rfl, (congrArg (fun z => some (Value.int .i64 z)) (rng_next hd2 hi2 (slc_max hs1))), trivial⟩⟩, Nat.lt_succ_self _⟩
       clear S h;rintro a w11 ⟨h, S⟩;rw [hj4] at h;clear hj4 j4
       refine Tn (Fs (Fg (lv S (rn_fld fa_82_3 (S.tm rfl)) rfl ?_)));clear S;intro a S
       refine lv S (rn_load Tryz.isAgg3 (S.tm rfl) (S.cell (i := 0) rfl rfl)) rfl ?_;clear S;intro a S
       refine lv S (rn_lss (S.tm rfl) rfl) rfl ?_;clear S;intro a S
       refine lv S (Rm (S.tm rfl)) rfl ?_;clear S;intro a S
       refine f_cutm 6 (fun a w' => Keep [] w11 w' ∧ Sx w [] nov [.blk b2 [sV y1.Key, sV y1.Race, u1.val, iV y1.Young, iV y1.Old] 82] [(0, V), (4, .pointer (some ⟨b2, 0, none⟩)), (10, V), (11, iV (Ac.length : Int)), (12, iV (i1 : Int)), (80, bV ((decide (y1.Young < 0)) || (decide (y1.Old < y1.Young))))] 87 a w') ?_ ?_
       ·rcases Bool.eq_false_or_eq_true (decide (y1.Young < 0)) with hb10 | hb10
        ·iterate 5 (refine l_skip S rfl rfl rfl (neq_t hb10) rfl ?_ rfl;clear S;intro a S)
         refine lv S (rn_or_t (decide (y1.Old < y1.Young)) hb10 (S.tm rfl) rfl) rfl ?_;clear S;intro a S
         refine Ld (Tn ?_)
         exact ⟨Keep.refl _ _, S.nf [true] rfl (subR rfl)⟩
        ·refine l_want S rfl rfl rfl hb10 (lv S (rn_fld fa_82_3 (S.tm rfl)) rfl ?_);clear S;intro a S
         refine l_want S rfl rfl rfl hb10 (lv S (rn_load Tryz.isAgg3 (S.tm rfl) (S.cell (i := 0) rfl rfl)) rfl ?_);clear S;intro a S
         refine l_want S rfl rfl rfl hb10 (lv S (rn_fld fa_82_4 (S.tm rfl)) rfl ?_);clear S;intro a S
         refine l_want S rfl rfl rfl hb10 (lv S (rn_load Tryz.isAgg3 (S.tm rfl) (S.cell (i := 0) rfl rfl)) rfl ?_);clear S;intro a S
         refine l_want S rfl rfl rfl hb10 (lv S (rn_gtr (S.tm rfl) (S.tm rfl)) rfl ?_);clear S;intro a S
         refine lv S (rn_or_f hb10 (S.tm rfl) (S.tm rfl)) rfl ?_;clear S;intro a S
         refine Ld (Tn ?_)
         exact ⟨Keep.refl _ _, S.nf [true] rfl (subR rfl)⟩
       clear S;rintro a w14 ⟨hk10, S⟩
       refine lv S (Rm (S.tm rfl)) rfl ?_;clear S;intro a S
       refine f_cutm 4 (fun a w' => Keep [] w14 w' ∧ Sx w [] nov [.blk b2 [sV y1.Key, sV y1.Race, u1.val, iV y1.Young, iV y1.Old] 82] [(0, V), (10, V), (11, iV (Ac.length : Int)), (12, iV (i1 : Int)), (85, bV (((decide (y1.Young < 0)) || (decide (y1.Old < y1.Young))) || (decide (150 < y1.Old))))] 87 a w') ?_ ?_
       ·rcases Bool.eq_false_or_eq_true ((decide (y1.Young < 0)) || (decide (y1.Old < y1.Young))) with hb11 | hb11
        ·iterate 3 (refine l_skip S rfl rfl rfl (neq_t hb11) rfl ?_ rfl;clear S;intro a S)
         refine lv S (rn_or_t (decide (150 < y1.Old)) hb11 (S.tm rfl) rfl) rfl ?_;clear S;intro a S
         refine Ld (Tn ?_)
         exact ⟨Keep.refl _ _, S.nf [true] rfl (subR rfl)⟩
        ·refine l_want S rfl rfl rfl hb11 (lv S (rn_fld fa_82_4 (S.tm rfl)) rfl ?_);clear S;intro a S
         refine l_want S rfl rfl rfl hb11 (lv S (rn_load Tryz.isAgg3 (S.tm rfl) (S.cell (i := 0) rfl rfl)) rfl ?_);clear S;intro a S
         refine l_want S rfl rfl rfl hb11 (lv S (rn_gtr (S.tm rfl) rfl) rfl ?_);clear S;intro a S
         refine lv S (rn_or_f hb11 (S.tm rfl) (S.tm rfl)) rfl ?_;clear S;intro a S
         refine Ld (Tn ?_)
         exact ⟨Keep.refl _ _, S.nf [true] rfl (subR rfl)⟩
       clear S;rintro a w15 ⟨hk11, S⟩
       refine Ld (Tn (f_cond (S.tm rfl) (fun hb12 => ?_) (fun hb12 => ?_)))
       ·replace h := iteT h hb12
        refine Fs (Fg (lv S (Ra rfl) rfl ?_));clear S;intro a S
        refine Ld (Tn (wp_ret (blk_r (then_r (then_r (blk_r ?_))))))
        refine then_r (then_r ?_)
        obtain rfl := Option.some.inj h
        exact f_ret S Tryz.results72 rfl rfl
       ·replace h := iteF h hb12
        refine wp_skip (blk_n (Tn (Fg (lv S (rn_add (S.tm rfl) rfl) rfl ?_))));clear S;intro a S
        refine lv S (Rm (S.tm rfl)) rfl ?_;clear S;intro a S
        refine Ld (Tn ?_)
        exact ⟨ys1, ⟨i1 + 1, ⟨_, (hd1).trans (List.append_cons _ _ _), by simp [hi1]⟩, h, S.nf [false] rfl ⟨rfl, rfl, rfl, (congrArg (fun z => some (Value.int .i64 z)) (rng_next hd1 hi1 (slc_maxD Ag Bj))), trivial⟩⟩, Nat.lt_succ_self _⟩
  clear S h;rintro a w2 ⟨h, S⟩;rw [hj1] at h;clear hj1 j1
  refine Tn (Fs (Fg (lv S (Ra rfl) rfl ?_)));clear S;intro a S
  refine Ld (Tn (wp_ret ?_))
  obtain rfl := Option.some.inj h
  exact f_ret S Tryz.results72 rfl rfl
theorem record_checkSwum_ok (w : World) (Z : GStep) (r : Int) (h : record_checkSwum Z = some r) :
    Calls Tryz.prog 73 [.agg (GStep.enc Z).toArray].toArray w (Ret w [] fun _ v _ => v = iV r) := by
 refine f_enter [] [] Tryz.func73 rfl Tryz.ntmps73 rfl (by simp) (by simp [fps]) (by simp [fps]) fun a S => ?_
 unfold record_checkSwum at h
 replace S := S.nk [] [(0, .agg (GStep.enc Z).toArray)] [] rfl ⟨rfl, trivial⟩
 refine Fs (Fg (l_box S (S.tm rfl) (cs := (GStep.enc Z)) rfl rfl ?_));clear S;intro a w1 b1 hz1 hk1 S
 refine lv S (Ra rfl) rfl ?_;clear S;intro a S
 refine Ld (Tn (Fs (Fs (Fg (lv S (rn_ldA Tryz.isAgg39 Tryz.sizeOf39 (off := 0) (o := 0) (part := (GStep.enc Z)) rfl rfl (S.tm rfl) (S.cellsAt (i := 0) rfl)) rfl ?_)))));clear S;intro a S
 obtain ⟨r1, hr1, h⟩ := bindE h
 refine l_enter S (fun _ => run_call (vs := [.agg (GStep.enc Z).toArray]) ⟨(S.tm rfl), trivial⟩ Tryz.call54) (record_checkStep_ok _ Z _ hr1) rfl ?_;clear S;intro v1 a w2 hv1 hk2 hn1 S
 subst hv1
 refine lv S (Ra (S.tm rfl)) rfl ?_;clear S;intro a S
 refine Ld (Tn (Fs (Fg (lv S (Rm (S.tm rfl)) rfl ?_))));clear S;intro a S
 refine lv S (rn_neq (S.tm rfl) rfl) rfl ?_;clear S;intro a S
 refine Ld (Tn (f_cond (S.tm rfl) (fun hb1 => ?_) (fun hb1 => ?_)))
 ·replace h := iteT h hb1
  refine Fs (Fg (lv S (Rm (S.tm rfl)) rfl ?_));clear S;intro a S
  refine lv S (Ra (S.tm rfl)) rfl ?_;clear S;intro a S
  refine Ld (Tn (wp_ret (then_r ?_)))
  obtain rfl := Option.some.inj h
  exact f_ret S Tryz.results73 rfl rfl
 ·replace h := iteF h hb1
  refine wp_skip (Tn (Fs (Fs (Fg (lv S (rn_fld fa_39_1 (S.tm rfl)) rfl ?_)))));clear S;intro a S
  refine lv S (rn_load Tryz.isAgg3 (S.tm rfl) (S.cell (i := 0) rfl rfl)) rfl ?_;clear S;intro a S
  refine lv S (rn_neq (S.tm rfl) rfl) rfl ?_;clear S;intro a S
  refine Ld (Tn (f_cond (S.tm rfl) (fun hb2 => ?_) (fun hb2 => ?_)))
  ·replace h := iteT h hb2
   refine Fs (Fg (lv S (Ra rfl) rfl ?_));clear S;intro a S
   refine Ld (Tn (wp_ret (then_r ?_)))
   obtain rfl := Option.some.inj h
   exact f_ret S Tryz.results73 rfl rfl
  ·replace h := iteF h hb2
   refine wp_skip (Tn (Fs (Fg (lv S (Ra rfl) rfl ?_))));clear S;intro a S
   refine Ld (Tn (wp_ret ?_))
   obtain rfl := Option.some.inj h
   exact f_ret S Tryz.results73 rfl rfl
theorem record_isFor_ok (w : World) (Az : GKind) (Ca : R82) (Cd : rel_82 (view w []) Az Ca) (Z : GStep) (r : Bool) (h : record_isFor Az Z = r) :
    Calls Tryz.prog 74 [.agg (R82.enc Ca).toArray, .agg (GStep.enc Z).toArray].toArray w (Ret w [] fun _ v _ => v = bV r) := by
 obtain ⟨u1, rfl, hs1⟩ := Cd
 refine f_enter [] [] Tryz.func74 rfl Tryz.ntmps74 rfl (by simp) (by simp [fps]) (by simp [fps]) fun a S => ?_
 unfold record_isFor at h
 replace S := S.nk [] [(0, .agg #[sV Az.Key, sV Az.Race, u1.val, iV Az.Young, iV Az.Old]), (1, .agg (GStep.enc Z).toArray)] [] rfl (subR rfl)
 refine Fs (Fg (l_box S (S.tm rfl) (cs := [sV Az.Key, sV Az.Race, u1.val, iV Az.Young, iV Az.Old]) rfl rfl ?_));clear S;intro a w1 b1 hz1 hk1 S
 refine l_box S (S.tm rfl) (cs := (GStep.enc Z)) rfl rfl ?_;clear S;intro a w2 b2 hz2 hk2 S
 refine lv S (Ra rfl) rfl ?_;clear S;intro a S
 refine Ld (Tn (Fs (Fg (lv S (rn_fld fa_39_5 (S.tm rfl)) rfl ?_))));clear S;intro a S
 refine lv S (rn_load Tryz.isAgg9 (S.tm rfl) (S.cell (i := 0) rfl rfl)) rfl ?_;clear S;intro a S
 refine lv S (rn_fld fa_82_1 (S.tm rfl)) rfl ?_;clear S;intro a S
 refine lv S (rn_load Tryz.isAgg9 (S.tm rfl) (S.cell (i := 1) rfl rfl)) rfl ?_;clear S;intro a S
 refine lv S (rn_seql (S.tm rfl) (S.tm rfl)) rfl ?_;clear S;intro a S
 refine lv S (Rm (S.tm rfl)) rfl ?_;clear S;intro a S
 refine f_cutm 12 (fun a w' => Keep [] w2 w' ∧ Sx w [] nov [.blk b2 (GStep.enc Z) 39, .blk b1 [sV Az.Key, sV Az.Race, u1.val, iV Az.Young, iV Az.Old] 82] [(2, .pointer (some ⟨b1, 0, none⟩)), (3, .pointer (some ⟨b2, 0, none⟩)), (22, bV ((decide (Z.Race = Az.Race)) && ((decide ((Az.Clubs.length : Int) = 0)) || (slices_Contains_string Az.Clubs Z.Club))))] 32 a w') ?_ ?_
 ·rcases Bool.eq_false_or_eq_true (decide (Z.Race = Az.Race)) with hb1 | hb1
  ·refine l_want S rfl rfl rfl hb1 (lv S (rn_fld fa_82_2 (S.tm rfl)) rfl ?_);clear S;intro a S
   refine l_want S rfl rfl rfl hb1 (lv S (rn_load Tryz.isAgg57 (S.tm rfl) (S.cell (i := 1) rfl rfl)) rfl ?_);clear S;intro a S
   refine l_want S rfl rfl rfl hb1 (lv S (rn_lenT sl_57 (S.tm rfl) (slc_len hs1)) rfl ?_);clear S;intro a S
   refine l_want S rfl rfl rfl hb1 (lv S (rn_eql (S.tm rfl) rfl) rfl ?_);clear S;intro a S
   refine l_want S rfl rfl rfl hb1 (lv S (Rm (S.tm rfl)) rfl ?_);clear S;intro a S
   refine f_cutm 6 (fun a w' => Keep [] w2 w' ∧ Sx w [] nov [.blk b2 (GStep.enc Z) 39, .blk b1 [sV Az.Key, sV Az.Race, u1.val, iV Az.Young, iV Az.Old] 82] [(2, .pointer (some ⟨b1, 0, none⟩)), (3, .pointer (some ⟨b2, 0, none⟩)), (10, bV (decide (Z.Race = Az.Race))), (21, bV ((decide ((Az.Clubs.length : Int) = 0)) || (slices_Contains_string Az.Clubs Z.Club)))] 32 a w') ?_ ?_
   ·rcases Bool.eq_false_or_eq_true (decide ((Az.Clubs.length : Int) = 0)) with hb2 | hb2
    ·iterate 5 (refine l_skip S rfl rfl rfl (neq_t hb2) rfl ?_ rfl;clear S;intro a S)
     refine l_want S rfl rfl rfl hb1 (lv S (rn_or_t (slices_Contains_string Az.Clubs Z.Club) hb2 (S.tm rfl) rfl) rfl ?_);clear S;intro a S
     refine Ld (Tn ?_)
     exact ⟨Keep.refl _ _, S.nf [true, true] rfl (subR rfl)⟩
    ·refine l_want S rfl rfl rfl hb2 (lv S (rn_fld fa_82_2 (S.tm rfl)) rfl ?_);clear S;intro a S
     refine l_want S rfl rfl rfl hb2 (lv S (rn_load Tryz.isAgg57 (S.tm rfl) (S.cell (i := 1) rfl rfl)) rfl ?_);clear S;intro a S
     refine l_want S rfl rfl rfl hb2 (lv S (rn_fld fa_39_4 (S.tm rfl)) rfl ?_);clear S;intro a S
     refine l_want S rfl rfl rfl hb2 (lv S (rn_load Tryz.isAgg9 (S.tm rfl) (S.cell (i := 0) rfl rfl)) rfl ?_);clear S;intro a S
     refine l_want S rfl rfl rfl hb2 (l_enter S (fun _ => run_call (vs := [u1.val, sV Z.Club]) ⟨(S.tm rfl), (S.tm rfl), trivial⟩ Tryz.call68) (slices_Contains_string_ok _ u1.val Az.Clubs (hs1.mono (S.le_arg nil_sub)) Z.Club _ rfl) rfl ?_);clear S;intro v1 a w5 hv1 hk3 hn1 S
     subst hv1
     refine l_want S rfl rfl rfl hb1 (lv S (rn_or_f hb2 (S.tm rfl) (S.tm rfl)) rfl ?_);clear S;intro a S
     refine Ld (Tn ?_)
     exact ⟨hk3, S.nf [true, true] rfl (subR rfl)⟩
   clear S;rintro a w4 ⟨hk4, S⟩
   refine lv S (rn_and_t hb1 (S.tm rfl) (S.tm rfl)) rfl ?_;clear S;intro a S
   refine Ld (Tn ?_)
   exact ⟨hk4, S.nf [true, true] rfl (subR rfl)⟩
  ·iterate 5 (refine l_skip S rfl rfl rfl (neq_f hb1) rfl ?_ rfl;clear S;intro a S)
   iterate 5 (refine l_skipU S rfl rfl rfl rfl ?_;clear S;intro a S)
   refine l_skip S rfl rfl rfl (neq_f hb1) rfl ?_ rfl;clear S;intro a S
   refine lv S (rn_and_f ((decide ((Az.Clubs.length : Int) = 0)) || (slices_Contains_string Az.Clubs Z.Club)) hb1 (S.tm rfl) rfl) rfl ?_;clear S;intro a S
   refine Ld (Tn ?_)
   exact ⟨Keep.refl _ _, S.nf [true, true] rfl (subR rfl)⟩
 clear S;rintro a w3 ⟨hk5, S⟩
 refine lv S (Rm (S.tm rfl)) rfl ?_;clear S;intro a S
 refine f_cutm 8 (fun a w' => Keep [] w3 w' ∧ Sx w [] nov [.blk b2 (GStep.enc Z) 39, .blk b1 [sV Az.Key, sV Az.Race, u1.val, iV Az.Young, iV Az.Old] 82] [(31, bV (((decide (Z.Race = Az.Race)) && ((decide ((Az.Clubs.length : Int) = 0)) || (slices_Contains_string Az.Clubs Z.Club))) && (words_Within Z.Age Az.Young Az.Old)))] 32 a w') ?_ ?_
 ·rcases Bool.eq_false_or_eq_true ((decide (Z.Race = Az.Race)) && ((decide ((Az.Clubs.length : Int) = 0)) || (slices_Contains_string Az.Clubs Z.Club))) with hb3 | hb3
  ·refine l_want S rfl rfl rfl hb3 (lv S (rn_fld fa_39_6 (S.tm rfl)) rfl ?_);clear S;intro a S
   refine l_want S rfl rfl rfl hb3 (lv S (rn_load Tryz.isAgg3 (S.tm rfl) (S.cell (i := 0) rfl rfl)) rfl ?_);clear S;intro a S
   refine l_want S rfl rfl rfl hb3 (lv S (rn_fld fa_82_3 (S.tm rfl)) rfl ?_);clear S;intro a S
   refine l_want S rfl rfl rfl hb3 (lv S (rn_load Tryz.isAgg3 (S.tm rfl) (S.cell (i := 1) rfl rfl)) rfl ?_);clear S;intro a S
   refine l_want S rfl rfl rfl hb3 (lv S (rn_fld fa_82_4 (S.tm rfl)) rfl ?_);clear S;intro a S
   refine l_want S rfl rfl rfl hb3 (lv S (rn_load Tryz.isAgg3 (S.tm rfl) (S.cell (i := 1) rfl rfl)) rfl ?_);clear S;intro a S
   refine l_want S rfl rfl rfl hb3 (l_enter S (fun _ => run_call (vs := [iV Z.Age, iV Az.Young, iV Az.Old]) ⟨(S.tm rfl), (S.tm rfl), (S.tm rfl), trivial⟩ Tryz.call79) (words_Within_ok _ Z.Age Az.Young Az.Old _ rfl) rfl ?_);clear S;intro v2 a w7 hv2 hk6 hn2 S
   subst hv2
   refine lv S (rn_and_t hb3 (S.tm rfl) (S.tm rfl)) rfl ?_;clear S;intro a S
   refine Ld (Tn ?_)
   exact ⟨hk6, S.nf [true, true] rfl ⟨rfl, trivial⟩⟩
  ·iterate 7 (refine l_skip S rfl rfl rfl (neq_f hb3) rfl ?_ rfl;clear S;intro a S)
   refine lv S (rn_and_f (words_Within Z.Age Az.Young Az.Old) hb3 (S.tm rfl) rfl) rfl ?_;clear S;intro a S
   refine Ld (Tn ?_)
   exact ⟨Keep.refl _ _, S.nf [true, true] rfl ⟨rfl, trivial⟩⟩
 clear S;rintro a w6 ⟨hk7, S⟩
 refine lv S (Ra (S.tm rfl)) rfl ?_;clear S;intro a S
 refine Ld (Tn (wp_ret ?_))
 subst h
 exact f_ret S Tryz.results74 rfl rfl
theorem record_For_ok (w : World) (V : Value) (Ac : List GKind) (Br : List R82) (Ag : Slc (view w []) 5 V (Br.map R82.enc)) (Bj : All2 (rel_82 (view w [])) Ac Br) (Z : GStep) (r : (List ByteArray) × Int) (h : record_For Ac Z = some r) :
    Calls Tryz.prog 48 [V, .agg (GStep.enc Z).toArray].toArray w (Ret w [] fun τ v _ => ∃ u1 : Value, v = .tuple #[u1, iV r.2] ∧ OwnV τ 9 1 u1 r.1.length (r.1.flatMap eStr)) := by
 refine f_enter [] [] Tryz.func48 rfl Tryz.ntmps48 rfl (by simp) (by simp [fps]) (by simp [fps]) fun a S => ?_
 unfold record_For at h
 replace S := S.nk [] [(0, V), (1, .agg (GStep.enc Z).toArray)] [] rfl (subR rfl)
 refine Fs (Fg (l_box S (S.tm rfl) (cs := (GStep.enc Z)) rfl rfl ?_));clear S;intro a w1 b1 hz1 hk1 S
 refine lv S (Ra rfl) rfl ?_;clear S;intro a S
 refine lv S (Ra rfl) rfl ?_;clear S;intro a S
 refine Ld (Tn (Fs (Fs (Fg (lv S (Rm (S.tm rfl)) rfl ?_)))));clear S;intro a S
 obtain ⟨r1, hr1, h⟩ := bindE h
 refine l_enter S (fun _ => run_call (vs := [V]) ⟨(S.tm rfl), trivial⟩ Tryz.call72) (record_CheckKinds_ok _ V Ac Br (Ag.mono (S.le_arg nil_sub)) (rels_82 (S.le_arg nil_sub) Bj) _ hr1) rfl ?_;clear S;intro v1 a w2 hv1 hk2 hn1 S
 subst hv1
 refine lv S (Ra (S.tm rfl)) rfl ?_;clear S;intro a S
 refine Ld (Tn (Fs (Fg (lv S (Rm (S.tm rfl)) rfl ?_))));clear S;intro a S
 refine lv S (rn_neq (S.tm rfl) rfl) rfl ?_;clear S;intro a S
 refine Ld (Tn (f_cond (S.tm rfl) (fun hb1 => ?_) (fun hb1 => ?_)))
 ·replace h := iteT h hb1
  refine Fs (Fg (lv S (Rm (S.tm rfl)) rfl ?_));clear S;intro a S
  refine lv S (Ra rfl) rfl ?_;clear S;intro a S
  refine lv S (Ra (S.tm rfl)) rfl ?_;clear S;intro a S
  refine Ld (Tn (wp_ret (then_r ?_)))
  obtain rfl := Option.some.inj h
  exact f_ret2 S Tryz.results48 rfl rfl ⟨_, rfl, (ownV_nil _ _ _)⟩
 ·replace h := iteF h hb1
  refine wp_skip (Tn (Fs (Fs (Fg (lv S (rn_ldA Tryz.isAgg39 Tryz.sizeOf39 (off := 0) (o := 0) (part := (GStep.enc Z)) rfl rfl (S.tm rfl) (S.cellsAt (i := 0) rfl)) rfl ?_)))));clear S;intro a S
  obtain ⟨r2, hr2, h⟩ := bindE h
  refine l_enter S (fun _ => run_call (vs := [.agg (GStep.enc Z).toArray]) ⟨(S.tm rfl), trivial⟩ Tryz.call73) (record_checkSwum_ok _ Z _ hr2) rfl ?_;clear S;intro v2 a w3 hv2 hk3 hn2 S
  subst hv2
  refine lv S (Ra (S.tm rfl)) rfl ?_;clear S;intro a S
  refine Ld (Tn (Fs (Fg (lv S (Rm (S.tm rfl)) rfl ?_))));clear S;intro a S
  refine lv S (rn_neq (S.tm rfl) rfl) rfl ?_;clear S;intro a S
  refine Ld ?_
  replace S := S.nk [.blk b1 (GStep.enc Z) 39] [(0, V), (3, .pointer (some ⟨b1, 0, none⟩)), (7, iV r2), (19, bV (!decide (r2 = 0)))] [true] rfl (subR rfl)
  refine Tn (f_cond (S.tm rfl) (fun hb2 => ?_) (fun hb2 => ?_))
  ·replace h := iteT h hb2
   refine Fs (Fg (lv S (Rm (S.tm rfl)) rfl ?_));clear S;intro a S
   refine lv S (Ra rfl) rfl ?_;clear S;intro a S
   refine lv S (Ra (S.tm rfl)) rfl ?_;clear S;intro a S
   refine Ld (Tn (wp_ret (then_r ?_)))
   obtain rfl := Option.some.inj h
   exact f_ret2 S Tryz.results48 rfl rfl ⟨_, rfl, (ownV_nil _ _ _)⟩
  ·replace h := iteF h hb2
   refine wp_skip (Tn (Fs (Fg (lv S (Ra rfl) rfl ?_))));clear S;intro a S
   replace S := S.nil 9 1
   refine Ld (Tn (Fs (Fs (Fg (lv S (Rm (S.tm rfl)) rfl ?_)))));clear S;intro a S
   refine lv S (rn_lenT sl_83 (S.tm rfl) (slc_lenD Ag Bj)) rfl ?_;clear S;intro a S
   refine lv S (Rm rfl) rfl ?_;clear S;intro a S
   refine Ld (Tn ?_)
   replace S := S.nk [.own (.slice none 0 0) 9 1 ([] : List ByteArray).length (([] : List ByteArray).flatMap eStr), .blk b1 (GStep.enc Z) 39] [(3, .pointer (some ⟨b1, 0, none⟩)), (8, (.slice none 0 0)), (21, V), (22, iV (Ac.length : Int)), (23, iV 0)] [true, true] rfl (subR rfl)
   obtain ⟨j1, hj1, h⟩ := joinE h
   refine f_join (fun a w' => ∃ x1 : List ByteArray, ∃ v3 : Value, j1 x1 = some r ∧ Sx w [] nov [.own v3 9 1 x1.length (x1.flatMap eStr), .blk b1 (GStep.enc Z) 39] [(8, v3)] 37 a w') ?_ ?_
   ·refine wp_block (f_loop (fun (ys1 : List GKind) a w' => ∃ i1 : Nat, ∃ x1 : List ByteArray, ∃ v3 : Value, (∃ dn, Ac = dn ++ ys1 ∧ dn.length = i1) ∧ record_For_l1 Z j1 ys1 i1 x1 = some r ∧ Sx w [] nov [.own v3 9 1 x1.length (x1.flatMap eStr), .blk b1 (GStep.enc Z) 39] [(3, .pointer (some ⟨b1, 0, none⟩)), (8, v3), (21, V), (22, iV (Ac.length : Int)), (23, iV (i1 : Int))] 37 a w') List.length Ac ⟨0, ([] : List ByteArray), (.slice none 0 0), ⟨[], rfl, rfl⟩, h, S.nf [true, true] rfl (subR rfl)⟩ ?_)
    clear S h;rintro ys1 a w4 ⟨i1, x1, v3, ⟨dn, hd1, hi1⟩, h, S⟩
    cases ys1 with
    | nil =>
     rw [record_For_l1.eq_1] at h
     refine Fs (Fg (lv S (rn_lss (S.tm rfl) (S.tm rfl)) rfl ?_));clear S;intro a S
     refine Ld ?_
     replace S := S.nk [.own v3 9 1 x1.length (x1.flatMap eStr), .blk b1 (GStep.enc Z) 39] [(3, .pointer (some ⟨b1, 0, none⟩)), (8, v3), (21, V), (22, iV (Ac.length : Int)), (23, iV (i1 : Int)), (24, bV (decide ((i1 : Int) < (Ac.length : Int))))] [true, true] rfl (subR rfl)
     refine Tn (Fs (wp_cond_false ((S.tm rfl).trans (congrArg Value.bool (rng_nil hd1 hi1))) (wp_exit (then_x (then_x (x_same ?_))))))
     refine Tn ?_
     exact ⟨x1, v3, h, S.nf [true, true] rfl ⟨rfl, trivial⟩⟩
    | cons y1 ys1 =>
     rw [record_For_l1.eq_2] at h
     refine Fs (Fg (lv S (rn_lss (S.tm rfl) (S.tm rfl)) rfl ?_));clear S;intro a S
     refine Ld ?_
     replace S := S.nk [.own v3 9 1 x1.length (x1.flatMap eStr), .blk b1 (GStep.enc Z) 39] [(3, .pointer (some ⟨b1, 0, none⟩)), (8, v3), (21, V), (22, iV (Ac.length : Int)), (23, iV (i1 : Int)), (24, bV (decide ((i1 : Int) < (Ac.length : Int))))] [true, true] rfl (subR rfl)
     refine Tn (Fs (wp_cond_true ((S.tm rfl).trans (congrArg Value.bool (rng_cons hd1 hi1))) (wp_skip (Tn (Fs ?_)))))
     obtain ⟨j2, hj2, h⟩ := joinE h
     refine f_join (fun a w' => ∃ x2 : List ByteArray, ∃ v4 : Value, j2 x2 = some r ∧ Sx w [] nov [.own v4 9 1 x2.length (x2.flatMap eStr), .blk b1 (GStep.enc Z) 39] [(3, .pointer (some ⟨b1, 0, none⟩)), (8, v4), (21, V), (22, iV (Ac.length : Int)), (23, iV (i1 : Int))] 37 a w') ?_ ?_
     ·refine wp_block (Fs (Fg ?_))
      obtain ⟨r3, hg1, hl1⟩ := All2.at Bj (get_mid hd1 hi1)
      obtain ⟨u1, rfl, hs1⟩ := hl1
      obtain ⟨b2, o1, hm1, hr3⟩ := rn_indexT (a := a) (x := .tmp 21) (y := .tmp 23) (ty := 0) sl_83 Ag hg1 rfl (S.tm rfl) (S.tm rfl)
      refine lv S (hr3 _) rfl ?_;clear S;intro a S
      clear hr3
      refine lv S (rn_ldA Tryz.isAgg82 Tryz.sizeOf82 (off := o1) (o := 0) (part := [sV y1.Key, sV y1.Race, u1.val, iV y1.Young, iV y1.Old]) rfl rfl (S.tm rfl) (hm1.at S.emb0)) rfl ?_;clear S;intro a S
      refine l_alloc S Tryz.zeroValue82 (cs := [sV k_empty, sV k_empty, .slice none 0 0, iV 0, iV 0]) rfl rfl ?_;clear S;intro a w7 b3 hz2 hk4 S
      refine l_store S (S.tm rfl) (S.tm rfl) (i := 0) (off := 0) rfl Tryz.sizeOf82 (vs := [sV y1.Key, sV y1.Race, u1.val, iV y1.Young, iV y1.Old]) rfl rfl rfl (all1 rfl (all1 rfl (all1 (SlcLen.one (slc_len hs1)) (all1 rfl (all1 rfl rfl))))) ?_;clear S;intro w8 hk5 S
      refine Ld (Tn (Fs (Fg (lv S (rn_ldA Tryz.isAgg82 Tryz.sizeOf82 (off := 0) (o := 0) (part := [sV y1.Key, sV y1.Race, u1.val, iV y1.Young, iV y1.Old]) rfl rfl (S.tm rfl) (S.cellsAt (i := 0) rfl)) rfl ?_))));clear S;intro a S
      refine lv S (rn_ldA Tryz.isAgg39 Tryz.sizeOf39 (off := 0) (o := 0) (part := (GStep.enc Z)) rfl rfl (S.tm rfl) (S.cellsAt (i := 2) rfl)) rfl ?_;clear S;intro a S
      refine l_enter S (fun _ => run_call (vs := [.agg (R82.enc (R82.mk y1.Key y1.Race u1 y1.Young y1.Old)).toArray, .agg (GStep.enc Z).toArray]) ⟨(S.tm rfl), (S.tm rfl), trivial⟩ Tryz.call74) (record_isFor_ok _ y1 (R82.mk y1.Key y1.Race u1 y1.Young y1.Old) ⟨u1, rfl, (hs1.mono (S.le_arg nil_sub))⟩ Z _ rfl) rfl ?_;clear S;intro v5 a w9 hv3 hk6 hn3 S
      subst hv3
      refine Ld (Tn ?_)
      obtain ⟨j3, hj3, h⟩ := joinE h
      refine f_join (fun a w' => ∃ x3 : List ByteArray, ∃ v6 : Value, j3 x3 = some r ∧ Sx w [] nov [.own v6 9 1 x3.length (x3.flatMap eStr), .blk b1 (GStep.enc Z) 39] [(3, .pointer (some ⟨b1, 0, none⟩)), (8, v6), (21, V), (22, iV (Ac.length : Int)), (23, iV (i1 : Int))] 37 a w') ?_ ?_
      ·refine f_cond (S.tm rfl) (fun hb3 => ?_) (fun hb3 => ?_)
       ·replace h := iteT h hb3
        refine Fg (lv S (Rm (S.tm rfl)) rfl ?_);clear S;intro a S
        refine lv S (rn_fld fa_82_0 (S.tm rfl)) rfl ?_;clear S;intro a S
        refine lv S (rn_load Tryz.isAgg9 (S.tm rfl) (S.cell (i := 0) rfl rfl)) rfl ?_;clear S;intro a S
        refine l_buildSlice S Tryz.underlying57 Tryz.sizeOf9 Tryz.zeroValue9 rfl rfl (pv := [(0, sV y1.Key)]) ⟨rfl, (S.tm rfl), trivial⟩ (cs := [sV y1.Key]) (by kernel_rfl) rfl ?_;clear S;intro a w11 b4 hz3 hk7 S
        obtain ⟨hc1, h⟩ := chkE h
        refine l_appendT sl_57 enc_str S (S.tm rfl) (i := 2) rfl (S.tm rfl) (j := 0) rfl (ys := [y1.Key]) rfl rfl rfl rfl (by have := room_lt hc1;omega) rfl ?_;clear S;intro v7 a w12 hk8 S
        refine lv S (Ra (S.tm rfl)) rfl ?_;clear S;intro a S
        refine Ld ?_
        replace S := S.nk [.own v7 9 1 (x1 ++ [y1.Key]).length ((x1 ++ [y1.Key]).flatMap eStr), .blk b1 (GStep.enc Z) 39] [(3, .pointer (some ⟨b1, 0, none⟩)), (8, v7), (21, V), (22, iV (Ac.length : Int)), (23, iV (i1 : Int))] [false, false, true, true] rfl (subR rfl)
        refine Tn ?_
        exact ⟨(x1 ++ [y1.Key]), v7, h, S.nf [true, true] rfl (subR rfl)⟩
       ·replace h := iteF h hb3
        refine wp_skip (Tn ?_)
        exact ⟨x1, v3, h, S.nf [false, true, true] rfl (subR rfl)⟩
      clear S h;rintro a w10 ⟨x3, v6, h, S⟩;rw [hj3] at h;clear hj3 j3
      refine blk_n (Tn ?_)
      exact ⟨x3, v6, h, S.nf [true, true] rfl (subR rfl)⟩
     clear S h;rintro a w6 ⟨x2, v4, h, S⟩;rw [hj2] at h;clear hj2 j2
     refine Tn (Fg (lv S (rn_add (S.tm rfl) rfl) rfl ?_));clear S;intro a S
     refine lv S (Rm (S.tm rfl)) rfl ?_;clear S;intro a S
     refine Ld (Tn ?_)
     exact ⟨ys1, ⟨i1 + 1, x2, v4, ⟨_, (hd1).trans (List.append_cons _ _ _), by simp [hi1]⟩, h, S.nf [true, true] rfl ⟨rfl, rfl, rfl, rfl, (congrArg (fun z => some (Value.int .i64 z)) (rng_next hd1 hi1 (slc_maxD Ag Bj))), trivial⟩⟩, Nat.lt_succ_self _⟩
   clear S h;rintro a w5 ⟨x1, v3, h, S⟩;rw [hj1] at h;clear hj1 j1
   refine Tn (Fs (Fg (lv S (Rm (S.tm rfl)) rfl ?_)));clear S;intro a S
   refine lv S (Ra (S.tm rfl)) rfl ?_;clear S;intro a S
   refine lv S (Ra rfl) rfl ?_;clear S;intro a S
   refine Ld (Tn (wp_ret ?_))
   obtain rfl := Option.some.inj h
   exact f_ret2 S Tryz.results48 rfl rfl ⟨_, rfl, (own_retT S (i := 0) rfl rfl)⟩
set_option maxRecDepth 20000 in
theorem slices_Equal_string_ok (w : World) (Bc : Value) (Bf : List ByteArray) (Bh : Slc (view w []) 1 Bc (Bf.map eStr)) (Bd : Value) (Bo : List ByteArray) (Bq : Slc (view w []) 1 Bd (Bo.map eStr)) (r : Bool) (h : slices_Equal_string Bf Bo = some r) :
    Calls Tryz.prog 49 [Bc, Bd].toArray w (Ret w [] fun _ v _ => v = bV r) := by
 refine f_enter [] [] Tryz.func49 rfl Tryz.ntmps49 rfl (by simp) (by simp [fps]) (by simp [fps]) fun a S => ?_
 unfold slices_Equal_string at h
 replace S := S.nk [] [(0, Bc), (1, Bd)] [] rfl (subR rfl)
 refine Fs (Fg (lv S (Ra rfl) rfl ?_));clear S;intro a S
 refine Ld (Tn (Fs (Fs (Fg (lv S (Rm (S.tm rfl)) rfl ?_)))));clear S;intro a S
 refine lv S (rn_lenT sl_57 (S.tm rfl) (slc_len Bh)) rfl ?_;clear S;intro a S
 refine lv S (Rm (S.tm rfl)) rfl ?_;clear S;intro a S
 refine lv S (rn_lenT sl_57 (S.tm rfl) (slc_len Bq)) rfl ?_;clear S;intro a S
 refine lv S (rn_neq (S.tm rfl) (S.tm rfl)) rfl ?_;clear S;intro a S
 refine Ld (Tn (f_cond (S.tm rfl) (fun hb1 => ?_) (fun hb1 => ?_)))
 ·replace h := iteT h hb1
  refine Fs (Fg (lv S (Ra rfl) rfl ?_));clear S;intro a S
  refine Ld (Tn (wp_ret (then_r ?_)))
  obtain rfl := Option.some.inj h
  exact f_ret S Tryz.results49 rfl rfl
 ·replace h := iteF h hb1
  refine wp_skip (Tn (Fs (Fs (Fg (lv S (Rm (S.tm rfl)) rfl ?_)))));clear S;intro a S
  refine lv S (rn_lenT sl_57 (S.tm rfl) (slc_len Bh)) rfl ?_;clear S;intro a S
  refine lv S (Rm rfl) rfl ?_;clear S;intro a S
  refine Ld (Tn ?_)
  replace S := S.nk [] [(0, Bc), (1, Bd), (12, iV (Bf.length : Int)), (13, iV 0)] [] rfl (subR rfl)
  obtain ⟨j1, hj1, h⟩ := joinE h
  refine f_join (fun a w' => j1 = some r ∧ Sx w [] nov [] [] 26 a w') ?_ ?_
  ·refine wp_block (f_loop (fun (ys1 : List ByteArray) a w' => ∃ i1 : Nat, (∃ dn, Bf = dn ++ ys1 ∧ dn.length = i1) ∧ slices_Equal_string_l1 Bo j1 ys1 i1 = some r ∧ Sx w [] nov [] [(0, Bc), (1, Bd), (12, iV (Bf.length : Int)), (13, iV (i1 : Int))] 26 a w') List.length Bf ⟨0, ⟨[], rfl, rfl⟩, h, S.nf [] rfl (subR rfl)⟩ ?_)
   clear S h;rintro ys1 a w1 ⟨i1, ⟨dn, hd1, hi1⟩, h, S⟩
   cases ys1 with
   | nil =>
    rw [slices_Equal_string_l1.eq_1] at h
    refine Fs (Fg (lv S (rn_lss (S.tm rfl) (S.tm rfl)) rfl ?_));clear S;intro a S
    refine Ld ?_
    replace S := S.nk [] [(0, Bc), (1, Bd), (12, iV (Bf.length : Int)), (13, iV (i1 : Int)), (14, bV (decide ((i1 : Int) < (Bf.length : Int))))] [] rfl (subR rfl)
    refine Tn (Fs (wp_cond_false ((S.tm rfl).trans (congrArg Value.bool (rng_nil hd1 hi1))) (wp_exit (then_x (then_x (x_same ?_))))))
    refine Tn ?_
    exact ⟨h, S.nf [] rfl trivial⟩
   | cons y1 ys1 =>
    rw [slices_Equal_string_l1.eq_2] at h
    refine Fs (Fg (lv S (rn_lss (S.tm rfl) (S.tm rfl)) rfl ?_));clear S;intro a S
    refine Ld ?_
    replace S := S.nk [] [(0, Bc), (1, Bd), (12, iV (Bf.length : Int)), (13, iV (i1 : Int)), (14, bV (decide ((i1 : Int) < (Bf.length : Int))))] [] rfl (subR rfl)
    refine Tn (Fs (wp_cond_true ((S.tm rfl).trans (congrArg Value.bool (rng_cons hd1 hi1))) (wp_skip (Tn (Fs (wp_block ?_))))))
    refine Fs (Fg (lv S (Rm (S.tm rfl)) rfl ?_));clear S;intro a S
    refine lv S (Ra (S.tm rfl)) rfl ?_;clear S;intro a S
    refine Ld (Tn (Fs (d_region [] ([]) Tryz.mixed S rfl (by kernel_rfl) ?_)));clear S;intro w3 hk1 hsel S
    refine d_rest [0, 1, 2, 3, 4, 5, 6, 7, 8] hsel (by kernel_rfl) rfl ?_
    clear hsel
    refine s_lv S rfl (Rm (S.tm rfl)) rfl ?_;clear S;intro a S
    refine s_lv S rfl (Rm (S.tm rfl)) rfl ?_;clear S;intro a S
    obtain ⟨b1, o1, hm1, hr1⟩ := rn_indexT (a := a) (x := .tmp 16) (y := .tmp 17) (ty := 0) sl_57 Bh (get_mid hd1 hi1) rfl (S.tm rfl) (S.tm rfl)
    refine s_lv S rfl (hr1 _) rfl ?_;clear S;intro a S
    clear hr1
    refine s_lv S rfl (rn_ld Tryz.isAgg9 (off := o1) (o := 0) (S.tm rfl) (hm1.at S.emb0) rfl) rfl ?_;clear S;intro a S
    refine s_lv S rfl (Rm (S.tm rfl)) rfl ?_;clear S;intro a S
    refine s_lv S rfl (Rm (S.tm rfl)) rfl ?_;clear S;intro a S
    obtain ⟨hc1, h⟩ := chkE h
    obtain ⟨b2, o2, hm2, hr2⟩ := rn_indexT (a := a) (x := .tmp 20) (y := .tmp 21) (ty := 0) sl_57 Bq (inB_get hc1).1 (inB_get hc1).2 (S.tm rfl) (S.tm rfl)
    refine s_lv S rfl (hr2 _) rfl ?_;clear S;intro a S
    clear hr2
    refine s_lv S rfl (rn_ld Tryz.isAgg9 (off := o2) (o := 0) (S.tm rfl) (hm2.at S.emb0) rfl) rfl ?_;clear S;intro a S
    refine s_lv S rfl (rn_sneq (S.tm rfl) (S.tm rfl)) rfl ?_;clear S;intro a S
    refine s_done ?_
    replace S := S.nk [] [(0, Bc), (1, Bd), (12, iV (Bf.length : Int)), (13, iV (i1 : Int)), (24, bV (!decide (y1 = (nth Bo (i1 : Int)))))] [] rfl (subR rfl)
    refine Tn (f_cond (S.tm rfl) (fun hb2 => ?_) (fun hb2 => ?_))
    ·replace h := iteT h hb2
     refine Fs (Fg (lv S (Ra rfl) rfl ?_));clear S;intro a S
     refine Ld (Tn (wp_ret (blk_r (then_r (then_r (blk_r ?_))))))
     refine then_r (then_r ?_)
     obtain rfl := Option.some.inj h
     exact f_ret S Tryz.results49 rfl rfl
    ·replace h := iteF h hb2
     refine wp_skip (blk_n (Tn (Fg (lv S (rn_add (S.tm rfl) rfl) rfl ?_))));clear S;intro a S
     refine lv S (Rm (S.tm rfl)) rfl ?_;clear S;intro a S
     refine Ld (Tn ?_)
     exact ⟨ys1, ⟨i1 + 1, ⟨_, (hd1).trans (List.append_cons _ _ _), by simp [hi1]⟩, h, S.nf [] rfl ⟨rfl, rfl, rfl, (congrArg (fun z => some (Value.int .i64 z)) (rng_next hd1 hi1 (slc_max Bh))), trivial⟩⟩, Nat.lt_succ_self _⟩
  clear S h;rintro a w2 ⟨h, S⟩;rw [hj1] at h;clear hj1 j1
  refine Tn (Fs (Fg (lv S (Ra rfl) rfl ?_)));clear S;intro a S
  refine Ld (Tn (wp_ret ?_))
  obtain rfl := Option.some.inj h
  exact f_ret S Tryz.results49 rfl rfl
theorem tumblaw2_recorded_ok (w : World) (r : Bool) (h : tumblaw2_recorded = some r) :
    Calls Tryz.prog 13 [].toArray w (Ret w [] fun _ v _ => v = bV r) := by
 refine f_enter [] [] Tryz.func13 rfl Tryz.ntmps13 rfl (by simp) (by simp [fps]) (by simp [fps]) fun a S => ?_
 unfold tumblaw2_recorded at h
 replace S := S.nk [] [] [] rfl trivial
 refine Fs (Fg (lv S (Ra rfl) rfl ?_));clear S;intro a S
 refine Ld (Tn (Fs (Fg (lv S (rn_bld bt_82 (pv := [(0, sV k_k), (1, sV k_r), (4, iV 9)]) ⟨rfl, rfl, rfl, rfl, rfl, rfl, trivial⟩ (cs := [sV k_k, sV k_r, .slice none 0 0, iV 0, iV 9]) (by kernel_rfl)) rfl ?_))));clear S;intro a S
 refine l_buildSlice S Tryz.underlying83 Tryz.sizeOf82 Tryz.zeroValue82 rfl rfl (pv := [(0, .agg #[sV k_k, sV k_r, .slice none 0 0, iV 0, iV 9])]) ⟨rfl, (S.tm rfl), trivial⟩ (cs := [sV k_k, sV k_r, .slice none 0 0, iV 0, iV 9]) (by kernel_rfl) rfl ?_;clear S;intro a w1 b1 hz1 hk1 S
 refine lv S (rn_bld bt_39 (pv := [(1, iV 1), (2, sV k_i), (3, sV k_a), (5, sV k_r), (7, iV 5)]) ⟨rfl, rfl, rfl, rfl, rfl, rfl, rfl, rfl, rfl, rfl, trivial⟩ (cs := [iV 0, iV 1, sV k_i, sV k_a, sV k_empty, sV k_r, iV 0, iV 5]) (by kernel_rfl)) rfl ?_;clear S;intro a S
 have hr1 : All2 (rel_82 nov) ([(GKind.mk k_k k_r ([] : List ByteArray) 0 9)] : List GKind) ([(R82.mk k_k k_r ⟨.slice none 0 0, rfl⟩ 0 9)] : List R82) := (All2.cons ⟨⟨.slice none 0 0, rfl⟩, rfl, (slc_nil _ _)⟩ All2.nil)
 replace S := S.litOwn (i := 0) (xs := ([(R82.mk k_k k_r ⟨.slice none 0 0, rfl⟩ 0 9)] : List R82)) rfl R82.enc_ok rfl rfl rfl
 replace S := S.nk [.own (.slice (some ⟨b1, 0, none⟩) 1 1) 82 5 ([(R82.mk k_k k_r ⟨.slice none 0 0, rfl⟩ 0 9)] : List R82).length (([(R82.mk k_k k_r ⟨.slice none 0 0, rfl⟩ 0 9)] : List R82).flatMap R82.enc)] [(0, bV false), (4, .agg #[sV k_k, sV k_r, .slice none 0 0, iV 0, iV 9]), (5, (.slice (some ⟨b1, 0, none⟩) 1 1)), (6, .agg (GStep.enc (GStep.mk 0 1 k_i k_a k_empty k_r 0 5)).toArray)] [] rfl (subR rfl)
 obtain ⟨r1, hr2, h⟩ := bindE h
 have hz2 := S.keep.size
 refine l_enter S (fun _ => run_call (vs := [(.slice (some ⟨b1, 0, none⟩) 1 1), .agg (GStep.enc (GStep.mk 0 1 k_i k_a k_empty k_r 0 5)).toArray]) ⟨(S.tm rfl), (S.tm rfl), trivial⟩ Tryz.call48) (record_For_ok _ (.slice (some ⟨b1, 0, none⟩) 1 1) ([(GKind.mk k_k k_r ([] : List ByteArray) 0 9)] : List GKind) ([(R82.mk k_k k_r ⟨.slice none 0 0, rfl⟩ 0 9)] : List R82) (own_slcT R82.enc_ok S (i := 0) rfl (ne_nil (e' := .own (.slice (some ⟨b1, 0, none⟩) 1 1) 82 5 ([(R82.mk k_k k_r ⟨.slice none 0 0, rfl⟩ 0 9)] : List R82).length (([(R82.mk k_k k_r ⟨.slice none 0 0, rfl⟩ 0 9)] : List R82).flatMap R82.enc)))) (rels_82 (S.le_new nil_sub) hr1) (GStep.mk 0 1 k_i k_a k_empty k_r 0 5) _ hr2) rfl ?_;clear S;intro v1 a w2 hv1 hk2 hn1 S
 obtain ⟨u1, rfl, ho1⟩ := hv1
 obtain ⟨φ1, hl1, hm1, S⟩ := S.see' hn1 hz2
 have hs1 := ho1.mono hm1
 refine lv S (Rm (S.tm rfl)) rfl ?_;clear S;intro a S
 refine lv S (rn_extract (S.tm rfl) rfl) rfl ?_;clear S;intro a S
 refine lv S (rn_extract (S.tm rfl) rfl) rfl ?_;clear S;intro a S
 refine lv S (Ra (S.tm rfl)) rfl ?_;clear S;intro a S
 refine lv S (Ra (S.tm rfl)) rfl ?_;clear S;intro a S
 refine Ld (Tn (Fs (Fg (lv S (Rm (S.tm rfl)) rfl ?_))));clear S;intro a S
 refine lv S (rn_eql (S.tm rfl) rfl) rfl ?_;clear S;intro a S
 refine lv S (Rm (S.tm rfl)) rfl ?_;clear S;intro a S
 obtain ⟨j1, hj1, h⟩ := joinE h
 refine f_cutm 4 (fun a w' => ∃ c1, j1 c1 = some r ∧ Keep [] w2 w' ∧ Sx w [] φ1 [.own (.slice (some ⟨b1, 0, none⟩) 1 1) 82 5 ([(R82.mk k_k k_r ⟨.slice none 0 0, rfl⟩ 0 9)] : List R82).length (([(R82.mk k_k k_r ⟨.slice none 0 0, rfl⟩ 0 9)] : List R82).flatMap R82.enc)] [(16, bV c1)] 17 a w') ?_ ?_
 ·rcases Bool.eq_false_or_eq_true (decide (r1.2 = 0)) with hb1 | hb1
  ·replace h := iteT h hb1
   refine l_want S rfl rfl rfl hb1 (lv S (Rm (S.tm rfl)) rfl ?_);clear S;intro a S
   refine l_want S rfl rfl rfl hb1 (l_buildSlice S Tryz.underlying57 Tryz.sizeOf9 Tryz.zeroValue9 rfl rfl (pv := [(0, sV k_k)]) ⟨rfl, rfl, trivial⟩ (cs := [sV k_k]) (by kernel_rfl) rfl ?_);clear S;intro a w4 b2 hz3 hk3 S
   refine l_want S rfl rfl rfl hb1 ?_
   obtain ⟨r2, hr3, h⟩ := bindE h
   refine l_enter S (fun _ => run_call (vs := [u1, .slice (some ⟨b2, 0, none⟩) 1 1]) ⟨(S.tm rfl), (S.tm rfl), trivial⟩ Tryz.call49) (slices_Equal_string_ok _ u1 r1.1 ((ownV_slcT enc_str hs1).mono (S.le_new nil_sub)) (.slice (some ⟨b2, 0, none⟩) 1 1) [k_k] (lit_slcT enc_str S (i := 0) rfl rfl rfl rfl ((ne_nil (e' := .blk b2 [sV k_k] 9)) _ rfl)) _ hr3) rfl ?_;clear S;intro v2 a w5 hv2 hk4 hn2 S
   subst hv2
   refine lv S (rn_and_t hb1 (S.tm rfl) (S.tm rfl)) rfl ?_;clear S;intro a S
   refine Ld (Tn ?_)
   exact ⟨_, h, (hk3).trans hk4, S.nf [false, true] rfl ⟨rfl, trivial⟩⟩
  ·replace h := iteF h hb1
   iterate 3 (refine l_skip S rfl rfl rfl (neq_f hb1) rfl ?_ rfl;clear S;intro a S)
   refine lv S (rn_and_f true hb1 (S.tm rfl) rfl) rfl ?_;clear S;intro a S
   refine Ld (Tn ?_)
   exact ⟨_, h, Keep.refl _ _, S.nf [true] rfl ⟨rfl, trivial⟩⟩
 clear S h;rintro a w3 ⟨c1, h, hk5, S⟩;rw [hj1] at h;clear hj1 j1
 refine lv S (Ra (S.tm rfl)) rfl ?_;clear S;intro a S
 refine Ld (Tn (wp_ret ?_))
 obtain rfl := Option.some.inj h
 exact f_ret S Tryz.results13 rfl rfl
theorem tumblaw2_StepTexts_ok (w : World) (V : Value) (Ac : List Int) (Ag : Slc (view w []) 1 V (Ac.map eInt)) (hg_maxlen : GlobI (view w []) 0) (hg_pow10 : Glob (view w []) 1 pow10Cells) (r : Bool) (h : tumblaw2_StepTexts Ac = some r) :
    Calls Tryz.prog 3 [V].toArray w (Ret w [] fun _ v _ => v = bV r) := by
 refine f_enter [] [] Tryz.func3 rfl Tryz.ntmps3 rfl (by simp) (by simp [fps]) (by simp [fps]) fun a S => ?_
 unfold tumblaw2_StepTexts at h
 replace S := S.nk [] [(0, V)] [] rfl ⟨rfl, trivial⟩
 refine Fs (Fg (lv S (Ra rfl) rfl ?_));clear S;intro a S
 refine Ld (Tn (Fs (Fg (lv S (Rm (S.tm rfl)) rfl ?_))));clear S;intro a S
 refine lv S (rn_bld bt_25 (pv := [(0, V)]) ⟨rfl, (S.tm rfl), trivial⟩ (cs := [V, iV 0]) (by obtain ⟨_, _, hv⟩ := (slc_len Ag);rw [hv];clear hv;kernel_rfl)) rfl ?_;clear S;intro a S
 refine l_box S (S.tm rfl) (cs := [V, iV 0]) rfl rfl ?_;clear S;intro a w1 b1 hz1 hk1 S
 refine lv S (Ra (S.tm rfl)) rfl ?_;clear S;intro a S
 refine Ld (Tn (Fs (Fg (lv S (Rm (S.tm rfl)) rfl ?_))));clear S;intro a S
 refine lv S (Rm (S.tm rfl)) rfl ?_;clear S;intro a S
 obtain ⟨r1, hr1, h⟩ := bindE h
 refine l_enter1 0 S (b := b1) rfl rfl (fun _ => .blk b1 [V, iV r1.2] 25) (fun _ => run_call (vs := [.pointer (some ⟨b1, 0, none⟩), iV 0, iV 6]) ⟨(S.tm rfl), rfl, rfl, trivial⟩ Tryz.call5) (Stream_Range_ok _ b1 V Ac (Ag.mono (S.le_arg (fp_sub (i := 0) (e := .blk b1 [V, iV 0] 25) rfl))) 0 (S.holds _ (List.mem_of_getElem? (i := 0) rfl)) 0 6 _ hr1) rfl (fun _ _ _ h => ⟨h.1, fun _ hc => by cases hc;rfl⟩) ?_;clear S;intro v1 a w2 hv1 hk2 hn1 S
 replace hv1 := hv1.2
 subst hv1
 obtain ⟨r2, hr2, h⟩ := bindE h
 have hz2 := S.keep.size
 refine l_enter1 0 S (b := b1) rfl rfl (fun _ => .blk b1 [V, iV r2.2] 25) (fun _ => run_call (vs := [.pointer (some ⟨b1, 0, none⟩), iV r1.1]) ⟨(S.tm rfl), (S.tm rfl), trivial⟩ Tryz.call4) (Stream_Steps_ok _ b1 V Ac (Ag.mono (S.le_arg (fp_sub (i := 0) (e := .blk b1 [V, iV r1.2] 25) rfl))) r1.2 (S.holds _ (List.mem_of_getElem? (i := 0) rfl)) r1.1 _ hr2) rfl (fun _ _ _ h => ⟨h.1, fun _ hc => by cases hc;rfl⟩) ?_;clear S;intro v2 a w3 hv2 hk3 hn2 S
 replace hv2 := hv2.2
 obtain ⟨φ1, hl1, hm1, S⟩ := S.see' hn2 hz2
 have hs1 := hv2.mono hm1
 refine lv S (Rm (S.tm rfl)) rfl ?_;clear S;intro a S
 obtain ⟨r3, hr3, h⟩ := bindE h
 refine l_enter1 0 S (b := b1) rfl rfl (fun _ => .blk b1 [V, iV r3.2] 25) (fun _ => run_call (vs := [.pointer (some ⟨b1, 0, none⟩)]) ⟨(S.tm rfl), trivial⟩ Tryz.call6) (Stream_StepText_ok _ b1 V Ac (Ag.mono (S.le_arg (fp_sub (i := 0) (e := .blk b1 [V, iV r2.2] 25) rfl))) r2.2 (S.holds _ (List.mem_of_getElem? (i := 0) rfl)) (hg_pow10.mono (S.le_arg (fp_sub (i := 0) (e := .blk b1 [V, iV r2.2] 25) rfl))) _ hr3) rfl (fun _ _ _ h => ⟨h.1, fun _ hc => by cases hc;rfl⟩) ?_;clear S;intro v3 a w4 hv3 hk4 hn3 S
 replace hv3 := hv3.2
 subst hv3
 refine lv S (Ra (S.tm rfl)) rfl ?_;clear S;intro a S
 refine lv S (Ra (S.tm rfl)) rfl ?_;clear S;intro a S
 refine Ld (Tn (Fs (Fg (lv S (Rm (S.tm rfl)) rfl ?_))));clear S;intro a S
 obtain ⟨r4, hr4, h⟩ := bindE h
 refine l_enter S (fun _ => run_call (vs := [v2]) ⟨(S.tm rfl), trivial⟩ Tryz.call7) (record_Text_ok _ v2 r2.1 ((ownV_slcT GStep.enc_ok hs1).mono (S.le_new nil_sub)) (hg_pow10.mono (S.le_arg nil_sub)) _ hr4) rfl ?_;clear S;intro v4 a w5 hv4 hk5 hn4 S
 subst hv4
 refine lv S (Rm (S.tm rfl)) rfl ?_;clear S;intro a S
 refine lv S (rn_extract (S.tm rfl) rfl) rfl ?_;clear S;intro a S
 refine lv S (rn_extract (S.tm rfl) rfl) rfl ?_;clear S;intro a S
 refine lv S (Ra (S.tm rfl)) rfl ?_;clear S;intro a S
 refine lv S (Ra (S.tm rfl)) rfl ?_;clear S;intro a S
 refine Ld ?_
 replace S := S.nk [] [(4, v2), (5, sV r3.1), (6, sV r4.1), (7, iV r4.2)] [false] rfl (subR rfl)
 refine Tn (Fs (Fg (lv S (Rm (S.tm rfl)) rfl ?_)));clear S;intro a S
 obtain ⟨r5, hr5, h⟩ := bindE h
 refine l_enter S (fun _ => run_call (vs := [v2]) ⟨(S.tm rfl), trivial⟩ Tryz.call8) (tumbref2_StepsFault_ok _ v2 r2.1 ((ownV_slcT GStep.enc_ok hs1).mono (S.le_new nil_sub)) _ hr5) rfl ?_;clear S;intro v5 a w6 hv5 hk6 hn5 S
 subst hv5
 refine lv S (Ra (S.tm rfl)) rfl ?_;clear S;intro a S
 refine lv S (Ra rfl) rfl ?_;clear S;intro a S
 refine Ld (Tn (Fs (Fs (Fg (lv S (Rm (S.tm rfl)) rfl ?_)))));clear S;intro a S
 refine lv S (rn_eql (S.tm rfl) rfl) rfl ?_;clear S;intro a S
 refine Ld (Tn ?_)
 obtain ⟨j1, hj1, h⟩ := joinE h
 refine f_join (fun a w' => ∃ x1 : ByteArray, j1 x1 = some r ∧ Sx w [] φ1 [] [(5, sV r3.1), (6, sV r4.1), (7, iV r4.2), (8, iV r5), (9, sV x1)] 74 a w') ?_ ?_
 ·refine f_cond (S.tm rfl) (fun hb1 => ?_) (fun hb1 => ?_)
  ·replace h := iteT h hb1
   refine Fg (lv S (Rm (S.tm rfl)) rfl ?_);clear S;intro a S
   obtain ⟨r6, hr6, h⟩ := bindE h
   refine l_enter S (fun _ => run_call (vs := [v2]) ⟨(S.tm rfl), trivial⟩ Tryz.call9) (tumbref2_StepLines_ok _ v2 r2.1 ((ownV_slcT GStep.enc_ok hs1).mono (S.le_new nil_sub)) (hg_pow10.mono (S.le_arg nil_sub)) _ hr6) rfl ?_;clear S;intro v6 a w8 hv6 hk7 hn6 S
   subst hv6
   refine lv S (Ra (S.tm rfl)) rfl ?_;clear S;intro a S
   refine Ld (Tn ?_)
   exact ⟨r6, h, S.nf [] rfl (subR rfl)⟩
  ·replace h := iteF h hb1
   refine wp_skip (Tn ?_)
   exact ⟨k_empty, h, S.nf [] rfl (subR rfl)⟩
 clear S h;rintro a w7 ⟨x1, h, S⟩;rw [hj1] at h;clear hj1 j1
 refine Tn (Fs (Fg (lv S (Rm (S.tm rfl)) rfl ?_)));clear S;intro a S
 obtain ⟨r7, hr7, h⟩ := bindE h
 have hz3 := S.keep.size
 refine l_enter S (fun _ => run_call (vs := [sV r3.1]) ⟨(S.tm rfl), trivial⟩ Tryz.call10) (record_Read_ok _ r3.1 (hg_maxlen.mono (S.le_arg nil_sub)) _ hr7) rfl ?_;clear S;intro v7 a w9 hv7 hk8 hn7 S
 obtain ⟨u2, rfl, ho2⟩ := hv7
 obtain ⟨φ2, hl2, hm2, S⟩ := S.see' hn7 hz3
 have hs2 := ho2.mono hm2
 refine lv S (Rm (S.tm rfl)) rfl ?_;clear S;intro a S
 iterate 3 (refine lv S (rn_extract (S.tm rfl) rfl) rfl ?_;clear S;intro a S)
 iterate 3 (refine lv S (Ra (S.tm rfl)) rfl ?_;clear S;intro a S)
 refine Ld (Tn (Fs (Fg (lv S (Rm (S.tm rfl)) rfl ?_))));clear S;intro a S
 obtain ⟨r8, hr8, h⟩ := bindE h
 have hz4 := S.keep.size
 refine l_enter S (fun _ => run_call (vs := [sV r3.1]) ⟨(S.tm rfl), trivial⟩ Tryz.call11) (tumbref2_StepsRead_ok _ r3.1 (hg_maxlen.mono (S.le_arg nil_sub)) (hg_pow10.mono (S.le_arg nil_sub)) _ hr8) rfl ?_;clear S;intro v8 a w10 hv8 hk9 hn8 S
 obtain ⟨u3, rfl, ho3⟩ := hv8
 obtain ⟨φ3, hl3, hm3, S⟩ := S.see' hn8 hz4
 have hs3 := ho3.mono hm3
 refine lv S (Rm (S.tm rfl)) rfl ?_;clear S;intro a S
 iterate 3 (refine lv S (rn_extract (S.tm rfl) rfl) rfl ?_;clear S;intro a S)
 iterate 3 (refine lv S (Ra (S.tm rfl)) rfl ?_;clear S;intro a S)
 refine Ld ?_
 replace S := S.nk [] [(6, sV r4.1), (7, iV r4.2), (8, iV r5), (9, sV x1), (10, u2), (11, iV r7.2.1), (12, iV r7.2.2), (13, u3), (14, iV r8.2.1), (15, iV r8.2.2)] [] rfl (subR rfl)
 refine Tn (Fs (Fg (lv S (Rm (S.tm rfl)) rfl ?_)));clear S;intro a S
 refine lv S (Rm (S.tm rfl)) rfl ?_;clear S;intro a S
 refine lv S (rn_eql (S.tm rfl) (S.tm rfl)) rfl ?_;clear S;intro a S
 refine lv S (Rm (S.tm rfl)) rfl ?_;clear S;intro a S
 refine f_cutm 4 (fun a w' => Keep [] w10 w' ∧ Sx w [] φ3 [] [(10, u2), (11, iV r7.2.1), (12, iV r7.2.2), (13, u3), (14, iV r8.2.1), (15, iV r8.2.2), (55, bV ((decide (r4.2 = r5)) && (decide (r4.1 = x1))))] 74 a w') ?_ ?_
 ·rcases Bool.eq_false_or_eq_true (decide (r4.2 = r5)) with hb2 | hb2
  ·refine l_want S rfl rfl rfl hb2 (lv S (Rm (S.tm rfl)) rfl ?_);clear S;intro a S
   refine l_want S rfl rfl rfl hb2 (lv S (Rm (S.tm rfl)) rfl ?_);clear S;intro a S
   refine l_want S rfl rfl rfl hb2 (lv S (rn_seql (S.tm rfl) (S.tm rfl)) rfl ?_);clear S;intro a S
   refine lv S (rn_and_t hb2 (S.tm rfl) (S.tm rfl)) rfl ?_;clear S;intro a S
   refine Ld (Tn ?_)
   exact ⟨Keep.refl _ _, S.nf [] rfl (subR rfl)⟩
  ·iterate 3 (refine l_skip S rfl rfl rfl (neq_f hb2) rfl ?_ rfl;clear S;intro a S)
   refine lv S (rn_and_f (decide (r4.1 = x1)) hb2 (S.tm rfl) rfl) rfl ?_;clear S;intro a S
   refine Ld (Tn ?_)
   exact ⟨Keep.refl _ _, S.nf [] rfl (subR rfl)⟩
 clear S;rintro a w11 ⟨hk10, S⟩
 refine lv S (Rm (S.tm rfl)) rfl ?_;clear S;intro a S
 obtain ⟨j2, hj2, h⟩ := joinE h
 refine f_cutm 4 (fun a w' => ∃ c1, j2 c1 = some r ∧ Keep [] w11 w' ∧ Sx w [] φ3 [] [(11, iV r7.2.1), (12, iV r7.2.2), (14, iV r8.2.1), (15, iV r8.2.2), (60, bV c1)] 74 a w') ?_ ?_
 ·rcases Bool.eq_false_or_eq_true ((decide (r4.2 = r5)) && (decide (r4.1 = x1))) with hb3 | hb3
  ·replace h := iteT h hb3
   refine l_want S rfl rfl rfl hb3 (lv S (Rm (S.tm rfl)) rfl ?_);clear S;intro a S
   refine l_want S rfl rfl rfl hb3 (lv S (Rm (S.tm rfl)) rfl ?_);clear S;intro a S
   refine l_want S rfl rfl rfl hb3 ?_
   obtain ⟨r9, hr9, h⟩ := bindE h
   refine l_enter S (fun _ => run_call (vs := [u2, u3]) ⟨(S.tm rfl), (S.tm rfl), trivial⟩ Tryz.call12) (slices_Equal_Step_ok _ u2 r7.1 ((ownV_slcT GStep.enc_ok hs2).mono (View.le_trans hl3 (S.le_new nil_sub))) u3 r8.1 ((ownV_slcT GStep.enc_ok hs3).mono (S.le_new nil_sub)) _ hr9) rfl ?_;clear S;intro v9 a w13 hv9 hk11 hn9 S
   subst hv9
   refine lv S (rn_and_t hb3 (S.tm rfl) (S.tm rfl)) rfl ?_;clear S;intro a S
   refine Ld (Tn ?_)
   exact ⟨_, h, hk11, S.nf [] rfl (subR rfl)⟩
  ·replace h := iteF h hb3
   iterate 3 (refine l_skip S rfl rfl rfl (neq_f hb3) rfl ?_ rfl;clear S;intro a S)
   refine lv S (rn_and_f true hb3 (S.tm rfl) rfl) rfl ?_;clear S;intro a S
   refine Ld (Tn ?_)
   exact ⟨_, h, Keep.refl _ _, S.nf [] rfl (subR rfl)⟩
 clear S h;rintro a w12 ⟨c1, h, hk12, S⟩;rw [hj2] at h;clear hj2 j2
 refine lv S (Rm (S.tm rfl)) rfl ?_;clear S;intro a S
 refine f_cutm 4 (fun a w' => Keep [] w12 w' ∧ Sx w [] φ3 [] [(12, iV r7.2.2), (15, iV r8.2.2), (65, bV (c1 && (decide (r7.2.1 = r8.2.1))))] 74 a w') ?_ ?_
 ·rcases Bool.eq_false_or_eq_true c1 with hb4 | hb4
  ·refine l_want S rfl rfl rfl hb4 (lv S (Rm (S.tm rfl)) rfl ?_);clear S;intro a S
   refine l_want S rfl rfl rfl hb4 (lv S (Rm (S.tm rfl)) rfl ?_);clear S;intro a S
   refine l_want S rfl rfl rfl hb4 (lv S (rn_eql (S.tm rfl) (S.tm rfl)) rfl ?_);clear S;intro a S
   refine lv S (rn_and_t hb4 (S.tm rfl) (S.tm rfl)) rfl ?_;clear S;intro a S
   refine Ld (Tn ?_)
   exact ⟨Keep.refl _ _, S.nf [] rfl (subR rfl)⟩
  ·iterate 3 (refine l_skip S rfl rfl rfl (neq_f hb4) rfl ?_ rfl;clear S;intro a S)
   refine lv S (rn_and_f (decide (r7.2.1 = r8.2.1)) hb4 (S.tm rfl) rfl) rfl ?_;clear S;intro a S
   refine Ld (Tn ?_)
   exact ⟨Keep.refl _ _, S.nf [] rfl (subR rfl)⟩
 clear S;rintro a w14 ⟨hk13, S⟩
 refine lv S (Rm (S.tm rfl)) rfl ?_;clear S;intro a S
 refine f_cutm 4 (fun a w' => Keep [] w14 w' ∧ Sx w [] φ3 [] [(70, bV ((c1 && (decide (r7.2.1 = r8.2.1))) && (decide (r7.2.2 = r8.2.2))))] 74 a w') ?_ ?_
 ·rcases Bool.eq_false_or_eq_true (c1 && (decide (r7.2.1 = r8.2.1))) with hb5 | hb5
  ·refine l_want S rfl rfl rfl hb5 (lv S (Rm (S.tm rfl)) rfl ?_);clear S;intro a S
   refine l_want S rfl rfl rfl hb5 (lv S (Rm (S.tm rfl)) rfl ?_);clear S;intro a S
   refine l_want S rfl rfl rfl hb5 (lv S (rn_eql (S.tm rfl) (S.tm rfl)) rfl ?_);clear S;intro a S
   refine lv S (rn_and_t hb5 (S.tm rfl) (S.tm rfl)) rfl ?_;clear S;intro a S
   refine Ld (Tn ?_)
   exact ⟨Keep.refl _ _, S.nf [] rfl ⟨rfl, trivial⟩⟩
  ·iterate 3 (refine l_skip S rfl rfl rfl (neq_f hb5) rfl ?_ rfl;clear S;intro a S)
   refine lv S (rn_and_f (decide (r7.2.2 = r8.2.2)) hb5 (S.tm rfl) rfl) rfl ?_;clear S;intro a S
   refine Ld (Tn ?_)
   exact ⟨Keep.refl _ _, S.nf [] rfl ⟨rfl, trivial⟩⟩
 clear S;rintro a w15 ⟨hk14, S⟩
 refine lv S (Rm (S.tm rfl)) rfl ?_;clear S;intro a S
 obtain ⟨j3, hj3, h⟩ := joinE h
 refine f_cutm 2 (fun a w' => ∃ c2, j3 c2 = some r ∧ Keep [] w15 w' ∧ Sx w [] φ3 [] [(73, bV c2)] 74 a w') ?_ ?_
 ·rcases Bool.eq_false_or_eq_true ((c1 && (decide (r7.2.1 = r8.2.1))) && (decide (r7.2.2 = r8.2.2))) with hb6 | hb6
  ·replace h := iteT h hb6
   refine l_want S rfl rfl rfl hb6 ?_
   obtain ⟨r10, hr10, h⟩ := bindE h
   refine l_enter S (fun _ => run_call (vs := []) trivial Tryz.call13) (tumblaw2_recorded_ok _ _ hr10) rfl ?_;clear S;intro v10 a w17 hv10 hk15 hn10 S
   subst hv10
   refine lv S (rn_and_t hb6 (S.tm rfl) (S.tm rfl)) rfl ?_;clear S;intro a S
   refine Ld (Tn ?_)
   exact ⟨_, h, hk15, S.nf [] rfl ⟨rfl, trivial⟩⟩
  ·replace h := iteF h hb6
   refine l_skip S rfl rfl rfl (neq_f hb6) rfl ?_ rfl;clear S;intro a S
   refine lv S (rn_and_f true hb6 (S.tm rfl) rfl) rfl ?_;clear S;intro a S
   refine Ld (Tn ?_)
   exact ⟨_, h, Keep.refl _ _, S.nf [] rfl ⟨rfl, trivial⟩⟩
 clear S h;rintro a w16 ⟨c2, h, hk16, S⟩;rw [hj3] at h;clear hj3 j3
 refine lv S (Ra (S.tm rfl)) rfl ?_;clear S;intro a S
 refine Ld (Tn (wp_ret ?_))
 obtain rfl := Option.some.inj h
 exact f_ret S Tryz.results3 rfl rfl
end Go.Proofs.YtamfhhmfioghgaaGreatDoor
