/- Each Go function computes its plain twin, by program. -/
import Derived.Test.YtdkpfiinkodbfaaGreatDoorWk2
namespace Go.Proofs.YtdkpfiinkodbfaaGreatDoor
open Go
theorem tumbref2_Moment_ok (w : World) (p_at : Int) (r : Bool) (h : tumbref2_Moment p_at = r) :
    Calls Tryz.prog 54 [iV p_at].toArray w (Ret w [] fun _ v _ => v = bV r) := by
 refine f_enter [] [] Tryz.func54 rfl Tryz.ntmps54 rfl (by simp) (by simp [fps]) (by simp [fps]) fun a S => ?_
 unfold tumbref2_Moment at h
 replace S := S.nk [] [(0, iV p_at)] [] rfl ⟨rfl, trivial⟩
 refine f_seq (f_region (lv S (rn_assign rfl) rfl ?_)); clear S; intro a S
 refine l_done (then_n (f_seq (f_region (lv S (rn_move (S.tm rfl)) rfl ?_)))); clear S; intro a S
 refine l_enter S (fun _ => run_call (vs := [iV p_at, iV 0, iV 345686399999]) ⟨(S.tm rfl), rfl, rfl, trivial⟩ Tryz.call53) (tumbref2_in_ok _ p_at 0 345686399999 _ rfl) rfl ?_; clear S; intro v1 a w1 hv1 hk1 hn1 S
 subst hv1
 refine lv S (rn_assign (S.tm rfl)) rfl ?_; clear S; intro a S
 refine l_done (then_n (wp_ret ?_))
 subst h
 exact f_ret S Tryz.results54 rfl rfl
theorem tumbref2_StepFault_ok (w : World) (p_s : GStep) (r : Int) (h : tumbref2_StepFault p_s = some r) :
    Calls Tryz.prog 22 [.agg (GStep.enc p_s).toArray].toArray w (Ret w [] fun _ v _ => v = iV r) := by
 refine f_enter [] [] Tryz.func22 rfl Tryz.ntmps22 rfl (by simp) (by simp [fps]) (by simp [fps]) fun a S => ?_
 unfold tumbref2_StepFault at h
 replace S := S.nk [] [(0, .agg (GStep.enc p_s).toArray)] [] rfl ⟨rfl, trivial⟩
 refine f_seq (f_region (l_box S (S.tm rfl) (cs := (GStep.enc p_s)) rfl rfl ?_)); clear S; intro a w1 b1 hz1 hk1 S
 refine lv S (rn_assign rfl) rfl ?_; clear S; intro a S
 refine l_done (then_n (f_seq (wp_block (f_seq (f_region (lv S (rn_fld fa_34_0 (S.tm rfl)) rfl ?_)))))); clear S; intro a S
 refine lv S (rn_load Tryz.isAgg3 (S.tm rfl) (S.cell (i := 0) rfl rfl)) rfl ?_; clear S; intro a S
 refine l_enter S (fun _ => run_call (vs := [iV p_s.At]) ⟨(S.tm rfl), trivial⟩ Tryz.call54) (tumbref2_Moment_ok _ p_s.At _ rfl) rfl ?_; clear S; intro v1 a w2 hv1 hk2 hn1 S
 subst hv1
 refine lv S (rn_not (S.tm rfl)) rfl ?_; clear S; intro a S
 refine lv S (rn_assign (S.tm rfl)) rfl ?_; clear S; intro a S
 refine l_done (then_n (f_cond (S.tm rfl) (fun hb1 => ?_) (fun hb1 => ?_)))
 ·replace h := iteT h hb1
  refine f_seq (f_region (lv S (rn_assign rfl) rfl ?_)); clear S; intro a S
  refine l_done (then_n (wp_ret (blk_r (then_r ?_))))
  obtain rfl := Option.some.inj h
  exact f_ret S Tryz.results22 rfl rfl
 ·replace h := iteF h hb1
  refine f_seq (f_region (lv S (rn_fld fa_34_1 (S.tm rfl)) rfl ?_)); clear S; intro a S
  refine lv S (rn_load Tryz.isAgg3 (S.tm rfl) (S.cell (i := 0) rfl rfl)) rfl ?_; clear S; intro a S
  refine l_enter S (fun _ => run_call (vs := [iV p_s.Kind, iV 1, iV 3]) ⟨(S.tm rfl), rfl, rfl, trivial⟩ Tryz.call53) (tumbref2_in_ok _ p_s.Kind 1 3 _ rfl) rfl ?_; clear S; intro v2 a w3 hv2 hk3 hn2 S
  subst hv2
  refine lv S (rn_not (S.tm rfl)) rfl ?_; clear S; intro a S
  refine lv S (rn_assign (S.tm rfl)) rfl ?_; clear S; intro a S
  refine l_done (then_n (f_cond (S.tm rfl) (fun hb2 => ?_) (fun hb2 => ?_)))
  ·replace h := iteT h hb2
   refine f_seq (f_region (lv S (rn_assign rfl) rfl ?_)); clear S; intro a S
   refine l_done (then_n (wp_ret (blk_r (then_r ?_))))
   obtain rfl := Option.some.inj h
   exact f_ret S Tryz.results22 rfl rfl
  ·replace h := iteF h hb2
   refine f_seq (f_region (lv S (rn_fld fa_34_2 (S.tm rfl)) rfl ?_)); clear S; intro a S
   refine lv S (rn_load Tryz.isAgg9 (S.tm rfl) (S.cell (i := 0) rfl rfl)) rfl ?_; clear S; intro a S
   obtain ⟨r1, hr1, h⟩ := bindE h
   refine l_enter S (fun _ => run_call (vs := [sV p_s.Id]) ⟨(S.tm rfl), trivial⟩ Tryz.call52) (tumbref2_Key_ok _ p_s.Id _ hr1) rfl ?_; clear S; intro v3 a w4 hv3 hk4 hn3 S
   subst hv3
   refine lv S (rn_not (S.tm rfl)) rfl ?_; clear S; intro a S
   refine lv S (rn_assign (S.tm rfl)) rfl ?_; clear S; intro a S
   refine l_done ?_
   replace S := S.nk [.blk b1 (GStep.enc p_s) 34] [(1, .pointer (some ⟨b1, 0, none⟩)), (13, bV (!r1))] [true] rfl (subR rfl)
   refine then_n (f_cond (S.tm rfl) (fun hb3 => ?_) (fun hb3 => ?_))
   ·replace h := iteT h hb3
    refine f_seq (f_region (lv S (rn_assign rfl) rfl ?_)); clear S; intro a S
    refine l_done (then_n (wp_ret (blk_r (then_r ?_))))
    obtain rfl := Option.some.inj h
    exact f_ret S Tryz.results22 rfl rfl
   ·replace h := iteF h hb3
    refine wp_skip (blk_n (then_n (f_seq (f_seq (f_region (lv S (rn_fld fa_34_1 (S.tm rfl)) rfl ?_)))))); clear S; intro a S
    refine lv S (rn_load Tryz.isAgg3 (S.tm rfl) (S.cell (i := 0) rfl rfl)) rfl ?_; clear S; intro a S
    refine lv S (rn_neq (S.tm rfl) rfl) rfl ?_; clear S; intro a S
    refine l_done (then_n (f_cond (S.tm rfl) (fun hb4 => ?_) (fun hb4 => ?_)))
    ·replace h := iteT h hb4
     refine f_seq (f_seq (f_region (lv S (rn_ldA Tryz.isAgg34 Tryz.sizeOf34 (off := 0) (o := 0) (part := (GStep.enc p_s)) rfl rfl (S.tm rfl) (S.cellsAt (i := 0) rfl)) rfl ?_))); clear S; intro a S
     refine lv S (rn_fld fa_34_0 (S.tm rfl)) rfl ?_; clear S; intro a S
     refine lv S (rn_load Tryz.isAgg3 (S.tm rfl) (S.cell (i := 0) rfl rfl)) rfl ?_; clear S; intro a S
     refine lv S (rn_fld fa_34_1 (S.tm rfl)) rfl ?_; clear S; intro a S
     refine lv S (rn_load Tryz.isAgg3 (S.tm rfl) (S.cell (i := 0) rfl rfl)) rfl ?_; clear S; intro a S
     refine lv S (rn_fld fa_34_2 (S.tm rfl)) rfl ?_; clear S; intro a S
     refine lv S (rn_load Tryz.isAgg9 (S.tm rfl) (S.cell (i := 0) rfl rfl)) rfl ?_; clear S; intro a S
     refine lv S (rn_bld bt_34 (pv := [(0, iV p_s.At), (1, iV p_s.Kind), (2, sV p_s.Id)]) ⟨rfl, (S.tm rfl), rfl, (S.tm rfl), rfl, (S.tm rfl), trivial⟩ (cs := [iV p_s.At, iV p_s.Kind, sV p_s.Id, sV k_empty, sV k_empty, sV k_empty, iV 0, iV 0]) (by kernel_rfl)) rfl ?_; clear S; intro a S
     refine lv S (rn_neq_34 (m := p_s) (n := (GStep.mk p_s.At p_s.Kind p_s.Id k_empty k_empty k_empty 0 0)) (S.tm rfl) (S.tm rfl)) rfl ?_; clear S; intro a S
     refine l_done (then_n (f_cond (S.tm rfl) (fun hb5 => ?_) (fun hb5 => ?_)))
     ·replace h := iteT h hb5
      refine f_seq (f_region (lv S (rn_assign rfl) rfl ?_)); clear S; intro a S
      refine l_done ?_
      replace S := S.nk [] [(2, iV 3)] [false] rfl ⟨rfl, trivial⟩
      refine then_n (wp_ret (then_r (then_r ?_)))
      obtain rfl := Option.some.inj h
      exact f_ret S Tryz.results22 rfl rfl
     ·replace h := iteF h hb5
      refine wp_skip (then_n (f_seq (f_region (lv S (rn_assign rfl) rfl ?_)))); clear S; intro a S
      refine l_done ?_
      replace S := S.nk [] [(2, iV 0)] [false] rfl ⟨rfl, trivial⟩
      refine then_n (wp_ret (then_r ?_))
      obtain rfl := Option.some.inj h
      exact f_ret S Tryz.results22 rfl rfl
    ·replace h := iteF h hb4
     refine wp_skip (then_n (f_seq (wp_block (f_seq (f_region (lv S (rn_fld fa_34_3 (S.tm rfl)) rfl ?_)))))); clear S; intro a S
     refine lv S (rn_load Tryz.isAgg9 (S.tm rfl) (S.cell (i := 0) rfl rfl)) rfl ?_; clear S; intro a S
     obtain ⟨r2, hr2, h⟩ := bindE h
     refine l_enter S (fun _ => run_call (vs := [sV p_s.Who]) ⟨(S.tm rfl), trivial⟩ Tryz.call52) (tumbref2_Key_ok _ p_s.Who _ hr2) rfl ?_; clear S; intro v4 a w5 hv4 hk5 hn4 S
     subst hv4
     refine lv S (rn_not (S.tm rfl)) rfl ?_; clear S; intro a S
     refine lv S (rn_move (S.tm rfl)) rfl ?_; clear S; intro a S
     obtain ⟨j1, hj1, h⟩ := joinE h
     refine f_cutm 5 (fun a w' => ∃ c1, j1 c1 = some r ∧ Keep [] w5 w' ∧ Sx w [] nov [.blk b1 (GStep.enc p_s) 34] [(1, .pointer (some ⟨b1, 0, none⟩)), (40, bV c1)] 63 a w') ?_ ?_
     ·rcases Bool.eq_false_or_eq_true (!r2) with hb6 | hb6
      ·replace h := iteT h hb6
       iterate 4 (refine l_skip S rfl rfl rfl (neq_t hb6) rfl ?_ rfl; clear S; intro a S)
       refine lv S (rn_or_t true hb6 (S.tm rfl) rfl) rfl ?_; clear S; intro a S
       refine l_done (then_n ?_)
       exact ⟨_, h, Keep.refl _ _, S.nf [true] rfl (subR rfl)⟩
      ·replace h := iteF h hb6
       refine l_want S rfl rfl rfl hb6 (lv S (rn_fld fa_34_5 (S.tm rfl)) rfl ?_); clear S; intro a S
       refine l_want S rfl rfl rfl hb6 (lv S (rn_load Tryz.isAgg9 (S.tm rfl) (S.cell (i := 0) rfl rfl)) rfl ?_); clear S; intro a S
       refine l_want S rfl rfl rfl hb6 ?_
       obtain ⟨r3, hr3, h⟩ := bindE h
       refine l_enter S (fun _ => run_call (vs := [sV p_s.Race]) ⟨(S.tm rfl), trivial⟩ Tryz.call52) (tumbref2_Key_ok _ p_s.Race _ hr3) rfl ?_; clear S; intro v5 a w7 hv5 hk6 hn5 S
       subst hv5
       refine l_want S rfl rfl rfl hb6 (lv S (rn_not (S.tm rfl)) rfl ?_); clear S; intro a S
       refine lv S (rn_or_f hb6 (S.tm rfl) (S.tm rfl)) rfl ?_; clear S; intro a S
       refine l_done (then_n ?_)
       exact ⟨_, h, hk6, S.nf [true] rfl (subR rfl)⟩
     clear S h; rintro a w6 ⟨c1, h, hk7, S⟩; rw [hj1] at h; clear hj1 j1
     refine lv S (rn_move (S.tm rfl)) rfl ?_; clear S; intro a S
     obtain ⟨j2, hj2, h⟩ := joinE h
     refine f_cutm 10 (fun a w' => ∃ c2, j2 c2 = some r ∧ Keep [] w6 w' ∧ Sx w [] nov [.blk b1 (GStep.enc p_s) 34] [(1, .pointer (some ⟨b1, 0, none⟩)), (51, bV c2)] 63 a w') ?_ ?_
     ·rcases Bool.eq_false_or_eq_true c1 with hb7 | hb7
      ·replace h := iteT h hb7
       iterate 4 (refine l_skip S rfl rfl rfl (neq_t hb7) rfl ?_ rfl; clear S; intro a S)
       iterate 4 (refine l_skipU S rfl rfl rfl rfl ?_; clear S; intro a S)
       refine l_skip S rfl rfl rfl (neq_t hb7) rfl ?_ rfl; clear S; intro a S
       refine lv S (rn_or_t true hb7 (S.tm rfl) rfl) rfl ?_; clear S; intro a S
       refine l_done (then_n ?_)
       exact ⟨_, h, Keep.refl _ _, S.nf [true] rfl (subR rfl)⟩
      ·replace h := iteF h hb7
       refine l_want S rfl rfl rfl hb7 (lv S (rn_fld fa_34_4 (S.tm rfl)) rfl ?_); clear S; intro a S
       refine l_want S rfl rfl rfl hb7 (lv S (rn_load Tryz.isAgg9 (S.tm rfl) (S.cell (i := 0) rfl rfl)) rfl ?_); clear S; intro a S
       refine l_want S rfl rfl rfl hb7 (lv S (rn_sneq (S.tm rfl) rfl) rfl ?_); clear S; intro a S
       refine l_want S rfl rfl rfl hb7 (lv S (rn_move (S.tm rfl)) rfl ?_); clear S; intro a S
       obtain ⟨j3, hj3, h⟩ := joinE h
       refine f_cutm 5 (fun a w' => ∃ c3, j3 c3 = some r ∧ Keep [] w6 w' ∧ Sx w [] nov [.blk b1 (GStep.enc p_s) 34] [(1, .pointer (some ⟨b1, 0, none⟩)), (41, bV c1), (50, bV c3)] 63 a w') ?_ ?_
       ·rcases Bool.eq_false_or_eq_true (!decide (p_s.Club = k_empty)) with hb8 | hb8
        ·replace h := iteT h hb8
         refine l_want S rfl rfl rfl hb8 (lv S (rn_fld fa_34_4 (S.tm rfl)) rfl ?_); clear S; intro a S
         refine l_want S rfl rfl rfl hb8 (lv S (rn_load Tryz.isAgg9 (S.tm rfl) (S.cell (i := 0) rfl rfl)) rfl ?_); clear S; intro a S
         refine l_want S rfl rfl rfl hb8 ?_
         obtain ⟨r4, hr4, h⟩ := bindE h
         refine l_enter S (fun _ => run_call (vs := [sV p_s.Club]) ⟨(S.tm rfl), trivial⟩ Tryz.call52) (tumbref2_Key_ok _ p_s.Club _ hr4) rfl ?_; clear S; intro v6 a w10 hv6 hk8 hn6 S
         subst hv6
         refine l_want S rfl rfl rfl hb8 (lv S (rn_not (S.tm rfl)) rfl ?_); clear S; intro a S
         refine l_want S rfl rfl rfl hb7 (lv S (rn_and_t hb8 (S.tm rfl) (S.tm rfl)) rfl ?_); clear S; intro a S
         refine l_done (then_n ?_)
         exact ⟨_, h, hk8, S.nf [true] rfl (subR rfl)⟩
        ·replace h := iteF h hb8
         iterate 4 (refine l_skip S rfl rfl rfl (neq_f hb8) rfl ?_ rfl; clear S; intro a S)
         refine l_want S rfl rfl rfl hb7 (lv S (rn_and_f true hb8 (S.tm rfl) rfl) rfl ?_); clear S; intro a S
         refine l_done (then_n ?_)
         exact ⟨_, h, Keep.refl _ _, S.nf [true] rfl (subR rfl)⟩
       clear S h; rintro a w9 ⟨c3, h, hk9, S⟩; rw [hj3] at h; clear hj3 j3
       refine lv S (rn_or_f hb7 (S.tm rfl) (S.tm rfl)) rfl ?_; clear S; intro a S
       refine l_done (then_n ?_)
       exact ⟨_, h, hk9, S.nf [true] rfl (subR rfl)⟩
     clear S h; rintro a w8 ⟨c2, h, hk10, S⟩; rw [hj2] at h; clear hj2 j2
     refine lv S (rn_assign (S.tm rfl)) rfl ?_; clear S; intro a S
     refine l_done (then_n (f_cond (S.tm rfl) (fun hb9 => ?_) (fun hb9 => ?_)))
     ·replace h := iteT h hb9
      refine f_seq (f_region (lv S (rn_assign rfl) rfl ?_)); clear S; intro a S
      refine l_done (then_n (wp_ret (blk_r (then_r ?_))))
      obtain rfl := Option.some.inj h
      exact f_ret S Tryz.results22 rfl rfl
     ·replace h := iteF h hb9
      refine f_seq (f_region (lv S (rn_fld fa_34_6 (S.tm rfl)) rfl ?_)); clear S; intro a S
      refine lv S (rn_load Tryz.isAgg3 (S.tm rfl) (S.cell (i := 0) rfl rfl)) rfl ?_; clear S; intro a S
      refine l_enter S (fun _ => run_call (vs := [iV p_s.Age, iV 0, iV 150]) ⟨(S.tm rfl), rfl, rfl, trivial⟩ Tryz.call53) (tumbref2_in_ok _ p_s.Age 0 150 _ rfl) rfl ?_; clear S; intro v7 a w11 hv7 hk11 hn7 S
      subst hv7
      refine lv S (rn_not (S.tm rfl)) rfl ?_; clear S; intro a S
      refine lv S (rn_move (S.tm rfl)) rfl ?_; clear S; intro a S
      refine f_cutm 5 (fun a w' => Keep [] w11 w' ∧ Sx w [] nov [.blk b1 (GStep.enc p_s) 34] [(62, bV ((!(tumbref2_in p_s.Age 0 150)) || (!(tumbref2_in p_s.Time 1 360000))))] 63 a w') ?_ ?_
      ·rcases Bool.eq_false_or_eq_true (!(tumbref2_in p_s.Age 0 150)) with hb10 | hb10
       ·iterate 4 (refine l_skip S rfl rfl rfl (neq_t hb10) rfl ?_ rfl; clear S; intro a S)
        refine lv S (rn_or_t (!(tumbref2_in p_s.Time 1 360000)) hb10 (S.tm rfl) rfl) rfl ?_; clear S; intro a S
        refine l_done (then_n ?_)
        exact ⟨Keep.refl _ _, S.nf [true] rfl ⟨rfl, trivial⟩⟩
       ·refine l_want S rfl rfl rfl hb10 (lv S (rn_fld fa_34_7 (S.tm rfl)) rfl ?_); clear S; intro a S
        refine l_want S rfl rfl rfl hb10 (lv S (rn_load Tryz.isAgg3 (S.tm rfl) (S.cell (i := 0) rfl rfl)) rfl ?_); clear S; intro a S
        refine l_want S rfl rfl rfl hb10 (l_enter S (fun _ => run_call (vs := [iV p_s.Time, iV 1, iV 360000]) ⟨(S.tm rfl), rfl, rfl, trivial⟩ Tryz.call53) (tumbref2_in_ok _ p_s.Time 1 360000 _ rfl) rfl ?_); clear S; intro v8 a w13 hv8 hk12 hn8 S
        subst hv8
        refine l_want S rfl rfl rfl hb10 (lv S (rn_not (S.tm rfl)) rfl ?_); clear S; intro a S
        refine lv S (rn_or_f hb10 (S.tm rfl) (S.tm rfl)) rfl ?_; clear S; intro a S
        refine l_done (then_n ?_)
        exact ⟨hk12, S.nf [true] rfl ⟨rfl, trivial⟩⟩
      clear S; rintro a w12 ⟨hk13, S⟩
      refine lv S (rn_assign (S.tm rfl)) rfl ?_; clear S; intro a S
      refine l_done (then_n (f_cond (S.tm rfl) (fun hb11 => ?_) (fun hb11 => ?_)))
      ·replace h := iteT h hb11
       refine f_seq (f_region (lv S (rn_assign rfl) rfl ?_)); clear S; intro a S
       refine l_done (then_n (wp_ret (blk_r (then_r ?_))))
       obtain rfl := Option.some.inj h
       exact f_ret S Tryz.results22 rfl rfl
      ·replace h := iteF h hb11
       refine wp_skip (blk_n (then_n (f_seq (f_region (lv S (rn_assign rfl) rfl ?_))))); clear S; intro a S
       refine l_done (then_n (wp_ret ?_))
       obtain rfl := Option.some.inj h
       exact f_ret S Tryz.results22 rfl rfl
set_option maxRecDepth 20000 in
theorem tumbref2_StepsFault_ok (w : World) (v_p_l : Value) (p_l : List GStep) (hs_p_l : Slc (view w []) 8 v_p_l (p_l.map GStep.enc)) (r : Int) (h : tumbref2_StepsFault p_l = some r) :
    Calls Tryz.prog 18 [v_p_l].toArray w (Ret w [] fun _ v _ => v = iV r) := by
 refine f_enter [] [] Tryz.func18 rfl Tryz.ntmps18 rfl (by simp) (by simp [fps]) (by simp [fps]) fun a S => ?_
 unfold tumbref2_StepsFault at h
 replace S := S.nk [] [(0, v_p_l)] [] rfl ⟨rfl, trivial⟩
 refine f_seq (f_region (lv S (rn_assign rfl) rfl ?_)); clear S; intro a S
 refine l_done (then_n (f_seq (f_seq (f_region (lv S (rn_move (S.tm rfl)) rfl ?_))))); clear S; intro a S
 refine lv S (rn_lenT sl_28 (S.tm rfl) (slc_len hs_p_l)) rfl ?_; clear S; intro a S
 refine lv S (rn_gtr (S.tm rfl) rfl) rfl ?_; clear S; intro a S
 refine l_done (then_n (f_cond (S.tm rfl) (fun hb1 => ?_) (fun hb1 => ?_)))
 ·replace h := iteT h hb1
  refine f_seq (f_region (lv S (rn_assign rfl) rfl ?_)); clear S; intro a S
  refine l_done (then_n (wp_ret (then_r ?_)))
  obtain rfl := Option.some.inj h
  exact f_ret S Tryz.results18 rfl rfl
 ·replace h := iteF h hb1
  refine wp_skip (then_n (f_seq (f_seq (f_region (lv S (rn_move (S.tm rfl)) rfl ?_))))); clear S; intro a S
  refine lv S (rn_lenT sl_28 (S.tm rfl) (slc_len hs_p_l)) rfl ?_; clear S; intro a S
  refine lv S (rn_move rfl) rfl ?_; clear S; intro a S
  refine l_done (then_n ?_)
  replace S := S.nk [] [(0, v_p_l), (9, v_p_l), (10, iV (p_l.length : Int)), (11, iV 0)] [] rfl (subR rfl)
  obtain ⟨j1, hj1, h⟩ := joinE h
  refine f_join (fun a w' => j1 = some r ∧ Sx w [] nov [] [] 34 a w') ?_ ?_
  ·refine wp_block (f_loop (fun (ys1 : List GStep) a w' => ∃ i1 : Nat, (∃ dn, p_l = dn ++ ys1 ∧ dn.length = i1) ∧ tumbref2_StepsFault_l1 p_l j1 ys1 i1 = some r ∧ Sx w [] nov [] [(0, v_p_l), (9, v_p_l), (10, iV (p_l.length : Int)), (11, iV (i1 : Int))] 34 a w') List.length p_l ⟨0, ⟨[], rfl, rfl⟩, h, S.nf [] rfl (subR rfl)⟩ ?_)
   clear S h; rintro ys1 a w1 ⟨i1, ⟨dn, hd1, hi1⟩, h, S⟩
   cases ys1 with
   | nil =>
    rw [tumbref2_StepsFault_l1.eq_1] at h
    refine f_seq (f_region (lv S (rn_lss (S.tm rfl) (S.tm rfl)) rfl ?_)); clear S; intro a S
    refine l_done ?_
    replace S := S.nk [] [(0, v_p_l), (9, v_p_l), (10, iV (p_l.length : Int)), (11, iV (i1 : Int)), (12, bV (decide ((i1 : Int) < (p_l.length : Int))))] [] rfl (subR rfl)
    refine then_n (f_seq (wp_cond_false ((S.tm rfl).trans (congrArg Value.bool (rng_nil hd1 hi1))) (wp_exit (then_x (then_x (x_same ?_))))))
    refine then_n ?_
    exact ⟨h, S.nf [] rfl trivial⟩
   | cons y1 ys1 =>
    rw [tumbref2_StepsFault_l1.eq_2] at h
    refine f_seq (f_region (lv S (rn_lss (S.tm rfl) (S.tm rfl)) rfl ?_)); clear S; intro a S
    refine l_done ?_
    replace S := S.nk [] [(0, v_p_l), (9, v_p_l), (10, iV (p_l.length : Int)), (11, iV (i1 : Int)), (12, bV (decide ((i1 : Int) < (p_l.length : Int))))] [] rfl (subR rfl)
    refine then_n (f_seq (wp_cond_true ((S.tm rfl).trans (congrArg Value.bool (rng_cons hd1 hi1))) (wp_skip (then_n (f_seq (wp_block ?_))))))
    refine f_seq (f_region (lv S (rn_move (S.tm rfl)) rfl ?_)); clear S; intro a S
    obtain ⟨b1, o1, hm1, hr1⟩ := rn_indexT (a := a) (x := .tmp 9) (y := .tmp 11) (ty := 0) sl_28 hs_p_l (get_mid hd1 hi1) rfl (S.tm rfl) (S.tm rfl)
    refine lv S (hr1 _) rfl ?_; clear S; intro a S
    clear hr1
    refine lv S (rn_ldA Tryz.isAgg34 Tryz.sizeOf34 (off := o1) (o := 0) (part := (GStep.enc y1)) rfl rfl (S.tm rfl) (hm1.at S.emb0)) rfl ?_; clear S; intro a S
    refine l_alloc S Tryz.zeroValue34 (cs := [iV 0, iV 0, sV k_empty, sV k_empty, sV k_empty, sV k_empty, iV 0, iV 0]) rfl rfl ?_; clear S; intro a w3 b2 hz1 hk1 S
    refine lv S (rn_assign (S.tm rfl)) rfl ?_; clear S; intro a S
    refine l_store S (S.tm rfl) (S.tm rfl) (i := 0) (off := 0) rfl Tryz.sizeOf34 (vs := (GStep.enc y1)) rfl rfl rfl rfl ?_; clear S; intro w4 hk2 S
    refine l_done (then_n (f_seq (f_seq (f_region (lv S (rn_ldA Tryz.isAgg34 Tryz.sizeOf34 (off := 0) (o := 0) (part := (GStep.enc y1)) rfl rfl (S.tm rfl) (S.cellsAt (i := 0) rfl)) rfl ?_))))); clear S; intro a S
    obtain ⟨r1, hr2, h⟩ := bindE h
    refine l_enter S (fun _ => run_call (vs := [.agg (GStep.enc y1).toArray]) ⟨(S.tm rfl), trivial⟩ Tryz.call22) (tumbref2_StepFault_ok _ y1 _ hr2) rfl ?_; clear S; intro v1 a w5 hv1 hk3 hn1 S
    subst hv1
    refine lv S (rn_assign (S.tm rfl)) rfl ?_; clear S; intro a S
    refine l_done (then_n (f_seq (f_region (lv S (rn_move (S.tm rfl)) rfl ?_)))); clear S; intro a S
    refine lv S (rn_neq (S.tm rfl) rfl) rfl ?_; clear S; intro a S
    refine l_done ?_
    replace S := S.nk [.blk b2 (GStep.enc y1) 34] [(0, v_p_l), (3, iV (i1 : Int)), (4, .pointer (some ⟨b2, 0, none⟩)), (5, iV r1), (9, v_p_l), (10, iV (p_l.length : Int)), (11, iV (i1 : Int)), (19, bV (!decide (r1 = 0)))] [true] rfl (subR rfl)
    refine then_n (f_cond (S.tm rfl) (fun hb2 => ?_) (fun hb2 => ?_))
    ·replace h := iteT h hb2
     refine f_seq (f_region (lv S (rn_move (S.tm rfl)) rfl ?_)); clear S; intro a S
     refine lv S (rn_assign (S.tm rfl)) rfl ?_; clear S; intro a S
     refine l_done (then_n (wp_ret (then_r (blk_r (then_r (then_r ?_))))))
     refine blk_r (then_r (then_r ?_))
     obtain rfl := Option.some.inj h
     exact f_ret S Tryz.results18 rfl rfl
    ·replace h := iteF h hb2
     refine wp_skip (then_n (f_seq ?_))
     obtain ⟨j2, hj2, h⟩ := joinE h
     refine f_join (fun a w' => ∃ x1 : Bool, j2 x1 = some r ∧ Sx w [] nov [] [(0, v_p_l), (9, v_p_l), (10, iV (p_l.length : Int)), (11, iV (i1 : Int)), (32, bV x1)] 34 a w') ?_ ?_
     ·rcases Bool.eq_false_or_eq_true (decide (0 < (i1 : Int))) with hb3 | hb3
      ·replace h := iteT h hb3
       obtain ⟨hc1, h⟩ := chkE h
       refine d_region [] ([]) Tryz.mixed S rfl (by kernel_rfl) ?_; clear S; intro w8 hk5 hsel S
       refine d_quiet 0 S hsel rfl rfl rfl (by kernel_rfl) (by kernel_rfl) rfl (fun _ hw => (rn_move (S.tm rfl))) ?_; clear S; intro a S
       refine d_quiet 1 S hsel rfl rfl rfl (by kernel_rfl) (by kernel_rfl) rfl (fun _ hw => (rn_gtr (S.tm rfl) rfl)) ?_; clear S; intro a S
       refine d_quiet 2 S hsel rfl rfl rfl (by kernel_rfl) (by kernel_rfl) rfl (fun _ hw => (rn_move (S.tm rfl))) ?_; clear S; intro a S
       refine d_quiet_g 3 S hsel rfl rfl rfl rfl hb3 rfl rfl (by kernel_rfl) (by kernel_rfl) rfl (fun _ hw => (rn_move (S.tm rfl))) ?_; clear S; intro a S
       refine d_quiet_g 4 S hsel rfl rfl rfl rfl hb3 rfl rfl (by kernel_rfl) (by kernel_rfl) rfl (fun _ hw => (rn_move (S.tm rfl))) ?_; clear S; intro a S
       refine d_quiet_g 5 S hsel rfl rfl rfl rfl hb3 rfl rfl (by kernel_rfl) (by kernel_rfl) rfl (fun _ hw => (rn_sub (S.tm rfl) rfl)) ?_; clear S; intro a S
       obtain ⟨b4, o3, hm3, hr4⟩ := rn_indexT (a := a) (x := .tmp 24) (y := .tmp 26) (ty := 0) sl_28 (hs_p_l.mono (S.le_arg nil_sub)) (inB_get hc1).1 (inB_get hc1).2 (S.tm rfl) (S.tm rfl)
       refine d_quiet_g 6 S hsel rfl rfl rfl rfl hb3 rfl rfl (by kernel_rfl) (by kernel_rfl) rfl (fun _ hw => hr4 _) ?_; clear S; intro a S
       clear hr4
       refine d_quiet_g 7 S hsel rfl rfl rfl rfl hb3 rfl rfl (by kernel_rfl) (by kernel_rfl) rfl (fun _ hw => (rn_ldA Tryz.isAgg34 Tryz.sizeOf34 (off := o3) (o := 0) (part := (GStep.enc (nth p_l (W ((i1 : Int) - 1))))) rfl rfl (S.tm rfl) (hm3.kept hw))) ?_; clear S; intro a S
       refine d_quiet_g 8 S hsel rfl rfl rfl rfl hb3 rfl rfl (by kernel_rfl) (by kernel_rfl) rfl (fun _ hw => (rn_ldA Tryz.isAgg34 Tryz.sizeOf34 (off := 0) (o := 0) (part := (GStep.enc y1)) rfl rfl (S.tm rfl) ((S.blk_mem (i := 0) (cells := (GStep.enc y1)) (b := b2) (T := 34) rfl (ne_nil (e' := .blk b2 (GStep.enc y1) 34))).kept hw))) ?_; clear S; intro a S
       refine d_loud1 9 (by kernel_rfl) rfl (l_want S rfl rfl rfl hb3 (l_enter S (fun _ => run_call (vs := [.agg (GStep.enc (nth p_l (W ((i1 : Int) - 1)))).toArray, .agg (GStep.enc y1).toArray]) ⟨(S.tm rfl), (S.tm rfl), trivial⟩ Tryz.call35) (tumbref2_StepOrder_ok _ (nth p_l (W ((i1 : Int) - 1))) y1 _ rfl) rfl ?_)); clear S; intro v3 a w9 hv3 hk6 hn3 S
       subst hv3
       refine l_done (d_next hk6 (d_rest [10, 11] hsel (by kernel_rfl) rfl ?_))
       clear hsel
       refine s_want S rfl rfl rfl rfl hb3 (s_lv0 S (rn_geq (S.tm rfl) rfl) rfl ?_); clear S; intro a S
       refine s_lv S rfl (rn_pick_b hb3 (S.tm rfl) (S.tm rfl)) rfl ?_; clear S; intro a S
       refine s_done ?_
       replace S := S.nk [] [(0, v_p_l), (9, v_p_l), (10, iV (p_l.length : Int)), (11, iV (i1 : Int)), (24, v_p_l), (25, iV (i1 : Int)), (26, iV (W ((i1 : Int) - 1))), (27, .pointer (some ⟨b4, o3, none⟩)), (28, .agg (GStep.enc (nth p_l (W ((i1 : Int) - 1)))).toArray), (29, .agg (GStep.enc y1).toArray), (30, iV (tumbref2_StepOrder (nth p_l (W ((i1 : Int) - 1))) y1)), (31, bV (decide (0 ≤ (tumbref2_StepOrder (nth p_l (W ((i1 : Int) - 1))) y1)))), (32, bV (decide (0 ≤ (tumbref2_StepOrder (nth p_l (W ((i1 : Int) - 1))) y1))))] [false] rfl (subR rfl)
       refine then_n ?_
       exact ⟨decide (0 ≤ (tumbref2_StepOrder (nth p_l (W ((i1 : Int) - 1))) y1)), h, S.nf [] rfl (subR rfl)⟩
      ·replace h := iteF h hb3
       refine d_region [] ([]) Tryz.mixed S rfl (by kernel_rfl) ?_; clear S; intro w10 hk7 hsel S
       refine d_rest [0, 1, 2, 3, 4, 5, 6, 7, 8, 9, 10, 11] hsel (by kernel_rfl) rfl ?_
       clear hsel
       refine s_lv S rfl (rn_move (S.tm rfl)) rfl ?_; clear S; intro a S
       refine s_lv S rfl (rn_gtr (S.tm rfl) rfl) rfl ?_; clear S; intro a S
       refine s_lv S rfl (rn_move (S.tm rfl)) rfl ?_; clear S; intro a S
       iterate 8 (refine s_skip S rfl rfl rfl rfl (neq_f hb3) rfl ?_ rfl; clear S; intro a S)
       refine s_lv S rfl (rn_pick_c hb3 (S.tm rfl) rfl) rfl ?_; clear S; intro a S
       refine s_done ?_
       replace S := S.nk [] [(0, v_p_l), (9, v_p_l), (10, iV (p_l.length : Int)), (11, iV (i1 : Int)), (32, bV false)] [false] rfl (subR rfl)
       refine then_n ?_
       exact ⟨false, h, S.nf [] rfl (subR rfl)⟩
     clear S h; rintro a w6 ⟨x1, h, S⟩; rw [hj2] at h; clear hj2 j2
     refine then_n (f_cond (S.tm rfl) (fun hb4 => ?_) (fun hb4 => ?_))
     ·replace h := iteT h hb4
      refine f_seq (f_region (lv S (rn_assign rfl) rfl ?_)); clear S; intro a S
      refine l_done (then_n (wp_ret (blk_r (then_r (then_r (blk_r ?_))))))
      refine then_r (then_r ?_)
      obtain rfl := Option.some.inj h
      exact f_ret S Tryz.results18 rfl rfl
     ·replace h := iteF h hb4
      refine wp_skip (blk_n (then_n (f_region (lv S (rn_add (S.tm rfl) rfl) rfl ?_)))); clear S; intro a S
      refine lv S (rn_move (S.tm rfl)) rfl ?_; clear S; intro a S
      refine l_done (then_n ?_)
      exact ⟨ys1, ⟨i1 + 1, ⟨_, (hd1).trans (List.append_cons _ _ _), by simp [hi1]⟩, h, S.nf [] rfl ⟨rfl, rfl, rfl, (congrArg (fun z => some (Value.int .i64 z)) (rng_next hd1 hi1 (slc_max hs_p_l))), trivial⟩⟩, Nat.lt_succ_self _⟩
  clear S h; rintro a w2 ⟨h, S⟩; rw [hj1] at h; clear hj1 j1
  refine then_n (f_seq (f_region (lv S (rn_assign rfl) rfl ?_))); clear S; intro a S
  refine l_done (then_n (wp_ret ?_))
  obtain rfl := Option.some.inj h
  exact f_ret S Tryz.results18 rfl rfl
theorem tumblaw2_errs_ok (w : World) (v_p_l : Value) (p_l : List Int) (hs_p_l : Slc (view w []) 1 v_p_l (p_l.map eInt)) (r : Int) (h : tumblaw2_errs p_l = r) :
    Calls Tryz.prog 16 [v_p_l].toArray w (Ret w [] fun _ v _ => v = iV r) := by
 refine f_enter [] [] Tryz.func16 rfl Tryz.ntmps16 rfl (by simp) (by simp [fps]) (by simp [fps]) fun a S => ?_
 unfold tumblaw2_errs at h
 replace S := S.nk [] [(0, v_p_l)] [] rfl ⟨rfl, trivial⟩
 refine f_seq (f_region (lv S (rn_assign rfl) rfl ?_)); clear S; intro a S
 refine l_done (then_n (f_seq (f_seq (f_region (lv S (rn_move (S.tm rfl)) rfl ?_))))); clear S; intro a S
 refine lv S (rn_lenT sl_87 (S.tm rfl) (slc_len hs_p_l)) rfl ?_; clear S; intro a S
 refine lv S (rn_move rfl) rfl ?_; clear S; intro a S
 refine l_done (then_n ?_)
 replace S := S.nk [] [(5, v_p_l), (6, iV (p_l.length : Int)), (7, iV 0)] [] rfl (subR rfl)
 obtain ⟨j1, hj1, h⟩ := joinE h
 refine f_join (fun a w' => j1 = r ∧ Sx w [] nov [] [] 15 a w') ?_ ?_
 ·refine wp_block (f_loop (fun (ys1 : List Int) a w' => ∃ i1 : Nat, (∃ dn, p_l = dn ++ ys1 ∧ dn.length = i1) ∧ tumblaw2_errs_l1 j1 ys1 i1 = r ∧ Sx w [] nov [] [(5, v_p_l), (6, iV (p_l.length : Int)), (7, iV (i1 : Int))] 15 a w') List.length p_l ⟨0, ⟨[], rfl, rfl⟩, h, S.nf [] rfl (subR rfl)⟩ ?_)
  clear S h; rintro ys1 a w1 ⟨i1, ⟨dn, hd1, hi1⟩, h, S⟩
  cases ys1 with
  | nil =>
   rw [tumblaw2_errs_l1.eq_1] at h
   refine f_seq (f_region (lv S (rn_lss (S.tm rfl) (S.tm rfl)) rfl ?_)); clear S; intro a S
   refine l_done ?_
   replace S := S.nk [] [(5, v_p_l), (6, iV (p_l.length : Int)), (7, iV (i1 : Int)), (8, bV (decide ((i1 : Int) < (p_l.length : Int))))] [] rfl (subR rfl)
   refine then_n (f_seq (wp_cond_false ((S.tm rfl).trans (congrArg Value.bool (rng_nil hd1 hi1))) (wp_exit (then_x (then_x (x_same ?_))))))
   refine then_n ?_
   exact ⟨h, S.nf [] rfl trivial⟩
  | cons y1 ys1 =>
   rw [tumblaw2_errs_l1.eq_2] at h
   refine f_seq (f_region (lv S (rn_lss (S.tm rfl) (S.tm rfl)) rfl ?_)); clear S; intro a S
   refine l_done ?_
   replace S := S.nk [] [(5, v_p_l), (6, iV (p_l.length : Int)), (7, iV (i1 : Int)), (8, bV (decide ((i1 : Int) < (p_l.length : Int))))] [] rfl (subR rfl)
   refine then_n (f_seq (wp_cond_true ((S.tm rfl).trans (congrArg Value.bool (rng_cons hd1 hi1))) (wp_skip (then_n (f_seq (wp_block ?_))))))
   refine f_seq (f_region ?_)
   obtain ⟨b1, o1, hm1, hr1⟩ := rn_indexT (a := a) (x := .tmp 5) (y := .tmp 7) (ty := 0) sl_87 hs_p_l (get_mid hd1 hi1) rfl (S.tm rfl) (S.tm rfl)
   refine lv S (hr1 _) rfl ?_; clear S; intro a S
   clear hr1
   refine lv S (rn_ld Tryz.isAgg38 (off := o1) (o := 0) (S.tm rfl) (hm1.at S.emb0) rfl) rfl ?_; clear S; intro a S
   refine lv S (rn_assign (S.tm rfl)) rfl ?_; clear S; intro a S
   refine l_done (then_n (f_seq (f_region (lv S (rn_move (S.tm rfl)) rfl ?_)))); clear S; intro a S
   refine lv S (rn_neq (S.tm rfl) rfl) rfl ?_; clear S; intro a S
   refine l_done (then_n (f_cond (S.tm rfl) (fun hb1 => ?_) (fun hb1 => ?_)))
   ·replace h := iteT h hb1
    refine f_seq (f_region (lv S (rn_move (S.tm rfl)) rfl ?_)); clear S; intro a S
    refine lv S (rn_assign (S.tm rfl)) rfl ?_; clear S; intro a S
    refine l_done (then_n (wp_ret (blk_r (then_r (then_r (blk_r ?_))))))
    refine then_r (then_r ?_)
    subst h
    exact f_ret S Tryz.results16 rfl rfl
   ·replace h := iteF h hb1
    refine wp_skip (blk_n (then_n (f_region (lv S (rn_add (S.tm rfl) rfl) rfl ?_)))); clear S; intro a S
    refine lv S (rn_move (S.tm rfl)) rfl ?_; clear S; intro a S
    refine l_done (then_n ?_)
    exact ⟨ys1, ⟨i1 + 1, ⟨_, (hd1).trans (List.append_cons _ _ _), by simp [hi1]⟩, h, S.nf [] rfl ⟨rfl, rfl, (congrArg (fun z => some (Value.int .i64 z)) (rng_next hd1 hi1 (slc_max hs_p_l))), trivial⟩⟩, Nat.lt_succ_self _⟩
 clear S h; rintro a w2 ⟨h, S⟩; rw [hj1] at h; clear hj1 j1
 refine then_n (f_seq (f_region (lv S (rn_assign rfl) rfl ?_))); clear S; intro a S
 refine l_done (then_n (wp_ret ?_))
 subst h
 exact f_ret S Tryz.results16 rfl rfl
theorem tumblaw2_when_ok (w : World) (p_is : Bool) (p_e : Int) (r : Int) (h : tumblaw2_when p_is p_e = r) :
    Calls Tryz.prog 23 [bV p_is, iV p_e].toArray w (Ret w [] fun _ v _ => v = iV r) := by
 refine f_enter [] [] Tryz.func23 rfl Tryz.ntmps23 rfl (by simp) (by simp [fps]) (by simp [fps]) fun a S => ?_
 unfold tumblaw2_when at h
 replace S := S.nk [] [(0, bV p_is), (1, iV p_e)] [] rfl (subR rfl)
 refine f_seq (f_region (lv S (rn_assign rfl) rfl ?_)); clear S; intro a S
 refine l_done (then_n (f_seq (f_seq (f_region (lv S (rn_move (S.tm rfl)) rfl ?_))))); clear S; intro a S
 refine l_done (then_n (f_cond (S.tm rfl) (fun hb1 => ?_) (fun hb1 => ?_)))
 ·replace h := iteT h hb1
  refine f_seq (f_region (lv S (rn_move (S.tm rfl)) rfl ?_)); clear S; intro a S
  refine lv S (rn_assign (S.tm rfl)) rfl ?_; clear S; intro a S
  refine l_done (then_n (wp_ret (then_r ?_)))
  subst h
  exact f_ret S Tryz.results23 rfl rfl
 ·replace h := iteF h hb1
  refine wp_skip (then_n (f_seq (f_region (lv S (rn_assign rfl) rfl ?_)))); clear S; intro a S
  refine l_done (then_n (wp_ret ?_))
  subst h
  exact f_ret S Tryz.results23 rfl rfl
theorem tumblaw2_momentFault_ok (w : World) (p_at : Int) (r : Int) (h : tumblaw2_momentFault p_at = r) :
    Calls Tryz.prog 19 [iV p_at].toArray w (Ret w [] fun _ v _ => v = iV r) := by
 refine f_enter [] [] Tryz.func19 rfl Tryz.ntmps19 rfl (by simp) (by simp [fps]) (by simp [fps]) fun a S => ?_
 unfold tumblaw2_momentFault at h
 replace S := S.nk [] [(0, iV p_at)] [] rfl ⟨rfl, trivial⟩
 refine f_seq (f_region (lv S (rn_assign rfl) rfl ?_)); clear S; intro a S
 refine l_done (then_n (f_seq (f_region (lv S (rn_move (S.tm rfl)) rfl ?_)))); clear S; intro a S
 refine l_enter S (fun _ => run_call (vs := [iV p_at]) ⟨(S.tm rfl), trivial⟩ Tryz.call54) (tumbref2_Moment_ok _ p_at _ rfl) rfl ?_; clear S; intro v1 a w1 hv1 hk1 hn1 S
 subst hv1
 refine lv S (rn_not (S.tm rfl)) rfl ?_; clear S; intro a S
 refine l_enter S (fun _ => run_call (vs := [bV (!(tumbref2_Moment p_at)), iV 1]) ⟨(S.tm rfl), rfl, trivial⟩ Tryz.call23) (tumblaw2_when_ok _ (!(tumbref2_Moment p_at)) 1 _ rfl) rfl ?_; clear S; intro v2 a w2 hv2 hk2 hn2 S
 subst hv2
 refine lv S (rn_assign (S.tm rfl)) rfl ?_; clear S; intro a S
 refine l_done (then_n (wp_ret ?_))
 subst h
 exact f_ret S Tryz.results19 rfl rfl
theorem tumbref2_upTo_ok (w : World) (v_p_l : Value) (p_l : List GStep) (hs_p_l : Slc (view w []) 8 v_p_l (p_l.map GStep.enc)) (p_at : Int) (r : (List GStep)) (h : tumbref2_upTo p_l p_at = some r) :
    Calls Tryz.prog 83 [v_p_l, iV p_at].toArray w (Ret w [] fun τ v _ => OwnV τ 34 8 v r.length (r.flatMap GStep.enc)) := by
 refine f_enter [] [] Tryz.func83 rfl Tryz.ntmps83 rfl (by simp) (by simp [fps]) (by simp [fps]) fun a S => ?_
 unfold tumbref2_upTo at h
 replace S := S.nk [] [(0, v_p_l), (1, iV p_at)] [] rfl (subR rfl)
 refine f_seq (f_region (lv S (rn_assign rfl) rfl ?_)); clear S; intro a S
 refine l_done (then_n (f_seq (f_region (lv S (rn_assign rfl) rfl ?_)))); clear S; intro a S
 replace S := S.nil 34 8
 refine l_done (then_n (f_seq (f_seq (f_region (lv S (rn_move (S.tm rfl)) rfl ?_))))); clear S; intro a S
 refine lv S (rn_lenT sl_28 (S.tm rfl) (slc_len hs_p_l)) rfl ?_; clear S; intro a S
 refine lv S (rn_move rfl) rfl ?_; clear S; intro a S
 refine l_done (then_n ?_)
 replace S := S.nk [.own (.slice none 0 0) 34 8 ([] : List GStep).length (([] : List GStep).flatMap GStep.enc)] [(1, iV p_at), (5, (.slice none 0 0)), (8, v_p_l), (9, iV (p_l.length : Int)), (10, iV 0)] [true] rfl (subR rfl)
 obtain ⟨j1, hj1, h⟩ := joinE h
 refine f_join (fun a w' => ∃ x1 : List GStep, ∃ v1 : Value, j1 x1 = some r ∧ Sx w [] nov [.own v1 34 8 x1.length (x1.flatMap GStep.enc)] [(5, v1)] 24 a w') ?_ ?_
 ·refine wp_block (f_loop (fun (ys1 : List GStep) a w' => ∃ i1 : Nat, ∃ x1 : List GStep, ∃ v1 : Value, (∃ dn, p_l = dn ++ ys1 ∧ dn.length = i1) ∧ tumbref2_upTo_l1 p_at j1 ys1 i1 x1 = some r ∧ Sx w [] nov [.own v1 34 8 x1.length (x1.flatMap GStep.enc)] [(1, iV p_at), (5, v1), (8, v_p_l), (9, iV (p_l.length : Int)), (10, iV (i1 : Int))] 24 a w') List.length p_l ⟨0, ([] : List GStep), (.slice none 0 0), ⟨[], rfl, rfl⟩, h, S.nf [true] rfl (subR rfl)⟩ ?_)
  clear S h; rintro ys1 a w1 ⟨i1, x1, v1, ⟨dn, hd1, hi1⟩, h, S⟩
  cases ys1 with
  | nil =>
   rw [tumbref2_upTo_l1.eq_1] at h
   refine f_seq (f_region (lv S (rn_lss (S.tm rfl) (S.tm rfl)) rfl ?_)); clear S; intro a S
   refine l_done ?_
   replace S := S.nk [.own v1 34 8 x1.length (x1.flatMap GStep.enc)] [(1, iV p_at), (5, v1), (8, v_p_l), (9, iV (p_l.length : Int)), (10, iV (i1 : Int)), (11, bV (decide ((i1 : Int) < (p_l.length : Int))))] [true] rfl (subR rfl)
   refine then_n (f_seq (wp_cond_false ((S.tm rfl).trans (congrArg Value.bool (rng_nil hd1 hi1))) (wp_exit (then_x (then_x (x_same ?_))))))
   refine then_n ?_
   exact ⟨x1, v1, h, S.nf [true] rfl ⟨rfl, trivial⟩⟩
  | cons y1 ys1 =>
   rw [tumbref2_upTo_l1.eq_2] at h
   refine f_seq (f_region (lv S (rn_lss (S.tm rfl) (S.tm rfl)) rfl ?_)); clear S; intro a S
   refine l_done ?_
   replace S := S.nk [.own v1 34 8 x1.length (x1.flatMap GStep.enc)] [(1, iV p_at), (5, v1), (8, v_p_l), (9, iV (p_l.length : Int)), (10, iV (i1 : Int)), (11, bV (decide ((i1 : Int) < (p_l.length : Int))))] [true] rfl (subR rfl)
   refine then_n (f_seq (wp_cond_true ((S.tm rfl).trans (congrArg Value.bool (rng_cons hd1 hi1))) (wp_skip (then_n (f_seq ?_)))))
   obtain ⟨j2, hj2, h⟩ := joinE h
   refine f_join (fun a w' => ∃ x2 : List GStep, ∃ v2 : Value, j2 x2 = some r ∧ Sx w [] nov [.own v2 34 8 x2.length (x2.flatMap GStep.enc)] [(1, iV p_at), (5, v2), (8, v_p_l), (9, iV (p_l.length : Int)), (10, iV (i1 : Int))] 24 a w') ?_ ?_
   ·refine wp_block (f_seq (f_region ?_))
    obtain ⟨b1, o1, hm1, hr1⟩ := rn_indexT (a := a) (x := .tmp 8) (y := .tmp 10) (ty := 0) sl_28 hs_p_l (get_mid hd1 hi1) rfl (S.tm rfl) (S.tm rfl)
    refine lv S (hr1 _) rfl ?_; clear S; intro a S
    clear hr1
    refine lv S (rn_ldA Tryz.isAgg34 Tryz.sizeOf34 (off := o1) (o := 0) (part := (GStep.enc y1)) rfl rfl (S.tm rfl) (hm1.at S.emb0)) rfl ?_; clear S; intro a S
    refine l_alloc S Tryz.zeroValue34 (cs := [iV 0, iV 0, sV k_empty, sV k_empty, sV k_empty, sV k_empty, iV 0, iV 0]) rfl rfl ?_; clear S; intro a w4 b2 hz1 hk1 S
    refine l_store S (S.tm rfl) (S.tm rfl) (i := 0) (off := 0) rfl Tryz.sizeOf34 (vs := (GStep.enc y1)) rfl rfl rfl rfl ?_; clear S; intro w5 hk2 S
    refine l_done (then_n (f_seq (f_region (lv S (rn_fld fa_34_0 (S.tm rfl)) rfl ?_)))); clear S; intro a S
    refine lv S (rn_load Tryz.isAgg3 (S.tm rfl) (S.cell (i := 0) rfl rfl)) rfl ?_; clear S; intro a S
    refine lv S (rn_move (S.tm rfl)) rfl ?_; clear S; intro a S
    refine lv S (rn_leq (S.tm rfl) (S.tm rfl)) rfl ?_; clear S; intro a S
    refine l_done (then_n ?_)
    obtain ⟨j3, hj3, h⟩ := joinE h
    refine f_join (fun a w' => ∃ x3 : List GStep, ∃ v3 : Value, j3 x3 = some r ∧ Sx w [] nov [.own v3 34 8 x3.length (x3.flatMap GStep.enc)] [(1, iV p_at), (5, v3), (8, v_p_l), (9, iV (p_l.length : Int)), (10, iV (i1 : Int))] 24 a w') ?_ ?_
    ·refine f_cond (S.tm rfl) (fun hb1 => ?_) (fun hb1 => ?_)
     ·replace h := iteT h hb1
      refine f_region (lv S (rn_move (S.tm rfl)) rfl ?_); clear S; intro a S
      refine lv S (rn_ldA Tryz.isAgg34 Tryz.sizeOf34 (off := 0) (o := 0) (part := (GStep.enc y1)) rfl rfl (S.tm rfl) (S.cellsAt (i := 0) rfl)) rfl ?_; clear S; intro a S
      refine l_buildSlice S Tryz.underlying28 Tryz.sizeOf34 Tryz.zeroValue34 rfl rfl (pv := [(0, .agg (GStep.enc y1).toArray)]) ⟨rfl, (S.tm rfl), trivial⟩ (cs := [iV y1.At, iV y1.Kind, sV y1.Id, sV y1.Who, sV y1.Club, sV y1.Race, iV y1.Age, iV y1.Time]) (by kernel_rfl) rfl ?_; clear S; intro a w7 b3 hz2 hk3 S
      obtain ⟨hc1, h⟩ := chkE h
      refine l_appendT sl_28 GStep.enc_ok S (S.tm rfl) (i := 2) rfl (S.tm rfl) (j := 0) rfl (ys := [y1]) rfl rfl rfl rfl (by have := room_lt hc1; omega) rfl ?_; clear S; intro v4 a w8 hk4 S
      refine lv S (rn_assign (S.tm rfl)) rfl ?_; clear S; intro a S
      refine l_done ?_
      replace S := S.nk [.own v4 34 8 (x1 ++ [y1]).length ((x1 ++ [y1]).flatMap GStep.enc)] [(1, iV p_at), (5, v4), (8, v_p_l), (9, iV (p_l.length : Int)), (10, iV (i1 : Int))] [false, false, true] rfl (subR rfl)
      refine then_n ?_
      exact ⟨(x1 ++ [y1]), v4, h, S.nf [true] rfl (subR rfl)⟩
     ·replace h := iteF h hb1
      refine wp_skip (then_n ?_)
      exact ⟨x1, v1, h, S.nf [false, true] rfl (subR rfl)⟩
    clear S h; rintro a w6 ⟨x3, v3, h, S⟩; rw [hj3] at h; clear hj3 j3
    refine blk_n (then_n ?_)
    exact ⟨x3, v3, h, S.nf [true] rfl (subR rfl)⟩
   clear S h; rintro a w3 ⟨x2, v2, h, S⟩; rw [hj2] at h; clear hj2 j2
   refine then_n (f_region (lv S (rn_add (S.tm rfl) rfl) rfl ?_)); clear S; intro a S
   refine lv S (rn_move (S.tm rfl)) rfl ?_; clear S; intro a S
   refine l_done (then_n ?_)
   exact ⟨ys1, ⟨i1 + 1, x2, v2, ⟨_, (hd1).trans (List.append_cons _ _ _), by simp [hi1]⟩, h, S.nf [true] rfl ⟨rfl, rfl, rfl, rfl, (congrArg (fun z => some (Value.int .i64 z)) (rng_next hd1 hi1 (slc_max hs_p_l))), trivial⟩⟩, Nat.lt_succ_self _⟩
 clear S h; rintro a w2 ⟨x1, v1, h, S⟩; rw [hj1] at h; clear hj1 j1
 refine then_n (f_seq (f_region (lv S (rn_move (S.tm rfl)) rfl ?_))); clear S; intro a S
 refine lv S (rn_assign (S.tm rfl)) rfl ?_; clear S; intro a S
 refine l_done (then_n (wp_ret ?_))
 obtain rfl := Option.some.inj h
 exact f_ret S Tryz.results83 rfl (own_retT S (i := 0) rfl rfl)
theorem tumbref2_follows_ok (w : World) (p_state : Int) (p_kind : Int) (r : Bool) (h : tumbref2_follows p_state p_kind = r) :
    Calls Tryz.prog 99 [iV p_state, iV p_kind].toArray w (Ret w [] fun _ v _ => v = bV r) := by
 refine f_enter [] [] Tryz.func99 rfl Tryz.ntmps99 rfl (by simp) (by simp [fps]) (by simp [fps]) fun a S => ?_
 unfold tumbref2_follows at h
 replace S := S.nk [] [(0, iV p_state), (1, iV p_kind)] [] rfl (subR rfl)
 refine f_seq (f_region (lv S (rn_assign rfl) rfl ?_)); clear S; intro a S
 refine l_done (then_n (f_seq (f_seq (f_region (lv S (rn_move (S.tm rfl)) rfl ?_))))); clear S; intro a S
 refine l_done (then_n (wp_block (f_seq (f_region (lv S (rn_eql (S.tm rfl) rfl) rfl ?_))))); clear S; intro a S
 refine lv S (rn_assign (S.tm rfl)) rfl ?_; clear S; intro a S
 refine l_done (then_n (f_cond (S.tm rfl) (fun hb1 => ?_) (fun hb1 => ?_)))
 ·replace h := iteT h hb1
  refine f_seq (f_region (lv S (rn_move (S.tm rfl)) rfl ?_)); clear S; intro a S
  refine lv S (rn_eql (S.tm rfl) rfl) rfl ?_; clear S; intro a S
  refine lv S (rn_assign (S.tm rfl)) rfl ?_; clear S; intro a S
  refine l_done (then_n (wp_ret (blk_r (then_r ?_))))
  subst h
  exact f_ret S Tryz.results99 rfl rfl
 ·replace h := iteF h hb1
  refine f_seq (f_region (lv S (rn_eql (S.tm rfl) rfl) rfl ?_)); clear S; intro a S
  refine lv S (rn_assign (S.tm rfl)) rfl ?_; clear S; intro a S
  refine l_done (then_n (f_cond (S.tm rfl) (fun hb2 => ?_) (fun hb2 => ?_)))
  ·replace h := iteT h hb2
   refine f_seq (f_region (lv S (rn_move (S.tm rfl)) rfl ?_)); clear S; intro a S
   refine lv S (rn_eql (S.tm rfl) rfl) rfl ?_; clear S; intro a S
   refine lv S (rn_assign (S.tm rfl)) rfl ?_; clear S; intro a S
   refine l_done (then_n (wp_ret (blk_r (then_r ?_))))
   subst h
   exact f_ret S Tryz.results99 rfl rfl
  ·replace h := iteF h hb2
   refine wp_skip (blk_n (then_n (f_seq (f_region (lv S (rn_move (S.tm rfl)) rfl ?_))))); clear S; intro a S
   refine lv S (rn_eql (S.tm rfl) rfl) rfl ?_; clear S; intro a S
   refine lv S (rn_move (S.tm rfl)) rfl ?_; clear S; intro a S
   refine f_cutm 3 (fun a w' => Keep [] w w' ∧ Sx w [] nov [] [(19, bV ((decide (p_state = 1)) || (decide (p_state = 2))))] 20 a w') ?_ ?_
   ·rcases Bool.eq_false_or_eq_true (decide (p_state = 1)) with hb3 | hb3
    ·refine l_skip S rfl rfl rfl (neq_t hb3) rfl ?_ rfl; clear S; intro a S
     refine l_skip S rfl rfl rfl (neq_t hb3) rfl ?_ rfl; clear S; intro a S
     refine lv S (rn_or_t (decide (p_state = 2)) hb3 (S.tm rfl) rfl) rfl ?_; clear S; intro a S
     refine l_done (then_n ?_)
     exact ⟨Keep.refl _ _, S.nf [] rfl ⟨rfl, trivial⟩⟩
    ·refine l_want S rfl rfl rfl hb3 (lv S (rn_move (S.tm rfl)) rfl ?_); clear S; intro a S
     refine l_want S rfl rfl rfl hb3 (lv S (rn_eql (S.tm rfl) rfl) rfl ?_); clear S; intro a S
     refine lv S (rn_or_f hb3 (S.tm rfl) (S.tm rfl)) rfl ?_; clear S; intro a S
     refine l_done (then_n ?_)
     exact ⟨Keep.refl _ _, S.nf [] rfl ⟨rfl, trivial⟩⟩
   clear S; rintro a w1 ⟨hk1, S⟩
   refine lv S (rn_assign (S.tm rfl)) rfl ?_; clear S; intro a S
   refine l_done (then_n (wp_ret ?_))
   subst h
   exact f_ret S Tryz.results99 rfl rfl
theorem tumbref2_stateOf_ok (w : World) (v_p_l : Value) (p_l : List GStep) (hs_p_l : Slc (view w []) 8 v_p_l (p_l.map GStep.enc)) (p_id : ByteArray) (r : Int) (h : tumbref2_stateOf p_l p_id = r) :
    Calls Tryz.prog 84 [v_p_l, sV p_id].toArray w (Ret w [] fun _ v _ => v = iV r) := by
 refine f_enter [] [] Tryz.func84 rfl Tryz.ntmps84 rfl (by simp) (by simp [fps]) (by simp [fps]) fun a S => ?_
 unfold tumbref2_stateOf at h
 replace S := S.nk [] [(0, v_p_l), (1, sV p_id)] [] rfl (subR rfl)
 refine f_seq (f_region (lv S (rn_assign rfl) rfl ?_)); clear S; intro a S
 refine l_done (then_n (f_seq (f_region (lv S (rn_assign rfl) rfl ?_)))); clear S; intro a S
 refine l_done (then_n (f_seq (f_seq (f_region (lv S (rn_move (S.tm rfl)) rfl ?_))))); clear S; intro a S
 refine lv S (rn_lenT sl_28 (S.tm rfl) (slc_len hs_p_l)) rfl ?_; clear S; intro a S
 refine lv S (rn_move rfl) rfl ?_; clear S; intro a S
 refine l_done (then_n ?_)
 replace S := S.nk [] [(1, sV p_id), (5, iV 0), (8, v_p_l), (9, iV (p_l.length : Int)), (10, iV 0)] [] rfl (subR rfl)
 obtain ⟨j1, hj1, h⟩ := joinE h
 refine f_join (fun a w' => ∃ x1 : Int, j1 x1 = r ∧ Sx w [] nov [] [(5, iV x1)] 28 a w') ?_ ?_
 ·refine wp_block (f_loop (fun (ys1 : List GStep) a w' => ∃ i1 : Nat, ∃ x1 : Int, (∃ dn, p_l = dn ++ ys1 ∧ dn.length = i1) ∧ tumbref2_stateOf_l1 p_id j1 ys1 i1 x1 = r ∧ Sx w [] nov [] [(1, sV p_id), (5, iV x1), (8, v_p_l), (9, iV (p_l.length : Int)), (10, iV (i1 : Int))] 28 a w') List.length p_l ⟨0, 0, ⟨[], rfl, rfl⟩, h, S.nf [] rfl (subR rfl)⟩ ?_)
  clear S h; rintro ys1 a w1 ⟨i1, x1, ⟨dn, hd1, hi1⟩, h, S⟩
  cases ys1 with
  | nil =>
   rw [tumbref2_stateOf_l1.eq_1] at h
   refine f_seq (f_region (lv S (rn_lss (S.tm rfl) (S.tm rfl)) rfl ?_)); clear S; intro a S
   refine l_done ?_
   replace S := S.nk [] [(1, sV p_id), (5, iV x1), (8, v_p_l), (9, iV (p_l.length : Int)), (10, iV (i1 : Int)), (11, bV (decide ((i1 : Int) < (p_l.length : Int))))] [] rfl (subR rfl)
   refine then_n (f_seq (wp_cond_false ((S.tm rfl).trans (congrArg Value.bool (rng_nil hd1 hi1))) (wp_exit (then_x (then_x (x_same ?_))))))
   refine then_n ?_
   exact ⟨x1, h, S.nf [] rfl ⟨rfl, trivial⟩⟩
  | cons y1 ys1 =>
   rw [tumbref2_stateOf_l1.eq_2] at h
   refine f_seq (f_region (lv S (rn_lss (S.tm rfl) (S.tm rfl)) rfl ?_)); clear S; intro a S
   refine l_done ?_
   replace S := S.nk [] [(1, sV p_id), (5, iV x1), (8, v_p_l), (9, iV (p_l.length : Int)), (10, iV (i1 : Int)), (11, bV (decide ((i1 : Int) < (p_l.length : Int))))] [] rfl (subR rfl)
   refine then_n (f_seq (wp_cond_true ((S.tm rfl).trans (congrArg Value.bool (rng_cons hd1 hi1))) (wp_skip (then_n (f_seq ?_)))))
   obtain ⟨j2, hj2, h⟩ := joinE h
   refine f_join (fun a w' => ∃ x2 : Int, j2 x2 = r ∧ Sx w [] nov [] [(1, sV p_id), (5, iV x2), (8, v_p_l), (9, iV (p_l.length : Int)), (10, iV (i1 : Int))] 28 a w') ?_ ?_
   ·refine wp_block (f_seq (f_region ?_))
    obtain ⟨b1, o1, hm1, hr1⟩ := rn_indexT (a := a) (x := .tmp 8) (y := .tmp 10) (ty := 0) sl_28 hs_p_l (get_mid hd1 hi1) rfl (S.tm rfl) (S.tm rfl)
    refine lv S (hr1 _) rfl ?_; clear S; intro a S
    clear hr1
    refine lv S (rn_ldA Tryz.isAgg34 Tryz.sizeOf34 (off := o1) (o := 0) (part := (GStep.enc y1)) rfl rfl (S.tm rfl) (hm1.at S.emb0)) rfl ?_; clear S; intro a S
    refine l_alloc S Tryz.zeroValue34 (cs := [iV 0, iV 0, sV k_empty, sV k_empty, sV k_empty, sV k_empty, iV 0, iV 0]) rfl rfl ?_; clear S; intro a w4 b2 hz1 hk1 S
    refine l_store S (S.tm rfl) (S.tm rfl) (i := 0) (off := 0) rfl Tryz.sizeOf34 (vs := (GStep.enc y1)) rfl rfl rfl rfl ?_; clear S; intro w5 hk2 S
    refine l_done (then_n (f_seq (f_region (lv S (rn_fld fa_34_2 (S.tm rfl)) rfl ?_)))); clear S; intro a S
    refine lv S (rn_load Tryz.isAgg9 (S.tm rfl) (S.cell (i := 0) rfl rfl)) rfl ?_; clear S; intro a S
    refine lv S (rn_move (S.tm rfl)) rfl ?_; clear S; intro a S
    refine lv S (rn_seql (S.tm rfl) (S.tm rfl)) rfl ?_; clear S; intro a S
    refine lv S (rn_move (S.tm rfl)) rfl ?_; clear S; intro a S
    refine f_cutm 5 (fun a w' => Keep [] w5 w' ∧ Sx w [] nov [.blk b2 (GStep.enc y1) 34] [(1, sV p_id), (5, iV x1), (7, .pointer (some ⟨b2, 0, none⟩)), (8, v_p_l), (9, iV (p_l.length : Int)), (10, iV (i1 : Int)), (23, bV ((decide (y1.Id = p_id)) && (tumbref2_follows x1 y1.Kind)))] 28 a w') ?_ ?_
    ·rcases Bool.eq_false_or_eq_true (decide (y1.Id = p_id)) with hb1 | hb1
     ·refine l_want S rfl rfl rfl hb1 (lv S (rn_move (S.tm rfl)) rfl ?_); clear S; intro a S
      refine l_want S rfl rfl rfl hb1 (lv S (rn_fld fa_34_1 (S.tm rfl)) rfl ?_); clear S; intro a S
      refine l_want S rfl rfl rfl hb1 (lv S (rn_load Tryz.isAgg3 (S.tm rfl) (S.cell (i := 0) rfl rfl)) rfl ?_); clear S; intro a S
      refine l_want S rfl rfl rfl hb1 (l_enter S (fun _ => run_call (vs := [iV x1, iV y1.Kind]) ⟨(S.tm rfl), (S.tm rfl), trivial⟩ Tryz.call99) (tumbref2_follows_ok _ x1 y1.Kind _ rfl) rfl ?_); clear S; intro v1 a w7 hv1 hk3 hn1 S
      subst hv1
      refine lv S (rn_and_t hb1 (S.tm rfl) (S.tm rfl)) rfl ?_; clear S; intro a S
      refine l_done (then_n ?_)
      exact ⟨hk3, S.nf [true] rfl (subR rfl)⟩
     ·iterate 4 (refine l_skip S rfl rfl rfl (neq_f hb1) rfl ?_ rfl; clear S; intro a S)
      refine lv S (rn_and_f (tumbref2_follows x1 y1.Kind) hb1 (S.tm rfl) rfl) rfl ?_; clear S; intro a S
      refine l_done (then_n ?_)
      exact ⟨Keep.refl _ _, S.nf [true] rfl (subR rfl)⟩
    clear S; rintro a w6 ⟨hk4, S⟩
    refine l_done (then_n ?_)
    obtain ⟨j3, hj3, h⟩ := joinE h
    refine f_join (fun a w' => ∃ x3 : Int, j3 x3 = r ∧ Sx w [] nov [.blk b2 (GStep.enc y1) 34] [(1, sV p_id), (5, iV x3), (8, v_p_l), (9, iV (p_l.length : Int)), (10, iV (i1 : Int))] 28 a w') ?_ ?_
    ·refine f_cond (S.tm rfl) (fun hb2 => ?_) (fun hb2 => ?_)
     ·replace h := iteT h hb2
      refine f_region (lv S (rn_fld fa_34_1 (S.tm rfl)) rfl ?_); clear S; intro a S
      refine lv S (rn_load Tryz.isAgg3 (S.tm rfl) (S.cell (i := 0) rfl rfl)) rfl ?_; clear S; intro a S
      refine lv S (rn_assign (S.tm rfl)) rfl ?_; clear S; intro a S
      refine l_done (then_n ?_)
      exact ⟨y1.Kind, h, S.nf [true] rfl (subR rfl)⟩
     ·replace h := iteF h hb2
      refine wp_skip (then_n ?_)
      exact ⟨x1, h, S.nf [true] rfl (subR rfl)⟩
    clear S h; rintro a w8 ⟨x3, h, S⟩; rw [hj3] at h; clear hj3 j3
    refine blk_n (then_n ?_)
    exact ⟨x3, h, S.nf [false] rfl (subR rfl)⟩
   clear S h; rintro a w3 ⟨x2, h, S⟩; rw [hj2] at h; clear hj2 j2
   refine then_n (f_region (lv S (rn_add (S.tm rfl) rfl) rfl ?_)); clear S; intro a S
   refine lv S (rn_move (S.tm rfl)) rfl ?_; clear S; intro a S
   refine l_done (then_n ?_)
   exact ⟨ys1, ⟨i1 + 1, x2, ⟨_, (hd1).trans (List.append_cons _ _ _), by simp [hi1]⟩, h, S.nf [] rfl ⟨rfl, rfl, rfl, rfl, (congrArg (fun z => some (Value.int .i64 z)) (rng_next hd1 hi1 (slc_max hs_p_l))), trivial⟩⟩, Nat.lt_succ_self _⟩
 clear S h; rintro a w2 ⟨x1, h, S⟩; rw [hj1] at h; clear hj1 j1
 refine then_n (f_seq (f_region (lv S (rn_move (S.tm rfl)) rfl ?_))); clear S; intro a S
 refine lv S (rn_assign (S.tm rfl)) rfl ?_; clear S; intro a S
 refine l_done (then_n (wp_ret ?_))
 subst h
 exact f_ret S Tryz.results84 rfl rfl
set_option maxRecDepth 20000 in
theorem tumbref2_swumBy_ok (w : World) (v_p_l : Value) (p_l : List GStep) (hs_p_l : Slc (view w []) 8 v_p_l (p_l.map GStep.enc)) (p_at : Int) (r : (List GStep)) (h : tumbref2_swumBy p_l p_at = some r) :
    Calls Tryz.prog 56 [v_p_l, iV p_at].toArray w (Ret w [] fun τ v _ => OwnV τ 34 8 v r.length (r.flatMap GStep.enc)) := by
 refine f_enter [] [] Tryz.func56 rfl Tryz.ntmps56 rfl (by simp) (by simp [fps]) (by simp [fps]) fun a S => ?_
 unfold tumbref2_swumBy at h
 replace S := S.nk [] [(0, v_p_l), (1, iV p_at)] [] rfl (subR rfl)
 refine f_seq (f_region (lv S (rn_assign rfl) rfl ?_)); clear S; intro a S
 refine l_done (then_n (f_seq (f_region (lv S (rn_move (S.tm rfl)) rfl ?_)))); clear S; intro a S
 refine lv S (rn_move (S.tm rfl)) rfl ?_; clear S; intro a S
 obtain ⟨r1, hr1, h⟩ := bindE h
 have hz1 := S.keep.size
 refine l_enter S (fun _ => run_call (vs := [v_p_l, iV p_at]) ⟨(S.tm rfl), (S.tm rfl), trivial⟩ Tryz.call83) (tumbref2_upTo_ok _ v_p_l p_l (hs_p_l.mono (S.le_arg nil_sub)) p_at _ hr1) rfl ?_; clear S; intro v1 a w1 hv1 hk1 hn1 S
 obtain ⟨φ1, hl1, hm1, S⟩ := S.see' hn1 hz1
 have hs1 := hv1.mono hm1
 refine lv S (rn_assign (S.tm rfl)) rfl ?_; clear S; intro a S
 refine l_done (then_n (f_seq (f_region (lv S (rn_assign rfl) rfl ?_)))); clear S; intro a S
 replace S := S.nil 34 8
 refine l_done (then_n (f_seq (f_seq (f_region (lv S (rn_move (S.tm rfl)) rfl ?_))))); clear S; intro a S
 refine lv S (rn_lenT sl_28 (S.tm rfl) (slc_len (ownV_slcT GStep.enc_ok hs1))) rfl ?_; clear S; intro a S
 refine lv S (rn_move rfl) rfl ?_; clear S; intro a S
 refine l_done (then_n ?_)
 replace S := S.nk [.own (.slice none 0 0) 34 8 ([] : List GStep).length (([] : List GStep).flatMap GStep.enc)] [(0, v1), (5, (.slice none 0 0)), (11, v1), (12, iV (r1.length : Int)), (13, iV 0)] [true] rfl (subR rfl)
 obtain ⟨j1, hj1, h⟩ := joinE h
 refine f_join (fun a w' => ∃ x1 : List GStep, ∃ v2 : Value, j1 x1 = some r ∧ Sx w [] φ1 [.own v2 34 8 x1.length (x1.flatMap GStep.enc)] [(5, v2)] 36 a w') ?_ ?_
 ·refine wp_block (f_loop (fun (ys1 : List GStep) a w' => ∃ i1 : Nat, ∃ x1 : List GStep, ∃ v2 : Value, (∃ dn, r1 = dn ++ ys1 ∧ dn.length = i1) ∧ tumbref2_swumBy_l1 r1 j1 ys1 i1 x1 = some r ∧ Sx w [] φ1 [.own v2 34 8 x1.length (x1.flatMap GStep.enc)] [(0, v1), (5, v2), (11, v1), (12, iV (r1.length : Int)), (13, iV (i1 : Int))] 36 a w') List.length r1 ⟨0, ([] : List GStep), (.slice none 0 0), ⟨[], rfl, rfl⟩, h, S.nf [true] rfl (subR rfl)⟩ ?_)
  clear S h; rintro ys1 a w2 ⟨i1, x1, v2, ⟨dn, hd1, hi1⟩, h, S⟩
  cases ys1 with
  | nil =>
   rw [tumbref2_swumBy_l1.eq_1] at h
   refine f_seq (f_region (lv S (rn_lss (S.tm rfl) (S.tm rfl)) rfl ?_)); clear S; intro a S
   refine l_done ?_
   replace S := S.nk [.own v2 34 8 x1.length (x1.flatMap GStep.enc)] [(0, v1), (5, v2), (11, v1), (12, iV (r1.length : Int)), (13, iV (i1 : Int)), (14, bV (decide ((i1 : Int) < (r1.length : Int))))] [true] rfl (subR rfl)
   refine then_n (f_seq (wp_cond_false ((S.tm rfl).trans (congrArg Value.bool (rng_nil hd1 hi1))) (wp_exit (then_x (then_x (x_same ?_))))))
   refine then_n ?_
   exact ⟨x1, v2, h, S.nf [true] rfl ⟨rfl, trivial⟩⟩
  | cons y1 ys1 =>
   rw [tumbref2_swumBy_l1.eq_2] at h
   refine f_seq (f_region (lv S (rn_lss (S.tm rfl) (S.tm rfl)) rfl ?_)); clear S; intro a S
   refine l_done ?_
   replace S := S.nk [.own v2 34 8 x1.length (x1.flatMap GStep.enc)] [(0, v1), (5, v2), (11, v1), (12, iV (r1.length : Int)), (13, iV (i1 : Int)), (14, bV (decide ((i1 : Int) < (r1.length : Int))))] [true] rfl (subR rfl)
   refine then_n (f_seq (wp_cond_true ((S.tm rfl).trans (congrArg Value.bool (rng_cons hd1 hi1))) (wp_skip (then_n (f_seq ?_)))))
   obtain ⟨j2, hj2, h⟩ := joinE h
   refine f_join (fun a w' => ∃ x2 : List GStep, ∃ v3 : Value, j2 x2 = some r ∧ Sx w [] φ1 [.own v3 34 8 x2.length (x2.flatMap GStep.enc)] [(0, v1), (5, v3), (11, v1), (12, iV (r1.length : Int)), (13, iV (i1 : Int))] 36 a w') ?_ ?_
   ·refine wp_block (f_seq (f_region (lv S (rn_move (S.tm rfl)) rfl ?_))); clear S; intro a S
    obtain ⟨b1, o1, hm2, hr2⟩ := rn_indexT (a := a) (x := .tmp 11) (y := .tmp 13) (ty := 0) sl_28 (ownV_slcT GStep.enc_ok hs1) (get_mid hd1 hi1) rfl (S.tm rfl) (S.tm rfl)
    refine lv S (hr2 _) rfl ?_; clear S; intro a S
    clear hr2
    refine lv S (rn_ldA Tryz.isAgg34 Tryz.sizeOf34 (off := o1) (o := 0) (part := (GStep.enc y1)) rfl rfl (S.tm rfl) (hm2.at S.emb)) rfl ?_; clear S; intro a S
    refine l_alloc S Tryz.zeroValue34 (cs := [iV 0, iV 0, sV k_empty, sV k_empty, sV k_empty, sV k_empty, iV 0, iV 0]) rfl rfl ?_; clear S; intro a w5 b2 hz2 hk2 S
    refine lv S (rn_assign (S.tm rfl)) rfl ?_; clear S; intro a S
    refine l_store S (S.tm rfl) (S.tm rfl) (i := 0) (off := 0) rfl Tryz.sizeOf34 (vs := (GStep.enc y1)) rfl rfl rfl rfl ?_; clear S; intro w6 hk3 S
    refine l_done (then_n (f_seq ?_))
    obtain ⟨j3, hj3, h⟩ := joinE h
    refine f_join (fun a w' => ∃ x3 : Bool, j3 x3 = some r ∧ Sx w [] φ1 [.blk b2 (GStep.enc y1) 34, .own v2 34 8 x1.length (x1.flatMap GStep.enc)] [(0, v1), (5, v2), (7, .pointer (some ⟨b2, 0, none⟩)), (11, v1), (12, iV (r1.length : Int)), (13, iV (i1 : Int)), (29, bV x3)] 36 a w') ?_ ?_
    ·rcases Bool.eq_false_or_eq_true (decide (y1.Kind = 1)) with hb1 | hb1
     ·replace h := iteT h hb1
      obtain ⟨hc1, h⟩ := chkE h
      refine d_region [] ([]) Tryz.mixed S rfl (by kernel_rfl) ?_; clear S; intro w9 hk5 hsel S
      refine d_quiet 0 S hsel rfl rfl rfl (by kernel_rfl) (by kernel_rfl) rfl (fun _ hw => (rn_fld fa_34_1 (S.tm rfl))) ?_; clear S; intro a S
      refine d_quiet 1 S hsel rfl rfl rfl (by kernel_rfl) (by kernel_rfl) rfl (fun _ hw => (rn_ld Tryz.isAgg3 (off := 0) (o := 1) (S.tm rfl) ((S.blk_mem (i := 0) (cells := (GStep.enc y1)) (b := b2) (T := 34) rfl (ne_nil (e' := .blk b2 (GStep.enc y1) 34))).kept hw) rfl)) ?_; clear S; intro a S
      refine d_quiet 2 S hsel rfl rfl rfl (by kernel_rfl) (by kernel_rfl) rfl (fun _ hw => (rn_eql (S.tm rfl) rfl)) ?_; clear S; intro a S
      refine d_quiet 3 S hsel rfl rfl rfl (by kernel_rfl) (by kernel_rfl) rfl (fun _ hw => (rn_move (S.tm rfl))) ?_; clear S; intro a S
      refine d_quiet_g 4 S hsel rfl rfl rfl rfl hb1 rfl rfl (by kernel_rfl) (by kernel_rfl) rfl (fun _ hw => (rn_move (S.tm rfl))) ?_; clear S; intro a S
      refine d_quiet_g 5 S hsel rfl rfl rfl rfl hb1 rfl rfl (by kernel_rfl) (by kernel_rfl) rfl (fun _ hw => (rn_move (S.tm rfl))) ?_; clear S; intro a S
      obtain ⟨v6, hs3, hr4⟩ := rn_cutTh (a := a) (x := .tmp 22) (y' := .tmp 23) (ty := 28) sl_28 (ownV_slcT GStep.enc_ok hs1) (S.tm rfl) (S.tm rfl) hc1
      refine d_quiet_g 6 S hsel rfl rfl rfl rfl hb1 rfl rfl (by kernel_rfl) (by kernel_rfl) rfl (fun _ hw => (hr4 _)) ?_; clear S; intro a S
      clear hr4
      refine d_quiet_g 7 S hsel rfl rfl rfl rfl hb1 rfl rfl (by kernel_rfl) (by kernel_rfl) rfl (fun _ hw => (rn_fld fa_34_2 (S.tm rfl))) ?_; clear S; intro a S
      refine d_quiet_g 8 S hsel rfl rfl rfl rfl hb1 rfl rfl (by kernel_rfl) (by kernel_rfl) rfl (fun _ hw => (rn_ld Tryz.isAgg9 (off := 0) (o := 2) (S.tm rfl) ((S.blk_mem (i := 0) (cells := (GStep.enc y1)) (b := b2) (T := 34) rfl (ne_nil (e' := .blk b2 (GStep.enc y1) 34))).kept hw) rfl)) ?_; clear S; intro a S
      refine d_loud1 9 (by kernel_rfl) rfl (l_want S rfl rfl rfl hb1 (l_enter S (fun _ => run_call (vs := [v6, sV y1.Id]) ⟨(S.tm rfl), (S.tm rfl), trivial⟩ Tryz.call84) (tumbref2_stateOf_ok _ v6 (cut r1 0 (i1 : Int)) (hs3.mono (S.le_new nil_sub)) y1.Id _ rfl) rfl ?_)); clear S; intro v7 a w10 hv3 hk6 hn3 S
      subst hv3
      refine l_done (d_next hk6 (d_rest [10, 11] hsel (by kernel_rfl) rfl ?_))
      clear hsel
      refine s_want S rfl rfl rfl rfl hb1 (s_lv0 S (rn_eql (S.tm rfl) rfl) rfl ?_); clear S; intro a S
      refine s_lv S rfl (rn_pick_b hb1 (S.tm rfl) (S.tm rfl)) rfl ?_; clear S; intro a S
      refine s_done ?_
      replace S := S.nk [.blk b2 (GStep.enc y1) 34, .own v2 34 8 x1.length (x1.flatMap GStep.enc)] [(0, v1), (5, v2), (7, .pointer (some ⟨b2, 0, none⟩)), (11, v1), (12, iV (r1.length : Int)), (13, iV (i1 : Int)), (22, v1), (23, iV (i1 : Int)), (24, v6), (25, .pointer (some ⟨b2, 2, none⟩)), (26, sV y1.Id), (27, iV (tumbref2_stateOf (cut r1 0 (i1 : Int)) y1.Id)), (28, bV (decide ((tumbref2_stateOf (cut r1 0 (i1 : Int)) y1.Id) = 0))), (29, bV (decide ((tumbref2_stateOf (cut r1 0 (i1 : Int)) y1.Id) = 0)))] [true, true] rfl (subR rfl)
      refine then_n ?_
      exact ⟨decide ((tumbref2_stateOf (cut r1 0 (i1 : Int)) y1.Id) = 0), h, S.nf [true, true] rfl (subR rfl)⟩
     ·replace h := iteF h hb1
      refine d_region [] ([]) Tryz.mixed S rfl (by kernel_rfl) ?_; clear S; intro w11 hk7 hsel S
      refine d_rest [0, 1, 2, 3, 4, 5, 6, 7, 8, 9, 10, 11] hsel (by kernel_rfl) rfl ?_
      clear hsel
      refine s_lv S rfl (rn_fld fa_34_1 (S.tm rfl)) rfl ?_; clear S; intro a S
      refine s_lv S rfl (rn_load Tryz.isAgg3 (S.tm rfl) (S.cell (i := 0) rfl rfl)) rfl ?_; clear S; intro a S
      refine s_lv S rfl (rn_eql (S.tm rfl) rfl) rfl ?_; clear S; intro a S
      refine s_lv S rfl (rn_move (S.tm rfl)) rfl ?_; clear S; intro a S
      iterate 7 (refine s_skip S rfl rfl rfl rfl (neq_f hb1) rfl ?_ rfl; clear S; intro a S)
      refine s_lv S rfl (rn_pick_c hb1 (S.tm rfl) rfl) rfl ?_; clear S; intro a S
      refine s_done ?_
      replace S := S.nk [.blk b2 (GStep.enc y1) 34, .own v2 34 8 x1.length (x1.flatMap GStep.enc)] [(0, v1), (5, v2), (7, .pointer (some ⟨b2, 0, none⟩)), (11, v1), (12, iV (r1.length : Int)), (13, iV (i1 : Int)), (29, bV false)] [true, true] rfl (subR rfl)
      refine then_n ?_
      exact ⟨false, h, S.nf [true, true] rfl (subR rfl)⟩
    clear S h; rintro a w7 ⟨x3, h, S⟩; rw [hj3] at h; clear hj3 j3
    refine then_n ?_
    obtain ⟨j4, hj4, h⟩ := joinE h
    refine f_join (fun a w' => ∃ x4 : List GStep, ∃ v8 : Value, j4 x4 = some r ∧ Sx w [] φ1 [.blk b2 (GStep.enc y1) 34, .own v8 34 8 x4.length (x4.flatMap GStep.enc)] [(0, v1), (5, v8), (11, v1), (12, iV (r1.length : Int)), (13, iV (i1 : Int))] 36 a w') ?_ ?_
    ·refine f_cond (S.tm rfl) (fun hb2 => ?_) (fun hb2 => ?_)
     ·replace h := iteT h hb2
      refine f_region (lv S (rn_move (S.tm rfl)) rfl ?_); clear S; intro a S
      refine lv S (rn_ldA Tryz.isAgg34 Tryz.sizeOf34 (off := 0) (o := 0) (part := (GStep.enc y1)) rfl rfl (S.tm rfl) (S.cellsAt (i := 0) rfl)) rfl ?_; clear S; intro a S
      refine l_buildSlice S Tryz.underlying28 Tryz.sizeOf34 Tryz.zeroValue34 rfl rfl (pv := [(0, .agg (GStep.enc y1).toArray)]) ⟨rfl, (S.tm rfl), trivial⟩ (cs := [iV y1.At, iV y1.Kind, sV y1.Id, sV y1.Who, sV y1.Club, sV y1.Race, iV y1.Age, iV y1.Time]) (by kernel_rfl) rfl ?_; clear S; intro a w13 b3 hz3 hk8 S
      obtain ⟨hc2, h⟩ := chkE h
      refine l_appendT sl_28 GStep.enc_ok S (S.tm rfl) (i := 2) rfl (S.tm rfl) (j := 0) rfl (ys := [y1]) rfl rfl rfl rfl (by have := room_lt hc2; omega) rfl ?_; clear S; intro v9 a w14 hk9 S
      refine lv S (rn_assign (S.tm rfl)) rfl ?_; clear S; intro a S
      refine l_done (then_n ?_)
      exact ⟨(x1 ++ [y1]), v9, h, S.nf [false, true, true] rfl (subR rfl)⟩
     ·replace h := iteF h hb2
      refine wp_skip (then_n ?_)
      exact ⟨x1, v2, h, S.nf [true, true] rfl (subR rfl)⟩
    clear S h; rintro a w12 ⟨x4, v8, h, S⟩; rw [hj4] at h; clear hj4 j4
    refine blk_n (then_n ?_)
    exact ⟨x4, v8, h, S.nf [false, true] rfl (subR rfl)⟩
   clear S h; rintro a w4 ⟨x2, v3, h, S⟩; rw [hj2] at h; clear hj2 j2
   refine then_n (f_region (lv S (rn_add (S.tm rfl) rfl) rfl ?_)); clear S; intro a S
   refine lv S (rn_move (S.tm rfl)) rfl ?_; clear S; intro a S
   refine l_done (then_n ?_)
   exact ⟨ys1, ⟨i1 + 1, x2, v3, ⟨_, (hd1).trans (List.append_cons _ _ _), by simp [hi1]⟩, h, S.nf [true] rfl ⟨rfl, rfl, rfl, rfl, (congrArg (fun z => some (Value.int .i64 z)) (rng_next hd1 hi1 (slc_max (ownV_slcT GStep.enc_ok hs1)))), trivial⟩⟩, Nat.lt_succ_self _⟩
 clear S h; rintro a w3 ⟨x1, v2, h, S⟩; rw [hj1] at h; clear hj1 j1
 refine then_n (f_seq (f_region (lv S (rn_move (S.tm rfl)) rfl ?_))); clear S; intro a S
 refine lv S (rn_assign (S.tm rfl)) rfl ?_; clear S; intro a S
 refine l_done (then_n (wp_ret ?_))
 obtain rfl := Option.some.inj h
 exact f_ret S Tryz.results56 rfl (own_retT S (i := 0) rfl rfl)
theorem tumbref2_IdFault_c1_ok (w : World) (p_s : GStep) (b_p_a1 : Nat) (p_a1 : ByteArray) (hb_b_p_a1 : (view w []) b_p_a1 = some (.cells [sV p_a1].toArray 9 (0, 0))) (r : Bool) (h : tumbref2_IdFault_c1 p_s p_a1 = r) :
    Calls Tryz.prog 57 [.agg (GStep.enc p_s).toArray, .pointer (some ⟨b_p_a1, 0, none⟩)].toArray w (Ret w [] fun _ v _ => v = bV r) := by
 refine f_enter [] [] Tryz.func57 rfl Tryz.ntmps57 rfl (by simp) (by simp [fps]) (by simp [fps]) fun a S => ?_
 unfold tumbref2_IdFault_c1 at h
 replace S := S.nk [] [(0, .agg (GStep.enc p_s).toArray), (1, .pointer (some ⟨b_p_a1, 0, none⟩))] [] rfl (subR rfl)
 refine f_seq (f_region (l_box S (S.tm rfl) (cs := (GStep.enc p_s)) rfl rfl ?_)); clear S; intro a w1 b1 hz1 hk1 S
 refine lv S (rn_assign rfl) rfl ?_; clear S; intro a S
 refine l_done (then_n (f_seq (f_region (lv S (rn_fld fa_34_2 (S.tm rfl)) rfl ?_)))); clear S; intro a S
 refine lv S (rn_load Tryz.isAgg9 (S.tm rfl) (S.cell (i := 0) rfl rfl)) rfl ?_; clear S; intro a S
 refine lv S (rn_ld Tryz.isAgg9 (off := 0) (o := 0) (S.tm rfl) ((mem_blk hb_b_p_a1).at S.emb0) rfl) rfl ?_; clear S; intro a S
 refine lv S (rn_seql (S.tm rfl) (S.tm rfl)) rfl ?_; clear S; intro a S
 refine lv S (rn_assign (S.tm rfl)) rfl ?_; clear S; intro a S
 refine l_done (then_n (wp_ret ?_))
 subst h
 exact f_ret S Tryz.results57 rfl rfl
theorem slices_IndexFunc_Step_tumbref2_IdFault_c1_ok (w : World) (v_p_s : Value) (p_s : List GStep) (hs_p_s : Slc (view w []) 8 v_p_s (p_s.map GStep.enc)) (b_p_f_0 : Nat) (p_f_0 : ByteArray) (hb_b_p_f_0 : (view w []) b_p_f_0 = some (.cells [sV p_f_0].toArray 9 (0, 0))) (r : Int) (h : slices_IndexFunc_Step_tumbref2_IdFault_c1 p_s p_f_0 = r) :
    Calls Tryz.prog 82 [v_p_s, .func (.func 57) #[] #[.pointer (some ⟨b_p_f_0, 0, none⟩)]].toArray w (Ret w [] fun _ v _ => v = iV r) := by
 refine f_enter [] [] Tryz.func82 rfl Tryz.ntmps82 rfl (by simp) (by simp [fps]) (by simp [fps]) fun a S => ?_
 unfold slices_IndexFunc_Step_tumbref2_IdFault_c1 at h
 replace S := S.nk [] [(0, v_p_s), (1, .func (.func 57) #[] #[.pointer (some ⟨b_p_f_0, 0, none⟩)])] [] rfl (subR rfl)
 refine f_seq (f_region (lv S (rn_assign rfl) rfl ?_)); clear S; intro a S
 refine l_done (then_n (f_seq (f_seq (f_region (lv S (rn_move (S.tm rfl)) rfl ?_))))); clear S; intro a S
 refine lv S (rn_lenT sl_28 (S.tm rfl) (slc_len hs_p_s)) rfl ?_; clear S; intro a S
 refine lv S (rn_move rfl) rfl ?_; clear S; intro a S
 refine l_done (then_n ?_)
 replace S := S.nk [] [(0, v_p_s), (1, .func (.func 57) #[] #[.pointer (some ⟨b_p_f_0, 0, none⟩)]), (7, iV (p_s.length : Int)), (8, iV 0)] [] rfl (subR rfl)
 obtain ⟨j1, hj1, h⟩ := joinE h
 refine f_join (fun a w' => j1 = r ∧ Sx w [] nov [] [] 19 a w') ?_ ?_
 ·refine wp_block (f_loop (fun (ys1 : List GStep) a w' => ∃ i1 : Nat, (∃ dn, p_s = dn ++ ys1 ∧ dn.length = i1) ∧ slices_IndexFunc_Step_tumbref2_IdFault_c1_l1 p_f_0 j1 ys1 i1 = r ∧ Sx w [] nov [] [(0, v_p_s), (1, .func (.func 57) #[] #[.pointer (some ⟨b_p_f_0, 0, none⟩)]), (7, iV (p_s.length : Int)), (8, iV (i1 : Int))] 19 a w') List.length p_s ⟨0, ⟨[], rfl, rfl⟩, h, S.nf [] rfl (subR rfl)⟩ ?_)
  clear S h; rintro ys1 a w1 ⟨i1, ⟨dn, hd1, hi1⟩, h, S⟩
  cases ys1 with
  | nil =>
   rw [slices_IndexFunc_Step_tumbref2_IdFault_c1_l1.eq_1] at h
   refine f_seq (f_region (lv S (rn_lss (S.tm rfl) (S.tm rfl)) rfl ?_)); clear S; intro a S
   refine l_done ?_
   replace S := S.nk [] [(0, v_p_s), (1, .func (.func 57) #[] #[.pointer (some ⟨b_p_f_0, 0, none⟩)]), (7, iV (p_s.length : Int)), (8, iV (i1 : Int)), (9, bV (decide ((i1 : Int) < (p_s.length : Int))))] [] rfl (subR rfl)
   refine then_n (f_seq (wp_cond_false ((S.tm rfl).trans (congrArg Value.bool (rng_nil hd1 hi1))) (wp_exit (then_x (then_x (x_same ?_))))))
   refine then_n ?_
   exact ⟨h, S.nf [] rfl trivial⟩
  | cons y1 ys1 =>
   rw [slices_IndexFunc_Step_tumbref2_IdFault_c1_l1.eq_2] at h
   refine f_seq (f_region (lv S (rn_lss (S.tm rfl) (S.tm rfl)) rfl ?_)); clear S; intro a S
   refine l_done ?_
   replace S := S.nk [] [(0, v_p_s), (1, .func (.func 57) #[] #[.pointer (some ⟨b_p_f_0, 0, none⟩)]), (7, iV (p_s.length : Int)), (8, iV (i1 : Int)), (9, bV (decide ((i1 : Int) < (p_s.length : Int))))] [] rfl (subR rfl)
   refine then_n (f_seq (wp_cond_true ((S.tm rfl).trans (congrArg Value.bool (rng_cons hd1 hi1))) (wp_skip (then_n (f_seq (wp_block ?_))))))
   refine f_seq (f_region (lv S (rn_move (S.tm rfl)) rfl ?_)); clear S; intro a S
   refine lv S (rn_assign (S.tm rfl)) rfl ?_; clear S; intro a S
   refine l_done (then_n (f_seq (f_region (lv S (rn_move (S.tm rfl)) rfl ?_)))); clear S; intro a S
   refine lv S (rn_move (S.tm rfl)) rfl ?_; clear S; intro a S
   refine lv S (rn_move (S.tm rfl)) rfl ?_; clear S; intro a S
   obtain ⟨b1, o1, hm1, hr1⟩ := rn_indexT (a := a) (x := .tmp 12) (y := .tmp 13) (ty := 0) sl_28 hs_p_s (get_mid hd1 hi1) rfl (S.tm rfl) (S.tm rfl)
   refine lv S (hr1 _) rfl ?_; clear S; intro a S
   clear hr1
   refine lv S (rn_ldA Tryz.isAgg34 Tryz.sizeOf34 (off := o1) (o := 0) (part := (GStep.enc y1)) rfl rfl (S.tm rfl) (hm1.at S.emb0)) rfl ?_; clear S; intro a S
   refine l_enter S (fun _ => run_callV (cap := [.pointer (some ⟨b_p_f_0, 0, none⟩)]) (S.tm rfl) (vs := [.agg (GStep.enc y1).toArray]) ⟨(S.tm rfl), trivial⟩ Tryz.call57) (tumbref2_IdFault_c1_ok _ y1 b_p_f_0 p_f_0 ((S.le_arg nil_sub) _ _ hb_b_p_f_0) _ rfl) rfl ?_; clear S; intro v1 a w3 hv1 hk1 hn1 S
   subst hv1
   refine l_done (then_n (f_cond (S.tm rfl) (fun hb1 => ?_) (fun hb1 => ?_)))
   ·replace h := iteT h hb1
    refine f_seq (f_region (lv S (rn_move (S.tm rfl)) rfl ?_)); clear S; intro a S
    refine lv S (rn_assign (S.tm rfl)) rfl ?_; clear S; intro a S
    refine l_done ?_
    replace S := S.nk [] [(4, iV (i1 : Int))] [] rfl ⟨rfl, trivial⟩
    refine then_n (wp_ret (blk_r (then_r (then_r (blk_r (then_r ?_))))))
    refine then_r ?_
    subst h
    exact f_ret S Tryz.results82 rfl rfl
   ·replace h := iteF h hb1
    refine wp_skip (blk_n (then_n (f_region (lv S (rn_add (S.tm rfl) rfl) rfl ?_)))); clear S; intro a S
    refine lv S (rn_move (S.tm rfl)) rfl ?_; clear S; intro a S
    refine l_done (then_n ?_)
    exact ⟨ys1, ⟨i1 + 1, ⟨_, (hd1).trans (List.append_cons _ _ _), by simp [hi1]⟩, h, S.nf [] rfl ⟨rfl, rfl, rfl, (congrArg (fun z => some (Value.int .i64 z)) (rng_next hd1 hi1 (slc_max hs_p_s))), trivial⟩⟩, Nat.lt_succ_self _⟩
 clear S h; rintro a w2 ⟨h, S⟩; rw [hj1] at h; clear hj1 j1
 refine then_n (f_seq (f_region (lv S (rn_assign rfl) rfl ?_))); clear S; intro a S
 refine l_done (then_n (wp_ret ?_))
 subst h
 exact f_ret S Tryz.results82 rfl rfl
theorem slices_ContainsFunc_Step_tumbref2_IdFault_c1_ok (w : World) (v_p_s : Value) (p_s : List GStep) (hs_p_s : Slc (view w []) 8 v_p_s (p_s.map GStep.enc)) (b_p_f_0 : Nat) (p_f_0 : ByteArray) (hb_b_p_f_0 : (view w []) b_p_f_0 = some (.cells [sV p_f_0].toArray 9 (0, 0))) (r : Bool) (h : slices_ContainsFunc_Step_tumbref2_IdFault_c1 p_s p_f_0 = r) :
    Calls Tryz.prog 55 [v_p_s, .func (.func 57) #[] #[.pointer (some ⟨b_p_f_0, 0, none⟩)]].toArray w (Ret w [] fun _ v _ => v = bV r) := by
 refine f_enter [] [] Tryz.func55 rfl Tryz.ntmps55 rfl (by simp) (by simp [fps]) (by simp [fps]) fun a S => ?_
 unfold slices_ContainsFunc_Step_tumbref2_IdFault_c1 at h
 replace S := S.nk [] [(0, v_p_s), (1, .func (.func 57) #[] #[.pointer (some ⟨b_p_f_0, 0, none⟩)])] [] rfl (subR rfl)
 refine f_seq (f_region (lv S (rn_assign rfl) rfl ?_)); clear S; intro a S
 refine l_done (then_n (f_seq (f_region (lv S (rn_move (S.tm rfl)) rfl ?_)))); clear S; intro a S
 refine lv S (rn_move (S.tm rfl)) rfl ?_; clear S; intro a S
 refine l_enter S (fun _ => run_call (vs := [v_p_s, .func (.func 57) #[] #[.pointer (some ⟨b_p_f_0, 0, none⟩)]]) ⟨(S.tm rfl), (S.tm rfl), trivial⟩ Tryz.call82) (slices_IndexFunc_Step_tumbref2_IdFault_c1_ok _ v_p_s p_s (hs_p_s.mono (S.le_arg nil_sub)) b_p_f_0 p_f_0 ((S.le_arg nil_sub) _ _ hb_b_p_f_0) _ rfl) rfl ?_; clear S; intro v1 a w1 hv1 hk1 hn1 S
 subst hv1
 refine lv S (rn_geq (S.tm rfl) rfl) rfl ?_; clear S; intro a S
 refine lv S (rn_assign (S.tm rfl)) rfl ?_; clear S; intro a S
 refine l_done (then_n (wp_ret ?_))
 subst h
 exact f_ret S Tryz.results55 rfl rfl
theorem tumbref2_IdFault_ok (w : World) (v_p_l : Value) (p_l : List GStep) (hs_p_l : Slc (view w []) 8 v_p_l (p_l.map GStep.enc)) (p_id : ByteArray) (p_at : Int) (r : Int) (h : tumbref2_IdFault p_l p_id p_at = some r) :
    Calls Tryz.prog 20 [v_p_l, sV p_id, iV p_at].toArray w (Ret w [] fun _ v _ => v = iV r) := by
 refine f_enter [] [] Tryz.func20 rfl Tryz.ntmps20 rfl (by simp) (by simp [fps]) (by simp [fps]) fun a S => ?_
 unfold tumbref2_IdFault at h
 replace S := S.nk [] [(0, v_p_l), (1, sV p_id), (2, iV p_at)] [] rfl (subR rfl)
 refine f_seq (f_region (l_box S (S.tm rfl) (cs := [sV p_id]) rfl rfl ?_)); clear S; intro a w1 b1 hz1 hk1 S
 refine lv S (rn_assign rfl) rfl ?_; clear S; intro a S
 refine l_done (then_n (f_seq (f_seq (f_region (lv S (rn_move (S.tm rfl)) rfl ?_))))); clear S; intro a S
 refine lv S (rn_move (S.tm rfl)) rfl ?_; clear S; intro a S
 obtain ⟨r1, hr1, h⟩ := bindE h
 have hz2 := S.keep.size
 refine l_enter S (fun _ => run_call (vs := [v_p_l, iV p_at]) ⟨(S.tm rfl), (S.tm rfl), trivial⟩ Tryz.call56) (tumbref2_swumBy_ok _ v_p_l p_l (hs_p_l.mono (S.le_arg nil_sub)) p_at _ hr1) rfl ?_; clear S; intro v1 a w2 hv1 hk2 hn1 S
 obtain ⟨φ1, hl1, hm1, S⟩ := S.see' hn1 hz2
 have hs1 := hv1.mono hm1
 refine lv S (rn_makeFunc (us := #[]) (xs := [].toArray) (ys := [.tmp 4].toArray) (by simp) (evA ⟨(S.tm rfl), trivial⟩ (vs := [.pointer (some ⟨b1, 0, none⟩)]))) rfl ?_; clear S; intro a S
 refine l_enter S (fun _ => run_call (vs := [v1, .func (.func 57) #[] #[.pointer (some ⟨b1, 0, none⟩)]]) ⟨(S.tm rfl), (S.tm rfl), trivial⟩ Tryz.call55) (slices_ContainsFunc_Step_tumbref2_IdFault_c1_ok _ v1 r1 ((ownV_slcT GStep.enc_ok hs1).mono (S.le_new nil_sub)) b1 p_id (S.blk_view (i := 0) rfl ((ne_nil (e' := .blk b1 [sV p_id] 9)) _ rfl)) _ rfl) rfl ?_; clear S; intro v2 a w3 hv2 hk3 hn2 S
 subst hv2
 refine lv S (rn_not (S.tm rfl)) rfl ?_; clear S; intro a S
 refine l_done (then_n (f_cond (S.tm rfl) (fun hb1 => ?_) (fun hb1 => ?_)))
 ·replace h := iteT h hb1
  refine f_seq (f_region (lv S (rn_assign rfl) rfl ?_)); clear S; intro a S
  refine l_done (then_n (wp_ret (then_r ?_)))
  obtain rfl := Option.some.inj h
  exact f_ret S Tryz.results20 rfl rfl
 ·replace h := iteF h hb1
  refine wp_skip (then_n (f_seq (f_region (lv S (rn_assign rfl) rfl ?_)))); clear S; intro a S
  refine l_done (then_n (wp_ret ?_))
  obtain rfl := Option.some.inj h
  exact f_ret S Tryz.results20 rfl rfl
theorem tumbref2_KindAt_c1_ok (w : World) (p_k : GKind) (q_p_k : R57) (hq_p_k : rel_57 (view w []) p_k q_p_k) (b_p_a1 : Nat) (p_a1 : ByteArray) (hb_b_p_a1 : (view w []) b_p_a1 = some (.cells [sV p_a1].toArray 9 (0, 0))) (r : Bool) (h : tumbref2_KindAt_c1 p_k p_a1 = r) :
    Calls Tryz.prog 63 [.agg (R57.enc q_p_k).toArray, .pointer (some ⟨b_p_a1, 0, none⟩)].toArray w (Ret w [] fun _ v _ => v = bV r) := by
 obtain ⟨u1, rfl, hs1⟩ := hq_p_k
 refine f_enter [] [] Tryz.func63 rfl Tryz.ntmps63 rfl (by simp) (by simp [fps]) (by simp [fps]) fun a S => ?_
 unfold tumbref2_KindAt_c1 at h
 replace S := S.nk [] [(0, .agg #[sV p_k.Key, sV p_k.Race, u1.val, iV p_k.Young, iV p_k.Old]), (1, .pointer (some ⟨b_p_a1, 0, none⟩))] [] rfl (subR rfl)
 refine f_seq (f_region (l_box S (S.tm rfl) (cs := [sV p_k.Key, sV p_k.Race, u1.val, iV p_k.Young, iV p_k.Old]) rfl rfl ?_)); clear S; intro a w1 b1 hz1 hk1 S
 refine lv S (rn_assign rfl) rfl ?_; clear S; intro a S
 refine l_done (then_n (f_seq (f_region (lv S (rn_fld fa_57_0 (S.tm rfl)) rfl ?_)))); clear S; intro a S
 refine lv S (rn_load Tryz.isAgg9 (S.tm rfl) (S.cell (i := 0) rfl rfl)) rfl ?_; clear S; intro a S
 refine lv S (rn_ld Tryz.isAgg9 (off := 0) (o := 0) (S.tm rfl) ((mem_blk hb_b_p_a1).at S.emb0) rfl) rfl ?_; clear S; intro a S
 refine lv S (rn_seql (S.tm rfl) (S.tm rfl)) rfl ?_; clear S; intro a S
 refine lv S (rn_assign (S.tm rfl)) rfl ?_; clear S; intro a S
 refine l_done (then_n (wp_ret ?_))
 subst h
 exact f_ret S Tryz.results63 rfl rfl
theorem slices_IndexFunc_Kind_tumbref2_KindAt_c1_ok (w : World) (v_p_s : Value) (p_s : List GKind) (rs_p_s : List R57) (hs_p_s : Slc (view w []) 5 v_p_s (rs_p_s.map R57.enc)) (hr_p_s : All2 (rel_57 (view w [])) p_s rs_p_s) (b_p_f_0 : Nat) (p_f_0 : ByteArray) (hb_b_p_f_0 : (view w []) b_p_f_0 = some (.cells [sV p_f_0].toArray 9 (0, 0))) (r : Int) (h : slices_IndexFunc_Kind_tumbref2_KindAt_c1 p_s p_f_0 = r) :
    Calls Tryz.prog 62 [v_p_s, .func (.func 63) #[] #[.pointer (some ⟨b_p_f_0, 0, none⟩)]].toArray w (Ret w [] fun _ v _ => v = iV r) := by
 refine f_enter [] [] Tryz.func62 rfl Tryz.ntmps62 rfl (by simp) (by simp [fps]) (by simp [fps]) fun a S => ?_
 unfold slices_IndexFunc_Kind_tumbref2_KindAt_c1 at h
 replace S := S.nk [] [(0, v_p_s), (1, .func (.func 63) #[] #[.pointer (some ⟨b_p_f_0, 0, none⟩)])] [] rfl (subR rfl)
 refine f_seq (f_region (lv S (rn_assign rfl) rfl ?_)); clear S; intro a S
 refine l_done (then_n (f_seq (f_seq (f_region (lv S (rn_move (S.tm rfl)) rfl ?_))))); clear S; intro a S
 refine lv S (rn_lenT sl_26 (S.tm rfl) (slc_lenD hs_p_s hr_p_s)) rfl ?_; clear S; intro a S
 refine lv S (rn_move rfl) rfl ?_; clear S; intro a S
 refine l_done (then_n ?_)
 replace S := S.nk [] [(0, v_p_s), (1, .func (.func 63) #[] #[.pointer (some ⟨b_p_f_0, 0, none⟩)]), (7, iV (p_s.length : Int)), (8, iV 0)] [] rfl (subR rfl)
 obtain ⟨j1, hj1, h⟩ := joinE h
 refine f_join (fun a w' => j1 = r ∧ Sx w [] nov [] [] 19 a w') ?_ ?_
 ·refine wp_block (f_loop (fun (ys1 : List GKind) a w' => ∃ i1 : Nat, (∃ dn, p_s = dn ++ ys1 ∧ dn.length = i1) ∧ slices_IndexFunc_Kind_tumbref2_KindAt_c1_l1 p_f_0 j1 ys1 i1 = r ∧ Sx w [] nov [] [(0, v_p_s), (1, .func (.func 63) #[] #[.pointer (some ⟨b_p_f_0, 0, none⟩)]), (7, iV (p_s.length : Int)), (8, iV (i1 : Int))] 19 a w') List.length p_s ⟨0, ⟨[], rfl, rfl⟩, h, S.nf [] rfl (subR rfl)⟩ ?_)
  clear S h; rintro ys1 a w1 ⟨i1, ⟨dn, hd1, hi1⟩, h, S⟩
  cases ys1 with
  | nil =>
   rw [slices_IndexFunc_Kind_tumbref2_KindAt_c1_l1.eq_1] at h
   refine f_seq (f_region (lv S (rn_lss (S.tm rfl) (S.tm rfl)) rfl ?_)); clear S; intro a S
   refine l_done ?_
   replace S := S.nk [] [(0, v_p_s), (1, .func (.func 63) #[] #[.pointer (some ⟨b_p_f_0, 0, none⟩)]), (7, iV (p_s.length : Int)), (8, iV (i1 : Int)), (9, bV (decide ((i1 : Int) < (p_s.length : Int))))] [] rfl (subR rfl)
   refine then_n (f_seq (wp_cond_false ((S.tm rfl).trans (congrArg Value.bool (rng_nil hd1 hi1))) (wp_exit (then_x (then_x (x_same ?_))))))
   refine then_n ?_
   exact ⟨h, S.nf [] rfl trivial⟩
  | cons y1 ys1 =>
   rw [slices_IndexFunc_Kind_tumbref2_KindAt_c1_l1.eq_2] at h
   refine f_seq (f_region (lv S (rn_lss (S.tm rfl) (S.tm rfl)) rfl ?_)); clear S; intro a S
   refine l_done ?_
   replace S := S.nk [] [(0, v_p_s), (1, .func (.func 63) #[] #[.pointer (some ⟨b_p_f_0, 0, none⟩)]), (7, iV (p_s.length : Int)), (8, iV (i1 : Int)), (9, bV (decide ((i1 : Int) < (p_s.length : Int))))] [] rfl (subR rfl)
   refine then_n (f_seq (wp_cond_true ((S.tm rfl).trans (congrArg Value.bool (rng_cons hd1 hi1))) (wp_skip (then_n (f_seq (wp_block ?_))))))
   refine f_seq (f_region (lv S (rn_move (S.tm rfl)) rfl ?_)); clear S; intro a S
   refine lv S (rn_assign (S.tm rfl)) rfl ?_; clear S; intro a S
   refine l_done (then_n (f_seq (f_region (lv S (rn_move (S.tm rfl)) rfl ?_)))); clear S; intro a S
   refine lv S (rn_move (S.tm rfl)) rfl ?_; clear S; intro a S
   refine lv S (rn_move (S.tm rfl)) rfl ?_; clear S; intro a S
   obtain ⟨r1, hg1, hl1⟩ := All2.at hr_p_s (get_mid hd1 hi1)
   obtain ⟨u1, rfl, hs1⟩ := hl1
   obtain ⟨b1, o1, hm1, hr1⟩ := rn_indexT (a := a) (x := .tmp 12) (y := .tmp 13) (ty := 0) sl_26 hs_p_s hg1 rfl (S.tm rfl) (S.tm rfl)
   refine lv S (hr1 _) rfl ?_; clear S; intro a S
   clear hr1
   refine lv S (rn_ldA Tryz.isAgg57 Tryz.sizeOf57 (off := o1) (o := 0) (part := [sV y1.Key, sV y1.Race, u1.val, iV y1.Young, iV y1.Old]) rfl rfl (S.tm rfl) (hm1.at S.emb0)) rfl ?_; clear S; intro a S
   refine l_enter S (fun _ => run_callV (cap := [.pointer (some ⟨b_p_f_0, 0, none⟩)]) (S.tm rfl) (vs := [.agg (R57.enc (R57.mk y1.Key y1.Race u1 y1.Young y1.Old)).toArray]) ⟨(S.tm rfl), trivial⟩ Tryz.call63) (tumbref2_KindAt_c1_ok _ y1 (R57.mk y1.Key y1.Race u1 y1.Young y1.Old) ⟨u1, rfl, (hs1.mono (S.le_arg nil_sub))⟩ b_p_f_0 p_f_0 ((S.le_arg nil_sub) _ _ hb_b_p_f_0) _ rfl) rfl ?_; clear S; intro v1 a w3 hv1 hk1 hn1 S
   subst hv1
   refine l_done (then_n (f_cond (S.tm rfl) (fun hb1 => ?_) (fun hb1 => ?_)))
   ·replace h := iteT h hb1
    refine f_seq (f_region (lv S (rn_move (S.tm rfl)) rfl ?_)); clear S; intro a S
    refine lv S (rn_assign (S.tm rfl)) rfl ?_; clear S; intro a S
    refine l_done ?_
    replace S := S.nk [] [(4, iV (i1 : Int))] [] rfl ⟨rfl, trivial⟩
    refine then_n (wp_ret (blk_r (then_r (then_r (blk_r (then_r ?_))))))
    refine then_r ?_
    subst h
    exact f_ret S Tryz.results62 rfl rfl
   ·replace h := iteF h hb1
    refine wp_skip (blk_n (then_n (f_region (lv S (rn_add (S.tm rfl) rfl) rfl ?_)))); clear S; intro a S
    refine lv S (rn_move (S.tm rfl)) rfl ?_; clear S; intro a S
    refine l_done (then_n ?_)
    exact ⟨ys1, ⟨i1 + 1, ⟨_, (hd1).trans (List.append_cons _ _ _), by simp [hi1]⟩, h, S.nf [] rfl ⟨rfl, rfl, rfl, (congrArg (fun z => some (Value.int .i64 z)) (rng_next hd1 hi1 (slc_maxD hs_p_s hr_p_s))), trivial⟩⟩, Nat.lt_succ_self _⟩
 clear S h; rintro a w2 ⟨h, S⟩; rw [hj1] at h; clear hj1 j1
 refine then_n (f_seq (f_region (lv S (rn_assign rfl) rfl ?_))); clear S; intro a S
 refine l_done (then_n (wp_ret ?_))
 subst h
 exact f_ret S Tryz.results62 rfl rfl
theorem tumbref2_KindAt_ok (w : World) (v_p_l : Value) (p_l : List GKind) (rs_p_l : List R57) (hs_p_l : Slc (view w []) 5 v_p_l (rs_p_l.map R57.enc)) (hr_p_l : All2 (rel_57 (view w [])) p_l rs_p_l) (p_key : ByteArray) (r : Int) (h : tumbref2_KindAt p_l p_key = r) :
    Calls Tryz.prog 26 [v_p_l, sV p_key].toArray w (Ret w [] fun _ v _ => v = iV r) := by
 refine f_enter [] [] Tryz.func26 rfl Tryz.ntmps26 rfl (by simp) (by simp [fps]) (by simp [fps]) fun a S => ?_
 unfold tumbref2_KindAt at h
 replace S := S.nk [] [(0, v_p_l), (1, sV p_key)] [] rfl (subR rfl)
 refine f_seq (f_region (l_box S (S.tm rfl) (cs := [sV p_key]) rfl rfl ?_)); clear S; intro a w1 b1 hz1 hk1 S
 refine lv S (rn_assign rfl) rfl ?_; clear S; intro a S
 refine l_done (then_n (f_seq (f_region (lv S (rn_move (S.tm rfl)) rfl ?_)))); clear S; intro a S
 refine lv S (rn_makeFunc (us := #[]) (xs := [].toArray) (ys := [.tmp 3].toArray) (by simp) (evA ⟨(S.tm rfl), trivial⟩ (vs := [.pointer (some ⟨b1, 0, none⟩)]))) rfl ?_; clear S; intro a S
 refine l_enter S (fun _ => run_call (vs := [v_p_l, .func (.func 63) #[] #[.pointer (some ⟨b1, 0, none⟩)]]) ⟨(S.tm rfl), (S.tm rfl), trivial⟩ Tryz.call62) (slices_IndexFunc_Kind_tumbref2_KindAt_c1_ok _ v_p_l p_l rs_p_l (hs_p_l.mono (S.le_arg nil_sub)) (rels_57 (S.le_arg nil_sub) hr_p_l) b1 p_key (S.blk_view (i := 0) rfl ((ne_nil (e' := .blk b1 [sV p_key] 9)) _ rfl)) _ rfl) rfl ?_; clear S; intro v1 a w2 hv1 hk2 hn1 S
 subst hv1
 refine lv S (rn_assign (S.tm rfl)) rfl ?_; clear S; intro a S
 refine l_done (then_n (wp_ret ?_))
 subst h
 exact f_ret S Tryz.results26 rfl rfl
theorem tumblaw2_kindFault_ok (w : World) (v_p_k : Value) (p_k : List GKind) (rs_p_k : List R57) (hs_p_k : Slc (view w []) 5 v_p_k (rs_p_k.map R57.enc)) (hr_p_k : All2 (rel_57 (view w [])) p_k rs_p_k) (p_kind : ByteArray) (r : Int) (h : tumblaw2_kindFault p_k p_kind = r) :
    Calls Tryz.prog 21 [v_p_k, sV p_kind].toArray w (Ret w [] fun _ v _ => v = iV r) := by
 refine f_enter [] [] Tryz.func21 rfl Tryz.ntmps21 rfl (by simp) (by simp [fps]) (by simp [fps]) fun a S => ?_
 unfold tumblaw2_kindFault at h
 replace S := S.nk [] [(0, v_p_k), (1, sV p_kind)] [] rfl (subR rfl)
 refine f_seq (f_region (lv S (rn_assign rfl) rfl ?_)); clear S; intro a S
 refine l_done (then_n (f_seq (f_region (lv S (rn_move (S.tm rfl)) rfl ?_)))); clear S; intro a S
 refine lv S (rn_move (S.tm rfl)) rfl ?_; clear S; intro a S
 refine l_enter S (fun _ => run_call (vs := [v_p_k, sV p_kind]) ⟨(S.tm rfl), (S.tm rfl), trivial⟩ Tryz.call26) (tumbref2_KindAt_ok _ v_p_k p_k rs_p_k (hs_p_k.mono (S.le_arg nil_sub)) (rels_57 (S.le_arg nil_sub) hr_p_k) p_kind _ rfl) rfl ?_; clear S; intro v1 a w1 hv1 hk1 hn1 S
 subst hv1
 refine lv S (rn_lss (S.tm rfl) rfl) rfl ?_; clear S; intro a S
 refine l_enter S (fun _ => run_call (vs := [bV (decide ((tumbref2_KindAt p_k p_kind) < 0)), iV 8]) ⟨(S.tm rfl), rfl, trivial⟩ Tryz.call23) (tumblaw2_when_ok _ (decide ((tumbref2_KindAt p_k p_kind) < 0)) 8 _ rfl) rfl ?_; clear S; intro v2 a w2 hv2 hk2 hn2 S
 subst hv2
 refine lv S (rn_assign (S.tm rfl)) rfl ?_; clear S; intro a S
 refine l_done (then_n (wp_ret ?_))
 subst h
 exact f_ret S Tryz.results21 rfl rfl
theorem tumbref2_isFor_ok (w : World) (p_k : GKind) (q_p_k : R57) (hq_p_k : rel_57 (view w []) p_k q_p_k) (p_s : GStep) (r : Bool) (h : tumbref2_isFor p_k p_s = r) :
    Calls Tryz.prog 64 [.agg (R57.enc q_p_k).toArray, .agg (GStep.enc p_s).toArray].toArray w (Ret w [] fun _ v _ => v = bV r) := by
 obtain ⟨u1, rfl, hs1⟩ := hq_p_k
 refine f_enter [] [] Tryz.func64 rfl Tryz.ntmps64 rfl (by simp) (by simp [fps]) (by simp [fps]) fun a S => ?_
 unfold tumbref2_isFor at h
 replace S := S.nk [] [(0, .agg #[sV p_k.Key, sV p_k.Race, u1.val, iV p_k.Young, iV p_k.Old]), (1, .agg (GStep.enc p_s).toArray)] [] rfl (subR rfl)
 refine f_seq (f_region (l_box S (S.tm rfl) (cs := [sV p_k.Key, sV p_k.Race, u1.val, iV p_k.Young, iV p_k.Old]) rfl rfl ?_)); clear S; intro a w1 b1 hz1 hk1 S
 refine l_box S (S.tm rfl) (cs := (GStep.enc p_s)) rfl rfl ?_; clear S; intro a w2 b2 hz2 hk2 S
 refine lv S (rn_assign rfl) rfl ?_; clear S; intro a S
 refine l_done (then_n (f_seq (f_region (lv S (rn_fld fa_34_5 (S.tm rfl)) rfl ?_)))); clear S; intro a S
 refine lv S (rn_load Tryz.isAgg9 (S.tm rfl) (S.cell (i := 0) rfl rfl)) rfl ?_; clear S; intro a S
 refine lv S (rn_fld fa_57_1 (S.tm rfl)) rfl ?_; clear S; intro a S
 refine lv S (rn_load Tryz.isAgg9 (S.tm rfl) (S.cell (i := 1) rfl rfl)) rfl ?_; clear S; intro a S
 refine lv S (rn_seql (S.tm rfl) (S.tm rfl)) rfl ?_; clear S; intro a S
 refine lv S (rn_move (S.tm rfl)) rfl ?_; clear S; intro a S
 refine f_cutm 12 (fun a w' => Keep [] w2 w' ∧ Sx w [] nov [.blk b2 (GStep.enc p_s) 34, .blk b1 [sV p_k.Key, sV p_k.Race, u1.val, iV p_k.Young, iV p_k.Old] 57] [(2, .pointer (some ⟨b1, 0, none⟩)), (3, .pointer (some ⟨b2, 0, none⟩)), (22, bV ((decide (p_s.Race = p_k.Race)) && ((decide ((p_k.Clubs.length : Int) = 0)) || (slices_Contains_string p_k.Clubs p_s.Club))))] 32 a w') ?_ ?_
 ·rcases Bool.eq_false_or_eq_true (decide (p_s.Race = p_k.Race)) with hb1 | hb1
  ·refine l_want S rfl rfl rfl hb1 (lv S (rn_fld fa_57_2 (S.tm rfl)) rfl ?_); clear S; intro a S
   refine l_want S rfl rfl rfl hb1 (lv S (rn_load Tryz.isAgg37 (S.tm rfl) (S.cell (i := 1) rfl rfl)) rfl ?_); clear S; intro a S
   refine l_want S rfl rfl rfl hb1 (lv S (rn_lenT sl_37 (S.tm rfl) (slc_len hs1)) rfl ?_); clear S; intro a S
   refine l_want S rfl rfl rfl hb1 (lv S (rn_eql (S.tm rfl) rfl) rfl ?_); clear S; intro a S
   refine l_want S rfl rfl rfl hb1 (lv S (rn_move (S.tm rfl)) rfl ?_); clear S; intro a S
   refine f_cutm 6 (fun a w' => Keep [] w2 w' ∧ Sx w [] nov [.blk b2 (GStep.enc p_s) 34, .blk b1 [sV p_k.Key, sV p_k.Race, u1.val, iV p_k.Young, iV p_k.Old] 57] [(2, .pointer (some ⟨b1, 0, none⟩)), (3, .pointer (some ⟨b2, 0, none⟩)), (10, bV (decide (p_s.Race = p_k.Race))), (21, bV ((decide ((p_k.Clubs.length : Int) = 0)) || (slices_Contains_string p_k.Clubs p_s.Club)))] 32 a w') ?_ ?_
   ·rcases Bool.eq_false_or_eq_true (decide ((p_k.Clubs.length : Int) = 0)) with hb2 | hb2
    ·iterate 5 (refine l_skip S rfl rfl rfl (neq_t hb2) rfl ?_ rfl; clear S; intro a S)
     refine l_want S rfl rfl rfl hb1 (lv S (rn_or_t (slices_Contains_string p_k.Clubs p_s.Club) hb2 (S.tm rfl) rfl) rfl ?_); clear S; intro a S
     refine l_done (then_n ?_)
     exact ⟨Keep.refl _ _, S.nf [true, true] rfl (subR rfl)⟩
    ·refine l_want S rfl rfl rfl hb2 (lv S (rn_fld fa_57_2 (S.tm rfl)) rfl ?_); clear S; intro a S
     refine l_want S rfl rfl rfl hb2 (lv S (rn_load Tryz.isAgg37 (S.tm rfl) (S.cell (i := 1) rfl rfl)) rfl ?_); clear S; intro a S
     refine l_want S rfl rfl rfl hb2 (lv S (rn_fld fa_34_4 (S.tm rfl)) rfl ?_); clear S; intro a S
     refine l_want S rfl rfl rfl hb2 (lv S (rn_load Tryz.isAgg9 (S.tm rfl) (S.cell (i := 0) rfl rfl)) rfl ?_); clear S; intro a S
     refine l_want S rfl rfl rfl hb2 (l_enter S (fun _ => run_call (vs := [u1.val, sV p_s.Club]) ⟨(S.tm rfl), (S.tm rfl), trivial⟩ Tryz.call79) (slices_Contains_string_ok _ u1.val p_k.Clubs (hs1.mono (S.le_arg nil_sub)) p_s.Club _ rfl) rfl ?_); clear S; intro v1 a w5 hv1 hk3 hn1 S
     subst hv1
     refine l_want S rfl rfl rfl hb1 (lv S (rn_or_f hb2 (S.tm rfl) (S.tm rfl)) rfl ?_); clear S; intro a S
     refine l_done (then_n ?_)
     exact ⟨hk3, S.nf [true, true] rfl (subR rfl)⟩
   clear S; rintro a w4 ⟨hk4, S⟩
   refine lv S (rn_and_t hb1 (S.tm rfl) (S.tm rfl)) rfl ?_; clear S; intro a S
   refine l_done (then_n ?_)
   exact ⟨hk4, S.nf [true, true] rfl (subR rfl)⟩
  ·iterate 5 (refine l_skip S rfl rfl rfl (neq_f hb1) rfl ?_ rfl; clear S; intro a S)
   iterate 5 (refine l_skipU S rfl rfl rfl rfl ?_; clear S; intro a S)
   refine l_skip S rfl rfl rfl (neq_f hb1) rfl ?_ rfl; clear S; intro a S
   refine lv S (rn_and_f ((decide ((p_k.Clubs.length : Int) = 0)) || (slices_Contains_string p_k.Clubs p_s.Club)) hb1 (S.tm rfl) rfl) rfl ?_; clear S; intro a S
   refine l_done (then_n ?_)
   exact ⟨Keep.refl _ _, S.nf [true, true] rfl (subR rfl)⟩
 clear S; rintro a w3 ⟨hk5, S⟩
 refine lv S (rn_move (S.tm rfl)) rfl ?_; clear S; intro a S
 refine f_cutm 8 (fun a w' => Keep [] w3 w' ∧ Sx w [] nov [.blk b2 (GStep.enc p_s) 34, .blk b1 [sV p_k.Key, sV p_k.Race, u1.val, iV p_k.Young, iV p_k.Old] 57] [(31, bV (((decide (p_s.Race = p_k.Race)) && ((decide ((p_k.Clubs.length : Int) = 0)) || (slices_Contains_string p_k.Clubs p_s.Club))) && (tumbref2_in p_s.Age p_k.Young p_k.Old)))] 32 a w') ?_ ?_
 ·rcases Bool.eq_false_or_eq_true ((decide (p_s.Race = p_k.Race)) && ((decide ((p_k.Clubs.length : Int) = 0)) || (slices_Contains_string p_k.Clubs p_s.Club))) with hb3 | hb3
  ·refine l_want S rfl rfl rfl hb3 (lv S (rn_fld fa_34_6 (S.tm rfl)) rfl ?_); clear S; intro a S
   refine l_want S rfl rfl rfl hb3 (lv S (rn_load Tryz.isAgg3 (S.tm rfl) (S.cell (i := 0) rfl rfl)) rfl ?_); clear S; intro a S
   refine l_want S rfl rfl rfl hb3 (lv S (rn_fld fa_57_3 (S.tm rfl)) rfl ?_); clear S; intro a S
   refine l_want S rfl rfl rfl hb3 (lv S (rn_load Tryz.isAgg3 (S.tm rfl) (S.cell (i := 1) rfl rfl)) rfl ?_); clear S; intro a S
   refine l_want S rfl rfl rfl hb3 (lv S (rn_fld fa_57_4 (S.tm rfl)) rfl ?_); clear S; intro a S
   refine l_want S rfl rfl rfl hb3 (lv S (rn_load Tryz.isAgg3 (S.tm rfl) (S.cell (i := 1) rfl rfl)) rfl ?_); clear S; intro a S
   refine l_want S rfl rfl rfl hb3 (l_enter S (fun _ => run_call (vs := [iV p_s.Age, iV p_k.Young, iV p_k.Old]) ⟨(S.tm rfl), (S.tm rfl), (S.tm rfl), trivial⟩ Tryz.call53) (tumbref2_in_ok _ p_s.Age p_k.Young p_k.Old _ rfl) rfl ?_); clear S; intro v2 a w7 hv2 hk6 hn2 S
   subst hv2
   refine lv S (rn_and_t hb3 (S.tm rfl) (S.tm rfl)) rfl ?_; clear S; intro a S
   refine l_done (then_n ?_)
   exact ⟨hk6, S.nf [true, true] rfl ⟨rfl, trivial⟩⟩
  ·iterate 7 (refine l_skip S rfl rfl rfl (neq_f hb3) rfl ?_ rfl; clear S; intro a S)
   refine lv S (rn_and_f (tumbref2_in p_s.Age p_k.Young p_k.Old) hb3 (S.tm rfl) rfl) rfl ?_; clear S; intro a S
   refine l_done (then_n ?_)
   exact ⟨Keep.refl _ _, S.nf [true, true] rfl ⟨rfl, trivial⟩⟩
 clear S; rintro a w6 ⟨hk7, S⟩
 refine lv S (rn_assign (S.tm rfl)) rfl ?_; clear S; intro a S
 refine l_done (then_n (wp_ret ?_))
 subst h
 exact f_ret S Tryz.results64 rfl rfl
set_option maxRecDepth 20000 in
theorem tumbref2_valid_ok (w : World) (p_k : GKind) (q_p_k : R57) (hq_p_k : rel_57 (view w []) p_k q_p_k) (v_p_l : Value) (p_l : List GStep) (hs_p_l : Slc (view w []) 8 v_p_l (p_l.map GStep.enc)) (p_at : Int) (r : (List GBest)) (h : tumbref2_valid p_k p_l p_at = some r) :
    Calls Tryz.prog 65 [.agg (R57.enc q_p_k).toArray, v_p_l, iV p_at].toArray w (Ret w [] fun τ v _ => OwnV τ 80 6 v r.length (r.flatMap GBest.enc)) := by
 obtain ⟨u1, rfl, hs1⟩ := hq_p_k
 refine f_enter [] [] Tryz.func65 rfl Tryz.ntmps65 rfl (by simp) (by simp [fps]) (by simp [fps]) fun a S => ?_
 unfold tumbref2_valid at h
 replace S := S.nk [] [(0, .agg #[sV p_k.Key, sV p_k.Race, u1.val, iV p_k.Young, iV p_k.Old]), (1, v_p_l), (2, iV p_at)] [] rfl (subR rfl)
 refine f_seq (f_region (l_box S (S.tm rfl) (cs := [sV p_k.Key, sV p_k.Race, u1.val, iV p_k.Young, iV p_k.Old]) rfl rfl ?_)); clear S; intro a w1 b1 hz1 hk1 S
 refine lv S (rn_assign rfl) rfl ?_; clear S; intro a S
 refine l_done (then_n (f_seq (f_region (lv S (rn_assign rfl) rfl ?_)))); clear S; intro a S
 replace S := S.nil 80 6
 refine l_done (then_n (f_seq (f_seq (f_region (lv S (rn_move (S.tm rfl)) rfl ?_))))); clear S; intro a S
 refine lv S (rn_move (S.tm rfl)) rfl ?_; clear S; intro a S
 obtain ⟨r1, hr1, h⟩ := bindE h
 have hz2 := S.keep.size
 refine l_enter S (fun _ => run_call (vs := [v_p_l, iV p_at]) ⟨(S.tm rfl), (S.tm rfl), trivial⟩ Tryz.call56) (tumbref2_swumBy_ok _ v_p_l p_l (hs_p_l.mono (S.le_arg nil_sub)) p_at _ hr1) rfl ?_; clear S; intro v1 a w2 hv1 hk2 hn1 S
 obtain ⟨φ1, hl1, hm1, S⟩ := S.see' hn1 hz2
 have hs2 := hv1.mono hm1
 refine lv S (rn_lenT sl_28 (S.tm rfl) (slc_len (ownV_slcT GStep.enc_ok hs2))) rfl ?_; clear S; intro a S
 refine lv S (rn_move rfl) rfl ?_; clear S; intro a S
 refine l_done (then_n ?_)
 replace S := S.nk [.own (.slice none 0 0) 80 6 ([] : List GBest).length (([] : List GBest).flatMap GBest.enc), .blk b1 [sV p_k.Key, sV p_k.Race, u1.val, iV p_k.Young, iV p_k.Old] 57] [(1, v_p_l), (2, iV p_at), (3, .pointer (some ⟨b1, 0, none⟩)), (7, (.slice none 0 0)), (13, v1), (14, iV (r1.length : Int)), (15, iV 0)] [true, true] rfl (subR rfl)
 obtain ⟨j1, hj1, h⟩ := joinE h
 refine f_join (fun a w' => ∃ x1 : List GBest, ∃ φ2 : View, ∃ v2 : Value, j1 x1 = some r ∧ View.le φ1 φ2 ∧ Sx w [] φ2 [.own v2 80 6 x1.length (x1.flatMap GBest.enc), .blk b1 [sV p_k.Key, sV p_k.Race, u1.val, iV p_k.Young, iV p_k.Old] 57] [(7, v2)] 50 a w') ?_ ?_
 ·refine wp_block (f_loop (fun (ys1 : List GStep) a w' => ∃ i1 : Nat, ∃ x1 : List GBest, ∃ φ2 : View, ∃ v2 : Value, (∃ dn, r1 = dn ++ ys1 ∧ dn.length = i1) ∧ tumbref2_valid_l1 p_l p_at p_k j1 ys1 i1 x1 = some r ∧ View.le φ1 φ2 ∧ Sx w [] φ2 [.own v2 80 6 x1.length (x1.flatMap GBest.enc), .blk b1 [sV p_k.Key, sV p_k.Race, u1.val, iV p_k.Young, iV p_k.Old] 57] [(1, v_p_l), (2, iV p_at), (3, .pointer (some ⟨b1, 0, none⟩)), (7, v2), (13, v1), (14, iV (r1.length : Int)), (15, iV (i1 : Int))] 50 a w') List.length r1 ⟨0, ([] : List GBest), φ1, (.slice none 0 0), ⟨[], rfl, rfl⟩, h, View.le_refl _, S.nf [true, true] rfl (subR rfl)⟩ ?_)
  clear S h; rintro ys1 a w3 ⟨i1, x1, φ2, v2, ⟨dn, hd1, hi1⟩, h, hl2, S⟩
  cases ys1 with
  | nil =>
   rw [tumbref2_valid_l1.eq_1] at h
   refine f_seq (f_region (lv S (rn_lss (S.tm rfl) (S.tm rfl)) rfl ?_)); clear S; intro a S
   refine l_done ?_
   replace S := S.nk [.own v2 80 6 x1.length (x1.flatMap GBest.enc), .blk b1 [sV p_k.Key, sV p_k.Race, u1.val, iV p_k.Young, iV p_k.Old] 57] [(1, v_p_l), (2, iV p_at), (3, .pointer (some ⟨b1, 0, none⟩)), (7, v2), (13, v1), (14, iV (r1.length : Int)), (15, iV (i1 : Int)), (16, bV (decide ((i1 : Int) < (r1.length : Int))))] [true, true] rfl (subR rfl)
   refine then_n (f_seq (wp_cond_false ((S.tm rfl).trans (congrArg Value.bool (rng_nil hd1 hi1))) (wp_exit (then_x (then_x (x_same ?_))))))
   refine then_n ?_
   exact ⟨x1, φ2, v2, h, hl2, S.nf [true, true] rfl ⟨rfl, trivial⟩⟩
  | cons y1 ys1 =>
   rw [tumbref2_valid_l1.eq_2] at h
   refine f_seq (f_region (lv S (rn_lss (S.tm rfl) (S.tm rfl)) rfl ?_)); clear S; intro a S
   refine l_done ?_
   replace S := S.nk [.own v2 80 6 x1.length (x1.flatMap GBest.enc), .blk b1 [sV p_k.Key, sV p_k.Race, u1.val, iV p_k.Young, iV p_k.Old] 57] [(1, v_p_l), (2, iV p_at), (3, .pointer (some ⟨b1, 0, none⟩)), (7, v2), (13, v1), (14, iV (r1.length : Int)), (15, iV (i1 : Int)), (16, bV (decide ((i1 : Int) < (r1.length : Int))))] [true, true] rfl (subR rfl)
   refine then_n (f_seq (wp_cond_true ((S.tm rfl).trans (congrArg Value.bool (rng_cons hd1 hi1))) (wp_skip (then_n (f_seq ?_)))))
   obtain ⟨j2, hj2, h⟩ := joinE h
   refine f_join (fun a w' => ∃ x2 : List GBest, ∃ φ3 : View, ∃ v3 : Value, j2 x2 = some r ∧ View.le φ2 φ3 ∧ Sx w [] φ3 [.own v3 80 6 x2.length (x2.flatMap GBest.enc), .blk b1 [sV p_k.Key, sV p_k.Race, u1.val, iV p_k.Young, iV p_k.Old] 57] [(1, v_p_l), (2, iV p_at), (3, .pointer (some ⟨b1, 0, none⟩)), (7, v3), (13, v1), (14, iV (r1.length : Int)), (15, iV (i1 : Int))] 50 a w') ?_ ?_
   ·refine wp_block (f_seq (f_region ?_))
    obtain ⟨b2, o1, hm2, hr2⟩ := rn_indexT (a := a) (x := .tmp 13) (y := .tmp 15) (ty := 0) sl_28 (ownV_slcT GStep.enc_ok hs2) (get_mid hd1 hi1) rfl (S.tm rfl) (S.tm rfl)
    refine lv S (hr2 _) rfl ?_; clear S; intro a S
    clear hr2
    refine lv S (rn_ldA Tryz.isAgg34 Tryz.sizeOf34 (off := o1) (o := 0) (part := (GStep.enc y1)) rfl rfl (S.tm rfl) ((hm2.mono hl2).at S.emb)) rfl ?_; clear S; intro a S
    refine l_alloc S Tryz.zeroValue34 (cs := [iV 0, iV 0, sV k_empty, sV k_empty, sV k_empty, sV k_empty, iV 0, iV 0]) rfl rfl ?_; clear S; intro a w6 b3 hz3 hk3 S
    refine l_store S (S.tm rfl) (S.tm rfl) (i := 0) (off := 0) rfl Tryz.sizeOf34 (vs := (GStep.enc y1)) rfl rfl rfl rfl ?_; clear S; intro w7 hk4 S
    refine l_done (then_n (f_seq ?_))
    obtain ⟨r2, hr3, h⟩ := bindE h
    refine d_region [] ([]) Tryz.mixed S rfl (by kernel_rfl) ?_; clear S; intro w10 hk7 hsel S
    refine d_quiet 0 S hsel rfl rfl rfl (by kernel_rfl) (by kernel_rfl) rfl (fun _ hw => (rn_move (S.tm rfl))) ?_; clear S; intro a S
    refine d_quiet 1 S hsel rfl rfl rfl (by kernel_rfl) (by kernel_rfl) rfl (fun _ hw => (rn_move (S.tm rfl))) ?_; clear S; intro a S
    refine d_quiet 3 S hsel rfl rfl rfl (by kernel_rfl) (by kernel_rfl) rfl (fun _ hw => (rn_fld fa_34_2 (S.tm rfl))) ?_; clear S; intro a S
    refine d_quiet 4 S hsel rfl rfl rfl (by kernel_rfl) (by kernel_rfl) rfl (fun _ hw => (rn_ld Tryz.isAgg9 (off := 0) (o := 2) (S.tm rfl) ((S.blk_mem (i := 0) (cells := (GStep.enc y1)) (b := b3) (T := 34) rfl (ne_nil (e' := .blk b3 (GStep.enc y1) 34))).kept hw) rfl)) ?_; clear S; intro a S
    refine d_loud1 2 (by kernel_rfl) rfl ?_
    have hz5 := S.keep.size
    refine l_enter S (fun _ => run_call (vs := [v_p_l, iV p_at]) ⟨(S.tm rfl), (S.tm rfl), trivial⟩ Tryz.call83) (tumbref2_upTo_ok _ v_p_l p_l (hs_p_l.mono (S.le_arg nil_sub)) p_at _ hr3) rfl ?_; clear S; intro v6 a w11 hv4 hk8 hn4 S
    obtain ⟨φ5, hl5, hm4, S⟩ := S.see' hn4 hz5
    have hs4 := hv4.mono hm4
    refine l_done (d_next hk8 (d_loud1 5 (by kernel_rfl) rfl (l_enter S (fun _ => run_call (vs := [v6, sV y1.Id]) ⟨(S.tm rfl), (S.tm rfl), trivial⟩ Tryz.call84) (tumbref2_stateOf_ok _ v6 r2 ((ownV_slcT GStep.enc_ok hs4).mono (S.le_new nil_sub)) y1.Id _ rfl) rfl ?_))); clear S; intro v7 a w12 hv5 hk9 hn5 S
    subst hv5
    refine l_done (d_next hk9 (d_rest [6] hsel (by kernel_rfl) rfl ?_))
    clear hsel
    refine s_lv S rfl (rn_assign (S.tm rfl)) rfl ?_; clear S; intro a S
    refine s_done ?_
    replace S := S.nk [.blk b3 (GStep.enc y1) 34, .own v2 80 6 x1.length (x1.flatMap GBest.enc), .blk b1 [sV p_k.Key, sV p_k.Race, u1.val, iV p_k.Young, iV p_k.Old] 57] [(1, v_p_l), (2, iV p_at), (3, .pointer (some ⟨b1, 0, none⟩)), (7, v2), (9, .pointer (some ⟨b3, 0, none⟩)), (10, iV (tumbref2_stateOf r2 y1.Id)), (13, v1), (14, iV (r1.length : Int)), (15, iV (i1 : Int))] [true, true, true] rfl (subR rfl)
    refine then_n (f_seq (f_region (lv S (rn_ldA Tryz.isAgg57 Tryz.sizeOf57 (off := 0) (o := 0) (part := [sV p_k.Key, sV p_k.Race, u1.val, iV p_k.Young, iV p_k.Old]) rfl rfl (S.tm rfl) (S.cellsAt (i := 2) rfl)) rfl ?_))); clear S; intro a S
    refine lv S (rn_ldA Tryz.isAgg34 Tryz.sizeOf34 (off := 0) (o := 0) (part := (GStep.enc y1)) rfl rfl (S.tm rfl) (S.cellsAt (i := 0) rfl)) rfl ?_; clear S; intro a S
    refine l_enter S (fun _ => run_call (vs := [.agg (R57.enc (R57.mk p_k.Key p_k.Race u1 p_k.Young p_k.Old)).toArray, .agg (GStep.enc y1).toArray]) ⟨(S.tm rfl), (S.tm rfl), trivial⟩ Tryz.call64) (tumbref2_isFor_ok _ p_k (R57.mk p_k.Key p_k.Race u1 p_k.Young p_k.Old) ⟨u1, rfl, (hs1.mono (S.le_arg nil_sub))⟩ y1 _ rfl) rfl ?_; clear S; intro v8 a w13 hv6 hk10 hn6 S
    subst hv6
    refine lv S (rn_move (S.tm rfl)) rfl ?_; clear S; intro a S
    refine f_cutm 3 (fun a w' => Keep [] w13 w' ∧ Sx w [] φ5 [.blk b3 (GStep.enc y1) 34, .own v2 80 6 x1.length (x1.flatMap GBest.enc), .blk b1 [sV p_k.Key, sV p_k.Race, u1.val, iV p_k.Young, iV p_k.Old] 57] [(1, v_p_l), (2, iV p_at), (3, .pointer (some ⟨b1, 0, none⟩)), (7, v2), (9, .pointer (some ⟨b3, 0, none⟩)), (10, iV (tumbref2_stateOf r2 y1.Id)), (13, v1), (14, iV (r1.length : Int)), (15, iV (i1 : Int)), (31, bV ((tumbref2_isFor p_k y1) && (!decide ((tumbref2_stateOf r2 y1.Id) = 3))))] 50 a w') ?_ ?_
    ·rcases Bool.eq_false_or_eq_true (tumbref2_isFor p_k y1) with hb1 | hb1
     ·refine l_want S rfl rfl rfl hb1 (lv S (rn_move (S.tm rfl)) rfl ?_); clear S; intro a S
      refine l_want S rfl rfl rfl hb1 (lv S (rn_neq (S.tm rfl) rfl) rfl ?_); clear S; intro a S
      refine lv S (rn_and_t hb1 (S.tm rfl) (S.tm rfl)) rfl ?_; clear S; intro a S
      refine l_done (then_n ?_)
      exact ⟨Keep.refl _ _, S.nf [true, true, true] rfl (subR rfl)⟩
     ·refine l_skip S rfl rfl rfl (neq_f hb1) rfl ?_ rfl; clear S; intro a S
      refine l_skip S rfl rfl rfl (neq_f hb1) rfl ?_ rfl; clear S; intro a S
      refine lv S (rn_and_f (!decide ((tumbref2_stateOf r2 y1.Id) = 3)) hb1 (S.tm rfl) rfl) rfl ?_; clear S; intro a S
      refine l_done (then_n ?_)
      exact ⟨Keep.refl _ _, S.nf [true, true, true] rfl (subR rfl)⟩
    clear S; rintro a w14 ⟨hk11, S⟩
    refine l_done (then_n ?_)
    obtain ⟨j3, hj3, h⟩ := joinE h
    refine f_join (fun a w' => ∃ x3 : List GBest, ∃ v9 : Value, j3 x3 = some r ∧ Sx w [] φ5 [.own v9 80 6 x3.length (x3.flatMap GBest.enc), .blk b1 [sV p_k.Key, sV p_k.Race, u1.val, iV p_k.Young, iV p_k.Old] 57] [(1, v_p_l), (2, iV p_at), (3, .pointer (some ⟨b1, 0, none⟩)), (7, v9), (13, v1), (14, iV (r1.length : Int)), (15, iV (i1 : Int))] 50 a w') ?_ ?_
    ·refine f_cond (S.tm rfl) (fun hb2 => ?_) (fun hb2 => ?_)
     ·replace h := iteT h hb2
      refine f_region (lv S (rn_move (S.tm rfl)) rfl ?_); clear S; intro a S
      refine lv S (rn_fld fa_57_0 (S.tm rfl)) rfl ?_; clear S; intro a S
      refine lv S (rn_load Tryz.isAgg9 (S.tm rfl) (S.cell (i := 2) rfl rfl)) rfl ?_; clear S; intro a S
      refine lv S (rn_fld fa_34_2 (S.tm rfl)) rfl ?_; clear S; intro a S
      refine lv S (rn_load Tryz.isAgg9 (S.tm rfl) (S.cell (i := 0) rfl rfl)) rfl ?_; clear S; intro a S
      refine lv S (rn_fld fa_34_3 (S.tm rfl)) rfl ?_; clear S; intro a S
      refine lv S (rn_load Tryz.isAgg9 (S.tm rfl) (S.cell (i := 0) rfl rfl)) rfl ?_; clear S; intro a S
      refine lv S (rn_fld fa_34_7 (S.tm rfl)) rfl ?_; clear S; intro a S
      refine lv S (rn_load Tryz.isAgg3 (S.tm rfl) (S.cell (i := 0) rfl rfl)) rfl ?_; clear S; intro a S
      refine lv S (rn_fld fa_34_0 (S.tm rfl)) rfl ?_; clear S; intro a S
      refine lv S (rn_load Tryz.isAgg3 (S.tm rfl) (S.cell (i := 0) rfl rfl)) rfl ?_; clear S; intro a S
      refine lv S (rn_move (S.tm rfl)) rfl ?_; clear S; intro a S
      refine lv S (rn_eql (S.tm rfl) rfl) rfl ?_; clear S; intro a S
      refine lv S (rn_bld bt_80 (pv := [(0, sV p_k.Key), (1, sV y1.Id), (2, sV y1.Who), (3, iV y1.Time), (4, iV y1.At), (5, bV (decide ((tumbref2_stateOf r2 y1.Id) = 2)))]) ⟨rfl, (S.tm rfl), rfl, (S.tm rfl), rfl, (S.tm rfl), rfl, (S.tm rfl), rfl, (S.tm rfl), rfl, (S.tm rfl), trivial⟩ (cs := [sV p_k.Key, sV y1.Id, sV y1.Who, iV y1.Time, iV y1.At, bV (decide ((tumbref2_stateOf r2 y1.Id) = 2))]) (by kernel_rfl)) rfl ?_; clear S; intro a S
      refine l_buildSlice S Tryz.underlying78 Tryz.sizeOf80 Tryz.zeroValue80 rfl rfl (pv := [(0, .agg #[sV p_k.Key, sV y1.Id, sV y1.Who, iV y1.Time, iV y1.At, bV (decide ((tumbref2_stateOf r2 y1.Id) = 2))])]) ⟨rfl, (S.tm rfl), trivial⟩ (cs := [sV p_k.Key, sV y1.Id, sV y1.Who, iV y1.Time, iV y1.At, bV (decide ((tumbref2_stateOf r2 y1.Id) = 2))]) (by kernel_rfl) rfl ?_; clear S; intro a w16 b4 hz6 hk12 S
      obtain ⟨hc1, h⟩ := chkE h
      refine l_appendT sl_78 GBest.enc_ok S (S.tm rfl) (i := 2) rfl (S.tm rfl) (j := 0) rfl (ys := [(GBest.mk p_k.Key y1.Id y1.Who y1.Time y1.At (decide ((tumbref2_stateOf r2 y1.Id) = 2)))]) rfl rfl rfl rfl (by have := room_lt hc1; omega) rfl ?_; clear S; intro v10 a w17 hk13 S
      refine lv S (rn_assign (S.tm rfl)) rfl ?_; clear S; intro a S
      refine l_done ?_
      replace S := S.nk [.own v10 80 6 (x1 ++ [(GBest.mk p_k.Key y1.Id y1.Who y1.Time y1.At (decide ((tumbref2_stateOf r2 y1.Id) = 2)))]).length ((x1 ++ [(GBest.mk p_k.Key y1.Id y1.Who y1.Time y1.At (decide ((tumbref2_stateOf r2 y1.Id) = 2)))]).flatMap GBest.enc), .blk b1 [sV p_k.Key, sV p_k.Race, u1.val, iV p_k.Young, iV p_k.Old] 57] [(1, v_p_l), (2, iV p_at), (3, .pointer (some ⟨b1, 0, none⟩)), (7, v10), (13, v1), (14, iV (r1.length : Int)), (15, iV (i1 : Int))] [false, false, true, true] rfl (subR rfl)
      refine then_n ?_
      exact ⟨(x1 ++ [(GBest.mk p_k.Key y1.Id y1.Who y1.Time y1.At (decide ((tumbref2_stateOf r2 y1.Id) = 2)))]), v10, h, S.nf [true, true] rfl (subR rfl)⟩
     ·replace h := iteF h hb2
      refine wp_skip (then_n ?_)
      exact ⟨x1, v2, h, S.nf [false, true, true] rfl (subR rfl)⟩
    clear S h; rintro a w15 ⟨x3, v9, h, S⟩; rw [hj3] at h; clear hj3 j3
    refine blk_n (then_n ?_)
    exact ⟨x3, φ5, v9, h, hl5, S.nf [true, true] rfl (subR rfl)⟩
   clear S h; rintro a w5 ⟨x2, φ3, v3, h, hl3, S⟩; rw [hj2] at h; clear hj2 j2
   refine then_n (f_region (lv S (rn_add (S.tm rfl) rfl) rfl ?_)); clear S; intro a S
   refine lv S (rn_move (S.tm rfl)) rfl ?_; clear S; intro a S
   refine l_done (then_n ?_)
   exact ⟨ys1, ⟨i1 + 1, x2, φ3, v3, ⟨_, (hd1).trans (List.append_cons _ _ _), by simp [hi1]⟩, h, (View.le_trans hl2 hl3), S.nf [true, true] rfl ⟨rfl, rfl, rfl, rfl, rfl, rfl, (congrArg (fun z => some (Value.int .i64 z)) (rng_next hd1 hi1 (slc_max (ownV_slcT GStep.enc_ok hs2)))), trivial⟩⟩, Nat.lt_succ_self _⟩
 clear S h; rintro a w4 ⟨x1, φ2, v2, h, hl2, S⟩; rw [hj1] at h; clear hj1 j1
 refine then_n (f_seq (f_region (lv S (rn_move (S.tm rfl)) rfl ?_))); clear S; intro a S
 refine lv S (rn_assign (S.tm rfl)) rfl ?_; clear S; intro a S
 refine l_done (then_n (wp_ret ?_))
 obtain rfl := Option.some.inj h
 exact f_ret S Tryz.results65 rfl (own_retT S (i := 0) rfl rfl)
theorem slices_Clone_Best_ok (w : World) (v_p_s : Value) (p_s : List GBest) (hs_p_s : Slc (view w []) 6 v_p_s (p_s.map GBest.enc)) (r : (List GBest)) (h : slices_Clone_Best p_s = some r) :
    Calls Tryz.prog 86 [v_p_s].toArray w (Ret w [] fun τ v _ => OwnV τ 80 6 v r.length (r.flatMap GBest.enc)) := by
 refine f_enter [] [] Tryz.func86 rfl Tryz.ntmps86 rfl (by simp) (by simp [fps]) (by simp [fps]) fun a S => ?_
 unfold slices_Clone_Best at h
 replace S := S.nk [] [(0, v_p_s)] [] rfl ⟨rfl, trivial⟩
 refine f_seq (f_region (lv S (rn_assign rfl) rfl ?_)); clear S; intro a S
 refine l_done (then_n (f_seq (f_seq (f_region (lv S (rn_move (S.tm rfl)) rfl ?_))))); clear S; intro a S
 refine lv S (rn_nileq Tryz.underlying78 (slc_len hs_p_s) (S.tm rfl) rfl) rfl ?_; clear S; intro a S
 refine l_done (then_n (f_cond (S.tm rfl) (fun hb1 => ?_) (fun hb1 => ?_)))
 ·have hx1 := slc_nilB hs_p_s hb1
  subst hx1
  replace h : some ([] : List GBest) = some r := h
  refine f_seq (f_region (lv S (rn_assign rfl) rfl ?_)); clear S; intro a S
  refine l_done (then_n (wp_ret (then_r ?_)))
  obtain rfl := Option.some.inj h
  exact f_ret S Tryz.results86 rfl (ownV_nil _ _ _)
 ·refine wp_skip (then_n (f_seq (f_region (l_buildSlice0 S Tryz.underlying78 Tryz.sizeOf80 rfl ?_)))); clear S; intro a w1 b1 hz1 hk1 S
  refine lv S (rn_move (S.tm rfl)) rfl ?_; clear S; intro a S
  replace S := S.litOwn (i := 0) (xs := ([] : List GBest)) rfl GBest.enc_ok rfl rfl rfl
  replace S := S.nk [.own (.slice (some ⟨b1, 0, none⟩) 0 0) 80 6 (([] : List GBest) : List GBest).length ((([] : List GBest) : List GBest).flatMap GBest.enc)] [(0, v_p_s), (2, .slice none 0 0), (3, v_p_s), (4, bV (nilB v_p_s)), (5, (.slice (some ⟨b1, 0, none⟩) 0 0)), (6, v_p_s)] [] rfl (subR rfl)
  obtain ⟨hc1, h⟩ := chkE h
  refine l_appendS (Y := []) sl_78 GBest.enc_ok S (S.tm rfl) (i := 0) rfl (S.tm rfl) (hs_p_s.mono (S.le_arg (fun _ h => by cases h))) rfl rfl (by have := room_lt hc1; omega) rfl ?_; clear S; intro v1 a w2 hk2 S
  refine lv S (rn_assign (S.tm rfl)) rfl ?_; clear S; intro a S
  refine l_done (then_n (wp_ret ?_))
  obtain rfl := Option.some.inj h
  exact f_ret S Tryz.results86 rfl (own_retT S (i := 0) rfl rfl)
theorem tumbref2_RecordOf_c1_c1_ok (w : World) (p_o : GBest) (b_p_a1 : Nat) (p_a1 : GBest) (hb_b_p_a1 : (view w []) b_p_a1 = some (.cells [sV p_a1.Kind, sV p_a1.Id, sV p_a1.Who, iV p_a1.Time, iV p_a1.Since, bV p_a1.Sure].toArray 80 (0, 0))) (r : Bool) (h : tumbref2_RecordOf_c1_c1 p_o p_a1 = r) :
    Calls Tryz.prog 88 [.agg (GBest.enc p_o).toArray, .pointer (some ⟨b_p_a1, 0, none⟩)].toArray w (Ret w [] fun _ v _ => v = bV r) := by
 refine f_enter [] [] Tryz.func88 rfl Tryz.ntmps88 rfl (by simp) (by simp [fps]) (by simp [fps]) fun a S => ?_
 unfold tumbref2_RecordOf_c1_c1 at h
 replace S := S.nk [] [(0, .agg (GBest.enc p_o).toArray), (1, .pointer (some ⟨b_p_a1, 0, none⟩))] [] rfl (subR rfl)
 refine f_seq (f_region (l_box S (S.tm rfl) (cs := (GBest.enc p_o)) rfl rfl ?_)); clear S; intro a w1 b1 hz1 hk1 S
 refine lv S (rn_assign rfl) rfl ?_; clear S; intro a S
 refine l_done (then_n (f_seq (f_region (lv S (rn_fld fa_80_3 (S.tm rfl)) rfl ?_)))); clear S; intro a S
 refine lv S (rn_load Tryz.isAgg3 (S.tm rfl) (S.cell (i := 0) rfl rfl)) rfl ?_; clear S; intro a S
 refine lv S (rn_fld fa_80_3 (S.tm rfl)) rfl ?_; clear S; intro a S
 refine lv S (rn_ld Tryz.isAgg3 (off := 0) (o := 3) (S.tm rfl) ((mem_blk hb_b_p_a1).at S.emb0) rfl) rfl ?_; clear S; intro a S
 refine lv S (rn_lss (S.tm rfl) (S.tm rfl)) rfl ?_; clear S; intro a S
 refine lv S (rn_assign (S.tm rfl)) rfl ?_; clear S; intro a S
 refine l_done (then_n (wp_ret ?_))
 subst h
 exact f_ret S Tryz.results88 rfl rfl
theorem slices_IndexFunc_Best_tumbref2_RecordOf_c1_c1_ok (w : World) (v_p_s : Value) (p_s : List GBest) (hs_p_s : Slc (view w []) 6 v_p_s (p_s.map GBest.enc)) (b_p_f_0 : Nat) (p_f_0 : GBest) (hb_b_p_f_0 : (view w []) b_p_f_0 = some (.cells [sV p_f_0.Kind, sV p_f_0.Id, sV p_f_0.Who, iV p_f_0.Time, iV p_f_0.Since, bV p_f_0.Sure].toArray 80 (0, 0))) (r : Int) (h : slices_IndexFunc_Best_tumbref2_RecordOf_c1_c1 p_s p_f_0 = r) :
    Calls Tryz.prog 47 [v_p_s, .func (.func 88) #[] #[.pointer (some ⟨b_p_f_0, 0, none⟩)]].toArray w (Ret w [] fun _ v _ => v = iV r) := by
 refine f_enter [] [] Tryz.func47 rfl Tryz.ntmps47 rfl (by simp) (by simp [fps]) (by simp [fps]) fun a S => ?_
 unfold slices_IndexFunc_Best_tumbref2_RecordOf_c1_c1 at h
 replace S := S.nk [] [(0, v_p_s), (1, .func (.func 88) #[] #[.pointer (some ⟨b_p_f_0, 0, none⟩)])] [] rfl (subR rfl)
 refine f_seq (f_region (lv S (rn_assign rfl) rfl ?_)); clear S; intro a S
 refine l_done (then_n (f_seq (f_seq (f_region (lv S (rn_move (S.tm rfl)) rfl ?_))))); clear S; intro a S
 refine lv S (rn_lenT sl_78 (S.tm rfl) (slc_len hs_p_s)) rfl ?_; clear S; intro a S
 refine lv S (rn_move rfl) rfl ?_; clear S; intro a S
 refine l_done (then_n ?_)
 replace S := S.nk [] [(0, v_p_s), (1, .func (.func 88) #[] #[.pointer (some ⟨b_p_f_0, 0, none⟩)]), (7, iV (p_s.length : Int)), (8, iV 0)] [] rfl (subR rfl)
 obtain ⟨j1, hj1, h⟩ := joinE h
 refine f_join (fun a w' => j1 = r ∧ Sx w [] nov [] [] 19 a w') ?_ ?_
 ·refine wp_block (f_loop (fun (ys1 : List GBest) a w' => ∃ i1 : Nat, (∃ dn, p_s = dn ++ ys1 ∧ dn.length = i1) ∧ slices_IndexFunc_Best_tumbref2_RecordOf_c1_c1_l1 p_f_0 j1 ys1 i1 = r ∧ Sx w [] nov [] [(0, v_p_s), (1, .func (.func 88) #[] #[.pointer (some ⟨b_p_f_0, 0, none⟩)]), (7, iV (p_s.length : Int)), (8, iV (i1 : Int))] 19 a w') List.length p_s ⟨0, ⟨[], rfl, rfl⟩, h, S.nf [] rfl (subR rfl)⟩ ?_)
  clear S h; rintro ys1 a w1 ⟨i1, ⟨dn, hd1, hi1⟩, h, S⟩
  cases ys1 with
  | nil =>
   rw [slices_IndexFunc_Best_tumbref2_RecordOf_c1_c1_l1.eq_1] at h
   refine f_seq (f_region (lv S (rn_lss (S.tm rfl) (S.tm rfl)) rfl ?_)); clear S; intro a S
   refine l_done ?_
   replace S := S.nk [] [(0, v_p_s), (1, .func (.func 88) #[] #[.pointer (some ⟨b_p_f_0, 0, none⟩)]), (7, iV (p_s.length : Int)), (8, iV (i1 : Int)), (9, bV (decide ((i1 : Int) < (p_s.length : Int))))] [] rfl (subR rfl)
   refine then_n (f_seq (wp_cond_false ((S.tm rfl).trans (congrArg Value.bool (rng_nil hd1 hi1))) (wp_exit (then_x (then_x (x_same ?_))))))
   refine then_n ?_
   exact ⟨h, S.nf [] rfl trivial⟩
  | cons y1 ys1 =>
   rw [slices_IndexFunc_Best_tumbref2_RecordOf_c1_c1_l1.eq_2] at h
   refine f_seq (f_region (lv S (rn_lss (S.tm rfl) (S.tm rfl)) rfl ?_)); clear S; intro a S
   refine l_done ?_
   replace S := S.nk [] [(0, v_p_s), (1, .func (.func 88) #[] #[.pointer (some ⟨b_p_f_0, 0, none⟩)]), (7, iV (p_s.length : Int)), (8, iV (i1 : Int)), (9, bV (decide ((i1 : Int) < (p_s.length : Int))))] [] rfl (subR rfl)
   refine then_n (f_seq (wp_cond_true ((S.tm rfl).trans (congrArg Value.bool (rng_cons hd1 hi1))) (wp_skip (then_n (f_seq (wp_block ?_))))))
   refine f_seq (f_region (lv S (rn_move (S.tm rfl)) rfl ?_)); clear S; intro a S
   refine lv S (rn_assign (S.tm rfl)) rfl ?_; clear S; intro a S
   refine l_done (then_n (f_seq (f_region (lv S (rn_move (S.tm rfl)) rfl ?_)))); clear S; intro a S
   refine lv S (rn_move (S.tm rfl)) rfl ?_; clear S; intro a S
   refine lv S (rn_move (S.tm rfl)) rfl ?_; clear S; intro a S
   obtain ⟨b1, o1, hm1, hr1⟩ := rn_indexT (a := a) (x := .tmp 12) (y := .tmp 13) (ty := 0) sl_78 hs_p_s (get_mid hd1 hi1) rfl (S.tm rfl) (S.tm rfl)
   refine lv S (hr1 _) rfl ?_; clear S; intro a S
   clear hr1
   refine lv S (rn_ldA Tryz.isAgg80 Tryz.sizeOf80 (off := o1) (o := 0) (part := (GBest.enc y1)) rfl rfl (S.tm rfl) (hm1.at S.emb0)) rfl ?_; clear S; intro a S
   refine l_enter S (fun _ => run_callV (cap := [.pointer (some ⟨b_p_f_0, 0, none⟩)]) (S.tm rfl) (vs := [.agg (GBest.enc y1).toArray]) ⟨(S.tm rfl), trivial⟩ Tryz.call88) (tumbref2_RecordOf_c1_c1_ok _ y1 b_p_f_0 p_f_0 ((S.le_arg nil_sub) _ _ hb_b_p_f_0) _ rfl) rfl ?_; clear S; intro v1 a w3 hv1 hk1 hn1 S
   subst hv1
   refine l_done (then_n (f_cond (S.tm rfl) (fun hb1 => ?_) (fun hb1 => ?_)))
   ·replace h := iteT h hb1
    refine f_seq (f_region (lv S (rn_move (S.tm rfl)) rfl ?_)); clear S; intro a S
    refine lv S (rn_assign (S.tm rfl)) rfl ?_; clear S; intro a S
    refine l_done ?_
    replace S := S.nk [] [(4, iV (i1 : Int))] [] rfl ⟨rfl, trivial⟩
    refine then_n (wp_ret (blk_r (then_r (then_r (blk_r (then_r ?_))))))
    refine then_r ?_
    subst h
    exact f_ret S Tryz.results47 rfl rfl
   ·replace h := iteF h hb1
    refine wp_skip (blk_n (then_n (f_region (lv S (rn_add (S.tm rfl) rfl) rfl ?_)))); clear S; intro a S
    refine lv S (rn_move (S.tm rfl)) rfl ?_; clear S; intro a S
    refine l_done (then_n ?_)
    exact ⟨ys1, ⟨i1 + 1, ⟨_, (hd1).trans (List.append_cons _ _ _), by simp [hi1]⟩, h, S.nf [] rfl ⟨rfl, rfl, rfl, (congrArg (fun z => some (Value.int .i64 z)) (rng_next hd1 hi1 (slc_max hs_p_s))), trivial⟩⟩, Nat.lt_succ_self _⟩
 clear S h; rintro a w2 ⟨h, S⟩; rw [hj1] at h; clear hj1 j1
 refine then_n (f_seq (f_region (lv S (rn_assign rfl) rfl ?_))); clear S; intro a S
 refine l_done (then_n (wp_ret ?_))
 subst h
 exact f_ret S Tryz.results47 rfl rfl
theorem slices_ContainsFunc_Best_tumbref2_RecordOf_c1_c1_ok (w : World) (v_p_s : Value) (p_s : List GBest) (hs_p_s : Slc (view w []) 6 v_p_s (p_s.map GBest.enc)) (b_p_f_0 : Nat) (p_f_0 : GBest) (hb_b_p_f_0 : (view w []) b_p_f_0 = some (.cells [sV p_f_0.Kind, sV p_f_0.Id, sV p_f_0.Who, iV p_f_0.Time, iV p_f_0.Since, bV p_f_0.Sure].toArray 80 (0, 0))) (r : Bool) (h : slices_ContainsFunc_Best_tumbref2_RecordOf_c1_c1 p_s p_f_0 = r) :
    Calls Tryz.prog 42 [v_p_s, .func (.func 88) #[] #[.pointer (some ⟨b_p_f_0, 0, none⟩)]].toArray w (Ret w [] fun _ v _ => v = bV r) := by
 refine f_enter [] [] Tryz.func42 rfl Tryz.ntmps42 rfl (by simp) (by simp [fps]) (by simp [fps]) fun a S => ?_
 unfold slices_ContainsFunc_Best_tumbref2_RecordOf_c1_c1 at h
 replace S := S.nk [] [(0, v_p_s), (1, .func (.func 88) #[] #[.pointer (some ⟨b_p_f_0, 0, none⟩)])] [] rfl (subR rfl)
 refine f_seq (f_region (lv S (rn_assign rfl) rfl ?_)); clear S; intro a S
 refine l_done (then_n (f_seq (f_region (lv S (rn_move (S.tm rfl)) rfl ?_)))); clear S; intro a S
 refine lv S (rn_move (S.tm rfl)) rfl ?_; clear S; intro a S
 refine l_enter S (fun _ => run_call (vs := [v_p_s, .func (.func 88) #[] #[.pointer (some ⟨b_p_f_0, 0, none⟩)]]) ⟨(S.tm rfl), (S.tm rfl), trivial⟩ Tryz.call47) (slices_IndexFunc_Best_tumbref2_RecordOf_c1_c1_ok _ v_p_s p_s (hs_p_s.mono (S.le_arg nil_sub)) b_p_f_0 p_f_0 ((S.le_arg nil_sub) _ _ hb_b_p_f_0) _ rfl) rfl ?_; clear S; intro v1 a w1 hv1 hk1 hn1 S
 subst hv1
 refine lv S (rn_geq (S.tm rfl) rfl) rfl ?_; clear S; intro a S
 refine lv S (rn_assign (S.tm rfl)) rfl ?_; clear S; intro a S
 refine l_done (then_n (wp_ret ?_))
 subst h
 exact f_ret S Tryz.results42 rfl rfl
theorem tumbref2_RecordOf_c1_ok (w : World) (p_b : GBest) (b_p_a1 : Nat) (v_p_a1 : Value) (p_a1 : List GBest) (hs_p_a1 : Slc (view w []) 6 v_p_a1 (p_a1.map GBest.enc)) (hb_b_p_a1 : (view w []) b_p_a1 = some (.cells [v_p_a1].toArray 78 (0, 0))) (r : Bool) (h : tumbref2_RecordOf_c1 p_b p_a1 = r) :
    Calls Tryz.prog 87 [.agg (GBest.enc p_b).toArray, .pointer (some ⟨b_p_a1, 0, none⟩)].toArray w (Ret w [] fun _ v _ => v = bV r) := by
 refine f_enter [] [] Tryz.func87 rfl Tryz.ntmps87 rfl (by simp) (by simp [fps]) (by simp [fps]) fun a S => ?_
 unfold tumbref2_RecordOf_c1 at h
 replace S := S.nk [] [(0, .agg (GBest.enc p_b).toArray), (1, .pointer (some ⟨b_p_a1, 0, none⟩))] [] rfl (subR rfl)
 refine f_seq (f_region (l_box S (S.tm rfl) (cs := (GBest.enc p_b)) rfl rfl ?_)); clear S; intro a w1 b1 hz1 hk1 S
 refine lv S (rn_assign rfl) rfl ?_; clear S; intro a S
 refine l_done (then_n (f_seq (f_region (lv S (rn_ld Tryz.isAgg78 (off := 0) (o := 0) (S.tm rfl) ((mem_blk hb_b_p_a1).at S.emb0) rfl) rfl ?_)))); clear S; intro a S
 refine lv S (rn_makeFunc (us := #[]) (xs := [].toArray) (ys := [.tmp 2].toArray) (by simp) (evA ⟨(S.tm rfl), trivial⟩ (vs := [.pointer (some ⟨b1, 0, none⟩)]))) rfl ?_; clear S; intro a S
 refine l_enter S (fun _ => run_call (vs := [v_p_a1, .func (.func 88) #[] #[.pointer (some ⟨b1, 0, none⟩)]]) ⟨(S.tm rfl), (S.tm rfl), trivial⟩ Tryz.call42) (slices_ContainsFunc_Best_tumbref2_RecordOf_c1_c1_ok _ v_p_a1 p_a1 (hs_p_a1.mono (S.le_arg nil_sub)) b1 p_b (S.blk_view (i := 0) rfl ((ne_nil (e' := .blk b1 (GBest.enc p_b) 80)) _ rfl)) _ rfl) rfl ?_; clear S; intro v1 a w2 hv1 hk2 hn1 S
 subst hv1
 refine lv S (rn_assign (S.tm rfl)) rfl ?_; clear S; intro a S
 refine l_done (then_n (wp_ret ?_))
 subst h
 exact f_ret S Tryz.results87 rfl rfl
theorem slices_IndexFunc_Best_tumbref2_RecordOf_c1_ok (w : World) (v_p_s : Value) (p_s : List GBest) (hs_p_s : Slc (view w []) 6 v_p_s (p_s.map GBest.enc)) (b_p_f_0 : Nat) (v_p_f_0 : Value) (p_f_0 : List GBest) (hs_p_f_0 : Slc (view w []) 6 v_p_f_0 (p_f_0.map GBest.enc)) (hb_b_p_f_0 : (view w []) b_p_f_0 = some (.cells [v_p_f_0].toArray 78 (0, 0))) (r : Int) (h : slices_IndexFunc_Best_tumbref2_RecordOf_c1 p_s p_f_0 = r) :
    Calls Tryz.prog 47 [v_p_s, .func (.func 87) #[] #[.pointer (some ⟨b_p_f_0, 0, none⟩)]].toArray w (Ret w [] fun _ v _ => v = iV r) := by
 refine f_enter [] [] Tryz.func47 rfl Tryz.ntmps47 rfl (by simp) (by simp [fps]) (by simp [fps]) fun a S => ?_
 unfold slices_IndexFunc_Best_tumbref2_RecordOf_c1 at h
 replace S := S.nk [] [(0, v_p_s), (1, .func (.func 87) #[] #[.pointer (some ⟨b_p_f_0, 0, none⟩)])] [] rfl (subR rfl)
 refine f_seq (f_region (lv S (rn_assign rfl) rfl ?_)); clear S; intro a S
 refine l_done (then_n (f_seq (f_seq (f_region (lv S (rn_move (S.tm rfl)) rfl ?_))))); clear S; intro a S
 refine lv S (rn_lenT sl_78 (S.tm rfl) (slc_len hs_p_s)) rfl ?_; clear S; intro a S
 refine lv S (rn_move rfl) rfl ?_; clear S; intro a S
 refine l_done (then_n ?_)
 replace S := S.nk [] [(0, v_p_s), (1, .func (.func 87) #[] #[.pointer (some ⟨b_p_f_0, 0, none⟩)]), (7, iV (p_s.length : Int)), (8, iV 0)] [] rfl (subR rfl)
 obtain ⟨j1, hj1, h⟩ := joinE h
 refine f_join (fun a w' => j1 = r ∧ Sx w [] nov [] [] 19 a w') ?_ ?_
 ·refine wp_block (f_loop (fun (ys1 : List GBest) a w' => ∃ i1 : Nat, (∃ dn, p_s = dn ++ ys1 ∧ dn.length = i1) ∧ slices_IndexFunc_Best_tumbref2_RecordOf_c1_l1 p_f_0 j1 ys1 i1 = r ∧ Sx w [] nov [] [(0, v_p_s), (1, .func (.func 87) #[] #[.pointer (some ⟨b_p_f_0, 0, none⟩)]), (7, iV (p_s.length : Int)), (8, iV (i1 : Int))] 19 a w') List.length p_s ⟨0, ⟨[], rfl, rfl⟩, h, S.nf [] rfl (subR rfl)⟩ ?_)
  clear S h; rintro ys1 a w1 ⟨i1, ⟨dn, hd1, hi1⟩, h, S⟩
  cases ys1 with
  | nil =>
   rw [slices_IndexFunc_Best_tumbref2_RecordOf_c1_l1.eq_1] at h
   refine f_seq (f_region (lv S (rn_lss (S.tm rfl) (S.tm rfl)) rfl ?_)); clear S; intro a S
   refine l_done ?_
   replace S := S.nk [] [(0, v_p_s), (1, .func (.func 87) #[] #[.pointer (some ⟨b_p_f_0, 0, none⟩)]), (7, iV (p_s.length : Int)), (8, iV (i1 : Int)), (9, bV (decide ((i1 : Int) < (p_s.length : Int))))] [] rfl (subR rfl)
   refine then_n (f_seq (wp_cond_false ((S.tm rfl).trans (congrArg Value.bool (rng_nil hd1 hi1))) (wp_exit (then_x (then_x (x_same ?_))))))
   refine then_n ?_
   exact ⟨h, S.nf [] rfl trivial⟩
  | cons y1 ys1 =>
   rw [slices_IndexFunc_Best_tumbref2_RecordOf_c1_l1.eq_2] at h
   refine f_seq (f_region (lv S (rn_lss (S.tm rfl) (S.tm rfl)) rfl ?_)); clear S; intro a S
   refine l_done ?_
   replace S := S.nk [] [(0, v_p_s), (1, .func (.func 87) #[] #[.pointer (some ⟨b_p_f_0, 0, none⟩)]), (7, iV (p_s.length : Int)), (8, iV (i1 : Int)), (9, bV (decide ((i1 : Int) < (p_s.length : Int))))] [] rfl (subR rfl)
   refine then_n (f_seq (wp_cond_true ((S.tm rfl).trans (congrArg Value.bool (rng_cons hd1 hi1))) (wp_skip (then_n (f_seq (wp_block ?_))))))
   refine f_seq (f_region (lv S (rn_move (S.tm rfl)) rfl ?_)); clear S; intro a S
   refine lv S (rn_assign (S.tm rfl)) rfl ?_; clear S; intro a S
   refine l_done (then_n (f_seq (f_region (lv S (rn_move (S.tm rfl)) rfl ?_)))); clear S; intro a S
   refine lv S (rn_move (S.tm rfl)) rfl ?_; clear S; intro a S
   refine lv S (rn_move (S.tm rfl)) rfl ?_; clear S; intro a S
   obtain ⟨b1, o1, hm1, hr1⟩ := rn_indexT (a := a) (x := .tmp 12) (y := .tmp 13) (ty := 0) sl_78 hs_p_s (get_mid hd1 hi1) rfl (S.tm rfl) (S.tm rfl)
   refine lv S (hr1 _) rfl ?_; clear S; intro a S
   clear hr1
   refine lv S (rn_ldA Tryz.isAgg80 Tryz.sizeOf80 (off := o1) (o := 0) (part := (GBest.enc y1)) rfl rfl (S.tm rfl) (hm1.at S.emb0)) rfl ?_; clear S; intro a S
   refine l_enter S (fun _ => run_callV (cap := [.pointer (some ⟨b_p_f_0, 0, none⟩)]) (S.tm rfl) (vs := [.agg (GBest.enc y1).toArray]) ⟨(S.tm rfl), trivial⟩ Tryz.call87) (tumbref2_RecordOf_c1_ok _ y1 b_p_f_0 v_p_f_0 p_f_0 (hs_p_f_0.mono (S.le_arg nil_sub)) ((S.le_arg nil_sub) _ _ hb_b_p_f_0) _ rfl) rfl ?_; clear S; intro v1 a w3 hv1 hk1 hn1 S
   subst hv1
   refine l_done (then_n (f_cond (S.tm rfl) (fun hb1 => ?_) (fun hb1 => ?_)))
   ·replace h := iteT h hb1
    refine f_seq (f_region (lv S (rn_move (S.tm rfl)) rfl ?_)); clear S; intro a S
    refine lv S (rn_assign (S.tm rfl)) rfl ?_; clear S; intro a S
    refine l_done ?_
    replace S := S.nk [] [(4, iV (i1 : Int))] [] rfl ⟨rfl, trivial⟩
    refine then_n (wp_ret (blk_r (then_r (then_r (blk_r (then_r ?_))))))
    refine then_r ?_
    subst h
    exact f_ret S Tryz.results47 rfl rfl
   ·replace h := iteF h hb1
    refine wp_skip (blk_n (then_n (f_region (lv S (rn_add (S.tm rfl) rfl) rfl ?_)))); clear S; intro a S
    refine lv S (rn_move (S.tm rfl)) rfl ?_; clear S; intro a S
    refine l_done (then_n ?_)
    exact ⟨ys1, ⟨i1 + 1, ⟨_, (hd1).trans (List.append_cons _ _ _), by simp [hi1]⟩, h, S.nf [] rfl ⟨rfl, rfl, rfl, (congrArg (fun z => some (Value.int .i64 z)) (rng_next hd1 hi1 (slc_max hs_p_s))), trivial⟩⟩, Nat.lt_succ_self _⟩
 clear S h; rintro a w2 ⟨h, S⟩; rw [hj1] at h; clear hj1 j1
 refine then_n (f_seq (f_region (lv S (rn_assign rfl) rfl ?_))); clear S; intro a S
 refine l_done (then_n (wp_ret ?_))
 subst h
 exact f_ret S Tryz.results47 rfl rfl
theorem slices_DeleteFunc_Best_tumbref2_RecordOf_c1_ok (w : World) (v_p_s : Value) (p_s : List GBest) (hb_p_s : (LEnt.own v_p_s 80 6 p_s.length (p_s.flatMap GBest.enc)).holds w) (b_p_del_0 : Nat) (v_p_del_0 : Value) (p_del_0 : List GBest) (hs_p_del_0 : Slc (view w (v_p_s.ownBlock.toList)) 6 v_p_del_0 (p_del_0.map GBest.enc)) (hb_b_p_del_0 : (view w (v_p_s.ownBlock.toList)) b_p_del_0 = some (.cells [v_p_del_0].toArray 78 (0, 0))) (r : (List GBest)) (h : slices_DeleteFunc_Best_tumbref2_RecordOf_c1 p_s p_del_0 = some r) :
    Calls Tryz.prog 85 [v_p_s, .func (.func 87) #[] #[.pointer (some ⟨b_p_del_0, 0, none⟩)]].toArray w (Ret w (v_p_s.ownBlock.toList) fun _ v w' => (LEnt.own v 80 6 r.length (r.flatMap GBest.enc)).holds w' ∧ ∀ c, v.ownBlock = some c → v_p_s.ownBlock = some c) := by
 refine f_enter (v_p_s.ownBlock.toList) [.own v_p_s 80 6 p_s.length (p_s.flatMap GBest.enc)] Tryz.func85 rfl Tryz.ntmps85 rfl (fun e he => by simp only [List.mem_singleton] at he; subst he; exact hb_p_s) (fps_one_nodup _) (fps_one_sub _) fun a S => ?_
 unfold slices_DeleteFunc_Best_tumbref2_RecordOf_c1 at h
 replace S := S.nk [.own v_p_s 80 6 p_s.length (p_s.flatMap GBest.enc)] [(0, v_p_s), (1, .func (.func 87) #[] #[.pointer (some ⟨b_p_del_0, 0, none⟩)])] [true] rfl (subR rfl)
 refine f_seq (f_region (lv S (rn_assign rfl) rfl ?_)); clear S; intro a S
 refine l_done (then_n (f_seq (f_region (lv S (rn_move (S.tm rfl)) rfl ?_)))); clear S; intro a S
 refine lv S (rn_move (S.tm rfl)) rfl ?_; clear S; intro a S
 refine l_enter S (fun _ => run_call (vs := [v_p_s, .func (.func 87) #[] #[.pointer (some ⟨b_p_del_0, 0, none⟩)]]) ⟨(S.tm rfl), (S.tm rfl), trivial⟩ Tryz.call47) (slices_IndexFunc_Best_tumbref2_RecordOf_c1_ok _ v_p_s p_s (own_slcT GBest.enc_ok S (i := 0) rfl (ne_nil (e' := .own v_p_s 80 6 p_s.length (p_s.flatMap GBest.enc)))) b_p_del_0 v_p_del_0 p_del_0 (hs_p_del_0.mono (S.le_arg nil_sub)) ((S.le_arg nil_sub) _ _ hb_b_p_del_0) _ rfl) rfl ?_; clear S; intro v1 a w1 hv1 hk1 hn1 S
 subst hv1
 refine lv S (rn_assign (S.tm rfl)) rfl ?_; clear S; intro a S
 refine l_done (then_n (f_seq (f_seq (f_region (lv S (rn_move (S.tm rfl)) rfl ?_))))); clear S; intro a S
 refine lv S (rn_eql (S.tm rfl) rfl) rfl ?_; clear S; intro a S
 refine l_done (then_n (f_cond (S.tm rfl) (fun hb1 => ?_) (fun hb1 => ?_)))
 ·replace h := iteT h hb1
  refine f_seq (f_region (lv S (rn_move (S.tm rfl)) rfl ?_)); clear S; intro a S
  refine lv S (rn_assign (S.tm rfl)) rfl ?_; clear S; intro a S
  refine l_done (then_n (wp_ret (then_r ?_)))
  obtain rfl := Option.some.inj h
  exact f_ret S Tryz.results85 rfl ⟨(S.holds _ (List.mem_of_getElem? (i := 0) rfl)), (fun _ h => h)⟩
 ·replace h := iteF h hb1
  refine wp_skip (then_n (f_seq (f_seq (f_region (lv S (rn_move (S.tm rfl)) rfl ?_))))); clear S; intro a S
  refine lv S (rn_add (S.tm rfl) rfl) rfl ?_; clear S; intro a S
  refine lv S (rn_assign (S.tm rfl)) rfl ?_; clear S; intro a S
  refine l_done (then_n ?_)
  replace S := S.nk [.own v_p_s 80 6 p_s.length (p_s.flatMap GBest.enc)] [(0, v_p_s), (1, .func (.func 87) #[] #[.pointer (some ⟨b_p_del_0, 0, none⟩)]), (5, iV (slices_IndexFunc_Best_tumbref2_RecordOf_c1 p_s p_del_0)), (6, iV (W ((slices_IndexFunc_Best_tumbref2_RecordOf_c1 p_s p_del_0) + 1)))] [true] rfl (subR rfl)
  obtain ⟨j1, hj1, h⟩ := joinE h
  refine f_join (fun a w' => ∃ x1 : List GBest, ∃ x2 : Int, j1 x1 x2 = some r ∧ Sx w (v_p_s.ownBlock.toList) nov [.own v_p_s 80 6 x1.length (x1.flatMap GBest.enc)] [(0, v_p_s), (5, iV x2)] 42 a w') ?_ ?_
  ·refine wp_block (f_loop (fun (m1 : Nat) a w' => ∃ x1 : List GBest, ∃ x2 : Int, ∃ x3 : Int, slices_DeleteFunc_Best_tumbref2_RecordOf_c1_l1 p_del_0 j1 m1 x1 x2 x3 = some r ∧ Sx w (v_p_s.ownBlock.toList) nov [.own v_p_s 80 6 x1.length (x1.flatMap GBest.enc)] [(0, v_p_s), (1, .func (.func 87) #[] #[.pointer (some ⟨b_p_del_0, 0, none⟩)]), (5, iV x2), (6, iV x3)] 42 a w') id (((p_s.length : Int) - (W ((slices_IndexFunc_Best_tumbref2_RecordOf_c1 p_s p_del_0) + 1))).toNat + 2) ⟨p_s, (slices_IndexFunc_Best_tumbref2_RecordOf_c1 p_s p_del_0), W ((slices_IndexFunc_Best_tumbref2_RecordOf_c1 p_s p_del_0) + 1), h, S.nf [true] rfl (subR rfl)⟩ ?_)
   clear S h; rintro m1 a w2 ⟨x1, x2, x3, h, S⟩
   cases m1 with
   | zero => rw [slices_DeleteFunc_Best_tumbref2_RecordOf_c1_l1.eq_1] at h; cases h
   | succ m1 =>
    rw [slices_DeleteFunc_Best_tumbref2_RecordOf_c1_l1.eq_2] at h
    refine f_seq (f_seq (f_region (lv S (rn_move (S.tm rfl)) rfl ?_))); clear S; intro a S
    refine lv S (rn_move (S.tm rfl)) rfl ?_; clear S; intro a S
    refine lv S (rn_lenT sl_78 (S.tm rfl) (own_len (S.own_at (i := 0) rfl))) rfl ?_; clear S; intro a S
    refine lv S (rn_lss (S.tm rfl) (S.tm rfl)) rfl ?_; clear S; intro a S
    refine l_done (then_n (f_cond (S.tm rfl) (fun hb2 => ?_) (fun hb2 => ?_)))
    ·replace h := iteT h hb2
     refine wp_skip (then_n (f_seq ?_))
     obtain ⟨j2, hj2, h⟩ := joinE h
     refine f_join (fun a w' => ∃ x4 : List GBest, ∃ x5 : Int, j2 x4 x5 = some r ∧ Sx w (v_p_s.ownBlock.toList) nov [.own v_p_s 80 6 x4.length (x4.flatMap GBest.enc)] [(0, v_p_s), (1, .func (.func 87) #[] #[.pointer (some ⟨b_p_del_0, 0, none⟩)]), (5, iV x5), (6, iV x3)] 42 a w') ?_ ?_
     ·refine wp_block (f_seq (f_region (lv S (rn_move (S.tm rfl)) rfl ?_))); clear S; intro a S
      refine lv S (rn_move (S.tm rfl)) rfl ?_; clear S; intro a S
      obtain ⟨hc1, h⟩ := chkE h
      obtain ⟨b1, hg1, hr1⟩ := rn_indexS (a := a) (x := .tmp 22) (y := .tmp 23) (ty := 0) sl_78 GBest.enc_ok S (i := 0) rfl (inB_get hc1).1 (inB_get hc1).2 (S.tm rfl) (S.tm rfl)
      refine lv S (hr1 _) rfl ?_; clear S; intro a S
      clear hr1
      refine lv S (rn_ldA Tryz.isAgg80 Tryz.sizeOf80 (off := x3.toNat * 6) (o := 0) (part := (GBest.enc (nth x1 x3))) rfl rfl (S.tm rfl) (own_cells GBest.enc_ok S (i := 0) rfl hg1 (inB_get hc1).1)) rfl ?_; clear S; intro a S
      refine l_alloc S Tryz.zeroValue80 (cs := [sV k_empty, sV k_empty, sV k_empty, iV 0, iV 0, bV false]) rfl rfl ?_; clear S; intro a w5 b2 hz1 hk2 S
      refine l_store S (S.tm rfl) (S.tm rfl) (i := 0) (off := 0) rfl Tryz.sizeOf80 (vs := (GBest.enc (nth x1 x3))) rfl rfl rfl rfl ?_; clear S; intro w6 hk3 S
      refine l_done (then_n (f_seq (f_region (lv S (rn_move (S.tm rfl)) rfl ?_)))); clear S; intro a S
      refine lv S (rn_ldA Tryz.isAgg80 Tryz.sizeOf80 (off := 0) (o := 0) (part := (GBest.enc (nth x1 x3))) rfl rfl (S.tm rfl) (S.cellsAt (i := 0) rfl)) rfl ?_; clear S; intro a S
      refine l_enter S (fun _ => run_callV (cap := [.pointer (some ⟨b_p_del_0, 0, none⟩)]) (S.tm rfl) (vs := [.agg (GBest.enc (nth x1 x3)).toArray]) ⟨(S.tm rfl), trivial⟩ Tryz.call87) (tumbref2_RecordOf_c1_ok _ (nth x1 x3) b_p_del_0 v_p_del_0 p_del_0 (hs_p_del_0.mono (S.le_arg nil_sub)) ((S.le_arg nil_sub) _ _ hb_b_p_del_0) _ rfl) rfl ?_; clear S; intro v2 a w7 hv2 hk4 hn2 S
      subst hv2
      refine lv S (rn_not (S.tm rfl)) rfl ?_; clear S; intro a S
      refine l_done ?_
      replace S := S.nk [.blk b2 (GBest.enc (nth x1 x3)) 80, .own v_p_s 80 6 x1.length (x1.flatMap GBest.enc)] [(0, v_p_s), (1, .func (.func 87) #[] #[.pointer (some ⟨b_p_del_0, 0, none⟩)]), (5, iV x2), (6, iV x3), (7, .pointer (some ⟨b2, 0, none⟩)), (29, bV (!(tumbref2_RecordOf_c1 (nth x1 x3) p_del_0)))] [true, true] rfl (subR rfl)
      refine then_n ?_
      obtain ⟨j3, hj3, h⟩ := joinE h
      refine f_join (fun a w' => ∃ x6 : List GBest, ∃ x7 : Int, j3 x6 x7 = some r ∧ Sx w (v_p_s.ownBlock.toList) nov [.blk b2 (GBest.enc (nth x1 x3)) 80, .own v_p_s 80 6 x6.length (x6.flatMap GBest.enc)] [(0, v_p_s), (1, .func (.func 87) #[] #[.pointer (some ⟨b_p_del_0, 0, none⟩)]), (5, iV x7), (6, iV x3)] 42 a w') ?_ ?_
      ·refine f_cond (S.tm rfl) (fun hb3 => ?_) (fun hb3 => ?_)
       ·replace h := iteT h hb3
        refine f_seq (f_region (lv S (rn_move (S.tm rfl)) rfl ?_)); clear S; intro a S
        refine lv S (rn_move (S.tm rfl)) rfl ?_; clear S; intro a S
        refine lv S (rn_ldA Tryz.isAgg80 Tryz.sizeOf80 (off := 0) (o := 0) (part := (GBest.enc (nth x1 x3))) rfl rfl (S.tm rfl) (S.cellsAt (i := 0) rfl)) rfl ?_; clear S; intro a S
        obtain ⟨hc2, h⟩ := chkE h
        obtain ⟨b3, hg2, hr2⟩ := rn_indexS (a := a) (x := .tmp 30) (y := .tmp 31) (ty := 0) sl_78 GBest.enc_ok S (i := 1) rfl (inB_get hc2).1 (inB_get hc2).2 (S.tm rfl) (S.tm rfl)
        refine lv S (hr2 _) rfl ?_; clear S; intro a S
        clear hr2
        refine l_storeO (c := 0) (j := x2.toNat) (nth x1 x3) GBest.enc_ok S (S.tm rfl) (S.tm rfl) (i := 1) rfl hg2 (inB_get hc2).1 Tryz.sizeOf80 (vs := [sV ((nth x1 x3).Kind), sV ((nth x1 x3).Id), sV ((nth x1 x3).Who), iV ((nth x1 x3).Time), iV ((nth x1 x3).Since), bV ((nth x1 x3).Sure)]) rfl rfl rfl rfl rfl ?_; clear S; intro w10 hk6 S
        refine l_done (then_n (f_region (lv S (rn_move (S.tm rfl)) rfl ?_))); clear S; intro a S
        refine lv S (rn_add (S.tm rfl) rfl) rfl ?_; clear S; intro a S
        refine lv S (rn_assign (S.tm rfl)) rfl ?_; clear S; intro a S
        refine l_done (then_n ?_)
        exact ⟨(x1.set x2.toNat (nth x1 x3)), W (x2 + 1), h, S.nf [true, true] rfl (subR rfl)⟩
       ·replace h := iteF h hb3
        refine wp_skip (then_n ?_)
        exact ⟨x1, x2, h, S.nf [true, true] rfl (subR rfl)⟩
      clear S h; rintro a w8 ⟨x6, x7, h, S⟩; rw [hj3] at h; clear hj3 j3
      refine blk_n (then_n ?_)
      exact ⟨x6, x7, h, S.nf [false, true] rfl (subR rfl)⟩
     clear S h; rintro a w4 ⟨x4, x5, h, S⟩; rw [hj2] at h; clear hj2 j2
     refine then_n (f_region (lv S (rn_move (S.tm rfl)) rfl ?_)); clear S; intro a S
     refine lv S (rn_add (S.tm rfl) rfl) rfl ?_; clear S; intro a S
     refine lv S (rn_assign (S.tm rfl)) rfl ?_; clear S; intro a S
     refine l_done (then_n ?_)
     exact ⟨m1, ⟨x4, x5, W (x3 + 1), h, S.nf [true] rfl ⟨rfl, rfl, rfl, rfl, trivial⟩⟩, Nat.lt_succ_self _⟩
    ·replace h := iteF h hb2
     refine wp_exit (then_x (then_x (x_same (then_n ?_))))
     exact ⟨x1, x2, h, S.nf [true] rfl (subR rfl)⟩
  clear S h; rintro a w3 ⟨x1, x2, h, S⟩; rw [hj1] at h; clear hj1 j1
  refine then_n (f_seq (f_region (lv S (rn_move (S.tm rfl)) rfl ?_))); clear S; intro a S
  refine lv S (rn_move (S.tm rfl)) rfl ?_; clear S; intro a S
  obtain ⟨hc3, h⟩ := chkE h
  obtain ⟨u1, hu1, hr3⟩ := rn_subl (a := a) (x := .tmp 36) (y := .tmp 37) (ty := 78) sl_78 S (i := 0) rfl (S.tm rfl) (S.tm rfl) hc3
  refine lv S (hr3 _) rfl ?_; clear S; intro a S
  clear hr3
  refine l_clear (zl := x2) (zh := (x1.length : Int)) (z := (GBest.mk k_empty k_empty k_empty 0 0 false)) sl_78 rfl GBest.enc_ok S (i := 0) rfl hu1 (S.tm rfl) Tryz.zeroValue80 rfl ?_; clear S; intro w11 hk7 S
  refine l_done (then_n (f_seq (f_region (lv S (rn_move (S.tm rfl)) rfl ?_)))); clear S; intro a S
  refine lv S (rn_move (S.tm rfl)) rfl ?_; clear S; intro a S
  obtain ⟨hc4, h⟩ := chkE h
  obtain ⟨u2, hu2, hr4⟩ := rn_subh (a := a) (x := .tmp 39) (y' := .tmp 40) (ty := 78) sl_78 S (i := 0) rfl (S.tm rfl) (S.tm rfl) hc4
  refine lv S (hr4 _) rfl ?_; clear S; intro a S
  clear hr4
  refine lv S (rn_assign (S.tm rfl)) rfl ?_; clear S; intro a S
  refine l_done (then_n (wp_ret ?_))
  obtain ⟨S, hz2⟩ := S.ownCut (zh := x2) GBest.enc_ok (i := 0) rfl hu2
  obtain rfl := Option.some.inj h
  exact f_ret S Tryz.results85 rfl ⟨(S.holds _ (List.mem_of_getElem? (i := 0) rfl)), hz2⟩
theorem tumbref2_RecordOf_ok (w : World) (p_k : GKind) (q_p_k : R57) (hq_p_k : rel_57 (view w []) p_k q_p_k) (v_p_l : Value) (p_l : List GStep) (hs_p_l : Slc (view w []) 8 v_p_l (p_l.map GStep.enc)) (p_at : Int) (r : (List GBest)) (h : tumbref2_RecordOf p_k p_l p_at = some r) :
    Calls Tryz.prog 58 [.agg (R57.enc q_p_k).toArray, v_p_l, iV p_at].toArray w (Ret w [] fun τ v _ => OwnV τ 80 6 v r.length (r.flatMap GBest.enc)) := by
 obtain ⟨u1, rfl, hs1⟩ := hq_p_k
 refine f_enter [] [] Tryz.func58 rfl Tryz.ntmps58 rfl (by simp) (by simp [fps]) (by simp [fps]) fun a S => ?_
 unfold tumbref2_RecordOf at h
 replace S := S.nk [] [(0, .agg #[sV p_k.Key, sV p_k.Race, u1.val, iV p_k.Young, iV p_k.Old]), (1, v_p_l), (2, iV p_at)] [] rfl (subR rfl)
 refine f_seq (f_region (l_box S (S.tm rfl) (cs := [sV p_k.Key, sV p_k.Race, u1.val, iV p_k.Young, iV p_k.Old]) rfl rfl ?_)); clear S; intro a w1 b1 hz1 hk1 S
 refine lv S (rn_assign rfl) rfl ?_; clear S; intro a S
 refine l_done (then_n (f_seq (f_region (lv S (rn_ldA Tryz.isAgg57 Tryz.sizeOf57 (off := 0) (o := 0) (part := [sV p_k.Key, sV p_k.Race, u1.val, iV p_k.Young, iV p_k.Old]) rfl rfl (S.tm rfl) (S.cellsAt (i := 0) rfl)) rfl ?_)))); clear S; intro a S
 refine lv S (rn_move (S.tm rfl)) rfl ?_; clear S; intro a S
 refine lv S (rn_move (S.tm rfl)) rfl ?_; clear S; intro a S
 obtain ⟨r1, hr1, h⟩ := bindE h
 have hz2 := S.keep.size
 refine l_enter S (fun _ => run_call (vs := [.agg (R57.enc (R57.mk p_k.Key p_k.Race u1 p_k.Young p_k.Old)).toArray, v_p_l, iV p_at]) ⟨(S.tm rfl), (S.tm rfl), (S.tm rfl), trivial⟩ Tryz.call65) (tumbref2_valid_ok _ p_k (R57.mk p_k.Key p_k.Race u1 p_k.Young p_k.Old) ⟨u1, rfl, (hs1.mono (S.le_arg nil_sub))⟩ v_p_l p_l (hs_p_l.mono (S.le_arg nil_sub)) p_at _ hr1) rfl ?_; clear S; intro v1 a w2 hv1 hk2 hn1 S
 obtain ⟨φ1, hl1, hm1, S⟩ := S.see' hn1 hz2
 have hs2 := hv1.mono hm1
 refine l_alloc S Tryz.zeroValue78 (cs := [.slice none 0 0]) rfl rfl ?_; clear S; intro a w3 b2 hz3 hk3 S
 refine l_store S (S.tm rfl) (S.tm rfl) (i := 0) (off := 0) rfl Tryz.sizeOf78 (vs := [v1]) (SlcLen.cells (slc_len (ownV_slcT GBest.enc_ok hs2))) rfl rfl (all1 (SlcLen.one (slc_len (ownV_slcT GBest.enc_ok hs2))) rfl) ?_; clear S; intro w4 hk4 S
 refine l_done (then_n (f_seq (f_region (lv S (rn_load Tryz.isAgg78 (S.tm rfl) (S.cell (i := 0) rfl rfl)) rfl ?_)))); clear S; intro a S
 obtain ⟨r2, hr2, h⟩ := bindE h
 have hz4 := S.keep.size
 refine l_enter S (fun _ => run_call (vs := [v1]) ⟨(S.tm rfl), trivial⟩ Tryz.call86) (slices_Clone_Best_ok _ v1 r1 ((ownV_slcT GBest.enc_ok hs2).mono (S.le_new nil_sub)) _ hr2) rfl ?_; clear S; intro v2 a w5 hv2 hk5 hn2 S
 replace S := S.take hn2 hz4 hv2
 refine lv S (rn_makeFunc (us := #[]) (xs := [].toArray) (ys := [.tmp 7].toArray) (by simp) (evA ⟨(S.tm rfl), trivial⟩ (vs := [.pointer (some ⟨b2, 0, none⟩)]))) rfl ?_; clear S; intro a S
 obtain ⟨r3, hr3, h⟩ := bindE h
 have hz5 := S.keep.size
 refine l_enterO 0 S rfl (fun v3 => .own v3 80 6 r3.length (r3.flatMap GBest.enc)) (fun _ => run_call (vs := [v2, .func (.func 87) #[] #[.pointer (some ⟨b2, 0, none⟩)]]) ⟨(S.tm rfl), (S.tm rfl), trivial⟩ Tryz.call85) (slices_DeleteFunc_Best_tumbref2_RecordOf_c1_ok _ v2 r2 (S.holds _ (List.mem_of_getElem? (i := 0) rfl)) b2 v1 r1 ((ownV_slcT GBest.enc_ok hs2).mono (S.le_new (fp_sub (i := 0) (e := .own v2 80 6 r2.length (r2.flatMap GBest.enc)) rfl))) (S.blk_view (i := 1) rfl ((ne_fp (i := 0) (j := 1) (e := .own v2 80 6 r2.length (r2.flatMap GBest.enc)) (e' := .blk b2 [v1] 78) S rfl rfl rfl) _ rfl)) _ hr3) rfl (fun _ _ _ h => h) ?_; clear S; intro v3 a w6 hv3 hk6 hn3 S
 clear hv3
 refine lv S (rn_assign (S.tm rfl)) rfl ?_; clear S; intro a S
 refine l_done (then_n (wp_ret ?_))
 obtain rfl := Option.some.inj h
 exact f_ret S Tryz.results58 rfl (own_retT S (i := 0) rfl rfl)
theorem tumbref2_HeldBy_c1_ok (w : World) (p_b : GBest) (b_p_a1 : Nat) (p_a1 : ByteArray) (hb_b_p_a1 : (view w []) b_p_a1 = some (.cells [sV p_a1].toArray 9 (0, 0))) (r : Bool) (h : tumbref2_HeldBy_c1 p_b p_a1 = r) :
    Calls Tryz.prog 59 [.agg (GBest.enc p_b).toArray, .pointer (some ⟨b_p_a1, 0, none⟩)].toArray w (Ret w [] fun _ v _ => v = bV r) := by
 refine f_enter [] [] Tryz.func59 rfl Tryz.ntmps59 rfl (by simp) (by simp [fps]) (by simp [fps]) fun a S => ?_
 unfold tumbref2_HeldBy_c1 at h
 replace S := S.nk [] [(0, .agg (GBest.enc p_b).toArray), (1, .pointer (some ⟨b_p_a1, 0, none⟩))] [] rfl (subR rfl)
 refine f_seq (f_region (l_box S (S.tm rfl) (cs := (GBest.enc p_b)) rfl rfl ?_)); clear S; intro a w1 b1 hz1 hk1 S
 refine lv S (rn_assign rfl) rfl ?_; clear S; intro a S
 refine l_done (then_n (f_seq (f_region (lv S (rn_fld fa_80_1 (S.tm rfl)) rfl ?_)))); clear S; intro a S
 refine lv S (rn_load Tryz.isAgg9 (S.tm rfl) (S.cell (i := 0) rfl rfl)) rfl ?_; clear S; intro a S
 refine lv S (rn_ld Tryz.isAgg9 (off := 0) (o := 0) (S.tm rfl) ((mem_blk hb_b_p_a1).at S.emb0) rfl) rfl ?_; clear S; intro a S
 refine lv S (rn_seql (S.tm rfl) (S.tm rfl)) rfl ?_; clear S; intro a S
 refine lv S (rn_assign (S.tm rfl)) rfl ?_; clear S; intro a S
 refine l_done (then_n (wp_ret ?_))
 subst h
 exact f_ret S Tryz.results59 rfl rfl
theorem slices_IndexFunc_Best_tumbref2_HeldBy_c1_ok (w : World) (v_p_s : Value) (p_s : List GBest) (hs_p_s : Slc (view w []) 6 v_p_s (p_s.map GBest.enc)) (b_p_f_0 : Nat) (p_f_0 : ByteArray) (hb_b_p_f_0 : (view w []) b_p_f_0 = some (.cells [sV p_f_0].toArray 9 (0, 0))) (r : Int) (h : slices_IndexFunc_Best_tumbref2_HeldBy_c1 p_s p_f_0 = r) :
    Calls Tryz.prog 47 [v_p_s, .func (.func 59) #[] #[.pointer (some ⟨b_p_f_0, 0, none⟩)]].toArray w (Ret w [] fun _ v _ => v = iV r) := by
 refine f_enter [] [] Tryz.func47 rfl Tryz.ntmps47 rfl (by simp) (by simp [fps]) (by simp [fps]) fun a S => ?_
 unfold slices_IndexFunc_Best_tumbref2_HeldBy_c1 at h
 replace S := S.nk [] [(0, v_p_s), (1, .func (.func 59) #[] #[.pointer (some ⟨b_p_f_0, 0, none⟩)])] [] rfl (subR rfl)
 refine f_seq (f_region (lv S (rn_assign rfl) rfl ?_)); clear S; intro a S
 refine l_done (then_n (f_seq (f_seq (f_region (lv S (rn_move (S.tm rfl)) rfl ?_))))); clear S; intro a S
 refine lv S (rn_lenT sl_78 (S.tm rfl) (slc_len hs_p_s)) rfl ?_; clear S; intro a S
 refine lv S (rn_move rfl) rfl ?_; clear S; intro a S
 refine l_done (then_n ?_)
 replace S := S.nk [] [(0, v_p_s), (1, .func (.func 59) #[] #[.pointer (some ⟨b_p_f_0, 0, none⟩)]), (7, iV (p_s.length : Int)), (8, iV 0)] [] rfl (subR rfl)
 obtain ⟨j1, hj1, h⟩ := joinE h
 refine f_join (fun a w' => j1 = r ∧ Sx w [] nov [] [] 19 a w') ?_ ?_
 ·refine wp_block (f_loop (fun (ys1 : List GBest) a w' => ∃ i1 : Nat, (∃ dn, p_s = dn ++ ys1 ∧ dn.length = i1) ∧ slices_IndexFunc_Best_tumbref2_HeldBy_c1_l1 p_f_0 j1 ys1 i1 = r ∧ Sx w [] nov [] [(0, v_p_s), (1, .func (.func 59) #[] #[.pointer (some ⟨b_p_f_0, 0, none⟩)]), (7, iV (p_s.length : Int)), (8, iV (i1 : Int))] 19 a w') List.length p_s ⟨0, ⟨[], rfl, rfl⟩, h, S.nf [] rfl (subR rfl)⟩ ?_)
  clear S h; rintro ys1 a w1 ⟨i1, ⟨dn, hd1, hi1⟩, h, S⟩
  cases ys1 with
  | nil =>
   rw [slices_IndexFunc_Best_tumbref2_HeldBy_c1_l1.eq_1] at h
   refine f_seq (f_region (lv S (rn_lss (S.tm rfl) (S.tm rfl)) rfl ?_)); clear S; intro a S
   refine l_done ?_
   replace S := S.nk [] [(0, v_p_s), (1, .func (.func 59) #[] #[.pointer (some ⟨b_p_f_0, 0, none⟩)]), (7, iV (p_s.length : Int)), (8, iV (i1 : Int)), (9, bV (decide ((i1 : Int) < (p_s.length : Int))))] [] rfl (subR rfl)
   refine then_n (f_seq (wp_cond_false ((S.tm rfl).trans (congrArg Value.bool (rng_nil hd1 hi1))) (wp_exit (then_x (then_x (x_same ?_))))))
   refine then_n ?_
   exact ⟨h, S.nf [] rfl trivial⟩
  | cons y1 ys1 =>
   rw [slices_IndexFunc_Best_tumbref2_HeldBy_c1_l1.eq_2] at h
   refine f_seq (f_region (lv S (rn_lss (S.tm rfl) (S.tm rfl)) rfl ?_)); clear S; intro a S
   refine l_done ?_
   replace S := S.nk [] [(0, v_p_s), (1, .func (.func 59) #[] #[.pointer (some ⟨b_p_f_0, 0, none⟩)]), (7, iV (p_s.length : Int)), (8, iV (i1 : Int)), (9, bV (decide ((i1 : Int) < (p_s.length : Int))))] [] rfl (subR rfl)
   refine then_n (f_seq (wp_cond_true ((S.tm rfl).trans (congrArg Value.bool (rng_cons hd1 hi1))) (wp_skip (then_n (f_seq (wp_block ?_))))))
   refine f_seq (f_region (lv S (rn_move (S.tm rfl)) rfl ?_)); clear S; intro a S
   refine lv S (rn_assign (S.tm rfl)) rfl ?_; clear S; intro a S
   refine l_done (then_n (f_seq (f_region (lv S (rn_move (S.tm rfl)) rfl ?_)))); clear S; intro a S
   refine lv S (rn_move (S.tm rfl)) rfl ?_; clear S; intro a S
   refine lv S (rn_move (S.tm rfl)) rfl ?_; clear S; intro a S
   obtain ⟨b1, o1, hm1, hr1⟩ := rn_indexT (a := a) (x := .tmp 12) (y := .tmp 13) (ty := 0) sl_78 hs_p_s (get_mid hd1 hi1) rfl (S.tm rfl) (S.tm rfl)
   refine lv S (hr1 _) rfl ?_; clear S; intro a S
   clear hr1
   refine lv S (rn_ldA Tryz.isAgg80 Tryz.sizeOf80 (off := o1) (o := 0) (part := (GBest.enc y1)) rfl rfl (S.tm rfl) (hm1.at S.emb0)) rfl ?_; clear S; intro a S
   refine l_enter S (fun _ => run_callV (cap := [.pointer (some ⟨b_p_f_0, 0, none⟩)]) (S.tm rfl) (vs := [.agg (GBest.enc y1).toArray]) ⟨(S.tm rfl), trivial⟩ Tryz.call59) (tumbref2_HeldBy_c1_ok _ y1 b_p_f_0 p_f_0 ((S.le_arg nil_sub) _ _ hb_b_p_f_0) _ rfl) rfl ?_; clear S; intro v1 a w3 hv1 hk1 hn1 S
   subst hv1
   refine l_done (then_n (f_cond (S.tm rfl) (fun hb1 => ?_) (fun hb1 => ?_)))
   ·replace h := iteT h hb1
    refine f_seq (f_region (lv S (rn_move (S.tm rfl)) rfl ?_)); clear S; intro a S
    refine lv S (rn_assign (S.tm rfl)) rfl ?_; clear S; intro a S
    refine l_done ?_
    replace S := S.nk [] [(4, iV (i1 : Int))] [] rfl ⟨rfl, trivial⟩
    refine then_n (wp_ret (blk_r (then_r (then_r (blk_r (then_r ?_))))))
    refine then_r ?_
    subst h
    exact f_ret S Tryz.results47 rfl rfl
   ·replace h := iteF h hb1
    refine wp_skip (blk_n (then_n (f_region (lv S (rn_add (S.tm rfl) rfl) rfl ?_)))); clear S; intro a S
    refine lv S (rn_move (S.tm rfl)) rfl ?_; clear S; intro a S
    refine l_done (then_n ?_)
    exact ⟨ys1, ⟨i1 + 1, ⟨_, (hd1).trans (List.append_cons _ _ _), by simp [hi1]⟩, h, S.nf [] rfl ⟨rfl, rfl, rfl, (congrArg (fun z => some (Value.int .i64 z)) (rng_next hd1 hi1 (slc_max hs_p_s))), trivial⟩⟩, Nat.lt_succ_self _⟩
 clear S h; rintro a w2 ⟨h, S⟩; rw [hj1] at h; clear hj1 j1
 refine then_n (f_seq (f_region (lv S (rn_assign rfl) rfl ?_))); clear S; intro a S
 refine l_done (then_n (wp_ret ?_))
 subst h
 exact f_ret S Tryz.results47 rfl rfl
theorem slices_ContainsFunc_Best_tumbref2_HeldBy_c1_ok (w : World) (v_p_s : Value) (p_s : List GBest) (hs_p_s : Slc (view w []) 6 v_p_s (p_s.map GBest.enc)) (b_p_f_0 : Nat) (p_f_0 : ByteArray) (hb_b_p_f_0 : (view w []) b_p_f_0 = some (.cells [sV p_f_0].toArray 9 (0, 0))) (r : Bool) (h : slices_ContainsFunc_Best_tumbref2_HeldBy_c1 p_s p_f_0 = r) :
    Calls Tryz.prog 42 [v_p_s, .func (.func 59) #[] #[.pointer (some ⟨b_p_f_0, 0, none⟩)]].toArray w (Ret w [] fun _ v _ => v = bV r) := by
 refine f_enter [] [] Tryz.func42 rfl Tryz.ntmps42 rfl (by simp) (by simp [fps]) (by simp [fps]) fun a S => ?_
 unfold slices_ContainsFunc_Best_tumbref2_HeldBy_c1 at h
 replace S := S.nk [] [(0, v_p_s), (1, .func (.func 59) #[] #[.pointer (some ⟨b_p_f_0, 0, none⟩)])] [] rfl (subR rfl)
 refine f_seq (f_region (lv S (rn_assign rfl) rfl ?_)); clear S; intro a S
 refine l_done (then_n (f_seq (f_region (lv S (rn_move (S.tm rfl)) rfl ?_)))); clear S; intro a S
 refine lv S (rn_move (S.tm rfl)) rfl ?_; clear S; intro a S
 refine l_enter S (fun _ => run_call (vs := [v_p_s, .func (.func 59) #[] #[.pointer (some ⟨b_p_f_0, 0, none⟩)]]) ⟨(S.tm rfl), (S.tm rfl), trivial⟩ Tryz.call47) (slices_IndexFunc_Best_tumbref2_HeldBy_c1_ok _ v_p_s p_s (hs_p_s.mono (S.le_arg nil_sub)) b_p_f_0 p_f_0 ((S.le_arg nil_sub) _ _ hb_b_p_f_0) _ rfl) rfl ?_; clear S; intro v1 a w1 hv1 hk1 hn1 S
 subst hv1
 refine lv S (rn_geq (S.tm rfl) rfl) rfl ?_; clear S; intro a S
 refine lv S (rn_assign (S.tm rfl)) rfl ?_; clear S; intro a S
 refine l_done (then_n (wp_ret ?_))
 subst h
 exact f_ret S Tryz.results42 rfl rfl
theorem tumbref2_HeldBy_ok (w : World) (v_p_k : Value) (p_k : List GKind) (rs_p_k : List R57) (hs_p_k : Slc (view w []) 5 v_p_k (rs_p_k.map R57.enc)) (hr_p_k : All2 (rel_57 (view w [])) p_k rs_p_k) (v_p_l : Value) (p_l : List GStep) (hs_p_l : Slc (view w []) 8 v_p_l (p_l.map GStep.enc)) (p_id : ByteArray) (p_at : Int) (r : (List ByteArray)) (h : tumbref2_HeldBy p_k p_l p_id p_at = some r) :
    Calls Tryz.prog 24 [v_p_k, v_p_l, sV p_id, iV p_at].toArray w (Ret w [] fun τ v _ => OwnV τ 9 1 v r.length (r.flatMap eStr)) := by
 refine f_enter [] [] Tryz.func24 rfl Tryz.ntmps24 rfl (by simp) (by simp [fps]) (by simp [fps]) fun a S => ?_
 unfold tumbref2_HeldBy at h
 replace S := S.nk [] [(0, v_p_k), (1, v_p_l), (2, sV p_id), (3, iV p_at)] [] rfl (subR rfl)
 refine f_seq (f_region (l_box S (S.tm rfl) (cs := [sV p_id]) rfl rfl ?_)); clear S; intro a w1 b1 hz1 hk1 S
 refine lv S (rn_assign rfl) rfl ?_; clear S; intro a S
 refine l_done (then_n (f_seq (f_region (lv S (rn_assign rfl) rfl ?_)))); clear S; intro a S
 replace S := S.nil 9 1
 refine l_done (then_n (f_seq (f_seq (f_region (lv S (rn_move (S.tm rfl)) rfl ?_))))); clear S; intro a S
 refine lv S (rn_lenT sl_26 (S.tm rfl) (slc_lenD hs_p_k hr_p_k)) rfl ?_; clear S; intro a S
 refine lv S (rn_move rfl) rfl ?_; clear S; intro a S
 refine l_done (then_n ?_)
 replace S := S.nk [.own (.slice none 0 0) 9 1 ([] : List ByteArray).length (([] : List ByteArray).flatMap eStr), .blk b1 [sV p_id] 9] [(1, v_p_l), (3, iV p_at), (6, .pointer (some ⟨b1, 0, none⟩)), (9, (.slice none 0 0)), (12, v_p_k), (13, iV (p_k.length : Int)), (14, iV 0)] [true, true] rfl (subR rfl)
 obtain ⟨j1, hj1, h⟩ := joinE h
 refine f_join (fun a w' => ∃ x1 : List ByteArray, ∃ φ1 : View, ∃ v1 : Value, j1 x1 = some r ∧ View.le nov φ1 ∧ Sx w [] φ1 [.own v1 9 1 x1.length (x1.flatMap eStr), .blk b1 [sV p_id] 9] [(9, v1)] 31 a w') ?_ ?_
 ·refine wp_block (f_loop (fun (ys1 : List GKind) a w' => ∃ i1 : Nat, ∃ x1 : List ByteArray, ∃ φ1 : View, ∃ v1 : Value, (∃ dn, p_k = dn ++ ys1 ∧ dn.length = i1) ∧ tumbref2_HeldBy_l1 p_l p_at p_id j1 ys1 i1 x1 = some r ∧ View.le nov φ1 ∧ Sx w [] φ1 [.own v1 9 1 x1.length (x1.flatMap eStr), .blk b1 [sV p_id] 9] [(1, v_p_l), (3, iV p_at), (6, .pointer (some ⟨b1, 0, none⟩)), (9, v1), (12, v_p_k), (13, iV (p_k.length : Int)), (14, iV (i1 : Int))] 31 a w') List.length p_k ⟨0, ([] : List ByteArray), nov, (.slice none 0 0), ⟨[], rfl, rfl⟩, h, View.le_refl _, S.nf [true, true] rfl (subR rfl)⟩ ?_)
  clear S h; rintro ys1 a w2 ⟨i1, x1, φ1, v1, ⟨dn, hd1, hi1⟩, h, hl1, S⟩
  cases ys1 with
  | nil =>
   rw [tumbref2_HeldBy_l1.eq_1] at h
   refine f_seq (f_region (lv S (rn_lss (S.tm rfl) (S.tm rfl)) rfl ?_)); clear S; intro a S
   refine l_done ?_
   replace S := S.nk [.own v1 9 1 x1.length (x1.flatMap eStr), .blk b1 [sV p_id] 9] [(1, v_p_l), (3, iV p_at), (6, .pointer (some ⟨b1, 0, none⟩)), (9, v1), (12, v_p_k), (13, iV (p_k.length : Int)), (14, iV (i1 : Int)), (15, bV (decide ((i1 : Int) < (p_k.length : Int))))] [true, true] rfl (subR rfl)
   refine then_n (f_seq (wp_cond_false ((S.tm rfl).trans (congrArg Value.bool (rng_nil hd1 hi1))) (wp_exit (then_x (then_x (x_same ?_))))))
   refine then_n ?_
   exact ⟨x1, φ1, v1, h, hl1, S.nf [true, true] rfl ⟨rfl, trivial⟩⟩
  | cons y1 ys1 =>
   rw [tumbref2_HeldBy_l1.eq_2] at h
   refine f_seq (f_region (lv S (rn_lss (S.tm rfl) (S.tm rfl)) rfl ?_)); clear S; intro a S
   refine l_done ?_
   replace S := S.nk [.own v1 9 1 x1.length (x1.flatMap eStr), .blk b1 [sV p_id] 9] [(1, v_p_l), (3, iV p_at), (6, .pointer (some ⟨b1, 0, none⟩)), (9, v1), (12, v_p_k), (13, iV (p_k.length : Int)), (14, iV (i1 : Int)), (15, bV (decide ((i1 : Int) < (p_k.length : Int))))] [true, true] rfl (subR rfl)
   refine then_n (f_seq (wp_cond_true ((S.tm rfl).trans (congrArg Value.bool (rng_cons hd1 hi1))) (wp_skip (then_n (f_seq ?_)))))
   obtain ⟨j2, hj2, h⟩ := joinE h
   refine f_join (fun a w' => ∃ x2 : List ByteArray, ∃ φ2 : View, ∃ v2 : Value, j2 x2 = some r ∧ View.le φ1 φ2 ∧ Sx w [] φ2 [.own v2 9 1 x2.length (x2.flatMap eStr), .blk b1 [sV p_id] 9] [(1, v_p_l), (3, iV p_at), (6, .pointer (some ⟨b1, 0, none⟩)), (9, v2), (12, v_p_k), (13, iV (p_k.length : Int)), (14, iV (i1 : Int))] 31 a w') ?_ ?_
   ·refine wp_block (f_seq (f_region ?_))
    obtain ⟨r1, hg1, hl3⟩ := All2.at hr_p_k (get_mid hd1 hi1)
    obtain ⟨u1, rfl, hs1⟩ := hl3
    obtain ⟨b2, o1, hm1, hr1⟩ := rn_indexT (a := a) (x := .tmp 12) (y := .tmp 14) (ty := 0) sl_26 hs_p_k hg1 rfl (S.tm rfl) (S.tm rfl)
    refine lv S (hr1 _) rfl ?_; clear S; intro a S
    clear hr1
    refine lv S (rn_ldA Tryz.isAgg57 Tryz.sizeOf57 (off := o1) (o := 0) (part := [sV y1.Key, sV y1.Race, u1.val, iV y1.Young, iV y1.Old]) rfl rfl (S.tm rfl) (hm1.at S.emb0)) rfl ?_; clear S; intro a S
    refine l_alloc S Tryz.zeroValue57 (cs := [sV k_empty, sV k_empty, .slice none 0 0, iV 0, iV 0]) rfl rfl ?_; clear S; intro a w5 b3 hz2 hk2 S
    refine l_store S (S.tm rfl) (S.tm rfl) (i := 0) (off := 0) rfl Tryz.sizeOf57 (vs := [sV y1.Key, sV y1.Race, u1.val, iV y1.Young, iV y1.Old]) rfl rfl rfl (all1 rfl (all1 rfl (all1 (SlcLen.one (slc_len hs1)) (all1 rfl (all1 rfl rfl))))) ?_; clear S; intro w6 hk3 S
    refine l_done (then_n (f_seq (f_region (lv S (rn_ldA Tryz.isAgg57 Tryz.sizeOf57 (off := 0) (o := 0) (part := [sV y1.Key, sV y1.Race, u1.val, iV y1.Young, iV y1.Old]) rfl rfl (S.tm rfl) (S.cellsAt (i := 0) rfl)) rfl ?_)))); clear S; intro a S
    refine lv S (rn_move (S.tm rfl)) rfl ?_; clear S; intro a S
    refine lv S (rn_move (S.tm rfl)) rfl ?_; clear S; intro a S
    obtain ⟨r2, hr2, h⟩ := bindE h
    have hz3 := S.keep.size
    refine l_enter S (fun _ => run_call (vs := [.agg (R57.enc (R57.mk y1.Key y1.Race u1 y1.Young y1.Old)).toArray, v_p_l, iV p_at]) ⟨(S.tm rfl), (S.tm rfl), (S.tm rfl), trivial⟩ Tryz.call58) (tumbref2_RecordOf_ok _ y1 (R57.mk y1.Key y1.Race u1 y1.Young y1.Old) ⟨u1, rfl, (hs1.mono (S.le_arg nil_sub))⟩ v_p_l p_l (hs_p_l.mono (S.le_arg nil_sub)) p_at _ hr2) rfl ?_; clear S; intro v3 a w7 hv1 hk4 hn1 S
    obtain ⟨φ3, hl4, hm2, S⟩ := S.see' hn1 hz3
    have hs2 := hv1.mono hm2
    refine lv S (rn_makeFunc (us := #[]) (xs := [].toArray) (ys := [.tmp 6].toArray) (by simp) (evA ⟨(S.tm rfl), trivial⟩ (vs := [.pointer (some ⟨b1, 0, none⟩)]))) rfl ?_; clear S; intro a S
    refine l_enter S (fun _ => run_call (vs := [v3, .func (.func 59) #[] #[.pointer (some ⟨b1, 0, none⟩)]]) ⟨(S.tm rfl), (S.tm rfl), trivial⟩ Tryz.call42) (slices_ContainsFunc_Best_tumbref2_HeldBy_c1_ok _ v3 r2 ((ownV_slcT GBest.enc_ok hs2).mono (S.le_new nil_sub)) b1 p_id (S.blk_view (i := 2) rfl ((ne_nil (e' := .blk b1 [sV p_id] 9)) _ rfl)) _ rfl) rfl ?_; clear S; intro v4 a w8 hv2 hk5 hn2 S
    subst hv2
    refine l_done ?_
    replace S := S.nk [.blk b3 [sV y1.Key, sV y1.Race, u1.val, iV y1.Young, iV y1.Old] 57, .own v1 9 1 x1.length (x1.flatMap eStr), .blk b1 [sV p_id] 9] [(1, v_p_l), (3, iV p_at), (6, .pointer (some ⟨b1, 0, none⟩)), (9, v1), (11, .pointer (some ⟨b3, 0, none⟩)), (12, v_p_k), (13, iV (p_k.length : Int)), (14, iV (i1 : Int)), (23, bV (slices_ContainsFunc_Best_tumbref2_HeldBy_c1 r2 p_id))] [true, true, true] rfl (subR rfl)
    refine then_n ?_
    obtain ⟨j3, hj3, h⟩ := joinE h
    refine f_join (fun a w' => ∃ x3 : List ByteArray, ∃ v5 : Value, j3 x3 = some r ∧ Sx w [] φ3 [.blk b3 [sV y1.Key, sV y1.Race, u1.val, iV y1.Young, iV y1.Old] 57, .own v5 9 1 x3.length (x3.flatMap eStr), .blk b1 [sV p_id] 9] [(1, v_p_l), (3, iV p_at), (6, .pointer (some ⟨b1, 0, none⟩)), (9, v5), (12, v_p_k), (13, iV (p_k.length : Int)), (14, iV (i1 : Int))] 31 a w') ?_ ?_
    ·refine f_cond (S.tm rfl) (fun hb1 => ?_) (fun hb1 => ?_)
     ·replace h := iteT h hb1
      refine f_region (lv S (rn_move (S.tm rfl)) rfl ?_); clear S; intro a S
      refine lv S (rn_fld fa_57_0 (S.tm rfl)) rfl ?_; clear S; intro a S
      refine lv S (rn_load Tryz.isAgg9 (S.tm rfl) (S.cell (i := 0) rfl rfl)) rfl ?_; clear S; intro a S
      refine l_buildSlice S Tryz.underlying37 Tryz.sizeOf9 Tryz.zeroValue9 rfl rfl (pv := [(0, sV y1.Key)]) ⟨rfl, (S.tm rfl), trivial⟩ (cs := [sV y1.Key]) (by kernel_rfl) rfl ?_; clear S; intro a w10 b4 hz4 hk6 S
      obtain ⟨hc1, h⟩ := chkE h
      refine l_appendT sl_37 enc_str S (S.tm rfl) (i := 2) rfl (S.tm rfl) (j := 0) rfl (ys := [y1.Key]) rfl rfl rfl rfl (by have := room_lt hc1; omega) rfl ?_; clear S; intro v6 a w11 hk7 S
      refine lv S (rn_assign (S.tm rfl)) rfl ?_; clear S; intro a S
      refine l_done (then_n ?_)
      exact ⟨(x1 ++ [y1.Key]), v6, h, S.nf [false, true, true, true] rfl (subR rfl)⟩
     ·replace h := iteF h hb1
      refine wp_skip (then_n ?_)
      exact ⟨x1, v1, h, S.nf [true, true, true] rfl (subR rfl)⟩
    clear S h; rintro a w9 ⟨x3, v5, h, S⟩; rw [hj3] at h; clear hj3 j3
    refine blk_n (then_n ?_)
    exact ⟨x3, φ3, v5, h, hl4, S.nf [false, true, true] rfl (subR rfl)⟩
   clear S h; rintro a w4 ⟨x2, φ2, v2, h, hl2, S⟩; rw [hj2] at h; clear hj2 j2
   refine then_n (f_region (lv S (rn_add (S.tm rfl) rfl) rfl ?_)); clear S; intro a S
   refine lv S (rn_move (S.tm rfl)) rfl ?_; clear S; intro a S
   refine l_done (then_n ?_)
   exact ⟨ys1, ⟨i1 + 1, x2, φ2, v2, ⟨_, (hd1).trans (List.append_cons _ _ _), by simp [hi1]⟩, h, (View.le_trans hl1 hl2), S.nf [true, true] rfl ⟨rfl, rfl, rfl, rfl, rfl, rfl, (congrArg (fun z => some (Value.int .i64 z)) (rng_next hd1 hi1 (slc_maxD hs_p_k hr_p_k))), trivial⟩⟩, Nat.lt_succ_self _⟩
 clear S h; rintro a w3 ⟨x1, φ1, v1, h, hl1, S⟩; rw [hj1] at h; clear hj1 j1
 refine then_n (f_seq (f_region (lv S (rn_move (S.tm rfl)) rfl ?_))); clear S; intro a S
 refine lv S (rn_assign (S.tm rfl)) rfl ?_; clear S; intro a S
 refine l_done (then_n (wp_ret ?_))
 obtain rfl := Option.some.inj h
 exact f_ret S Tryz.results24 rfl (own_retT S (i := 0) rfl rfl)
theorem tumbref2_HistoryOf_c1_ok (w : World) (p_o : GBest) (b_p_a1 : Nat) (p_a1 : GBest) (hb_b_p_a1 : (view w []) b_p_a1 = some (.cells [sV p_a1.Kind, sV p_a1.Id, sV p_a1.Who, iV p_a1.Time, iV p_a1.Since, bV p_a1.Sure].toArray 80 (0, 0))) (r : Bool) (h : tumbref2_HistoryOf_c1 p_o p_a1 = r) :
    Calls Tryz.prog 89 [.agg (GBest.enc p_o).toArray, .pointer (some ⟨b_p_a1, 0, none⟩)].toArray w (Ret w [] fun _ v _ => v = bV r) := by
 refine f_enter [] [] Tryz.func89 rfl Tryz.ntmps89 rfl (by simp) (by simp [fps]) (by simp [fps]) fun a S => ?_
 unfold tumbref2_HistoryOf_c1 at h
 replace S := S.nk [] [(0, .agg (GBest.enc p_o).toArray), (1, .pointer (some ⟨b_p_a1, 0, none⟩))] [] rfl (subR rfl)
 refine f_seq (f_region (l_box S (S.tm rfl) (cs := (GBest.enc p_o)) rfl rfl ?_)); clear S; intro a w1 b1 hz1 hk1 S
 refine lv S (rn_assign rfl) rfl ?_; clear S; intro a S
 refine l_done (then_n (f_seq (f_region (lv S (rn_fld fa_80_3 (S.tm rfl)) rfl ?_)))); clear S; intro a S
 refine lv S (rn_load Tryz.isAgg3 (S.tm rfl) (S.cell (i := 0) rfl rfl)) rfl ?_; clear S; intro a S
 refine lv S (rn_fld fa_80_3 (S.tm rfl)) rfl ?_; clear S; intro a S
 refine lv S (rn_ld Tryz.isAgg3 (off := 0) (o := 3) (S.tm rfl) ((mem_blk hb_b_p_a1).at S.emb0) rfl) rfl ?_; clear S; intro a S
 refine lv S (rn_lss (S.tm rfl) (S.tm rfl)) rfl ?_; clear S; intro a S
 refine lv S (rn_assign (S.tm rfl)) rfl ?_; clear S; intro a S
 refine l_done (then_n (wp_ret ?_))
 subst h
 exact f_ret S Tryz.results89 rfl rfl
theorem slices_IndexFunc_Best_tumbref2_HistoryOf_c1_ok (w : World) (v_p_s : Value) (p_s : List GBest) (hs_p_s : Slc (view w []) 6 v_p_s (p_s.map GBest.enc)) (b_p_f_0 : Nat) (p_f_0 : GBest) (hb_b_p_f_0 : (view w []) b_p_f_0 = some (.cells [sV p_f_0.Kind, sV p_f_0.Id, sV p_f_0.Who, iV p_f_0.Time, iV p_f_0.Since, bV p_f_0.Sure].toArray 80 (0, 0))) (r : Int) (h : slices_IndexFunc_Best_tumbref2_HistoryOf_c1 p_s p_f_0 = r) :
    Calls Tryz.prog 47 [v_p_s, .func (.func 89) #[] #[.pointer (some ⟨b_p_f_0, 0, none⟩)]].toArray w (Ret w [] fun _ v _ => v = iV r) := by
 refine f_enter [] [] Tryz.func47 rfl Tryz.ntmps47 rfl (by simp) (by simp [fps]) (by simp [fps]) fun a S => ?_
 unfold slices_IndexFunc_Best_tumbref2_HistoryOf_c1 at h
 replace S := S.nk [] [(0, v_p_s), (1, .func (.func 89) #[] #[.pointer (some ⟨b_p_f_0, 0, none⟩)])] [] rfl (subR rfl)
 refine f_seq (f_region (lv S (rn_assign rfl) rfl ?_)); clear S; intro a S
 refine l_done (then_n (f_seq (f_seq (f_region (lv S (rn_move (S.tm rfl)) rfl ?_))))); clear S; intro a S
 refine lv S (rn_lenT sl_78 (S.tm rfl) (slc_len hs_p_s)) rfl ?_; clear S; intro a S
 refine lv S (rn_move rfl) rfl ?_; clear S; intro a S
 refine l_done (then_n ?_)
 replace S := S.nk [] [(0, v_p_s), (1, .func (.func 89) #[] #[.pointer (some ⟨b_p_f_0, 0, none⟩)]), (7, iV (p_s.length : Int)), (8, iV 0)] [] rfl (subR rfl)
 obtain ⟨j1, hj1, h⟩ := joinE h
 refine f_join (fun a w' => j1 = r ∧ Sx w [] nov [] [] 19 a w') ?_ ?_
 ·refine wp_block (f_loop (fun (ys1 : List GBest) a w' => ∃ i1 : Nat, (∃ dn, p_s = dn ++ ys1 ∧ dn.length = i1) ∧ slices_IndexFunc_Best_tumbref2_HistoryOf_c1_l1 p_f_0 j1 ys1 i1 = r ∧ Sx w [] nov [] [(0, v_p_s), (1, .func (.func 89) #[] #[.pointer (some ⟨b_p_f_0, 0, none⟩)]), (7, iV (p_s.length : Int)), (8, iV (i1 : Int))] 19 a w') List.length p_s ⟨0, ⟨[], rfl, rfl⟩, h, S.nf [] rfl (subR rfl)⟩ ?_)
  clear S h; rintro ys1 a w1 ⟨i1, ⟨dn, hd1, hi1⟩, h, S⟩
  cases ys1 with
  | nil =>
   rw [slices_IndexFunc_Best_tumbref2_HistoryOf_c1_l1.eq_1] at h
   refine f_seq (f_region (lv S (rn_lss (S.tm rfl) (S.tm rfl)) rfl ?_)); clear S; intro a S
   refine l_done ?_
   replace S := S.nk [] [(0, v_p_s), (1, .func (.func 89) #[] #[.pointer (some ⟨b_p_f_0, 0, none⟩)]), (7, iV (p_s.length : Int)), (8, iV (i1 : Int)), (9, bV (decide ((i1 : Int) < (p_s.length : Int))))] [] rfl (subR rfl)
   refine then_n (f_seq (wp_cond_false ((S.tm rfl).trans (congrArg Value.bool (rng_nil hd1 hi1))) (wp_exit (then_x (then_x (x_same ?_))))))
   refine then_n ?_
   exact ⟨h, S.nf [] rfl trivial⟩
  | cons y1 ys1 =>
   rw [slices_IndexFunc_Best_tumbref2_HistoryOf_c1_l1.eq_2] at h
   refine f_seq (f_region (lv S (rn_lss (S.tm rfl) (S.tm rfl)) rfl ?_)); clear S; intro a S
   refine l_done ?_
   replace S := S.nk [] [(0, v_p_s), (1, .func (.func 89) #[] #[.pointer (some ⟨b_p_f_0, 0, none⟩)]), (7, iV (p_s.length : Int)), (8, iV (i1 : Int)), (9, bV (decide ((i1 : Int) < (p_s.length : Int))))] [] rfl (subR rfl)
   refine then_n (f_seq (wp_cond_true ((S.tm rfl).trans (congrArg Value.bool (rng_cons hd1 hi1))) (wp_skip (then_n (f_seq (wp_block ?_))))))
   refine f_seq (f_region (lv S (rn_move (S.tm rfl)) rfl ?_)); clear S; intro a S
   refine lv S (rn_assign (S.tm rfl)) rfl ?_; clear S; intro a S
   refine l_done (then_n (f_seq (f_region (lv S (rn_move (S.tm rfl)) rfl ?_)))); clear S; intro a S
   refine lv S (rn_move (S.tm rfl)) rfl ?_; clear S; intro a S
   refine lv S (rn_move (S.tm rfl)) rfl ?_; clear S; intro a S
   obtain ⟨b1, o1, hm1, hr1⟩ := rn_indexT (a := a) (x := .tmp 12) (y := .tmp 13) (ty := 0) sl_78 hs_p_s (get_mid hd1 hi1) rfl (S.tm rfl) (S.tm rfl)
   refine lv S (hr1 _) rfl ?_; clear S; intro a S
   clear hr1
   refine lv S (rn_ldA Tryz.isAgg80 Tryz.sizeOf80 (off := o1) (o := 0) (part := (GBest.enc y1)) rfl rfl (S.tm rfl) (hm1.at S.emb0)) rfl ?_; clear S; intro a S
   refine l_enter S (fun _ => run_callV (cap := [.pointer (some ⟨b_p_f_0, 0, none⟩)]) (S.tm rfl) (vs := [.agg (GBest.enc y1).toArray]) ⟨(S.tm rfl), trivial⟩ Tryz.call89) (tumbref2_HistoryOf_c1_ok _ y1 b_p_f_0 p_f_0 ((S.le_arg nil_sub) _ _ hb_b_p_f_0) _ rfl) rfl ?_; clear S; intro v1 a w3 hv1 hk1 hn1 S
   subst hv1
   refine l_done (then_n (f_cond (S.tm rfl) (fun hb1 => ?_) (fun hb1 => ?_)))
   ·replace h := iteT h hb1
    refine f_seq (f_region (lv S (rn_move (S.tm rfl)) rfl ?_)); clear S; intro a S
    refine lv S (rn_assign (S.tm rfl)) rfl ?_; clear S; intro a S
    refine l_done ?_
    replace S := S.nk [] [(4, iV (i1 : Int))] [] rfl ⟨rfl, trivial⟩
    refine then_n (wp_ret (blk_r (then_r (then_r (blk_r (then_r ?_))))))
    refine then_r ?_
    subst h
    exact f_ret S Tryz.results47 rfl rfl
   ·replace h := iteF h hb1
    refine wp_skip (blk_n (then_n (f_region (lv S (rn_add (S.tm rfl) rfl) rfl ?_)))); clear S; intro a S
    refine lv S (rn_move (S.tm rfl)) rfl ?_; clear S; intro a S
    refine l_done (then_n ?_)
    exact ⟨ys1, ⟨i1 + 1, ⟨_, (hd1).trans (List.append_cons _ _ _), by simp [hi1]⟩, h, S.nf [] rfl ⟨rfl, rfl, rfl, (congrArg (fun z => some (Value.int .i64 z)) (rng_next hd1 hi1 (slc_max hs_p_s))), trivial⟩⟩, Nat.lt_succ_self _⟩
 clear S h; rintro a w2 ⟨h, S⟩; rw [hj1] at h; clear hj1 j1
 refine then_n (f_seq (f_region (lv S (rn_assign rfl) rfl ?_))); clear S; intro a S
 refine l_done (then_n (wp_ret ?_))
 subst h
 exact f_ret S Tryz.results47 rfl rfl
theorem slices_ContainsFunc_Best_tumbref2_HistoryOf_c1_ok (w : World) (v_p_s : Value) (p_s : List GBest) (hs_p_s : Slc (view w []) 6 v_p_s (p_s.map GBest.enc)) (b_p_f_0 : Nat) (p_f_0 : GBest) (hb_b_p_f_0 : (view w []) b_p_f_0 = some (.cells [sV p_f_0.Kind, sV p_f_0.Id, sV p_f_0.Who, iV p_f_0.Time, iV p_f_0.Since, bV p_f_0.Sure].toArray 80 (0, 0))) (r : Bool) (h : slices_ContainsFunc_Best_tumbref2_HistoryOf_c1 p_s p_f_0 = r) :
    Calls Tryz.prog 42 [v_p_s, .func (.func 89) #[] #[.pointer (some ⟨b_p_f_0, 0, none⟩)]].toArray w (Ret w [] fun _ v _ => v = bV r) := by
 refine f_enter [] [] Tryz.func42 rfl Tryz.ntmps42 rfl (by simp) (by simp [fps]) (by simp [fps]) fun a S => ?_
 unfold slices_ContainsFunc_Best_tumbref2_HistoryOf_c1 at h
 replace S := S.nk [] [(0, v_p_s), (1, .func (.func 89) #[] #[.pointer (some ⟨b_p_f_0, 0, none⟩)])] [] rfl (subR rfl)
 refine f_seq (f_region (lv S (rn_assign rfl) rfl ?_)); clear S; intro a S
 refine l_done (then_n (f_seq (f_region (lv S (rn_move (S.tm rfl)) rfl ?_)))); clear S; intro a S
 refine lv S (rn_move (S.tm rfl)) rfl ?_; clear S; intro a S
 refine l_enter S (fun _ => run_call (vs := [v_p_s, .func (.func 89) #[] #[.pointer (some ⟨b_p_f_0, 0, none⟩)]]) ⟨(S.tm rfl), (S.tm rfl), trivial⟩ Tryz.call47) (slices_IndexFunc_Best_tumbref2_HistoryOf_c1_ok _ v_p_s p_s (hs_p_s.mono (S.le_arg nil_sub)) b_p_f_0 p_f_0 ((S.le_arg nil_sub) _ _ hb_b_p_f_0) _ rfl) rfl ?_; clear S; intro v1 a w1 hv1 hk1 hn1 S
 subst hv1
 refine lv S (rn_geq (S.tm rfl) rfl) rfl ?_; clear S; intro a S
 refine lv S (rn_assign (S.tm rfl)) rfl ?_; clear S; intro a S
 refine l_done (then_n (wp_ret ?_))
 subst h
 exact f_ret S Tryz.results42 rfl rfl
theorem tumbref2_HistoryOf_ok (w : World) (p_k : GKind) (q_p_k : R57) (hq_p_k : rel_57 (view w []) p_k q_p_k) (v_p_l : Value) (p_l : List GStep) (hs_p_l : Slc (view w []) 8 v_p_l (p_l.map GStep.enc)) (p_at : Int) (r : (List GBest)) (h : tumbref2_HistoryOf p_k p_l p_at = some r) :
    Calls Tryz.prog 60 [.agg (R57.enc q_p_k).toArray, v_p_l, iV p_at].toArray w (Ret w [] fun τ v _ => OwnV τ 80 6 v r.length (r.flatMap GBest.enc)) := by
 obtain ⟨u1, rfl, hs1⟩ := hq_p_k
 refine f_enter [] [] Tryz.func60 rfl Tryz.ntmps60 rfl (by simp) (by simp [fps]) (by simp [fps]) fun a S => ?_
 unfold tumbref2_HistoryOf at h
 replace S := S.nk [] [(0, .agg #[sV p_k.Key, sV p_k.Race, u1.val, iV p_k.Young, iV p_k.Old]), (1, v_p_l), (2, iV p_at)] [] rfl (subR rfl)
 refine f_seq (f_region (l_box S (S.tm rfl) (cs := [sV p_k.Key, sV p_k.Race, u1.val, iV p_k.Young, iV p_k.Old]) rfl rfl ?_)); clear S; intro a w1 b1 hz1 hk1 S
 refine lv S (rn_assign rfl) rfl ?_; clear S; intro a S
 refine l_done (then_n (f_seq (f_region (lv S (rn_ldA Tryz.isAgg57 Tryz.sizeOf57 (off := 0) (o := 0) (part := [sV p_k.Key, sV p_k.Race, u1.val, iV p_k.Young, iV p_k.Old]) rfl rfl (S.tm rfl) (S.cellsAt (i := 0) rfl)) rfl ?_)))); clear S; intro a S
 refine lv S (rn_move (S.tm rfl)) rfl ?_; clear S; intro a S
 refine lv S (rn_move (S.tm rfl)) rfl ?_; clear S; intro a S
 obtain ⟨r1, hr1, h⟩ := bindE h
 have hz2 := S.keep.size
 refine l_enter S (fun _ => run_call (vs := [.agg (R57.enc (R57.mk p_k.Key p_k.Race u1 p_k.Young p_k.Old)).toArray, v_p_l, iV p_at]) ⟨(S.tm rfl), (S.tm rfl), (S.tm rfl), trivial⟩ Tryz.call65) (tumbref2_valid_ok _ p_k (R57.mk p_k.Key p_k.Race u1 p_k.Young p_k.Old) ⟨u1, rfl, (hs1.mono (S.le_arg nil_sub))⟩ v_p_l p_l (hs_p_l.mono (S.le_arg nil_sub)) p_at _ hr1) rfl ?_; clear S; intro v1 a w2 hv1 hk2 hn1 S
 obtain ⟨φ1, hl1, hm1, S⟩ := S.see' hn1 hz2
 have hs2 := hv1.mono hm1
 refine lv S (rn_assign (S.tm rfl)) rfl ?_; clear S; intro a S
 refine l_done (then_n (f_seq (f_region (lv S (rn_assign rfl) rfl ?_)))); clear S; intro a S
 replace S := S.nil 80 6
 refine l_done (then_n (f_seq (f_seq (f_region (lv S (rn_move (S.tm rfl)) rfl ?_))))); clear S; intro a S
 refine lv S (rn_lenT sl_78 (S.tm rfl) (slc_len (ownV_slcT GBest.enc_ok hs2))) rfl ?_; clear S; intro a S
 refine lv S (rn_move rfl) rfl ?_; clear S; intro a S
 refine l_done (then_n ?_)
 replace S := S.nk [.own (.slice none 0 0) 80 6 ([] : List GBest).length (([] : List GBest).flatMap GBest.enc)] [(7, v1), (8, (.slice none 0 0)), (15, v1), (16, iV (r1.length : Int)), (17, iV 0)] [true, false] rfl (subR rfl)
 obtain ⟨j1, hj1, h⟩ := joinE h
 refine f_join (fun a w' => ∃ x1 : List GBest, ∃ v2 : Value, j1 x1 = some r ∧ Sx w [] φ1 [.own v2 80 6 x1.length (x1.flatMap GBest.enc)] [(8, v2)] 34 a w') ?_ ?_
 ·refine wp_block (f_loop (fun (ys1 : List GBest) a w' => ∃ i1 : Nat, ∃ x1 : List GBest, ∃ v2 : Value, (∃ dn, r1 = dn ++ ys1 ∧ dn.length = i1) ∧ tumbref2_HistoryOf_l1 r1 j1 ys1 i1 x1 = some r ∧ Sx w [] φ1 [.own v2 80 6 x1.length (x1.flatMap GBest.enc)] [(7, v1), (8, v2), (15, v1), (16, iV (r1.length : Int)), (17, iV (i1 : Int))] 34 a w') List.length r1 ⟨0, ([] : List GBest), (.slice none 0 0), ⟨[], rfl, rfl⟩, h, S.nf [true] rfl (subR rfl)⟩ ?_)
  clear S h; rintro ys1 a w3 ⟨i1, x1, v2, ⟨dn, hd1, hi1⟩, h, S⟩
  cases ys1 with
  | nil =>
   rw [tumbref2_HistoryOf_l1.eq_1] at h
   refine f_seq (f_region (lv S (rn_lss (S.tm rfl) (S.tm rfl)) rfl ?_)); clear S; intro a S
   refine l_done ?_
   replace S := S.nk [.own v2 80 6 x1.length (x1.flatMap GBest.enc)] [(7, v1), (8, v2), (15, v1), (16, iV (r1.length : Int)), (17, iV (i1 : Int)), (18, bV (decide ((i1 : Int) < (r1.length : Int))))] [true] rfl (subR rfl)
   refine then_n (f_seq (wp_cond_false ((S.tm rfl).trans (congrArg Value.bool (rng_nil hd1 hi1))) (wp_exit (then_x (then_x (x_same ?_))))))
   refine then_n ?_
   exact ⟨x1, v2, h, S.nf [true] rfl ⟨rfl, trivial⟩⟩
  | cons y1 ys1 =>
   rw [tumbref2_HistoryOf_l1.eq_2] at h
   refine f_seq (f_region (lv S (rn_lss (S.tm rfl) (S.tm rfl)) rfl ?_)); clear S; intro a S
   refine l_done ?_
   replace S := S.nk [.own v2 80 6 x1.length (x1.flatMap GBest.enc)] [(7, v1), (8, v2), (15, v1), (16, iV (r1.length : Int)), (17, iV (i1 : Int)), (18, bV (decide ((i1 : Int) < (r1.length : Int))))] [true] rfl (subR rfl)
   refine then_n (f_seq (wp_cond_true ((S.tm rfl).trans (congrArg Value.bool (rng_cons hd1 hi1))) (wp_skip (then_n (f_seq ?_)))))
   obtain ⟨j2, hj2, h⟩ := joinE h
   refine f_join (fun a w' => ∃ x2 : List GBest, ∃ v3 : Value, j2 x2 = some r ∧ Sx w [] φ1 [.own v3 80 6 x2.length (x2.flatMap GBest.enc)] [(7, v1), (8, v3), (15, v1), (16, iV (r1.length : Int)), (17, iV (i1 : Int))] 34 a w') ?_ ?_
   ·refine wp_block (f_seq (f_region (lv S (rn_move (S.tm rfl)) rfl ?_))); clear S; intro a S
    obtain ⟨b2, o1, hm2, hr2⟩ := rn_indexT (a := a) (x := .tmp 15) (y := .tmp 17) (ty := 0) sl_78 (ownV_slcT GBest.enc_ok hs2) (get_mid hd1 hi1) rfl (S.tm rfl) (S.tm rfl)
    refine lv S (hr2 _) rfl ?_; clear S; intro a S
    clear hr2
    refine lv S (rn_ldA Tryz.isAgg80 Tryz.sizeOf80 (off := o1) (o := 0) (part := (GBest.enc y1)) rfl rfl (S.tm rfl) (hm2.at S.emb)) rfl ?_; clear S; intro a S
    refine l_alloc S Tryz.zeroValue80 (cs := [sV k_empty, sV k_empty, sV k_empty, iV 0, iV 0, bV false]) rfl rfl ?_; clear S; intro a w6 b3 hz3 hk3 S
    refine lv S (rn_assign (S.tm rfl)) rfl ?_; clear S; intro a S
    refine l_store S (S.tm rfl) (S.tm rfl) (i := 0) (off := 0) rfl Tryz.sizeOf80 (vs := (GBest.enc y1)) rfl rfl rfl rfl ?_; clear S; intro w7 hk4 S
    refine l_done (then_n (f_seq (f_region (lv S (rn_move (S.tm rfl)) rfl ?_)))); clear S; intro a S
    refine lv S (rn_move (S.tm rfl)) rfl ?_; clear S; intro a S
    obtain ⟨hc1, h⟩ := chkE h
    obtain ⟨v4, hs3, hr3⟩ := rn_cutTh (a := a) (x := .tmp 22) (y' := .tmp 23) (ty := 78) sl_78 (ownV_slcT GBest.enc_ok hs2) (S.tm rfl) (S.tm rfl) hc1
    refine lv S (hr3 _) rfl ?_; clear S; intro a S
    clear hr3
    refine lv S (rn_makeFunc (us := #[]) (xs := [].toArray) (ys := [.tmp 10].toArray) (by simp) (evA ⟨(S.tm rfl), trivial⟩ (vs := [.pointer (some ⟨b3, 0, none⟩)]))) rfl ?_; clear S; intro a S
    refine l_enter S (fun _ => run_call (vs := [v4, .func (.func 89) #[] #[.pointer (some ⟨b3, 0, none⟩)]]) ⟨(S.tm rfl), (S.tm rfl), trivial⟩ Tryz.call42) (slices_ContainsFunc_Best_tumbref2_HistoryOf_c1_ok _ v4 (cut r1 0 (i1 : Int)) (hs3.mono (S.le_new nil_sub)) b3 y1 (S.blk_view (i := 0) rfl ((ne_nil (e' := .blk b3 (GBest.enc y1) 80)) _ rfl)) _ rfl) rfl ?_; clear S; intro v5 a w8 hv2 hk5 hn2 S
    subst hv2
    refine lv S (rn_not (S.tm rfl)) rfl ?_; clear S; intro a S
    refine l_done ?_
    replace S := S.nk [.blk b3 (GBest.enc y1) 80, .own v2 80 6 x1.length (x1.flatMap GBest.enc)] [(7, v1), (8, v2), (10, .pointer (some ⟨b3, 0, none⟩)), (15, v1), (16, iV (r1.length : Int)), (17, iV (i1 : Int)), (27, bV (!(slices_ContainsFunc_Best_tumbref2_HistoryOf_c1 (cut r1 0 (i1 : Int)) y1)))] [true, true] rfl (subR rfl)
    refine then_n ?_
    obtain ⟨j3, hj3, h⟩ := joinE h
    refine f_join (fun a w' => ∃ x3 : List GBest, ∃ v6 : Value, j3 x3 = some r ∧ Sx w [] φ1 [.blk b3 (GBest.enc y1) 80, .own v6 80 6 x3.length (x3.flatMap GBest.enc)] [(7, v1), (8, v6), (15, v1), (16, iV (r1.length : Int)), (17, iV (i1 : Int))] 34 a w') ?_ ?_
    ·refine f_cond (S.tm rfl) (fun hb1 => ?_) (fun hb1 => ?_)
     ·replace h := iteT h hb1
      refine f_region (lv S (rn_move (S.tm rfl)) rfl ?_); clear S; intro a S
      refine lv S (rn_ldA Tryz.isAgg80 Tryz.sizeOf80 (off := 0) (o := 0) (part := (GBest.enc y1)) rfl rfl (S.tm rfl) (S.cellsAt (i := 0) rfl)) rfl ?_; clear S; intro a S
      refine l_buildSlice S Tryz.underlying78 Tryz.sizeOf80 Tryz.zeroValue80 rfl rfl (pv := [(0, .agg (GBest.enc y1).toArray)]) ⟨rfl, (S.tm rfl), trivial⟩ (cs := [sV y1.Kind, sV y1.Id, sV y1.Who, iV y1.Time, iV y1.Since, bV y1.Sure]) (by kernel_rfl) rfl ?_; clear S; intro a w10 b4 hz4 hk6 S
      obtain ⟨hc2, h⟩ := chkE h
      refine l_appendT sl_78 GBest.enc_ok S (S.tm rfl) (i := 2) rfl (S.tm rfl) (j := 0) rfl (ys := [y1]) rfl rfl rfl rfl (by have := room_lt hc2; omega) rfl ?_; clear S; intro v7 a w11 hk7 S
      refine lv S (rn_assign (S.tm rfl)) rfl ?_; clear S; intro a S
      refine l_done (then_n ?_)
      exact ⟨(x1 ++ [y1]), v7, h, S.nf [false, true, true] rfl (subR rfl)⟩
     ·replace h := iteF h hb1
      refine wp_skip (then_n ?_)
      exact ⟨x1, v2, h, S.nf [true, true] rfl (subR rfl)⟩
    clear S h; rintro a w9 ⟨x3, v6, h, S⟩; rw [hj3] at h; clear hj3 j3
    refine blk_n (then_n ?_)
    exact ⟨x3, v6, h, S.nf [false, true] rfl (subR rfl)⟩
   clear S h; rintro a w5 ⟨x2, v3, h, S⟩; rw [hj2] at h; clear hj2 j2
   refine then_n (f_region (lv S (rn_add (S.tm rfl) rfl) rfl ?_)); clear S; intro a S
   refine lv S (rn_move (S.tm rfl)) rfl ?_; clear S; intro a S
   refine l_done (then_n ?_)
   exact ⟨ys1, ⟨i1 + 1, x2, v3, ⟨_, (hd1).trans (List.append_cons _ _ _), by simp [hi1]⟩, h, S.nf [true] rfl ⟨rfl, rfl, rfl, rfl, (congrArg (fun z => some (Value.int .i64 z)) (rng_next hd1 hi1 (slc_max (ownV_slcT GBest.enc_ok hs2)))), trivial⟩⟩, Nat.lt_succ_self _⟩
 clear S h; rintro a w4 ⟨x1, v2, h, S⟩; rw [hj1] at h; clear hj1 j1
 refine then_n (f_seq (f_region (lv S (rn_move (S.tm rfl)) rfl ?_))); clear S; intro a S
 refine lv S (rn_assign (S.tm rfl)) rfl ?_; clear S; intro a S
 refine l_done (then_n (wp_ret ?_))
 obtain rfl := Option.some.inj h
 exact f_ret S Tryz.results60 rfl (own_retT S (i := 0) rfl rfl)
theorem tumbref2_LongOf_c1_ok (w : World) (p_b : GBest) (b_p_a1 : Nat) (p_a1 : ByteArray) (hb_b_p_a1 : (view w []) b_p_a1 = some (.cells [sV p_a1].toArray 9 (0, 0))) (r : Bool) (h : tumbref2_LongOf_c1 p_b p_a1 = r) :
    Calls Tryz.prog 61 [.agg (GBest.enc p_b).toArray, .pointer (some ⟨b_p_a1, 0, none⟩)].toArray w (Ret w [] fun _ v _ => v = bV r) := by
 refine f_enter [] [] Tryz.func61 rfl Tryz.ntmps61 rfl (by simp) (by simp [fps]) (by simp [fps]) fun a S => ?_
 unfold tumbref2_LongOf_c1 at h
 replace S := S.nk [] [(0, .agg (GBest.enc p_b).toArray), (1, .pointer (some ⟨b_p_a1, 0, none⟩))] [] rfl (subR rfl)
 refine f_seq (f_region (l_box S (S.tm rfl) (cs := (GBest.enc p_b)) rfl rfl ?_)); clear S; intro a w1 b1 hz1 hk1 S
 refine lv S (rn_assign rfl) rfl ?_; clear S; intro a S
 refine l_done (then_n (f_seq (f_region (lv S (rn_fld fa_80_1 (S.tm rfl)) rfl ?_)))); clear S; intro a S
 refine lv S (rn_load Tryz.isAgg9 (S.tm rfl) (S.cell (i := 0) rfl rfl)) rfl ?_; clear S; intro a S
 refine lv S (rn_ld Tryz.isAgg9 (off := 0) (o := 0) (S.tm rfl) ((mem_blk hb_b_p_a1).at S.emb0) rfl) rfl ?_; clear S; intro a S
 refine lv S (rn_seql (S.tm rfl) (S.tm rfl)) rfl ?_; clear S; intro a S
 refine lv S (rn_assign (S.tm rfl)) rfl ?_; clear S; intro a S
 refine l_done (then_n (wp_ret ?_))
 subst h
 exact f_ret S Tryz.results61 rfl rfl
theorem slices_IndexFunc_Best_tumbref2_LongOf_c1_ok (w : World) (v_p_s : Value) (p_s : List GBest) (hs_p_s : Slc (view w []) 6 v_p_s (p_s.map GBest.enc)) (b_p_f_0 : Nat) (p_f_0 : ByteArray) (hb_b_p_f_0 : (view w []) b_p_f_0 = some (.cells [sV p_f_0].toArray 9 (0, 0))) (r : Int) (h : slices_IndexFunc_Best_tumbref2_LongOf_c1 p_s p_f_0 = r) :
    Calls Tryz.prog 47 [v_p_s, .func (.func 61) #[] #[.pointer (some ⟨b_p_f_0, 0, none⟩)]].toArray w (Ret w [] fun _ v _ => v = iV r) := by
 refine f_enter [] [] Tryz.func47 rfl Tryz.ntmps47 rfl (by simp) (by simp [fps]) (by simp [fps]) fun a S => ?_
 unfold slices_IndexFunc_Best_tumbref2_LongOf_c1 at h
 replace S := S.nk [] [(0, v_p_s), (1, .func (.func 61) #[] #[.pointer (some ⟨b_p_f_0, 0, none⟩)])] [] rfl (subR rfl)
 refine f_seq (f_region (lv S (rn_assign rfl) rfl ?_)); clear S; intro a S
 refine l_done (then_n (f_seq (f_seq (f_region (lv S (rn_move (S.tm rfl)) rfl ?_))))); clear S; intro a S
 refine lv S (rn_lenT sl_78 (S.tm rfl) (slc_len hs_p_s)) rfl ?_; clear S; intro a S
 refine lv S (rn_move rfl) rfl ?_; clear S; intro a S
 refine l_done (then_n ?_)
 replace S := S.nk [] [(0, v_p_s), (1, .func (.func 61) #[] #[.pointer (some ⟨b_p_f_0, 0, none⟩)]), (7, iV (p_s.length : Int)), (8, iV 0)] [] rfl (subR rfl)
 obtain ⟨j1, hj1, h⟩ := joinE h
 refine f_join (fun a w' => j1 = r ∧ Sx w [] nov [] [] 19 a w') ?_ ?_
 ·refine wp_block (f_loop (fun (ys1 : List GBest) a w' => ∃ i1 : Nat, (∃ dn, p_s = dn ++ ys1 ∧ dn.length = i1) ∧ slices_IndexFunc_Best_tumbref2_LongOf_c1_l1 p_f_0 j1 ys1 i1 = r ∧ Sx w [] nov [] [(0, v_p_s), (1, .func (.func 61) #[] #[.pointer (some ⟨b_p_f_0, 0, none⟩)]), (7, iV (p_s.length : Int)), (8, iV (i1 : Int))] 19 a w') List.length p_s ⟨0, ⟨[], rfl, rfl⟩, h, S.nf [] rfl (subR rfl)⟩ ?_)
  clear S h; rintro ys1 a w1 ⟨i1, ⟨dn, hd1, hi1⟩, h, S⟩
  cases ys1 with
  | nil =>
   rw [slices_IndexFunc_Best_tumbref2_LongOf_c1_l1.eq_1] at h
   refine f_seq (f_region (lv S (rn_lss (S.tm rfl) (S.tm rfl)) rfl ?_)); clear S; intro a S
   refine l_done ?_
   replace S := S.nk [] [(0, v_p_s), (1, .func (.func 61) #[] #[.pointer (some ⟨b_p_f_0, 0, none⟩)]), (7, iV (p_s.length : Int)), (8, iV (i1 : Int)), (9, bV (decide ((i1 : Int) < (p_s.length : Int))))] [] rfl (subR rfl)
   refine then_n (f_seq (wp_cond_false ((S.tm rfl).trans (congrArg Value.bool (rng_nil hd1 hi1))) (wp_exit (then_x (then_x (x_same ?_))))))
   refine then_n ?_
   exact ⟨h, S.nf [] rfl trivial⟩
  | cons y1 ys1 =>
   rw [slices_IndexFunc_Best_tumbref2_LongOf_c1_l1.eq_2] at h
   refine f_seq (f_region (lv S (rn_lss (S.tm rfl) (S.tm rfl)) rfl ?_)); clear S; intro a S
   refine l_done ?_
   replace S := S.nk [] [(0, v_p_s), (1, .func (.func 61) #[] #[.pointer (some ⟨b_p_f_0, 0, none⟩)]), (7, iV (p_s.length : Int)), (8, iV (i1 : Int)), (9, bV (decide ((i1 : Int) < (p_s.length : Int))))] [] rfl (subR rfl)
   refine then_n (f_seq (wp_cond_true ((S.tm rfl).trans (congrArg Value.bool (rng_cons hd1 hi1))) (wp_skip (then_n (f_seq (wp_block ?_))))))
   refine f_seq (f_region (lv S (rn_move (S.tm rfl)) rfl ?_)); clear S; intro a S
   refine lv S (rn_assign (S.tm rfl)) rfl ?_; clear S; intro a S
   refine l_done (then_n (f_seq (f_region (lv S (rn_move (S.tm rfl)) rfl ?_)))); clear S; intro a S
   refine lv S (rn_move (S.tm rfl)) rfl ?_; clear S; intro a S
   refine lv S (rn_move (S.tm rfl)) rfl ?_; clear S; intro a S
   obtain ⟨b1, o1, hm1, hr1⟩ := rn_indexT (a := a) (x := .tmp 12) (y := .tmp 13) (ty := 0) sl_78 hs_p_s (get_mid hd1 hi1) rfl (S.tm rfl) (S.tm rfl)
   refine lv S (hr1 _) rfl ?_; clear S; intro a S
   clear hr1
   refine lv S (rn_ldA Tryz.isAgg80 Tryz.sizeOf80 (off := o1) (o := 0) (part := (GBest.enc y1)) rfl rfl (S.tm rfl) (hm1.at S.emb0)) rfl ?_; clear S; intro a S
   refine l_enter S (fun _ => run_callV (cap := [.pointer (some ⟨b_p_f_0, 0, none⟩)]) (S.tm rfl) (vs := [.agg (GBest.enc y1).toArray]) ⟨(S.tm rfl), trivial⟩ Tryz.call61) (tumbref2_LongOf_c1_ok _ y1 b_p_f_0 p_f_0 ((S.le_arg nil_sub) _ _ hb_b_p_f_0) _ rfl) rfl ?_; clear S; intro v1 a w3 hv1 hk1 hn1 S
   subst hv1
   refine l_done (then_n (f_cond (S.tm rfl) (fun hb1 => ?_) (fun hb1 => ?_)))
   ·replace h := iteT h hb1
    refine f_seq (f_region (lv S (rn_move (S.tm rfl)) rfl ?_)); clear S; intro a S
    refine lv S (rn_assign (S.tm rfl)) rfl ?_; clear S; intro a S
    refine l_done ?_
    replace S := S.nk [] [(4, iV (i1 : Int))] [] rfl ⟨rfl, trivial⟩
    refine then_n (wp_ret (blk_r (then_r (then_r (blk_r (then_r ?_))))))
    refine then_r ?_
    subst h
    exact f_ret S Tryz.results47 rfl rfl
   ·replace h := iteF h hb1
    refine wp_skip (blk_n (then_n (f_region (lv S (rn_add (S.tm rfl) rfl) rfl ?_)))); clear S; intro a S
    refine lv S (rn_move (S.tm rfl)) rfl ?_; clear S; intro a S
    refine l_done (then_n ?_)
    exact ⟨ys1, ⟨i1 + 1, ⟨_, (hd1).trans (List.append_cons _ _ _), by simp [hi1]⟩, h, S.nf [] rfl ⟨rfl, rfl, rfl, (congrArg (fun z => some (Value.int .i64 z)) (rng_next hd1 hi1 (slc_max hs_p_s))), trivial⟩⟩, Nat.lt_succ_self _⟩
 clear S h; rintro a w2 ⟨h, S⟩; rw [hj1] at h; clear hj1 j1
 refine then_n (f_seq (f_region (lv S (rn_assign rfl) rfl ?_))); clear S; intro a S
 refine l_done (then_n (wp_ret ?_))
 subst h
 exact f_ret S Tryz.results47 rfl rfl
set_option maxRecDepth 20000 in
theorem tumbref2_LongOf_ok (w : World) (p_k : GKind) (q_p_k : R57) (hq_p_k : rel_57 (view w []) p_k q_p_k) (v_p_l : Value) (p_l : List GStep) (hs_p_l : Slc (view w []) 8 v_p_l (p_l.map GStep.enc)) (p_id : ByteArray) (p_at : Int) (r : Int) (h : tumbref2_LongOf p_k p_l p_id p_at = some r) :
    Calls Tryz.prog 25 [.agg (R57.enc q_p_k).toArray, v_p_l, sV p_id, iV p_at].toArray w (Ret w [] fun _ v _ => v = iV r) := by
 obtain ⟨u1, rfl, hs1⟩ := hq_p_k
 refine f_enter [] [] Tryz.func25 rfl Tryz.ntmps25 rfl (by simp) (by simp [fps]) (by simp [fps]) fun a S => ?_
 unfold tumbref2_LongOf at h
 replace S := S.nk [] [(0, .agg #[sV p_k.Key, sV p_k.Race, u1.val, iV p_k.Young, iV p_k.Old]), (1, v_p_l), (2, sV p_id), (3, iV p_at)] [] rfl (subR rfl)
 refine f_seq (f_region (l_box S (S.tm rfl) (cs := [sV p_k.Key, sV p_k.Race, u1.val, iV p_k.Young, iV p_k.Old]) rfl rfl ?_)); clear S; intro a w1 b1 hz1 hk1 S
 refine l_box S (S.tm rfl) (cs := [sV p_id]) rfl rfl ?_; clear S; intro a w2 b2 hz2 hk2 S
 refine lv S (rn_assign rfl) rfl ?_; clear S; intro a S
 refine l_done (then_n (f_seq (f_region (lv S (rn_ldA Tryz.isAgg57 Tryz.sizeOf57 (off := 0) (o := 0) (part := [sV p_k.Key, sV p_k.Race, u1.val, iV p_k.Young, iV p_k.Old]) rfl rfl (S.tm rfl) (S.cellsAt (i := 1) rfl)) rfl ?_)))); clear S; intro a S
 refine lv S (rn_move (S.tm rfl)) rfl ?_; clear S; intro a S
 refine lv S (rn_move (S.tm rfl)) rfl ?_; clear S; intro a S
 obtain ⟨r1, hr1, h⟩ := bindE h
 have hz3 := S.keep.size
 refine l_enter S (fun _ => run_call (vs := [.agg (R57.enc (R57.mk p_k.Key p_k.Race u1 p_k.Young p_k.Old)).toArray, v_p_l, iV p_at]) ⟨(S.tm rfl), (S.tm rfl), (S.tm rfl), trivial⟩ Tryz.call60) (tumbref2_HistoryOf_ok _ p_k (R57.mk p_k.Key p_k.Race u1 p_k.Young p_k.Old) ⟨u1, rfl, (hs1.mono (S.le_arg nil_sub))⟩ v_p_l p_l (hs_p_l.mono (S.le_arg nil_sub)) p_at _ hr1) rfl ?_; clear S; intro v1 a w3 hv1 hk3 hn1 S
 obtain ⟨φ1, hl1, hm1, S⟩ := S.see' hn1 hz3
 have hs2 := hv1.mono hm1
 refine lv S (rn_assign (S.tm rfl)) rfl ?_; clear S; intro a S
 refine l_done (then_n (f_seq (f_region (lv S (rn_move (S.tm rfl)) rfl ?_)))); clear S; intro a S
 refine lv S (rn_makeFunc (us := #[]) (xs := [].toArray) (ys := [.tmp 6].toArray) (by simp) (evA ⟨(S.tm rfl), trivial⟩ (vs := [.pointer (some ⟨b2, 0, none⟩)]))) rfl ?_; clear S; intro a S
 refine l_enter S (fun _ => run_call (vs := [v1, .func (.func 61) #[] #[.pointer (some ⟨b2, 0, none⟩)]]) ⟨(S.tm rfl), (S.tm rfl), trivial⟩ Tryz.call47) (slices_IndexFunc_Best_tumbref2_LongOf_c1_ok _ v1 r1 ((ownV_slcT GBest.enc_ok hs2).mono (S.le_new nil_sub)) b2 p_id (S.blk_view (i := 0) rfl ((ne_nil (e' := .blk b2 [sV p_id] 9)) _ rfl)) _ rfl) rfl ?_; clear S; intro v2 a w4 hv2 hk4 hn2 S
 subst hv2
 refine lv S (rn_assign (S.tm rfl)) rfl ?_; clear S; intro a S
 refine l_done ?_
 replace S := S.nk [] [(3, iV p_at), (9, v1), (10, iV (slices_IndexFunc_Best_tumbref2_LongOf_c1 r1 p_id))] [false, false] rfl (subR rfl)
 refine then_n (f_seq (f_seq (f_region (lv S (rn_move (S.tm rfl)) rfl ?_)))); clear S; intro a S
 refine lv S (rn_lss (S.tm rfl) rfl) rfl ?_; clear S; intro a S
 refine l_done (then_n (f_cond (S.tm rfl) (fun hb1 => ?_) (fun hb1 => ?_)))
 ·replace h := iteT h hb1
  refine f_seq (f_region (lv S (rn_assign rfl) rfl ?_)); clear S; intro a S
  refine l_done (then_n (wp_ret (then_r ?_)))
  obtain rfl := Option.some.inj h
  exact f_ret S Tryz.results25 rfl rfl
 ·replace h := iteF h hb1
  refine wp_skip (then_n (f_seq (f_seq (f_region (lv S (rn_move (S.tm rfl)) rfl ?_))))); clear S; intro a S
  refine lv S (rn_move (S.tm rfl)) rfl ?_; clear S; intro a S
  obtain ⟨hc1, h⟩ := chkE h
  obtain ⟨v3, hs3, hr2⟩ := rn_cutTl (a := a) (x := .tmp 22) (y := .tmp 23) (ty := 78) sl_78 (ownV_slcT GBest.enc_ok hs2) (S.tm rfl) (S.tm rfl) hc1
  refine lv S (hr2 _) rfl ?_; clear S; intro a S
  clear hr2
  refine lv S (rn_lenT sl_78 (S.tm rfl) (slc_len hs3)) rfl ?_; clear S; intro a S
  refine lv S (rn_move rfl) rfl ?_; clear S; intro a S
  refine l_done (then_n ?_)
  replace S := S.nk [] [(3, iV p_at), (9, v1), (10, iV (slices_IndexFunc_Best_tumbref2_LongOf_c1 r1 p_id)), (24, v3), (25, iV ((cut r1 (slices_IndexFunc_Best_tumbref2_LongOf_c1 r1 p_id) r1.length).length : Int)), (26, iV 0)] [] rfl (subR rfl)
  obtain ⟨j1, hj1, h⟩ := joinE h
  refine f_join (fun a w' => j1 = some r ∧ Sx w [] φ1 [] [(3, iV p_at), (9, v1), (10, iV (slices_IndexFunc_Best_tumbref2_LongOf_c1 r1 p_id))] 54 a w') ?_ ?_
  ·refine wp_block (f_loop (fun (ys1 : List GBest) a w' => ∃ i1 : Nat, (∃ dn, cut r1 (slices_IndexFunc_Best_tumbref2_LongOf_c1 r1 p_id) r1.length = dn ++ ys1 ∧ dn.length = i1) ∧ tumbref2_LongOf_l1 r1 p_id j1 ys1 i1 = some r ∧ Sx w [] φ1 [] [(3, iV p_at), (9, v1), (10, iV (slices_IndexFunc_Best_tumbref2_LongOf_c1 r1 p_id)), (24, v3), (25, iV ((cut r1 (slices_IndexFunc_Best_tumbref2_LongOf_c1 r1 p_id) r1.length).length : Int)), (26, iV (i1 : Int))] 54 a w') List.length (cut r1 (slices_IndexFunc_Best_tumbref2_LongOf_c1 r1 p_id) r1.length) ⟨0, ⟨[], rfl, rfl⟩, h, S.nf [] rfl (subR rfl)⟩ ?_)
   clear S h; rintro ys1 a w5 ⟨i1, ⟨dn, hd1, hi1⟩, h, S⟩
   cases ys1 with
   | nil =>
    rw [tumbref2_LongOf_l1.eq_1] at h
    refine f_seq (f_region (lv S (rn_lss (S.tm rfl) (S.tm rfl)) rfl ?_)); clear S; intro a S
    refine l_done ?_
    replace S := S.nk [] [(3, iV p_at), (9, v1), (10, iV (slices_IndexFunc_Best_tumbref2_LongOf_c1 r1 p_id)), (24, v3), (25, iV ((cut r1 (slices_IndexFunc_Best_tumbref2_LongOf_c1 r1 p_id) r1.length).length : Int)), (26, iV (i1 : Int)), (27, bV (decide ((i1 : Int) < ((cut r1 (slices_IndexFunc_Best_tumbref2_LongOf_c1 r1 p_id) r1.length).length : Int))))] [] rfl (subR rfl)
    refine then_n (f_seq (wp_cond_false ((S.tm rfl).trans (congrArg Value.bool (rng_nil hd1 hi1))) (wp_exit (then_x (then_x (x_same ?_))))))
    refine then_n ?_
    exact ⟨h, S.nf [] rfl (subR rfl)⟩
   | cons y1 ys1 =>
    rw [tumbref2_LongOf_l1.eq_2] at h
    refine f_seq (f_region (lv S (rn_lss (S.tm rfl) (S.tm rfl)) rfl ?_)); clear S; intro a S
    refine l_done ?_
    replace S := S.nk [] [(3, iV p_at), (9, v1), (10, iV (slices_IndexFunc_Best_tumbref2_LongOf_c1 r1 p_id)), (24, v3), (25, iV ((cut r1 (slices_IndexFunc_Best_tumbref2_LongOf_c1 r1 p_id) r1.length).length : Int)), (26, iV (i1 : Int)), (27, bV (decide ((i1 : Int) < ((cut r1 (slices_IndexFunc_Best_tumbref2_LongOf_c1 r1 p_id) r1.length).length : Int))))] [] rfl (subR rfl)
    refine then_n (f_seq (wp_cond_true ((S.tm rfl).trans (congrArg Value.bool (rng_cons hd1 hi1))) (wp_skip (then_n (f_seq (wp_block ?_))))))
    refine f_seq (f_region ?_)
    obtain ⟨b3, o1, hm2, hr3⟩ := rn_indexT (a := a) (x := .tmp 24) (y := .tmp 26) (ty := 0) sl_78 hs3 (get_mid hd1 hi1) rfl (S.tm rfl) (S.tm rfl)
    refine lv S (hr3 _) rfl ?_; clear S; intro a S
    clear hr3
    refine lv S (rn_ldA Tryz.isAgg80 Tryz.sizeOf80 (off := o1) (o := 0) (part := (GBest.enc y1)) rfl rfl (S.tm rfl) (hm2.at S.emb)) rfl ?_; clear S; intro a S
    refine l_alloc S Tryz.zeroValue80 (cs := [sV k_empty, sV k_empty, sV k_empty, iV 0, iV 0, bV false]) rfl rfl ?_; clear S; intro a w7 b4 hz4 hk5 S
    refine l_store S (S.tm rfl) (S.tm rfl) (i := 0) (off := 0) rfl Tryz.sizeOf80 (vs := (GBest.enc y1)) rfl rfl rfl rfl ?_; clear S; intro w8 hk6 S
    refine l_done (then_n (f_seq (d_region [] ([]) Tryz.mixed S rfl (by kernel_rfl) ?_))); clear S; intro w9 hk7 hsel S
    refine d_rest [0, 1, 2, 3, 4, 5, 6, 7] hsel (by kernel_rfl) rfl ?_
    clear hsel
    refine s_lv S rfl (rn_fld fa_80_3 (S.tm rfl)) rfl ?_; clear S; intro a S
    refine s_lv S rfl (rn_load Tryz.isAgg3 (S.tm rfl) (S.cell (i := 0) rfl rfl)) rfl ?_; clear S; intro a S
    refine s_lv S rfl (rn_move (S.tm rfl)) rfl ?_; clear S; intro a S
    refine s_lv S rfl (rn_move (S.tm rfl)) rfl ?_; clear S; intro a S
    obtain ⟨hc2, h⟩ := chkE h
    obtain ⟨b5, o2, hm3, hr4⟩ := rn_indexT (a := a) (x := .tmp 32) (y := .tmp 33) (ty := 0) sl_78 (ownV_slcT GBest.enc_ok hs2) (inB_get hc2).1 (inB_get hc2).2 (S.tm rfl) (S.tm rfl)
    refine s_lv S rfl (hr4 _) rfl ?_; clear S; intro a S
    clear hr4
    refine s_lv S rfl (rn_fld fa_80_3 (S.tm rfl)) rfl ?_; clear S; intro a S
    refine s_lv S rfl (rn_ld Tryz.isAgg3 (off := o2) (o := 3) (S.tm rfl) (hm3.at S.emb) rfl) rfl ?_; clear S; intro a S
    refine s_lv S rfl (rn_lss (S.tm rfl) (S.tm rfl)) rfl ?_; clear S; intro a S
    refine s_done ?_
    replace S := S.nk [.blk b4 (GBest.enc y1) 80] [(3, iV p_at), (9, v1), (10, iV (slices_IndexFunc_Best_tumbref2_LongOf_c1 r1 p_id)), (12, .pointer (some ⟨b4, 0, none⟩)), (24, v3), (25, iV ((cut r1 (slices_IndexFunc_Best_tumbref2_LongOf_c1 r1 p_id) r1.length).length : Int)), (26, iV (i1 : Int)), (37, bV (decide (y1.Time < ((nth r1 (slices_IndexFunc_Best_tumbref2_LongOf_c1 r1 p_id)).Time))))] [true] rfl (subR rfl)
    refine then_n (f_cond (S.tm rfl) (fun hb2 => ?_) (fun hb2 => ?_))
    ·replace h := iteT h hb2
     refine f_seq (d_region [] ([]) Tryz.mixed S rfl (by kernel_rfl) ?_); clear S; intro w10 hk8 hsel S
     refine d_rest [0, 1, 2, 3, 4, 5, 6, 7, 8] hsel (by kernel_rfl) rfl ?_
     clear hsel
     refine s_lv S rfl (rn_fld fa_80_4 (S.tm rfl)) rfl ?_; clear S; intro a S
     refine s_lv S rfl (rn_load Tryz.isAgg3 (S.tm rfl) (S.cell (i := 0) rfl rfl)) rfl ?_; clear S; intro a S
     refine s_lv S rfl (rn_move (S.tm rfl)) rfl ?_; clear S; intro a S
     refine s_lv S rfl (rn_move (S.tm rfl)) rfl ?_; clear S; intro a S
     obtain ⟨hc3, h⟩ := chkE h
     obtain ⟨b6, o3, hm4, hr5⟩ := rn_indexT (a := a) (x := .tmp 40) (y := .tmp 41) (ty := 0) sl_78 (ownV_slcT GBest.enc_ok hs2) (inB_get hc3).1 (inB_get hc3).2 (S.tm rfl) (S.tm rfl)
     refine s_lv S rfl (hr5 _) rfl ?_; clear S; intro a S
     clear hr5
     refine s_lv S rfl (rn_fld fa_80_4 (S.tm rfl)) rfl ?_; clear S; intro a S
     refine s_lv S rfl (rn_ld Tryz.isAgg3 (off := o3) (o := 4) (S.tm rfl) (hm4.at S.emb) rfl) rfl ?_; clear S; intro a S
     refine s_lv S rfl (rn_sub (S.tm rfl) (S.tm rfl)) rfl ?_; clear S; intro a S
     refine s_lv S rfl (rn_assign (S.tm rfl)) rfl ?_; clear S; intro a S
     refine s_done ?_
     replace S := S.nk [] [(8, iV (W (y1.Since - ((nth r1 (slices_IndexFunc_Best_tumbref2_LongOf_c1 r1 p_id)).Since))))] [false] rfl ⟨rfl, trivial⟩
     refine then_n (wp_ret (blk_r (then_r (then_r (blk_r (then_r ?_))))))
     refine then_r ?_
     obtain rfl := Option.some.inj h
     exact f_ret S Tryz.results25 rfl rfl
    ·replace h := iteF h hb2
     refine wp_skip (blk_n (then_n (f_region (lv S (rn_add (S.tm rfl) rfl) rfl ?_)))); clear S; intro a S
     refine lv S (rn_move (S.tm rfl)) rfl ?_; clear S; intro a S
     refine l_done (then_n ?_)
     exact ⟨ys1, ⟨i1 + 1, ⟨_, (hd1).trans (List.append_cons _ _ _), by simp [hi1]⟩, h, S.nf [false] rfl ⟨rfl, rfl, rfl, rfl, rfl, (congrArg (fun z => some (Value.int .i64 z)) (rng_next hd1 hi1 (slc_max hs3))), trivial⟩⟩, Nat.lt_succ_self _⟩
  clear S h; rintro a w6 ⟨h, S⟩; rw [hj1] at h; clear hj1 j1
  refine then_n (f_seq (f_region (lv S (rn_move (S.tm rfl)) rfl ?_))); clear S; intro a S
  refine lv S (rn_move (S.tm rfl)) rfl ?_; clear S; intro a S
  refine lv S (rn_move (S.tm rfl)) rfl ?_; clear S; intro a S
  obtain ⟨hc4, h⟩ := chkE h
  obtain ⟨b7, o4, hm5, hr6⟩ := rn_indexT (a := a) (x := .tmp 48) (y := .tmp 49) (ty := 0) sl_78 (ownV_slcT GBest.enc_ok hs2) (inB_get hc4).1 (inB_get hc4).2 (S.tm rfl) (S.tm rfl)
  refine lv S (hr6 _) rfl ?_; clear S; intro a S
  clear hr6
  refine lv S (rn_fld fa_80_4 (S.tm rfl)) rfl ?_; clear S; intro a S
  refine lv S (rn_ld Tryz.isAgg3 (off := o4) (o := 4) (S.tm rfl) (hm5.at S.emb) rfl) rfl ?_; clear S; intro a S
  refine lv S (rn_sub (S.tm rfl) (S.tm rfl)) rfl ?_; clear S; intro a S
  refine lv S (rn_assign (S.tm rfl)) rfl ?_; clear S; intro a S
  refine l_done (then_n (wp_ret ?_))
  obtain rfl := Option.some.inj h
  exact f_ret S Tryz.results25 rfl rfl
theorem tumbref2_WouldOf_c1_ok (w : World) (p_b : GBest) (b_p_a1 : Nat) (p_a1 : GStep) (hb_b_p_a1 : (view w []) b_p_a1 = some (.cells [iV p_a1.At, iV p_a1.Kind, sV p_a1.Id, sV p_a1.Who, sV p_a1.Club, sV p_a1.Race, iV p_a1.Age, iV p_a1.Time].toArray 34 (0, 0))) (r : Bool) (h : tumbref2_WouldOf_c1 p_b p_a1 = r) :
    Calls Tryz.prog 66 [.agg (GBest.enc p_b).toArray, .pointer (some ⟨b_p_a1, 0, none⟩)].toArray w (Ret w [] fun _ v _ => v = bV r) := by
 refine f_enter [] [] Tryz.func66 rfl Tryz.ntmps66 rfl (by simp) (by simp [fps]) (by simp [fps]) fun a S => ?_
 unfold tumbref2_WouldOf_c1 at h
 replace S := S.nk [] [(0, .agg (GBest.enc p_b).toArray), (1, .pointer (some ⟨b_p_a1, 0, none⟩))] [] rfl (subR rfl)
 refine f_seq (f_region (l_box S (S.tm rfl) (cs := (GBest.enc p_b)) rfl rfl ?_)); clear S; intro a w1 b1 hz1 hk1 S
 refine lv S (rn_assign rfl) rfl ?_; clear S; intro a S
 refine l_done (then_n (f_seq (f_region (lv S (rn_fld fa_80_3 (S.tm rfl)) rfl ?_)))); clear S; intro a S
 refine lv S (rn_load Tryz.isAgg3 (S.tm rfl) (S.cell (i := 0) rfl rfl)) rfl ?_; clear S; intro a S
 refine lv S (rn_fld fa_34_7 (S.tm rfl)) rfl ?_; clear S; intro a S
 refine lv S (rn_ld Tryz.isAgg3 (off := 0) (o := 7) (S.tm rfl) ((mem_blk hb_b_p_a1).at S.emb0) rfl) rfl ?_; clear S; intro a S
 refine lv S (rn_lss (S.tm rfl) (S.tm rfl)) rfl ?_; clear S; intro a S
 refine lv S (rn_assign (S.tm rfl)) rfl ?_; clear S; intro a S
 refine l_done (then_n (wp_ret ?_))
 subst h
 exact f_ret S Tryz.results66 rfl rfl
theorem slices_IndexFunc_Best_tumbref2_WouldOf_c1_ok (w : World) (v_p_s : Value) (p_s : List GBest) (hs_p_s : Slc (view w []) 6 v_p_s (p_s.map GBest.enc)) (b_p_f_0 : Nat) (p_f_0 : GStep) (hb_b_p_f_0 : (view w []) b_p_f_0 = some (.cells [iV p_f_0.At, iV p_f_0.Kind, sV p_f_0.Id, sV p_f_0.Who, sV p_f_0.Club, sV p_f_0.Race, iV p_f_0.Age, iV p_f_0.Time].toArray 34 (0, 0))) (r : Int) (h : slices_IndexFunc_Best_tumbref2_WouldOf_c1 p_s p_f_0 = r) :
    Calls Tryz.prog 47 [v_p_s, .func (.func 66) #[] #[.pointer (some ⟨b_p_f_0, 0, none⟩)]].toArray w (Ret w [] fun _ v _ => v = iV r) := by
 refine f_enter [] [] Tryz.func47 rfl Tryz.ntmps47 rfl (by simp) (by simp [fps]) (by simp [fps]) fun a S => ?_
 unfold slices_IndexFunc_Best_tumbref2_WouldOf_c1 at h
 replace S := S.nk [] [(0, v_p_s), (1, .func (.func 66) #[] #[.pointer (some ⟨b_p_f_0, 0, none⟩)])] [] rfl (subR rfl)
 refine f_seq (f_region (lv S (rn_assign rfl) rfl ?_)); clear S; intro a S
 refine l_done (then_n (f_seq (f_seq (f_region (lv S (rn_move (S.tm rfl)) rfl ?_))))); clear S; intro a S
 refine lv S (rn_lenT sl_78 (S.tm rfl) (slc_len hs_p_s)) rfl ?_; clear S; intro a S
 refine lv S (rn_move rfl) rfl ?_; clear S; intro a S
 refine l_done (then_n ?_)
 replace S := S.nk [] [(0, v_p_s), (1, .func (.func 66) #[] #[.pointer (some ⟨b_p_f_0, 0, none⟩)]), (7, iV (p_s.length : Int)), (8, iV 0)] [] rfl (subR rfl)
 obtain ⟨j1, hj1, h⟩ := joinE h
 refine f_join (fun a w' => j1 = r ∧ Sx w [] nov [] [] 19 a w') ?_ ?_
 ·refine wp_block (f_loop (fun (ys1 : List GBest) a w' => ∃ i1 : Nat, (∃ dn, p_s = dn ++ ys1 ∧ dn.length = i1) ∧ slices_IndexFunc_Best_tumbref2_WouldOf_c1_l1 p_f_0 j1 ys1 i1 = r ∧ Sx w [] nov [] [(0, v_p_s), (1, .func (.func 66) #[] #[.pointer (some ⟨b_p_f_0, 0, none⟩)]), (7, iV (p_s.length : Int)), (8, iV (i1 : Int))] 19 a w') List.length p_s ⟨0, ⟨[], rfl, rfl⟩, h, S.nf [] rfl (subR rfl)⟩ ?_)
  clear S h; rintro ys1 a w1 ⟨i1, ⟨dn, hd1, hi1⟩, h, S⟩
  cases ys1 with
  | nil =>
   rw [slices_IndexFunc_Best_tumbref2_WouldOf_c1_l1.eq_1] at h
   refine f_seq (f_region (lv S (rn_lss (S.tm rfl) (S.tm rfl)) rfl ?_)); clear S; intro a S
   refine l_done ?_
   replace S := S.nk [] [(0, v_p_s), (1, .func (.func 66) #[] #[.pointer (some ⟨b_p_f_0, 0, none⟩)]), (7, iV (p_s.length : Int)), (8, iV (i1 : Int)), (9, bV (decide ((i1 : Int) < (p_s.length : Int))))] [] rfl (subR rfl)
   refine then_n (f_seq (wp_cond_false ((S.tm rfl).trans (congrArg Value.bool (rng_nil hd1 hi1))) (wp_exit (then_x (then_x (x_same ?_))))))
   refine then_n ?_
   exact ⟨h, S.nf [] rfl trivial⟩
  | cons y1 ys1 =>
   rw [slices_IndexFunc_Best_tumbref2_WouldOf_c1_l1.eq_2] at h
   refine f_seq (f_region (lv S (rn_lss (S.tm rfl) (S.tm rfl)) rfl ?_)); clear S; intro a S
   refine l_done ?_
   replace S := S.nk [] [(0, v_p_s), (1, .func (.func 66) #[] #[.pointer (some ⟨b_p_f_0, 0, none⟩)]), (7, iV (p_s.length : Int)), (8, iV (i1 : Int)), (9, bV (decide ((i1 : Int) < (p_s.length : Int))))] [] rfl (subR rfl)
   refine then_n (f_seq (wp_cond_true ((S.tm rfl).trans (congrArg Value.bool (rng_cons hd1 hi1))) (wp_skip (then_n (f_seq (wp_block ?_))))))
   refine f_seq (f_region (lv S (rn_move (S.tm rfl)) rfl ?_)); clear S; intro a S
   refine lv S (rn_assign (S.tm rfl)) rfl ?_; clear S; intro a S
   refine l_done (then_n (f_seq (f_region (lv S (rn_move (S.tm rfl)) rfl ?_)))); clear S; intro a S
   refine lv S (rn_move (S.tm rfl)) rfl ?_; clear S; intro a S
   refine lv S (rn_move (S.tm rfl)) rfl ?_; clear S; intro a S
   obtain ⟨b1, o1, hm1, hr1⟩ := rn_indexT (a := a) (x := .tmp 12) (y := .tmp 13) (ty := 0) sl_78 hs_p_s (get_mid hd1 hi1) rfl (S.tm rfl) (S.tm rfl)
   refine lv S (hr1 _) rfl ?_; clear S; intro a S
   clear hr1
   refine lv S (rn_ldA Tryz.isAgg80 Tryz.sizeOf80 (off := o1) (o := 0) (part := (GBest.enc y1)) rfl rfl (S.tm rfl) (hm1.at S.emb0)) rfl ?_; clear S; intro a S
   refine l_enter S (fun _ => run_callV (cap := [.pointer (some ⟨b_p_f_0, 0, none⟩)]) (S.tm rfl) (vs := [.agg (GBest.enc y1).toArray]) ⟨(S.tm rfl), trivial⟩ Tryz.call66) (tumbref2_WouldOf_c1_ok _ y1 b_p_f_0 p_f_0 ((S.le_arg nil_sub) _ _ hb_b_p_f_0) _ rfl) rfl ?_; clear S; intro v1 a w3 hv1 hk1 hn1 S
   subst hv1
   refine l_done (then_n (f_cond (S.tm rfl) (fun hb1 => ?_) (fun hb1 => ?_)))
   ·replace h := iteT h hb1
    refine f_seq (f_region (lv S (rn_move (S.tm rfl)) rfl ?_)); clear S; intro a S
    refine lv S (rn_assign (S.tm rfl)) rfl ?_; clear S; intro a S
    refine l_done ?_
    replace S := S.nk [] [(4, iV (i1 : Int))] [] rfl ⟨rfl, trivial⟩
    refine then_n (wp_ret (blk_r (then_r (then_r (blk_r (then_r ?_))))))
    refine then_r ?_
    subst h
    exact f_ret S Tryz.results47 rfl rfl
   ·replace h := iteF h hb1
    refine wp_skip (blk_n (then_n (f_region (lv S (rn_add (S.tm rfl) rfl) rfl ?_)))); clear S; intro a S
    refine lv S (rn_move (S.tm rfl)) rfl ?_; clear S; intro a S
    refine l_done (then_n ?_)
    exact ⟨ys1, ⟨i1 + 1, ⟨_, (hd1).trans (List.append_cons _ _ _), by simp [hi1]⟩, h, S.nf [] rfl ⟨rfl, rfl, rfl, (congrArg (fun z => some (Value.int .i64 z)) (rng_next hd1 hi1 (slc_max hs_p_s))), trivial⟩⟩, Nat.lt_succ_self _⟩
 clear S h; rintro a w2 ⟨h, S⟩; rw [hj1] at h; clear hj1 j1
 refine then_n (f_seq (f_region (lv S (rn_assign rfl) rfl ?_))); clear S; intro a S
 refine l_done (then_n (wp_ret ?_))
 subst h
 exact f_ret S Tryz.results47 rfl rfl
theorem slices_ContainsFunc_Best_tumbref2_WouldOf_c1_ok (w : World) (v_p_s : Value) (p_s : List GBest) (hs_p_s : Slc (view w []) 6 v_p_s (p_s.map GBest.enc)) (b_p_f_0 : Nat) (p_f_0 : GStep) (hb_b_p_f_0 : (view w []) b_p_f_0 = some (.cells [iV p_f_0.At, iV p_f_0.Kind, sV p_f_0.Id, sV p_f_0.Who, sV p_f_0.Club, sV p_f_0.Race, iV p_f_0.Age, iV p_f_0.Time].toArray 34 (0, 0))) (r : Bool) (h : slices_ContainsFunc_Best_tumbref2_WouldOf_c1 p_s p_f_0 = r) :
    Calls Tryz.prog 42 [v_p_s, .func (.func 66) #[] #[.pointer (some ⟨b_p_f_0, 0, none⟩)]].toArray w (Ret w [] fun _ v _ => v = bV r) := by
 refine f_enter [] [] Tryz.func42 rfl Tryz.ntmps42 rfl (by simp) (by simp [fps]) (by simp [fps]) fun a S => ?_
 unfold slices_ContainsFunc_Best_tumbref2_WouldOf_c1 at h
 replace S := S.nk [] [(0, v_p_s), (1, .func (.func 66) #[] #[.pointer (some ⟨b_p_f_0, 0, none⟩)])] [] rfl (subR rfl)
 refine f_seq (f_region (lv S (rn_assign rfl) rfl ?_)); clear S; intro a S
 refine l_done (then_n (f_seq (f_region (lv S (rn_move (S.tm rfl)) rfl ?_)))); clear S; intro a S
 refine lv S (rn_move (S.tm rfl)) rfl ?_; clear S; intro a S
 refine l_enter S (fun _ => run_call (vs := [v_p_s, .func (.func 66) #[] #[.pointer (some ⟨b_p_f_0, 0, none⟩)]]) ⟨(S.tm rfl), (S.tm rfl), trivial⟩ Tryz.call47) (slices_IndexFunc_Best_tumbref2_WouldOf_c1_ok _ v_p_s p_s (hs_p_s.mono (S.le_arg nil_sub)) b_p_f_0 p_f_0 ((S.le_arg nil_sub) _ _ hb_b_p_f_0) _ rfl) rfl ?_; clear S; intro v1 a w1 hv1 hk1 hn1 S
 subst hv1
 refine lv S (rn_geq (S.tm rfl) rfl) rfl ?_; clear S; intro a S
 refine lv S (rn_assign (S.tm rfl)) rfl ?_; clear S; intro a S
 refine l_done (then_n (wp_ret ?_))
 subst h
 exact f_ret S Tryz.results42 rfl rfl
theorem tumbref2_WouldOf_ok (w : World) (v_p_k : Value) (p_k : List GKind) (rs_p_k : List R57) (hs_p_k : Slc (view w []) 5 v_p_k (rs_p_k.map R57.enc)) (hr_p_k : All2 (rel_57 (view w [])) p_k rs_p_k) (v_p_l : Value) (p_l : List GStep) (hs_p_l : Slc (view w []) 8 v_p_l (p_l.map GStep.enc)) (p_s : GStep) (r : (List ByteArray)) (h : tumbref2_WouldOf p_k p_l p_s = some r) :
    Calls Tryz.prog 27 [v_p_k, v_p_l, .agg (GStep.enc p_s).toArray].toArray w (Ret w [] fun τ v _ => OwnV τ 9 1 v r.length (r.flatMap eStr)) := by
 refine f_enter [] [] Tryz.func27 rfl Tryz.ntmps27 rfl (by simp) (by simp [fps]) (by simp [fps]) fun a S => ?_
 unfold tumbref2_WouldOf at h
 replace S := S.nk [] [(0, v_p_k), (1, v_p_l), (2, .agg (GStep.enc p_s).toArray)] [] rfl (subR rfl)
 refine f_seq (f_region (l_box S (S.tm rfl) (cs := (GStep.enc p_s)) rfl rfl ?_)); clear S; intro a w1 b1 hz1 hk1 S
 refine lv S (rn_assign rfl) rfl ?_; clear S; intro a S
 refine l_done (then_n (f_seq (f_region (lv S (rn_assign rfl) rfl ?_)))); clear S; intro a S
 replace S := S.nil 9 1
 refine l_done (then_n (f_seq (f_seq (f_region (lv S (rn_move (S.tm rfl)) rfl ?_))))); clear S; intro a S
 refine lv S (rn_lenT sl_26 (S.tm rfl) (slc_lenD hs_p_k hr_p_k)) rfl ?_; clear S; intro a S
 refine lv S (rn_move rfl) rfl ?_; clear S; intro a S
 refine l_done (then_n ?_)
 replace S := S.nk [.own (.slice none 0 0) 9 1 ([] : List ByteArray).length (([] : List ByteArray).flatMap eStr), .blk b1 (GStep.enc p_s) 34] [(1, v_p_l), (5, .pointer (some ⟨b1, 0, none⟩)), (7, (.slice none 0 0)), (10, v_p_k), (11, iV (p_k.length : Int)), (12, iV 0)] [true, true] rfl (subR rfl)
 obtain ⟨j1, hj1, h⟩ := joinE h
 refine f_join (fun a w' => ∃ x1 : List ByteArray, ∃ φ1 : View, ∃ v1 : Value, j1 x1 = some r ∧ View.le nov φ1 ∧ Sx w [] φ1 [.own v1 9 1 x1.length (x1.flatMap eStr), .blk b1 (GStep.enc p_s) 34] [(7, v1)] 34 a w') ?_ ?_
 ·refine wp_block (f_loop (fun (ys1 : List GKind) a w' => ∃ i1 : Nat, ∃ x1 : List ByteArray, ∃ φ1 : View, ∃ v1 : Value, (∃ dn, p_k = dn ++ ys1 ∧ dn.length = i1) ∧ tumbref2_WouldOf_l1 p_s p_l j1 ys1 i1 x1 = some r ∧ View.le nov φ1 ∧ Sx w [] φ1 [.own v1 9 1 x1.length (x1.flatMap eStr), .blk b1 (GStep.enc p_s) 34] [(1, v_p_l), (5, .pointer (some ⟨b1, 0, none⟩)), (7, v1), (10, v_p_k), (11, iV (p_k.length : Int)), (12, iV (i1 : Int))] 34 a w') List.length p_k ⟨0, ([] : List ByteArray), nov, (.slice none 0 0), ⟨[], rfl, rfl⟩, h, View.le_refl _, S.nf [true, true] rfl (subR rfl)⟩ ?_)
  clear S h; rintro ys1 a w2 ⟨i1, x1, φ1, v1, ⟨dn, hd1, hi1⟩, h, hl1, S⟩
  cases ys1 with
  | nil =>
   rw [tumbref2_WouldOf_l1.eq_1] at h
   refine f_seq (f_region (lv S (rn_lss (S.tm rfl) (S.tm rfl)) rfl ?_)); clear S; intro a S
   refine l_done ?_
   replace S := S.nk [.own v1 9 1 x1.length (x1.flatMap eStr), .blk b1 (GStep.enc p_s) 34] [(1, v_p_l), (5, .pointer (some ⟨b1, 0, none⟩)), (7, v1), (10, v_p_k), (11, iV (p_k.length : Int)), (12, iV (i1 : Int)), (13, bV (decide ((i1 : Int) < (p_k.length : Int))))] [true, true] rfl (subR rfl)
   refine then_n (f_seq (wp_cond_false ((S.tm rfl).trans (congrArg Value.bool (rng_nil hd1 hi1))) (wp_exit (then_x (then_x (x_same ?_))))))
   refine then_n ?_
   exact ⟨x1, φ1, v1, h, hl1, S.nf [true, true] rfl ⟨rfl, trivial⟩⟩
  | cons y1 ys1 =>
   rw [tumbref2_WouldOf_l1.eq_2] at h
   refine f_seq (f_region (lv S (rn_lss (S.tm rfl) (S.tm rfl)) rfl ?_)); clear S; intro a S
   refine l_done ?_
   replace S := S.nk [.own v1 9 1 x1.length (x1.flatMap eStr), .blk b1 (GStep.enc p_s) 34] [(1, v_p_l), (5, .pointer (some ⟨b1, 0, none⟩)), (7, v1), (10, v_p_k), (11, iV (p_k.length : Int)), (12, iV (i1 : Int)), (13, bV (decide ((i1 : Int) < (p_k.length : Int))))] [true, true] rfl (subR rfl)
   refine then_n (f_seq (wp_cond_true ((S.tm rfl).trans (congrArg Value.bool (rng_cons hd1 hi1))) (wp_skip (then_n (f_seq ?_)))))
   obtain ⟨j2, hj2, h⟩ := joinE h
   refine f_join (fun a w' => ∃ x2 : List ByteArray, ∃ φ2 : View, ∃ v2 : Value, j2 x2 = some r ∧ View.le φ1 φ2 ∧ Sx w [] φ2 [.own v2 9 1 x2.length (x2.flatMap eStr), .blk b1 (GStep.enc p_s) 34] [(1, v_p_l), (5, .pointer (some ⟨b1, 0, none⟩)), (7, v2), (10, v_p_k), (11, iV (p_k.length : Int)), (12, iV (i1 : Int))] 34 a w') ?_ ?_
   ·refine wp_block (f_seq (f_region ?_))
    obtain ⟨r1, hg1, hl3⟩ := All2.at hr_p_k (get_mid hd1 hi1)
    obtain ⟨u1, rfl, hs1⟩ := hl3
    obtain ⟨b2, o1, hm1, hr1⟩ := rn_indexT (a := a) (x := .tmp 10) (y := .tmp 12) (ty := 0) sl_26 hs_p_k hg1 rfl (S.tm rfl) (S.tm rfl)
    refine lv S (hr1 _) rfl ?_; clear S; intro a S
    clear hr1
    refine lv S (rn_ldA Tryz.isAgg57 Tryz.sizeOf57 (off := o1) (o := 0) (part := [sV y1.Key, sV y1.Race, u1.val, iV y1.Young, iV y1.Old]) rfl rfl (S.tm rfl) (hm1.at S.emb0)) rfl ?_; clear S; intro a S
    refine l_alloc S Tryz.zeroValue57 (cs := [sV k_empty, sV k_empty, .slice none 0 0, iV 0, iV 0]) rfl rfl ?_; clear S; intro a w5 b3 hz2 hk2 S
    refine l_store S (S.tm rfl) (S.tm rfl) (i := 0) (off := 0) rfl Tryz.sizeOf57 (vs := [sV y1.Key, sV y1.Race, u1.val, iV y1.Young, iV y1.Old]) rfl rfl rfl (all1 rfl (all1 rfl (all1 (SlcLen.one (slc_len hs1)) (all1 rfl (all1 rfl rfl))))) ?_; clear S; intro w6 hk3 S
    refine l_done (then_n (f_seq (f_region (lv S (rn_ldA Tryz.isAgg57 Tryz.sizeOf57 (off := 0) (o := 0) (part := [sV y1.Key, sV y1.Race, u1.val, iV y1.Young, iV y1.Old]) rfl rfl (S.tm rfl) (S.cellsAt (i := 0) rfl)) rfl ?_)))); clear S; intro a S
    refine lv S (rn_ldA Tryz.isAgg34 Tryz.sizeOf34 (off := 0) (o := 0) (part := (GStep.enc p_s)) rfl rfl (S.tm rfl) (S.cellsAt (i := 2) rfl)) rfl ?_; clear S; intro a S
    refine l_enter S (fun _ => run_call (vs := [.agg (R57.enc (R57.mk y1.Key y1.Race u1 y1.Young y1.Old)).toArray, .agg (GStep.enc p_s).toArray]) ⟨(S.tm rfl), (S.tm rfl), trivial⟩ Tryz.call64) (tumbref2_isFor_ok _ y1 (R57.mk y1.Key y1.Race u1 y1.Young y1.Old) ⟨u1, rfl, (hs1.mono (S.le_arg nil_sub))⟩ p_s _ rfl) rfl ?_; clear S; intro v3 a w7 hv1 hk4 hn1 S
    subst hv1
    refine lv S (rn_move (S.tm rfl)) rfl ?_; clear S; intro a S
    obtain ⟨j3, hj3, h⟩ := joinE h
    refine f_cutm 7 (fun a w' => ∃ x3 : Bool, ∃ φ3 : View, j3 x3 = some r ∧ View.le φ1 φ3 ∧ Sx w [] φ3 [.blk b3 [sV y1.Key, sV y1.Race, u1.val, iV y1.Young, iV y1.Old] 57, .own v1 9 1 x1.length (x1.flatMap eStr), .blk b1 (GStep.enc p_s) 34] [(1, v_p_l), (5, .pointer (some ⟨b1, 0, none⟩)), (7, v1), (9, .pointer (some ⟨b3, 0, none⟩)), (10, v_p_k), (11, iV (p_k.length : Int)), (12, iV (i1 : Int)), (26, bV x3)] 34 a w') ?_ ?_
    ·rcases Bool.eq_false_or_eq_true (tumbref2_isFor y1 p_s) with hb1 | hb1
     ·replace h := iteT h hb1
      refine l_want S rfl rfl rfl hb1 (lv S (rn_ldA Tryz.isAgg57 Tryz.sizeOf57 (off := 0) (o := 0) (part := [sV y1.Key, sV y1.Race, u1.val, iV y1.Young, iV y1.Old]) rfl rfl (S.tm rfl) (S.cellsAt (i := 0) rfl)) rfl ?_); clear S; intro a S
      refine l_want S rfl rfl rfl hb1 (lv S (rn_move (S.tm rfl)) rfl ?_); clear S; intro a S
      refine l_want S rfl rfl rfl hb1 ?_
      obtain ⟨r2, hr2, h⟩ := bindE h
      have hz3 := S.keep.size
      refine l_enter S (fun _ => run_call (vs := [.agg (R57.enc (R57.mk y1.Key y1.Race u1 y1.Young y1.Old)).toArray, v_p_l, iV 345686400000]) ⟨(S.tm rfl), (S.tm rfl), rfl, trivial⟩ Tryz.call65) (tumbref2_valid_ok _ y1 (R57.mk y1.Key y1.Race u1 y1.Young y1.Old) ⟨u1, rfl, (hs1.mono (S.le_arg nil_sub))⟩ v_p_l p_l (hs_p_l.mono (S.le_arg nil_sub)) 345686400000 _ hr2) rfl ?_; clear S; intro v4 a w9 hv2 hk5 hn2 S
      obtain ⟨φ4, hl5, hm2, S⟩ := S.see' hn2 hz3
      have hs2 := hv2.mono hm2
      refine l_want S rfl rfl rfl hb1 (lv S (rn_makeFunc (us := #[]) (xs := [].toArray) (ys := [.tmp 5].toArray) (by simp) (evA ⟨(S.tm rfl), trivial⟩ (vs := [.pointer (some ⟨b1, 0, none⟩)]))) rfl ?_); clear S; intro a S
      refine l_want S rfl rfl rfl hb1 (l_enter S (fun _ => run_call (vs := [v4, .func (.func 66) #[] #[.pointer (some ⟨b1, 0, none⟩)]]) ⟨(S.tm rfl), (S.tm rfl), trivial⟩ Tryz.call42) (slices_ContainsFunc_Best_tumbref2_WouldOf_c1_ok _ v4 r2 ((ownV_slcT GBest.enc_ok hs2).mono (S.le_new nil_sub)) b1 p_s (S.blk_view (i := 2) rfl ((ne_nil (e' := .blk b1 (GStep.enc p_s) 34)) _ rfl)) _ rfl) rfl ?_); clear S; intro v5 a w10 hv3 hk6 hn3 S
      subst hv3
      refine l_want S rfl rfl rfl hb1 (lv S (rn_not (S.tm rfl)) rfl ?_); clear S; intro a S
      refine lv S (rn_pick_b hb1 (S.tm rfl) (S.tm rfl)) rfl ?_; clear S; intro a S
      refine l_done (then_n ?_)
      exact ⟨!(slices_ContainsFunc_Best_tumbref2_WouldOf_c1 r2 p_s), φ4, h, hl5, S.nf [true, true, true] rfl (subR rfl)⟩
     ·replace h := iteF h hb1
      iterate 6 (refine l_skip S rfl rfl rfl (neq_f hb1) rfl ?_ rfl; clear S; intro a S)
      refine lv S (rn_pick_c hb1 (S.tm rfl) rfl) rfl ?_; clear S; intro a S
      refine l_done (then_n ?_)
      exact ⟨false, φ1, h, (View.le_refl _), S.nf [true, true, true] rfl (subR rfl)⟩
    clear S h; rintro a w8 ⟨x3, φ3, h, hl4, S⟩; rw [hj3] at h; clear hj3 j3
    refine l_done (then_n ?_)
    obtain ⟨j4, hj4, h⟩ := joinE h
    refine f_join (fun a w' => ∃ x4 : List ByteArray, ∃ v6 : Value, j4 x4 = some r ∧ Sx w [] φ3 [.blk b3 [sV y1.Key, sV y1.Race, u1.val, iV y1.Young, iV y1.Old] 57, .own v6 9 1 x4.length (x4.flatMap eStr), .blk b1 (GStep.enc p_s) 34] [(1, v_p_l), (5, .pointer (some ⟨b1, 0, none⟩)), (7, v6), (10, v_p_k), (11, iV (p_k.length : Int)), (12, iV (i1 : Int))] 34 a w') ?_ ?_
    ·refine f_cond (S.tm rfl) (fun hb2 => ?_) (fun hb2 => ?_)
     ·replace h := iteT h hb2
      refine f_region (lv S (rn_move (S.tm rfl)) rfl ?_); clear S; intro a S
      refine lv S (rn_fld fa_57_0 (S.tm rfl)) rfl ?_; clear S; intro a S
      refine lv S (rn_load Tryz.isAgg9 (S.tm rfl) (S.cell (i := 0) rfl rfl)) rfl ?_; clear S; intro a S
      refine l_buildSlice S Tryz.underlying37 Tryz.sizeOf9 Tryz.zeroValue9 rfl rfl (pv := [(0, sV y1.Key)]) ⟨rfl, (S.tm rfl), trivial⟩ (cs := [sV y1.Key]) (by kernel_rfl) rfl ?_; clear S; intro a w12 b4 hz4 hk7 S
      obtain ⟨hc1, h⟩ := chkE h
      refine l_appendT sl_37 enc_str S (S.tm rfl) (i := 2) rfl (S.tm rfl) (j := 0) rfl (ys := [y1.Key]) rfl rfl rfl rfl (by have := room_lt hc1; omega) rfl ?_; clear S; intro v7 a w13 hk8 S
      refine lv S (rn_assign (S.tm rfl)) rfl ?_; clear S; intro a S
      refine l_done (then_n ?_)
      exact ⟨(x1 ++ [y1.Key]), v7, h, S.nf [false, true, true, true] rfl (subR rfl)⟩
     ·replace h := iteF h hb2
      refine wp_skip (then_n ?_)
      exact ⟨x1, v1, h, S.nf [true, true, true] rfl (subR rfl)⟩
    clear S h; rintro a w11 ⟨x4, v6, h, S⟩; rw [hj4] at h; clear hj4 j4
    refine blk_n (then_n ?_)
    exact ⟨x4, φ3, v6, h, hl4, S.nf [false, true, true] rfl (subR rfl)⟩
   clear S h; rintro a w4 ⟨x2, φ2, v2, h, hl2, S⟩; rw [hj2] at h; clear hj2 j2
   refine then_n (f_region (lv S (rn_add (S.tm rfl) rfl) rfl ?_)); clear S; intro a S
   refine lv S (rn_move (S.tm rfl)) rfl ?_; clear S; intro a S
   refine l_done (then_n ?_)
   exact ⟨ys1, ⟨i1 + 1, x2, φ2, v2, ⟨_, (hd1).trans (List.append_cons _ _ _), by simp [hi1]⟩, h, (View.le_trans hl1 hl2), S.nf [true, true] rfl ⟨rfl, rfl, rfl, rfl, rfl, (congrArg (fun z => some (Value.int .i64 z)) (rng_next hd1 hi1 (slc_maxD hs_p_k hr_p_k))), trivial⟩⟩, Nat.lt_succ_self _⟩
 clear S h; rintro a w3 ⟨x1, φ1, v1, h, hl1, S⟩; rw [hj1] at h; clear hj1 j1
 refine then_n (f_seq (f_region (lv S (rn_move (S.tm rfl)) rfl ?_))); clear S; intro a S
 refine lv S (rn_assign (S.tm rfl)) rfl ?_; clear S; intro a S
 refine l_done (then_n (wp_ret ?_))
 obtain rfl := Option.some.inj h
 exact f_ret S Tryz.results27 rfl (own_retT S (i := 0) rfl rfl)
theorem tumbref2_NeededOf_ok (w : World) (p_k : GKind) (q_p_k : R57) (hq_p_k : rel_57 (view w []) p_k q_p_k) (v_p_l : Value) (p_l : List GStep) (hs_p_l : Slc (view w []) 8 v_p_l (p_l.map GStep.enc)) (p_at : Int) (r : Int × Bool) (h : tumbref2_NeededOf p_k p_l p_at = some r) :
    Calls Tryz.prog 28 [.agg (R57.enc q_p_k).toArray, v_p_l, iV p_at].toArray w (Ret w [] fun _ v _ => v = .tuple #[iV r.1, bV r.2]) := by
 obtain ⟨u1, rfl, hs1⟩ := hq_p_k
 refine f_enter [] [] Tryz.func28 rfl Tryz.ntmps28 rfl (by simp) (by simp [fps]) (by simp [fps]) fun a S => ?_
 unfold tumbref2_NeededOf at h
 replace S := S.nk [] [(0, .agg #[sV p_k.Key, sV p_k.Race, u1.val, iV p_k.Young, iV p_k.Old]), (1, v_p_l), (2, iV p_at)] [] rfl (subR rfl)
 refine f_seq (f_region (l_box S (S.tm rfl) (cs := [sV p_k.Key, sV p_k.Race, u1.val, iV p_k.Young, iV p_k.Old]) rfl rfl ?_)); clear S; intro a w1 b1 hz1 hk1 S
 refine lv S (rn_assign rfl) rfl ?_; clear S; intro a S
 refine lv S (rn_assign rfl) rfl ?_; clear S; intro a S
 refine l_done (then_n (f_seq (f_region (lv S (rn_ldA Tryz.isAgg57 Tryz.sizeOf57 (off := 0) (o := 0) (part := [sV p_k.Key, sV p_k.Race, u1.val, iV p_k.Young, iV p_k.Old]) rfl rfl (S.tm rfl) (S.cellsAt (i := 0) rfl)) rfl ?_)))); clear S; intro a S
 refine lv S (rn_move (S.tm rfl)) rfl ?_; clear S; intro a S
 refine lv S (rn_move (S.tm rfl)) rfl ?_; clear S; intro a S
 obtain ⟨r1, hr1, h⟩ := bindE h
 have hz2 := S.keep.size
 refine l_enter S (fun _ => run_call (vs := [.agg (R57.enc (R57.mk p_k.Key p_k.Race u1 p_k.Young p_k.Old)).toArray, v_p_l, iV p_at]) ⟨(S.tm rfl), (S.tm rfl), (S.tm rfl), trivial⟩ Tryz.call58) (tumbref2_RecordOf_ok _ p_k (R57.mk p_k.Key p_k.Race u1 p_k.Young p_k.Old) ⟨u1, rfl, (hs1.mono (S.le_arg nil_sub))⟩ v_p_l p_l (hs_p_l.mono (S.le_arg nil_sub)) p_at _ hr1) rfl ?_; clear S; intro v1 a w2 hv1 hk2 hn1 S
 obtain ⟨φ1, hl1, hm1, S⟩ := S.see' hn1 hz2
 have hs2 := hv1.mono hm1
 refine lv S (rn_assign (S.tm rfl)) rfl ?_; clear S; intro a S
 refine l_done (then_n (f_seq (f_seq (f_region (lv S (rn_move (S.tm rfl)) rfl ?_))))); clear S; intro a S
 refine lv S (rn_lenT sl_78 (S.tm rfl) (slc_len (ownV_slcT GBest.enc_ok hs2))) rfl ?_; clear S; intro a S
 refine lv S (rn_eql (S.tm rfl) rfl) rfl ?_; clear S; intro a S
 refine lv S (rn_move (S.tm rfl)) rfl ?_; clear S; intro a S
 obtain ⟨j1, hj1, h⟩ := joinE h
 refine f_cutm 6 (fun a w' => ∃ c1, j1 c1 = some r ∧ Keep [] w2 w' ∧ Sx w [] φ1 [.blk b1 [sV p_k.Key, sV p_k.Race, u1.val, iV p_k.Young, iV p_k.Old] 57] [(8, v1), (22, bV c1)] 28 a w') ?_ ?_
 ·rcases Bool.eq_false_or_eq_true (decide ((r1.length : Int) = 0)) with hb1 | hb1
  ·replace h := iteT h hb1
   iterate 5 (refine l_skip S rfl rfl rfl (neq_t hb1) rfl ?_ rfl; clear S; intro a S)
   refine lv S (rn_or_t true hb1 (S.tm rfl) rfl) rfl ?_; clear S; intro a S
   refine l_done (then_n ?_)
   exact ⟨_, h, Keep.refl _ _, S.nf [true] rfl (subR rfl)⟩
  ·replace h := iteF h hb1
   refine l_want S rfl rfl rfl hb1 (lv S (rn_move (S.tm rfl)) rfl ?_); clear S; intro a S
   refine l_want S rfl rfl rfl hb1 ?_
   obtain ⟨hc1, h⟩ := chkE h
   obtain ⟨b2, o1, hm2, hr2⟩ := rn_indexT (a := a) (x := .tmp 17) (y := .const (iV 0)) (ty := 0) sl_78 (ownV_slcT GBest.enc_ok hs2) (inB_get hc1).1 (inB_get hc1).2 (S.tm rfl) rfl
   refine lv S (hr2 _) rfl ?_; clear S; intro a S
   clear hr2
   refine l_want S rfl rfl rfl hb1 (lv S (rn_fld fa_80_3 (S.tm rfl)) rfl ?_); clear S; intro a S
   refine l_want S rfl rfl rfl hb1 (lv S (rn_ld Tryz.isAgg3 (off := o1) (o := 3) (S.tm rfl) (hm2.at S.emb) rfl) rfl ?_); clear S; intro a S
   refine l_want S rfl rfl rfl hb1 (lv S (rn_eql (S.tm rfl) rfl) rfl ?_); clear S; intro a S
   refine lv S (rn_or_f hb1 (S.tm rfl) (S.tm rfl)) rfl ?_; clear S; intro a S
   refine l_done (then_n ?_)
   exact ⟨_, h, Keep.refl _ _, S.nf [true] rfl (subR rfl)⟩
 clear S h; rintro a w3 ⟨c1, h, hk3, S⟩; rw [hj1] at h; clear hj1 j1
 refine l_done (then_n (f_cond (S.tm rfl) (fun hb2 => ?_) (fun hb2 => ?_)))
 ·replace h := iteT h hb2
  refine f_seq (f_region (lv S (rn_assign rfl) rfl ?_)); clear S; intro a S
  refine lv S (rn_assign rfl) rfl ?_; clear S; intro a S
  refine l_done (then_n (wp_ret (then_r ?_)))
  obtain rfl := Option.some.inj h
  exact f_ret2 S Tryz.results28 rfl rfl rfl
 ·replace h := iteF h hb2
  refine wp_skip (then_n (f_seq (f_region (lv S (rn_move (S.tm rfl)) rfl ?_)))); clear S; intro a S
  obtain ⟨hc2, h⟩ := chkE h
  obtain ⟨b3, o2, hm3, hr3⟩ := rn_indexT (a := a) (x := .tmp 23) (y := .const (iV 0)) (ty := 0) sl_78 (ownV_slcT GBest.enc_ok hs2) (inB_get hc2).1 (inB_get hc2).2 (S.tm rfl) rfl
  refine lv S (hr3 _) rfl ?_; clear S; intro a S
  clear hr3
  refine lv S (rn_fld fa_80_3 (S.tm rfl)) rfl ?_; clear S; intro a S
  refine lv S (rn_ld Tryz.isAgg3 (off := o2) (o := 3) (S.tm rfl) (hm3.at S.emb) rfl) rfl ?_; clear S; intro a S
  refine lv S (rn_sub (S.tm rfl) rfl) rfl ?_; clear S; intro a S
  refine lv S (rn_assign (S.tm rfl)) rfl ?_; clear S; intro a S
  refine lv S (rn_assign rfl) rfl ?_; clear S; intro a S
  refine l_done (then_n (wp_ret ?_))
  obtain rfl := Option.some.inj h
  exact f_ret2 S Tryz.results28 rfl rfl rfl
set_option maxRecDepth 20000 in
theorem slices_Equal_string_ok (w : World) (v_p_s1 : Value) (p_s1 : List ByteArray) (hs_p_s1 : Slc (view w []) 1 v_p_s1 (p_s1.map eStr)) (v_p_s2 : Value) (p_s2 : List ByteArray) (hs_p_s2 : Slc (view w []) 1 v_p_s2 (p_s2.map eStr)) (r : Bool) (h : slices_Equal_string p_s1 p_s2 = some r) :
    Calls Tryz.prog 29 [v_p_s1, v_p_s2].toArray w (Ret w [] fun _ v _ => v = bV r) := by
 refine f_enter [] [] Tryz.func29 rfl Tryz.ntmps29 rfl (by simp) (by simp [fps]) (by simp [fps]) fun a S => ?_
 unfold slices_Equal_string at h
 replace S := S.nk [] [(0, v_p_s1), (1, v_p_s2)] [] rfl (subR rfl)
 refine f_seq (f_region (lv S (rn_assign rfl) rfl ?_)); clear S; intro a S
 refine l_done (then_n (f_seq (f_seq (f_region (lv S (rn_move (S.tm rfl)) rfl ?_))))); clear S; intro a S
 refine lv S (rn_lenT sl_37 (S.tm rfl) (slc_len hs_p_s1)) rfl ?_; clear S; intro a S
 refine lv S (rn_move (S.tm rfl)) rfl ?_; clear S; intro a S
 refine lv S (rn_lenT sl_37 (S.tm rfl) (slc_len hs_p_s2)) rfl ?_; clear S; intro a S
 refine lv S (rn_neq (S.tm rfl) (S.tm rfl)) rfl ?_; clear S; intro a S
 refine l_done (then_n (f_cond (S.tm rfl) (fun hb1 => ?_) (fun hb1 => ?_)))
 ·replace h := iteT h hb1
  refine f_seq (f_region (lv S (rn_assign rfl) rfl ?_)); clear S; intro a S
  refine l_done (then_n (wp_ret (then_r ?_)))
  obtain rfl := Option.some.inj h
  exact f_ret S Tryz.results29 rfl rfl
 ·replace h := iteF h hb1
  refine wp_skip (then_n (f_seq (f_seq (f_region (lv S (rn_move (S.tm rfl)) rfl ?_))))); clear S; intro a S
  refine lv S (rn_lenT sl_37 (S.tm rfl) (slc_len hs_p_s1)) rfl ?_; clear S; intro a S
  refine lv S (rn_move rfl) rfl ?_; clear S; intro a S
  refine l_done (then_n ?_)
  replace S := S.nk [] [(0, v_p_s1), (1, v_p_s2), (12, iV (p_s1.length : Int)), (13, iV 0)] [] rfl (subR rfl)
  obtain ⟨j1, hj1, h⟩ := joinE h
  refine f_join (fun a w' => j1 = some r ∧ Sx w [] nov [] [] 26 a w') ?_ ?_
  ·refine wp_block (f_loop (fun (ys1 : List ByteArray) a w' => ∃ i1 : Nat, (∃ dn, p_s1 = dn ++ ys1 ∧ dn.length = i1) ∧ slices_Equal_string_l1 p_s2 j1 ys1 i1 = some r ∧ Sx w [] nov [] [(0, v_p_s1), (1, v_p_s2), (12, iV (p_s1.length : Int)), (13, iV (i1 : Int))] 26 a w') List.length p_s1 ⟨0, ⟨[], rfl, rfl⟩, h, S.nf [] rfl (subR rfl)⟩ ?_)
   clear S h; rintro ys1 a w1 ⟨i1, ⟨dn, hd1, hi1⟩, h, S⟩
   cases ys1 with
   | nil =>
    rw [slices_Equal_string_l1.eq_1] at h
    refine f_seq (f_region (lv S (rn_lss (S.tm rfl) (S.tm rfl)) rfl ?_)); clear S; intro a S
    refine l_done ?_
    replace S := S.nk [] [(0, v_p_s1), (1, v_p_s2), (12, iV (p_s1.length : Int)), (13, iV (i1 : Int)), (14, bV (decide ((i1 : Int) < (p_s1.length : Int))))] [] rfl (subR rfl)
    refine then_n (f_seq (wp_cond_false ((S.tm rfl).trans (congrArg Value.bool (rng_nil hd1 hi1))) (wp_exit (then_x (then_x (x_same ?_))))))
    refine then_n ?_
    exact ⟨h, S.nf [] rfl trivial⟩
   | cons y1 ys1 =>
    rw [slices_Equal_string_l1.eq_2] at h
    refine f_seq (f_region (lv S (rn_lss (S.tm rfl) (S.tm rfl)) rfl ?_)); clear S; intro a S
    refine l_done ?_
    replace S := S.nk [] [(0, v_p_s1), (1, v_p_s2), (12, iV (p_s1.length : Int)), (13, iV (i1 : Int)), (14, bV (decide ((i1 : Int) < (p_s1.length : Int))))] [] rfl (subR rfl)
    refine then_n (f_seq (wp_cond_true ((S.tm rfl).trans (congrArg Value.bool (rng_cons hd1 hi1))) (wp_skip (then_n (f_seq (wp_block ?_))))))
    refine f_seq (f_region (lv S (rn_move (S.tm rfl)) rfl ?_)); clear S; intro a S
    refine lv S (rn_assign (S.tm rfl)) rfl ?_; clear S; intro a S
    refine l_done (then_n (f_seq (d_region [] ([]) Tryz.mixed S rfl (by kernel_rfl) ?_))); clear S; intro w3 hk1 hsel S
    refine d_rest [0, 1, 2, 3, 4, 5, 6, 7, 8] hsel (by kernel_rfl) rfl ?_
    clear hsel
    refine s_lv S rfl (rn_move (S.tm rfl)) rfl ?_; clear S; intro a S
    refine s_lv S rfl (rn_move (S.tm rfl)) rfl ?_; clear S; intro a S
    obtain ⟨b1, o1, hm1, hr1⟩ := rn_indexT (a := a) (x := .tmp 16) (y := .tmp 17) (ty := 0) sl_37 hs_p_s1 (get_mid hd1 hi1) rfl (S.tm rfl) (S.tm rfl)
    refine s_lv S rfl (hr1 _) rfl ?_; clear S; intro a S
    clear hr1
    refine s_lv S rfl (rn_ld Tryz.isAgg9 (off := o1) (o := 0) (S.tm rfl) (hm1.at S.emb0) rfl) rfl ?_; clear S; intro a S
    refine s_lv S rfl (rn_move (S.tm rfl)) rfl ?_; clear S; intro a S
    refine s_lv S rfl (rn_move (S.tm rfl)) rfl ?_; clear S; intro a S
    obtain ⟨hc1, h⟩ := chkE h
    obtain ⟨b2, o2, hm2, hr2⟩ := rn_indexT (a := a) (x := .tmp 20) (y := .tmp 21) (ty := 0) sl_37 hs_p_s2 (inB_get hc1).1 (inB_get hc1).2 (S.tm rfl) (S.tm rfl)
    refine s_lv S rfl (hr2 _) rfl ?_; clear S; intro a S
    clear hr2
    refine s_lv S rfl (rn_ld Tryz.isAgg9 (off := o2) (o := 0) (S.tm rfl) (hm2.at S.emb0) rfl) rfl ?_; clear S; intro a S
    refine s_lv S rfl (rn_sneq (S.tm rfl) (S.tm rfl)) rfl ?_; clear S; intro a S
    refine s_done ?_
    replace S := S.nk [] [(0, v_p_s1), (1, v_p_s2), (12, iV (p_s1.length : Int)), (13, iV (i1 : Int)), (24, bV (!decide (y1 = (nth p_s2 (i1 : Int)))))] [] rfl (subR rfl)
    refine then_n (f_cond (S.tm rfl) (fun hb2 => ?_) (fun hb2 => ?_))
    ·replace h := iteT h hb2
     refine f_seq (f_region (lv S (rn_assign rfl) rfl ?_)); clear S; intro a S
     refine l_done (then_n (wp_ret (blk_r (then_r (then_r (blk_r ?_))))))
     refine then_r (then_r ?_)
     obtain rfl := Option.some.inj h
     exact f_ret S Tryz.results29 rfl rfl
    ·replace h := iteF h hb2
     refine wp_skip (blk_n (then_n (f_region (lv S (rn_add (S.tm rfl) rfl) rfl ?_)))); clear S; intro a S
     refine lv S (rn_move (S.tm rfl)) rfl ?_; clear S; intro a S
     refine l_done (then_n ?_)
     exact ⟨ys1, ⟨i1 + 1, ⟨_, (hd1).trans (List.append_cons _ _ _), by simp [hi1]⟩, h, S.nf [] rfl ⟨rfl, rfl, rfl, (congrArg (fun z => some (Value.int .i64 z)) (rng_next hd1 hi1 (slc_max hs_p_s1))), trivial⟩⟩, Nat.lt_succ_self _⟩
  clear S h; rintro a w2 ⟨h, S⟩; rw [hj1] at h; clear hj1 j1
  refine then_n (f_seq (f_region (lv S (rn_assign rfl) rfl ?_))); clear S; intro a S
  refine l_done (then_n (wp_ret ?_))
  obtain rfl := Option.some.inj h
  exact f_ret S Tryz.results29 rfl rfl
theorem record_For_ok (w : World) (v_p_l : Value) (p_l : List GKind) (rs_p_l : List R57) (hs_p_l : Slc (view w []) 5 v_p_l (rs_p_l.map R57.enc)) (hr_p_l : All2 (rel_57 (view w [])) p_l rs_p_l) (p_s : GStep) (r : (List ByteArray) × Int) (h : record_For p_l p_s = some r) :
    Calls Tryz.prog 67 [v_p_l, .agg (GStep.enc p_s).toArray].toArray w (Ret w [] fun τ v _ => ∃ u1 : Value, v = .tuple #[u1, iV r.2] ∧ OwnV τ 9 1 u1 r.1.length (r.1.flatMap eStr)) := by
 refine f_enter [] [] Tryz.func67 rfl Tryz.ntmps67 rfl (by simp) (by simp [fps]) (by simp [fps]) fun a S => ?_
 unfold record_For at h
 replace S := S.nk [] [(0, v_p_l), (1, .agg (GStep.enc p_s).toArray)] [] rfl (subR rfl)
 refine f_seq (f_region (l_box S (S.tm rfl) (cs := (GStep.enc p_s)) rfl rfl ?_)); clear S; intro a w1 b1 hz1 hk1 S
 refine lv S (rn_assign rfl) rfl ?_; clear S; intro a S
 refine lv S (rn_assign rfl) rfl ?_; clear S; intro a S
 refine l_done (then_n (f_seq (f_seq (f_region (lv S (rn_move (S.tm rfl)) rfl ?_))))); clear S; intro a S
 obtain ⟨r1, hr1, h⟩ := bindE h
 refine l_enter S (fun _ => run_call (vs := [v_p_l]) ⟨(S.tm rfl), trivial⟩ Tryz.call72) (record_CheckKinds_ok _ v_p_l p_l rs_p_l (hs_p_l.mono (S.le_arg nil_sub)) (rels_57 (S.le_arg nil_sub) hr_p_l) _ hr1) rfl ?_; clear S; intro v1 a w2 hv1 hk2 hn1 S
 subst hv1
 refine lv S (rn_assign (S.tm rfl)) rfl ?_; clear S; intro a S
 refine l_done (then_n (f_seq (f_region (lv S (rn_move (S.tm rfl)) rfl ?_)))); clear S; intro a S
 refine lv S (rn_neq (S.tm rfl) rfl) rfl ?_; clear S; intro a S
 refine l_done (then_n (f_cond (S.tm rfl) (fun hb1 => ?_) (fun hb1 => ?_)))
 ·replace h := iteT h hb1
  refine f_seq (f_region (lv S (rn_move (S.tm rfl)) rfl ?_)); clear S; intro a S
  refine lv S (rn_assign rfl) rfl ?_; clear S; intro a S
  refine lv S (rn_assign (S.tm rfl)) rfl ?_; clear S; intro a S
  refine l_done (then_n (wp_ret (then_r ?_)))
  obtain rfl := Option.some.inj h
  exact f_ret2 S Tryz.results67 rfl rfl ⟨_, rfl, (ownV_nil _ _ _)⟩
 ·replace h := iteF h hb1
  refine wp_skip (then_n (f_seq (f_seq (f_region (lv S (rn_ldA Tryz.isAgg34 Tryz.sizeOf34 (off := 0) (o := 0) (part := (GStep.enc p_s)) rfl rfl (S.tm rfl) (S.cellsAt (i := 0) rfl)) rfl ?_))))); clear S; intro a S
  obtain ⟨r2, hr2, h⟩ := bindE h
  refine l_enter S (fun _ => run_call (vs := [.agg (GStep.enc p_s).toArray]) ⟨(S.tm rfl), trivial⟩ Tryz.call49) (record_checkSwum_ok _ p_s _ hr2) rfl ?_; clear S; intro v2 a w3 hv2 hk3 hn2 S
  subst hv2
  refine lv S (rn_assign (S.tm rfl)) rfl ?_; clear S; intro a S
  refine l_done (then_n (f_seq (f_region (lv S (rn_move (S.tm rfl)) rfl ?_)))); clear S; intro a S
  refine lv S (rn_neq (S.tm rfl) rfl) rfl ?_; clear S; intro a S
  refine l_done ?_
  replace S := S.nk [.blk b1 (GStep.enc p_s) 34] [(0, v_p_l), (3, .pointer (some ⟨b1, 0, none⟩)), (7, iV r2), (19, bV (!decide (r2 = 0)))] [true] rfl (subR rfl)
  refine then_n (f_cond (S.tm rfl) (fun hb2 => ?_) (fun hb2 => ?_))
  ·replace h := iteT h hb2
   refine f_seq (f_region (lv S (rn_move (S.tm rfl)) rfl ?_)); clear S; intro a S
   refine lv S (rn_assign rfl) rfl ?_; clear S; intro a S
   refine lv S (rn_assign (S.tm rfl)) rfl ?_; clear S; intro a S
   refine l_done (then_n (wp_ret (then_r ?_)))
   obtain rfl := Option.some.inj h
   exact f_ret2 S Tryz.results67 rfl rfl ⟨_, rfl, (ownV_nil _ _ _)⟩
  ·replace h := iteF h hb2
   refine wp_skip (then_n (f_seq (f_region (lv S (rn_assign rfl) rfl ?_)))); clear S; intro a S
   replace S := S.nil 9 1
   refine l_done (then_n (f_seq (f_seq (f_region (lv S (rn_move (S.tm rfl)) rfl ?_))))); clear S; intro a S
   refine lv S (rn_lenT sl_26 (S.tm rfl) (slc_lenD hs_p_l hr_p_l)) rfl ?_; clear S; intro a S
   refine lv S (rn_move rfl) rfl ?_; clear S; intro a S
   refine l_done (then_n ?_)
   replace S := S.nk [.own (.slice none 0 0) 9 1 ([] : List ByteArray).length (([] : List ByteArray).flatMap eStr), .blk b1 (GStep.enc p_s) 34] [(3, .pointer (some ⟨b1, 0, none⟩)), (8, (.slice none 0 0)), (21, v_p_l), (22, iV (p_l.length : Int)), (23, iV 0)] [true, true] rfl (subR rfl)
   obtain ⟨j1, hj1, h⟩ := joinE h
   refine f_join (fun a w' => ∃ x1 : List ByteArray, ∃ v3 : Value, j1 x1 = some r ∧ Sx w [] nov [.own v3 9 1 x1.length (x1.flatMap eStr), .blk b1 (GStep.enc p_s) 34] [(8, v3)] 37 a w') ?_ ?_
   ·refine wp_block (f_loop (fun (ys1 : List GKind) a w' => ∃ i1 : Nat, ∃ x1 : List ByteArray, ∃ v3 : Value, (∃ dn, p_l = dn ++ ys1 ∧ dn.length = i1) ∧ record_For_l1 p_s j1 ys1 i1 x1 = some r ∧ Sx w [] nov [.own v3 9 1 x1.length (x1.flatMap eStr), .blk b1 (GStep.enc p_s) 34] [(3, .pointer (some ⟨b1, 0, none⟩)), (8, v3), (21, v_p_l), (22, iV (p_l.length : Int)), (23, iV (i1 : Int))] 37 a w') List.length p_l ⟨0, ([] : List ByteArray), (.slice none 0 0), ⟨[], rfl, rfl⟩, h, S.nf [true, true] rfl (subR rfl)⟩ ?_)
    clear S h; rintro ys1 a w4 ⟨i1, x1, v3, ⟨dn, hd1, hi1⟩, h, S⟩
    cases ys1 with
    | nil =>
     rw [record_For_l1.eq_1] at h
     refine f_seq (f_region (lv S (rn_lss (S.tm rfl) (S.tm rfl)) rfl ?_)); clear S; intro a S
     refine l_done ?_
     replace S := S.nk [.own v3 9 1 x1.length (x1.flatMap eStr), .blk b1 (GStep.enc p_s) 34] [(3, .pointer (some ⟨b1, 0, none⟩)), (8, v3), (21, v_p_l), (22, iV (p_l.length : Int)), (23, iV (i1 : Int)), (24, bV (decide ((i1 : Int) < (p_l.length : Int))))] [true, true] rfl (subR rfl)
     refine then_n (f_seq (wp_cond_false ((S.tm rfl).trans (congrArg Value.bool (rng_nil hd1 hi1))) (wp_exit (then_x (then_x (x_same ?_))))))
     refine then_n ?_
     exact ⟨x1, v3, h, S.nf [true, true] rfl ⟨rfl, trivial⟩⟩
    | cons y1 ys1 =>
     rw [record_For_l1.eq_2] at h
     refine f_seq (f_region (lv S (rn_lss (S.tm rfl) (S.tm rfl)) rfl ?_)); clear S; intro a S
     refine l_done ?_
     replace S := S.nk [.own v3 9 1 x1.length (x1.flatMap eStr), .blk b1 (GStep.enc p_s) 34] [(3, .pointer (some ⟨b1, 0, none⟩)), (8, v3), (21, v_p_l), (22, iV (p_l.length : Int)), (23, iV (i1 : Int)), (24, bV (decide ((i1 : Int) < (p_l.length : Int))))] [true, true] rfl (subR rfl)
     refine then_n (f_seq (wp_cond_true ((S.tm rfl).trans (congrArg Value.bool (rng_cons hd1 hi1))) (wp_skip (then_n (f_seq ?_)))))
     obtain ⟨j2, hj2, h⟩ := joinE h
     refine f_join (fun a w' => ∃ x2 : List ByteArray, ∃ v4 : Value, j2 x2 = some r ∧ Sx w [] nov [.own v4 9 1 x2.length (x2.flatMap eStr), .blk b1 (GStep.enc p_s) 34] [(3, .pointer (some ⟨b1, 0, none⟩)), (8, v4), (21, v_p_l), (22, iV (p_l.length : Int)), (23, iV (i1 : Int))] 37 a w') ?_ ?_
     ·refine wp_block (f_seq (f_region ?_))
      obtain ⟨r3, hg1, hl1⟩ := All2.at hr_p_l (get_mid hd1 hi1)
      obtain ⟨u1, rfl, hs1⟩ := hl1
      obtain ⟨b2, o1, hm1, hr3⟩ := rn_indexT (a := a) (x := .tmp 21) (y := .tmp 23) (ty := 0) sl_26 hs_p_l hg1 rfl (S.tm rfl) (S.tm rfl)
      refine lv S (hr3 _) rfl ?_; clear S; intro a S
      clear hr3
      refine lv S (rn_ldA Tryz.isAgg57 Tryz.sizeOf57 (off := o1) (o := 0) (part := [sV y1.Key, sV y1.Race, u1.val, iV y1.Young, iV y1.Old]) rfl rfl (S.tm rfl) (hm1.at S.emb0)) rfl ?_; clear S; intro a S
      refine l_alloc S Tryz.zeroValue57 (cs := [sV k_empty, sV k_empty, .slice none 0 0, iV 0, iV 0]) rfl rfl ?_; clear S; intro a w7 b3 hz2 hk4 S
      refine l_store S (S.tm rfl) (S.tm rfl) (i := 0) (off := 0) rfl Tryz.sizeOf57 (vs := [sV y1.Key, sV y1.Race, u1.val, iV y1.Young, iV y1.Old]) rfl rfl rfl (all1 rfl (all1 rfl (all1 (SlcLen.one (slc_len hs1)) (all1 rfl (all1 rfl rfl))))) ?_; clear S; intro w8 hk5 S
      refine l_done (then_n (f_seq (f_region (lv S (rn_ldA Tryz.isAgg57 Tryz.sizeOf57 (off := 0) (o := 0) (part := [sV y1.Key, sV y1.Race, u1.val, iV y1.Young, iV y1.Old]) rfl rfl (S.tm rfl) (S.cellsAt (i := 0) rfl)) rfl ?_)))); clear S; intro a S
      refine lv S (rn_ldA Tryz.isAgg34 Tryz.sizeOf34 (off := 0) (o := 0) (part := (GStep.enc p_s)) rfl rfl (S.tm rfl) (S.cellsAt (i := 2) rfl)) rfl ?_; clear S; intro a S
      refine l_enter S (fun _ => run_call (vs := [.agg (R57.enc (R57.mk y1.Key y1.Race u1 y1.Young y1.Old)).toArray, .agg (GStep.enc p_s).toArray]) ⟨(S.tm rfl), (S.tm rfl), trivial⟩ Tryz.call50) (record_isFor_ok _ y1 (R57.mk y1.Key y1.Race u1 y1.Young y1.Old) ⟨u1, rfl, (hs1.mono (S.le_arg nil_sub))⟩ p_s _ rfl) rfl ?_; clear S; intro v5 a w9 hv3 hk6 hn3 S
      subst hv3
      refine l_done (then_n ?_)
      obtain ⟨j3, hj3, h⟩ := joinE h
      refine f_join (fun a w' => ∃ x3 : List ByteArray, ∃ v6 : Value, j3 x3 = some r ∧ Sx w [] nov [.own v6 9 1 x3.length (x3.flatMap eStr), .blk b1 (GStep.enc p_s) 34] [(3, .pointer (some ⟨b1, 0, none⟩)), (8, v6), (21, v_p_l), (22, iV (p_l.length : Int)), (23, iV (i1 : Int))] 37 a w') ?_ ?_
      ·refine f_cond (S.tm rfl) (fun hb3 => ?_) (fun hb3 => ?_)
       ·replace h := iteT h hb3
        refine f_region (lv S (rn_move (S.tm rfl)) rfl ?_); clear S; intro a S
        refine lv S (rn_fld fa_57_0 (S.tm rfl)) rfl ?_; clear S; intro a S
        refine lv S (rn_load Tryz.isAgg9 (S.tm rfl) (S.cell (i := 0) rfl rfl)) rfl ?_; clear S; intro a S
        refine l_buildSlice S Tryz.underlying37 Tryz.sizeOf9 Tryz.zeroValue9 rfl rfl (pv := [(0, sV y1.Key)]) ⟨rfl, (S.tm rfl), trivial⟩ (cs := [sV y1.Key]) (by kernel_rfl) rfl ?_; clear S; intro a w11 b4 hz3 hk7 S
        obtain ⟨hc1, h⟩ := chkE h
        refine l_appendT sl_37 enc_str S (S.tm rfl) (i := 2) rfl (S.tm rfl) (j := 0) rfl (ys := [y1.Key]) rfl rfl rfl rfl (by have := room_lt hc1; omega) rfl ?_; clear S; intro v7 a w12 hk8 S
        refine lv S (rn_assign (S.tm rfl)) rfl ?_; clear S; intro a S
        refine l_done ?_
        replace S := S.nk [.own v7 9 1 (x1 ++ [y1.Key]).length ((x1 ++ [y1.Key]).flatMap eStr), .blk b1 (GStep.enc p_s) 34] [(3, .pointer (some ⟨b1, 0, none⟩)), (8, v7), (21, v_p_l), (22, iV (p_l.length : Int)), (23, iV (i1 : Int))] [false, false, true, true] rfl (subR rfl)
        refine then_n ?_
        exact ⟨(x1 ++ [y1.Key]), v7, h, S.nf [true, true] rfl (subR rfl)⟩
       ·replace h := iteF h hb3
        refine wp_skip (then_n ?_)
        exact ⟨x1, v3, h, S.nf [false, true, true] rfl (subR rfl)⟩
      clear S h; rintro a w10 ⟨x3, v6, h, S⟩; rw [hj3] at h; clear hj3 j3
      refine blk_n (then_n ?_)
      exact ⟨x3, v6, h, S.nf [true, true] rfl (subR rfl)⟩
     clear S h; rintro a w6 ⟨x2, v4, h, S⟩; rw [hj2] at h; clear hj2 j2
     refine then_n (f_region (lv S (rn_add (S.tm rfl) rfl) rfl ?_)); clear S; intro a S
     refine lv S (rn_move (S.tm rfl)) rfl ?_; clear S; intro a S
     refine l_done (then_n ?_)
     exact ⟨ys1, ⟨i1 + 1, x2, v4, ⟨_, (hd1).trans (List.append_cons _ _ _), by simp [hi1]⟩, h, S.nf [true, true] rfl ⟨rfl, rfl, rfl, rfl, (congrArg (fun z => some (Value.int .i64 z)) (rng_next hd1 hi1 (slc_maxD hs_p_l hr_p_l))), trivial⟩⟩, Nat.lt_succ_self _⟩
   clear S h; rintro a w5 ⟨x1, v3, h, S⟩; rw [hj1] at h; clear hj1 j1
   refine then_n (f_seq (f_region (lv S (rn_move (S.tm rfl)) rfl ?_))); clear S; intro a S
   refine lv S (rn_assign (S.tm rfl)) rfl ?_; clear S; intro a S
   refine lv S (rn_assign rfl) rfl ?_; clear S; intro a S
   refine l_done (then_n (wp_ret ?_))
   obtain rfl := Option.some.inj h
   exact f_ret2 S Tryz.results67 rfl rfl ⟨_, rfl, (own_retT S (i := 0) rfl rfl)⟩
theorem tumblaw2_recorded_ok (w : World) (r : Bool) (h : tumblaw2_recorded = some r) :
    Calls Tryz.prog 30 [].toArray w (Ret w [] fun _ v _ => v = bV r) := by
 refine f_enter [] [] Tryz.func30 rfl Tryz.ntmps30 rfl (by simp) (by simp [fps]) (by simp [fps]) fun a S => ?_
 unfold tumblaw2_recorded at h
 replace S := S.nk [] [] [] rfl trivial
 refine f_seq (f_region (lv S (rn_assign rfl) rfl ?_)); clear S; intro a S
 refine l_done (then_n (f_seq (f_region (lv S (rn_bld bt_57 (pv := [(0, sV k_k), (1, sV k_r), (4, iV 9)]) ⟨rfl, rfl, rfl, rfl, rfl, rfl, trivial⟩ (cs := [sV k_k, sV k_r, .slice none 0 0, iV 0, iV 9]) (by kernel_rfl)) rfl ?_)))); clear S; intro a S
 refine l_buildSlice S Tryz.underlying26 Tryz.sizeOf57 Tryz.zeroValue57 rfl rfl (pv := [(0, .agg #[sV k_k, sV k_r, .slice none 0 0, iV 0, iV 9])]) ⟨rfl, (S.tm rfl), trivial⟩ (cs := [sV k_k, sV k_r, .slice none 0 0, iV 0, iV 9]) (by kernel_rfl) rfl ?_; clear S; intro a w1 b1 hz1 hk1 S
 refine lv S (rn_bld bt_34 (pv := [(1, iV 1), (2, sV k_i), (3, sV k_a), (5, sV k_r), (7, iV 5)]) ⟨rfl, rfl, rfl, rfl, rfl, rfl, rfl, rfl, rfl, rfl, trivial⟩ (cs := [iV 0, iV 1, sV k_i, sV k_a, sV k_empty, sV k_r, iV 0, iV 5]) (by kernel_rfl)) rfl ?_; clear S; intro a S
 have hr1 : All2 (rel_57 nov) ([(GKind.mk k_k k_r ([] : List ByteArray) 0 9)] : List GKind) ([(R57.mk k_k k_r ⟨.slice none 0 0, rfl⟩ 0 9)] : List R57) := (All2.cons ⟨⟨.slice none 0 0, rfl⟩, rfl, (slc_nil _ _)⟩ All2.nil)
 replace S := S.litOwn (i := 0) (xs := ([(R57.mk k_k k_r ⟨.slice none 0 0, rfl⟩ 0 9)] : List R57)) rfl R57.enc_ok rfl rfl rfl
 replace S := S.nk [.own (.slice (some ⟨b1, 0, none⟩) 1 1) 57 5 ([(R57.mk k_k k_r ⟨.slice none 0 0, rfl⟩ 0 9)] : List R57).length (([(R57.mk k_k k_r ⟨.slice none 0 0, rfl⟩ 0 9)] : List R57).flatMap R57.enc)] [(0, bV false), (4, .agg #[sV k_k, sV k_r, .slice none 0 0, iV 0, iV 9]), (5, (.slice (some ⟨b1, 0, none⟩) 1 1)), (6, .agg (GStep.enc (GStep.mk 0 1 k_i k_a k_empty k_r 0 5)).toArray)] [] rfl (subR rfl)
 obtain ⟨r1, hr2, h⟩ := bindE h
 have hz2 := S.keep.size
 refine l_enter S (fun _ => run_call (vs := [(.slice (some ⟨b1, 0, none⟩) 1 1), .agg (GStep.enc (GStep.mk 0 1 k_i k_a k_empty k_r 0 5)).toArray]) ⟨(S.tm rfl), (S.tm rfl), trivial⟩ Tryz.call67) (record_For_ok _ (.slice (some ⟨b1, 0, none⟩) 1 1) ([(GKind.mk k_k k_r ([] : List ByteArray) 0 9)] : List GKind) ([(R57.mk k_k k_r ⟨.slice none 0 0, rfl⟩ 0 9)] : List R57) (own_slcT R57.enc_ok S (i := 0) rfl (ne_nil (e' := .own (.slice (some ⟨b1, 0, none⟩) 1 1) 57 5 ([(R57.mk k_k k_r ⟨.slice none 0 0, rfl⟩ 0 9)] : List R57).length (([(R57.mk k_k k_r ⟨.slice none 0 0, rfl⟩ 0 9)] : List R57).flatMap R57.enc)))) (rels_57 (S.le_new nil_sub) hr1) (GStep.mk 0 1 k_i k_a k_empty k_r 0 5) _ hr2) rfl ?_; clear S; intro v1 a w2 hv1 hk2 hn1 S
 obtain ⟨u1, rfl, ho1⟩ := hv1
 obtain ⟨φ1, hl1, hm1, S⟩ := S.see' hn1 hz2
 have hs1 := ho1.mono hm1
 refine lv S (rn_move (S.tm rfl)) rfl ?_; clear S; intro a S
 refine lv S (rn_extract (S.tm rfl) rfl) rfl ?_; clear S; intro a S
 refine lv S (rn_extract (S.tm rfl) rfl) rfl ?_; clear S; intro a S
 refine lv S (rn_assign (S.tm rfl)) rfl ?_; clear S; intro a S
 refine lv S (rn_assign (S.tm rfl)) rfl ?_; clear S; intro a S
 refine l_done (then_n (f_seq (f_region (lv S (rn_move (S.tm rfl)) rfl ?_)))); clear S; intro a S
 refine lv S (rn_eql (S.tm rfl) rfl) rfl ?_; clear S; intro a S
 refine lv S (rn_move (S.tm rfl)) rfl ?_; clear S; intro a S
 obtain ⟨j1, hj1, h⟩ := joinE h
 refine f_cutm 4 (fun a w' => ∃ c1, j1 c1 = some r ∧ Keep [] w2 w' ∧ Sx w [] φ1 [.own (.slice (some ⟨b1, 0, none⟩) 1 1) 57 5 ([(R57.mk k_k k_r ⟨.slice none 0 0, rfl⟩ 0 9)] : List R57).length (([(R57.mk k_k k_r ⟨.slice none 0 0, rfl⟩ 0 9)] : List R57).flatMap R57.enc)] [(16, bV c1)] 17 a w') ?_ ?_
 ·rcases Bool.eq_false_or_eq_true (decide (r1.2 = 0)) with hb1 | hb1
  ·replace h := iteT h hb1
   refine l_want S rfl rfl rfl hb1 (lv S (rn_move (S.tm rfl)) rfl ?_); clear S; intro a S
   refine l_want S rfl rfl rfl hb1 (l_buildSlice S Tryz.underlying37 Tryz.sizeOf9 Tryz.zeroValue9 rfl rfl (pv := [(0, sV k_k)]) ⟨rfl, rfl, trivial⟩ (cs := [sV k_k]) (by kernel_rfl) rfl ?_); clear S; intro a w4 b2 hz3 hk3 S
   refine l_want S rfl rfl rfl hb1 ?_
   obtain ⟨r2, hr3, h⟩ := bindE h
   refine l_enter S (fun _ => run_call (vs := [u1, .slice (some ⟨b2, 0, none⟩) 1 1]) ⟨(S.tm rfl), (S.tm rfl), trivial⟩ Tryz.call29) (slices_Equal_string_ok _ u1 r1.1 ((ownV_slcT enc_str hs1).mono (S.le_new nil_sub)) (.slice (some ⟨b2, 0, none⟩) 1 1) [k_k] (lit_slcT enc_str S (i := 0) rfl rfl rfl rfl ((ne_nil (e' := .blk b2 [sV k_k] 9)) _ rfl)) _ hr3) rfl ?_; clear S; intro v2 a w5 hv2 hk4 hn2 S
   subst hv2
   refine lv S (rn_and_t hb1 (S.tm rfl) (S.tm rfl)) rfl ?_; clear S; intro a S
   refine l_done (then_n ?_)
   exact ⟨_, h, (hk3).trans hk4, S.nf [false, true] rfl ⟨rfl, trivial⟩⟩
  ·replace h := iteF h hb1
   iterate 3 (refine l_skip S rfl rfl rfl (neq_f hb1) rfl ?_ rfl; clear S; intro a S)
   refine lv S (rn_and_f true hb1 (S.tm rfl) rfl) rfl ?_; clear S; intro a S
   refine l_done (then_n ?_)
   exact ⟨_, h, Keep.refl _ _, S.nf [true] rfl ⟨rfl, trivial⟩⟩
 clear S h; rintro a w3 ⟨c1, h, hk5, S⟩; rw [hj1] at h; clear hj1 j1
 refine lv S (rn_assign (S.tm rfl)) rfl ?_; clear S; intro a S
 refine l_done (then_n (wp_ret ?_))
 obtain rfl := Option.some.inj h
 exact f_ret S Tryz.results30 rfl rfl
end Go.Proofs.YtdkpfiinkodbfaaGreatDoor
