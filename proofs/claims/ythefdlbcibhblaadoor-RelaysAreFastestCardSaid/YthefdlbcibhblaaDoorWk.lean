/- Each Go function computes its plain twin, by program. -/
import Derived.Test.YthefdlbcibhblaaDoorWk1
namespace Go.Proofs.YthefdlbcibhblaaDoor
open Go
theorem record_checkStep_ok (w : World) (p_x : GStep) (r : Int) (h : record_checkStep p_x = some r) :
    Calls Tryd.prog 55 [.agg (GStep.enc p_x).toArray].toArray w (Ret w [] fun _ v _ => v = iV r) := by
 refine f_enter [] [] Tryd.func55 rfl Tryd.ntmps55 rfl (by simp) (by simp [fps]) (by simp [fps]) fun a S => ?_
 unfold record_checkStep at h
 replace S := S.nk [] [(0, .agg (GStep.enc p_x).toArray)] [] rfl ⟨rfl, trivial⟩
 refine f_seq (f_region (l_box S (S.tm rfl) (cs := (GStep.enc p_x)) rfl rfl ?_)); clear S; intro a w1 b1 hz1 hk1 S
 refine lv S (rn_assign rfl) rfl ?_; clear S; intro a S
 refine l_done (then_n (f_seq ?_))
 obtain ⟨j1, hj1, h⟩ := joinE h
 refine f_join (fun a w' => j1 = some r ∧ Sx w [] nov [] [] 64 a w') ?_ ?_
 ·refine wp_block (f_seq (f_region (lv S (rn_fld fa_66_0 (S.tm rfl)) rfl ?_))); clear S; intro a S
  refine lv S (rn_load Tryd.isAgg3 (S.tm rfl) (S.cell (i := 0) rfl rfl)) rfl ?_; clear S; intro a S
  refine l_enter S (fun _ => run_call (vs := [iV p_x.At]) ⟨(S.tm rfl), trivial⟩ Tryd.call59) (words_IsMoment_ok _ p_x.At _ rfl) rfl ?_; clear S; intro v1 a w3 hv1 hk2 hn1 S
  subst hv1
  refine lv S (rn_not (S.tm rfl)) rfl ?_; clear S; intro a S
  refine lv S (rn_assign (S.tm rfl)) rfl ?_; clear S; intro a S
  refine l_done (then_n (f_cond (S.tm rfl) (fun hb1 => ?_) (fun hb1 => ?_)))
  ·replace h := iteT h hb1
   refine f_seq (f_region (lv S (rn_assign rfl) rfl ?_)); clear S; intro a S
   refine l_done (then_n (wp_ret (blk_r (then_r (then_r ?_)))))
   obtain rfl := Option.some.inj h
   exact f_ret S Tryd.results55 rfl rfl
  ·replace h := iteF h hb1
   refine f_seq (f_region (lv S (rn_fld fa_66_1 (S.tm rfl)) rfl ?_)); clear S; intro a S
   refine lv S (rn_load Tryd.isAgg3 (S.tm rfl) (S.cell (i := 0) rfl rfl)) rfl ?_; clear S; intro a S
   refine l_enter S (fun _ => run_call (vs := [iV p_x.Kind, iV 1, iV 3]) ⟨(S.tm rfl), rfl, rfl, trivial⟩ Tryd.call27) (words_Within_ok _ p_x.Kind 1 3 _ rfl) rfl ?_; clear S; intro v2 a w4 hv2 hk3 hn2 S
   subst hv2
   refine lv S (rn_not (S.tm rfl)) rfl ?_; clear S; intro a S
   refine lv S (rn_assign (S.tm rfl)) rfl ?_; clear S; intro a S
   refine l_done (then_n (f_cond (S.tm rfl) (fun hb2 => ?_) (fun hb2 => ?_)))
   ·replace h := iteT h hb2
    refine f_seq (f_region (lv S (rn_assign rfl) rfl ?_)); clear S; intro a S
    refine l_done (then_n (wp_ret (blk_r (then_r (then_r ?_)))))
    obtain rfl := Option.some.inj h
    exact f_ret S Tryd.results55 rfl rfl
   ·replace h := iteF h hb2
    refine f_seq (f_region (lv S (rn_fld fa_66_2 (S.tm rfl)) rfl ?_)); clear S; intro a S
    refine lv S (rn_load Tryd.isAgg9 (S.tm rfl) (S.cell (i := 0) rfl rfl)) rfl ?_; clear S; intro a S
    obtain ⟨r1, hr1, h⟩ := bindE h
    refine l_enter S (fun _ => run_call (vs := [sV p_x.Id]) ⟨(S.tm rfl), trivial⟩ Tryd.call45) (words_IsKey_ok _ p_x.Id _ hr1) rfl ?_; clear S; intro v3 a w5 hv3 hk4 hn3 S
    subst hv3
    refine lv S (rn_not (S.tm rfl)) rfl ?_; clear S; intro a S
    refine lv S (rn_assign (S.tm rfl)) rfl ?_; clear S; intro a S
    refine l_done ?_
    replace S := S.nk [.blk b1 (GStep.enc p_x) 66] [(1, .pointer (some ⟨b1, 0, none⟩)), (13, bV (!r1))] [true] rfl (subR rfl)
    refine then_n (f_cond (S.tm rfl) (fun hb3 => ?_) (fun hb3 => ?_))
    ·replace h := iteT h hb3
     refine f_seq (f_region (lv S (rn_assign rfl) rfl ?_)); clear S; intro a S
     refine l_done (then_n (wp_ret (blk_r (then_r (then_r ?_)))))
     obtain rfl := Option.some.inj h
     exact f_ret S Tryd.results55 rfl rfl
    ·replace h := iteF h hb3
     refine f_seq (f_region (lv S (rn_fld fa_66_1 (S.tm rfl)) rfl ?_)); clear S; intro a S
     refine lv S (rn_load Tryd.isAgg3 (S.tm rfl) (S.cell (i := 0) rfl rfl)) rfl ?_; clear S; intro a S
     refine lv S (rn_neq (S.tm rfl) rfl) rfl ?_; clear S; intro a S
     refine lv S (rn_assign (S.tm rfl)) rfl ?_; clear S; intro a S
     refine l_done (then_n ?_)
     obtain ⟨j2, hj2, h⟩ := joinE h
     refine f_join (fun a w' => j2 = some r ∧ Sx w [] nov [] [] 64 a w') ?_ ?_
     ·refine f_cond (S.tm rfl) (fun hb4 => ?_) (fun hb4 => ?_)
      ·replace h := iteT h hb4
       refine f_seq (f_region (lv S (rn_ldA Tryd.isAgg66 Tryd.sizeOf66 (off := 0) (o := 0) (part := (GStep.enc p_x)) rfl rfl (S.tm rfl) (S.cellsAt (i := 0) rfl)) rfl ?_)); clear S; intro a S
       refine lv S (rn_fld fa_66_0 (S.tm rfl)) rfl ?_; clear S; intro a S
       refine lv S (rn_load Tryd.isAgg3 (S.tm rfl) (S.cell (i := 0) rfl rfl)) rfl ?_; clear S; intro a S
       refine lv S (rn_fld fa_66_1 (S.tm rfl)) rfl ?_; clear S; intro a S
       refine lv S (rn_load Tryd.isAgg3 (S.tm rfl) (S.cell (i := 0) rfl rfl)) rfl ?_; clear S; intro a S
       refine lv S (rn_fld fa_66_2 (S.tm rfl)) rfl ?_; clear S; intro a S
       refine lv S (rn_load Tryd.isAgg9 (S.tm rfl) (S.cell (i := 0) rfl rfl)) rfl ?_; clear S; intro a S
       refine lv S (rn_bld bt_66 (pv := [(0, iV p_x.At), (1, iV p_x.Kind), (2, sV p_x.Id)]) ⟨rfl, (S.tm rfl), rfl, (S.tm rfl), rfl, (S.tm rfl), trivial⟩ (cs := [iV p_x.At, iV p_x.Kind, sV p_x.Id, sV k_empty, sV k_empty, sV k_empty, iV 0, iV 0]) (by kernel_rfl)) rfl ?_; clear S; intro a S
       refine lv S (rn_neq_66 (m := p_x) (n := (GStep.mk p_x.At p_x.Kind p_x.Id k_empty k_empty k_empty 0 0)) (S.tm rfl) (S.tm rfl)) rfl ?_; clear S; intro a S
       refine l_done ?_
       replace S := S.nk [] [(30, bV (!decide (p_x = (GStep.mk p_x.At p_x.Kind p_x.Id k_empty k_empty k_empty 0 0))))] [false] rfl ⟨rfl, trivial⟩
       refine then_n (f_cond (S.tm rfl) (fun hb5 => ?_) (fun hb5 => ?_))
       ·replace h := iteT h hb5
        refine f_seq (f_region (lv S (rn_assign rfl) rfl ?_)); clear S; intro a S
        refine l_done (then_n (wp_ret (then_r (blk_r (then_r (then_r ?_))))))
        obtain rfl := Option.some.inj h
        exact f_ret S Tryd.results55 rfl rfl
       ·replace h := iteF h hb5
        refine wp_skip (then_n ?_)
        exact ⟨h, S.nf [] rfl trivial⟩
      ·replace h := iteF h hb4
       refine f_seq (f_region (lv S (rn_fld fa_66_3 (S.tm rfl)) rfl ?_)); clear S; intro a S
       refine lv S (rn_load Tryd.isAgg9 (S.tm rfl) (S.cell (i := 0) rfl rfl)) rfl ?_; clear S; intro a S
       obtain ⟨r2, hr2, h⟩ := bindE h
       refine l_enter S (fun _ => run_call (vs := [sV p_x.Who]) ⟨(S.tm rfl), trivial⟩ Tryd.call45) (words_IsKey_ok _ p_x.Who _ hr2) rfl ?_; clear S; intro v4 a w7 hv4 hk5 hn4 S
       subst hv4
       refine lv S (rn_not (S.tm rfl)) rfl ?_; clear S; intro a S
       refine lv S (rn_move (S.tm rfl)) rfl ?_; clear S; intro a S
       obtain ⟨j3, hj3, h⟩ := joinE h
       refine f_cutm 5 (fun a w' => ∃ c1, j3 c1 = some r ∧ Keep [] w7 w' ∧ Sx w [] nov [.blk b1 (GStep.enc p_x) 66] [(1, .pointer (some ⟨b1, 0, none⟩)), (41, bV c1)] 64 a w') ?_ ?_
       ·rcases Bool.eq_false_or_eq_true (!r2) with hb6 | hb6
        ·replace h := iteT h hb6
         iterate 4 (refine l_skip S rfl rfl rfl (neq_t hb6) rfl ?_ rfl; clear S; intro a S)
         refine lv S (rn_or_t true hb6 (S.tm rfl) rfl) rfl ?_; clear S; intro a S
         refine l_done (then_n ?_)
         exact ⟨_, h, Keep.refl _ _, S.nf [true] rfl (subR rfl)⟩
        ·replace h := iteF h hb6
         refine l_want S rfl rfl rfl hb6 (lv S (rn_fld fa_66_5 (S.tm rfl)) rfl ?_); clear S; intro a S
         refine l_want S rfl rfl rfl hb6 (lv S (rn_load Tryd.isAgg9 (S.tm rfl) (S.cell (i := 0) rfl rfl)) rfl ?_); clear S; intro a S
         refine l_want S rfl rfl rfl hb6 ?_
         obtain ⟨r3, hr3, h⟩ := bindE h
         refine l_enter S (fun _ => run_call (vs := [sV p_x.Race]) ⟨(S.tm rfl), trivial⟩ Tryd.call45) (words_IsKey_ok _ p_x.Race _ hr3) rfl ?_; clear S; intro v5 a w9 hv5 hk6 hn5 S
         subst hv5
         refine l_want S rfl rfl rfl hb6 (lv S (rn_not (S.tm rfl)) rfl ?_); clear S; intro a S
         refine lv S (rn_or_f hb6 (S.tm rfl) (S.tm rfl)) rfl ?_; clear S; intro a S
         refine l_done (then_n ?_)
         exact ⟨_, h, hk6, S.nf [true] rfl (subR rfl)⟩
       clear S h; rintro a w8 ⟨c1, h, hk7, S⟩; rw [hj3] at h; clear hj3 j3
       refine lv S (rn_move (S.tm rfl)) rfl ?_; clear S; intro a S
       obtain ⟨j4, hj4, h⟩ := joinE h
       refine f_cutm 10 (fun a w' => ∃ c2, j4 c2 = some r ∧ Keep [] w8 w' ∧ Sx w [] nov [.blk b1 (GStep.enc p_x) 66] [(1, .pointer (some ⟨b1, 0, none⟩)), (52, bV c2)] 64 a w') ?_ ?_
       ·rcases Bool.eq_false_or_eq_true c1 with hb7 | hb7
        ·replace h := iteT h hb7
         iterate 4 (refine l_skip S rfl rfl rfl (neq_t hb7) rfl ?_ rfl; clear S; intro a S)
         iterate 4 (refine l_skipU S rfl rfl rfl rfl ?_; clear S; intro a S)
         refine l_skip S rfl rfl rfl (neq_t hb7) rfl ?_ rfl; clear S; intro a S
         refine lv S (rn_or_t true hb7 (S.tm rfl) rfl) rfl ?_; clear S; intro a S
         refine l_done (then_n ?_)
         exact ⟨_, h, Keep.refl _ _, S.nf [true] rfl (subR rfl)⟩
        ·replace h := iteF h hb7
         refine l_want S rfl rfl rfl hb7 (lv S (rn_fld fa_66_4 (S.tm rfl)) rfl ?_); clear S; intro a S
         refine l_want S rfl rfl rfl hb7 (lv S (rn_load Tryd.isAgg9 (S.tm rfl) (S.cell (i := 0) rfl rfl)) rfl ?_); clear S; intro a S
         refine l_want S rfl rfl rfl hb7 (lv S (rn_sneq (S.tm rfl) rfl) rfl ?_); clear S; intro a S
         refine l_want S rfl rfl rfl hb7 (lv S (rn_move (S.tm rfl)) rfl ?_); clear S; intro a S
         obtain ⟨j5, hj5, h⟩ := joinE h
         refine f_cutm 5 (fun a w' => ∃ c3, j5 c3 = some r ∧ Keep [] w8 w' ∧ Sx w [] nov [.blk b1 (GStep.enc p_x) 66] [(1, .pointer (some ⟨b1, 0, none⟩)), (42, bV c1), (51, bV c3)] 64 a w') ?_ ?_
         ·rcases Bool.eq_false_or_eq_true (!decide (p_x.Club = k_empty)) with hb8 | hb8
          ·replace h := iteT h hb8
           refine l_want S rfl rfl rfl hb8 (lv S (rn_fld fa_66_4 (S.tm rfl)) rfl ?_); clear S; intro a S
           refine l_want S rfl rfl rfl hb8 (lv S (rn_load Tryd.isAgg9 (S.tm rfl) (S.cell (i := 0) rfl rfl)) rfl ?_); clear S; intro a S
           refine l_want S rfl rfl rfl hb8 ?_
           obtain ⟨r4, hr4, h⟩ := bindE h
           refine l_enter S (fun _ => run_call (vs := [sV p_x.Club]) ⟨(S.tm rfl), trivial⟩ Tryd.call45) (words_IsKey_ok _ p_x.Club _ hr4) rfl ?_; clear S; intro v6 a w12 hv6 hk8 hn6 S
           subst hv6
           refine l_want S rfl rfl rfl hb8 (lv S (rn_not (S.tm rfl)) rfl ?_); clear S; intro a S
           refine l_want S rfl rfl rfl hb7 (lv S (rn_and_t hb8 (S.tm rfl) (S.tm rfl)) rfl ?_); clear S; intro a S
           refine l_done (then_n ?_)
           exact ⟨_, h, hk8, S.nf [true] rfl (subR rfl)⟩
          ·replace h := iteF h hb8
           iterate 4 (refine l_skip S rfl rfl rfl (neq_f hb8) rfl ?_ rfl; clear S; intro a S)
           refine l_want S rfl rfl rfl hb7 (lv S (rn_and_f true hb8 (S.tm rfl) rfl) rfl ?_); clear S; intro a S
           refine l_done (then_n ?_)
           exact ⟨_, h, Keep.refl _ _, S.nf [true] rfl (subR rfl)⟩
         clear S h; rintro a w11 ⟨c3, h, hk9, S⟩; rw [hj5] at h; clear hj5 j5
         refine lv S (rn_or_f hb7 (S.tm rfl) (S.tm rfl)) rfl ?_; clear S; intro a S
         refine l_done (then_n ?_)
         exact ⟨_, h, hk9, S.nf [true] rfl (subR rfl)⟩
       clear S h; rintro a w10 ⟨c2, h, hk10, S⟩; rw [hj4] at h; clear hj4 j4
       refine lv S (rn_assign (S.tm rfl)) rfl ?_; clear S; intro a S
       refine l_done (then_n (f_cond (S.tm rfl) (fun hb9 => ?_) (fun hb9 => ?_)))
       ·replace h := iteT h hb9
        refine f_seq (f_region (lv S (rn_assign rfl) rfl ?_)); clear S; intro a S
        refine l_done (then_n (wp_ret (then_r (blk_r (then_r (then_r ?_))))))
        obtain rfl := Option.some.inj h
        exact f_ret S Tryd.results55 rfl rfl
       ·replace h := iteF h hb9
        refine f_seq (f_region (lv S (rn_fld fa_66_6 (S.tm rfl)) rfl ?_)); clear S; intro a S
        refine lv S (rn_load Tryd.isAgg3 (S.tm rfl) (S.cell (i := 0) rfl rfl)) rfl ?_; clear S; intro a S
        refine l_enter S (fun _ => run_call (vs := [iV p_x.Age, iV 0, iV 150]) ⟨(S.tm rfl), rfl, rfl, trivial⟩ Tryd.call27) (words_Within_ok _ p_x.Age 0 150 _ rfl) rfl ?_; clear S; intro v7 a w13 hv7 hk11 hn7 S
        subst hv7
        refine lv S (rn_not (S.tm rfl)) rfl ?_; clear S; intro a S
        refine lv S (rn_move (S.tm rfl)) rfl ?_; clear S; intro a S
        refine f_cutm 5 (fun a w' => Keep [] w13 w' ∧ Sx w [] nov [.blk b1 (GStep.enc p_x) 66] [(63, bV ((!(words_Within p_x.Age 0 150)) || (!(timing_IsTime p_x.Time))))] 64 a w') ?_ ?_
        ·rcases Bool.eq_false_or_eq_true (!(words_Within p_x.Age 0 150)) with hb10 | hb10
         ·iterate 4 (refine l_skip S rfl rfl rfl (neq_t hb10) rfl ?_ rfl; clear S; intro a S)
          refine lv S (rn_or_t (!(timing_IsTime p_x.Time)) hb10 (S.tm rfl) rfl) rfl ?_; clear S; intro a S
          refine l_done (then_n ?_)
          exact ⟨Keep.refl _ _, S.nf [true] rfl ⟨rfl, trivial⟩⟩
         ·refine l_want S rfl rfl rfl hb10 (lv S (rn_fld fa_66_7 (S.tm rfl)) rfl ?_); clear S; intro a S
          refine l_want S rfl rfl rfl hb10 (lv S (rn_load Tryd.isAgg3 (S.tm rfl) (S.cell (i := 0) rfl rfl)) rfl ?_); clear S; intro a S
          refine l_want S rfl rfl rfl hb10 (l_enter S (fun _ => run_call (vs := [iV p_x.Time]) ⟨(S.tm rfl), trivial⟩ Tryd.call40) (timing_IsTime_ok _ p_x.Time _ rfl) rfl ?_); clear S; intro v8 a w15 hv8 hk12 hn8 S
          subst hv8
          refine l_want S rfl rfl rfl hb10 (lv S (rn_not (S.tm rfl)) rfl ?_); clear S; intro a S
          refine lv S (rn_or_f hb10 (S.tm rfl) (S.tm rfl)) rfl ?_; clear S; intro a S
          refine l_done (then_n ?_)
          exact ⟨hk12, S.nf [true] rfl ⟨rfl, trivial⟩⟩
        clear S; rintro a w14 ⟨hk13, S⟩
        refine lv S (rn_assign (S.tm rfl)) rfl ?_; clear S; intro a S
        refine l_done (then_n (f_cond (S.tm rfl) (fun hb11 => ?_) (fun hb11 => ?_)))
        ·replace h := iteT h hb11
         refine f_seq (f_region (lv S (rn_assign rfl) rfl ?_)); clear S; intro a S
         refine l_done (then_n (wp_ret (then_r (blk_r (then_r (then_r ?_))))))
         obtain rfl := Option.some.inj h
         exact f_ret S Tryd.results55 rfl rfl
        ·replace h := iteF h hb11
         refine wp_skip (then_n ?_)
         exact ⟨h, S.nf [false] rfl trivial⟩
     clear S h; rintro a w6 ⟨h, S⟩; rw [hj2] at h; clear hj2 j2
     refine blk_n (then_n ?_)
     exact ⟨h, S.nf [] rfl trivial⟩
 clear S h; rintro a w2 ⟨h, S⟩; rw [hj1] at h; clear hj1 j1
 refine then_n (f_seq (f_region (lv S (rn_assign rfl) rfl ?_))); clear S; intro a S
 refine l_done (then_n (wp_ret ?_))
 obtain rfl := Option.some.inj h
 exact f_ret S Tryd.results55 rfl rfl
theorem record_checkSwum_ok (w : World) (p_s : GStep) (r : Int) (h : record_checkSwum p_s = some r) :
    Calls Tryd.prog 43 [.agg (GStep.enc p_s).toArray].toArray w (Ret w [] fun _ v _ => v = iV r) := by
 refine f_enter [] [] Tryd.func43 rfl Tryd.ntmps43 rfl (by simp) (by simp [fps]) (by simp [fps]) fun a S => ?_
 unfold record_checkSwum at h
 replace S := S.nk [] [(0, .agg (GStep.enc p_s).toArray)] [] rfl ⟨rfl, trivial⟩
 refine f_seq (f_region (l_box S (S.tm rfl) (cs := (GStep.enc p_s)) rfl rfl ?_)); clear S; intro a w1 b1 hz1 hk1 S
 refine lv S (rn_assign rfl) rfl ?_; clear S; intro a S
 refine l_done (then_n (f_seq (f_seq (f_region (lv S (rn_ldA Tryd.isAgg66 Tryd.sizeOf66 (off := 0) (o := 0) (part := (GStep.enc p_s)) rfl rfl (S.tm rfl) (S.cellsAt (i := 0) rfl)) rfl ?_))))); clear S; intro a S
 obtain ⟨r1, hr1, h⟩ := bindE h
 refine l_enter S (fun _ => run_call (vs := [.agg (GStep.enc p_s).toArray]) ⟨(S.tm rfl), trivial⟩ Tryd.call55) (record_checkStep_ok _ p_s _ hr1) rfl ?_; clear S; intro v1 a w2 hv1 hk2 hn1 S
 subst hv1
 refine lv S (rn_assign (S.tm rfl)) rfl ?_; clear S; intro a S
 refine l_done (then_n (f_seq (f_region (lv S (rn_move (S.tm rfl)) rfl ?_)))); clear S; intro a S
 refine lv S (rn_neq (S.tm rfl) rfl) rfl ?_; clear S; intro a S
 refine l_done (then_n (f_cond (S.tm rfl) (fun hb1 => ?_) (fun hb1 => ?_)))
 ·replace h := iteT h hb1
  refine f_seq (f_region (lv S (rn_move (S.tm rfl)) rfl ?_)); clear S; intro a S
  refine lv S (rn_assign (S.tm rfl)) rfl ?_; clear S; intro a S
  refine l_done (then_n (wp_ret (then_r ?_)))
  obtain rfl := Option.some.inj h
  exact f_ret S Tryd.results43 rfl rfl
 ·replace h := iteF h hb1
  refine wp_skip (then_n (f_seq (f_seq (f_region (lv S (rn_fld fa_66_1 (S.tm rfl)) rfl ?_))))); clear S; intro a S
  refine lv S (rn_load Tryd.isAgg3 (S.tm rfl) (S.cell (i := 0) rfl rfl)) rfl ?_; clear S; intro a S
  refine lv S (rn_neq (S.tm rfl) rfl) rfl ?_; clear S; intro a S
  refine l_done (then_n (f_cond (S.tm rfl) (fun hb2 => ?_) (fun hb2 => ?_)))
  ·replace h := iteT h hb2
   refine f_seq (f_region (lv S (rn_assign rfl) rfl ?_)); clear S; intro a S
   refine l_done (then_n (wp_ret (then_r ?_)))
   obtain rfl := Option.some.inj h
   exact f_ret S Tryd.results43 rfl rfl
  ·replace h := iteF h hb2
   refine wp_skip (then_n (f_seq (f_region (lv S (rn_assign rfl) rfl ?_)))); clear S; intro a S
   refine l_done (then_n (wp_ret ?_))
   obtain rfl := Option.some.inj h
   exact f_ret S Tryd.results43 rfl rfl
theorem slices_Index_string_ok (w : World) (v_p_s : Value) (p_s : List ByteArray) (hs_p_s : Slc (view w []) 1 v_p_s (p_s.map eStr)) (p_v : ByteArray) (r : Int) (h : slices_Index_string p_s p_v = r) :
    Calls Tryd.prog 29 [v_p_s, sV p_v].toArray w (Ret w [] fun _ v _ => v = iV r) := by
 refine f_enter [] [] Tryd.func29 rfl Tryd.ntmps29 rfl (by simp) (by simp [fps]) (by simp [fps]) fun a S => ?_
 unfold slices_Index_string at h
 replace S := S.nk [] [(0, v_p_s), (1, sV p_v)] [] rfl (subR rfl)
 refine f_seq (f_region (lv S (rn_assign rfl) rfl ?_)); clear S; intro a S
 refine l_done (then_n (f_seq (f_seq (f_region (lv S (rn_move (S.tm rfl)) rfl ?_))))); clear S; intro a S
 refine lv S (rn_lenT sl_31 (S.tm rfl) (slc_len hs_p_s)) rfl ?_; clear S; intro a S
 refine lv S (rn_move rfl) rfl ?_; clear S; intro a S
 refine l_done (then_n ?_)
 replace S := S.nk [] [(0, v_p_s), (1, sV p_v), (7, iV (p_s.length : Int)), (8, iV 0)] [] rfl (subR rfl)
 obtain ⟨j1, hj1, h⟩ := joinE h
 refine f_join (fun a w' => j1 = r ∧ Sx w [] nov [] [] 19 a w') ?_ ?_
 ·refine wp_block (f_loop (fun (ys1 : List ByteArray) a w' => ∃ i1 : Nat, (∃ dn, p_s = dn ++ ys1 ∧ dn.length = i1) ∧ slices_Index_string_l1 p_v j1 ys1 i1 = r ∧ Sx w [] nov [] [(0, v_p_s), (1, sV p_v), (7, iV (p_s.length : Int)), (8, iV (i1 : Int))] 19 a w') List.length p_s ⟨0, ⟨[], rfl, rfl⟩, h, S.nf [] rfl (subR rfl)⟩ ?_)
  clear S h; rintro ys1 a w1 ⟨i1, ⟨dn, hd1, hi1⟩, h, S⟩
  cases ys1 with
  | nil =>
   rw [slices_Index_string_l1.eq_1] at h
   refine f_seq (f_region (lv S (rn_lss (S.tm rfl) (S.tm rfl)) rfl ?_)); clear S; intro a S
   refine l_done ?_
   replace S := S.nk [] [(0, v_p_s), (1, sV p_v), (7, iV (p_s.length : Int)), (8, iV (i1 : Int)), (9, bV (decide ((i1 : Int) < (p_s.length : Int))))] [] rfl (subR rfl)
   refine then_n (f_seq (wp_cond_false ((S.tm rfl).trans (congrArg Value.bool (rng_nil hd1 hi1))) (wp_exit (then_x (then_x (x_same ?_))))))
   refine then_n ?_
   exact ⟨h, S.nf [] rfl trivial⟩
  | cons y1 ys1 =>
   rw [slices_Index_string_l1.eq_2] at h
   refine f_seq (f_region (lv S (rn_lss (S.tm rfl) (S.tm rfl)) rfl ?_)); clear S; intro a S
   refine l_done ?_
   replace S := S.nk [] [(0, v_p_s), (1, sV p_v), (7, iV (p_s.length : Int)), (8, iV (i1 : Int)), (9, bV (decide ((i1 : Int) < (p_s.length : Int))))] [] rfl (subR rfl)
   refine then_n (f_seq (wp_cond_true ((S.tm rfl).trans (congrArg Value.bool (rng_cons hd1 hi1))) (wp_skip (then_n (f_seq (wp_block ?_))))))
   refine f_seq (f_region (lv S (rn_move (S.tm rfl)) rfl ?_)); clear S; intro a S
   refine lv S (rn_assign (S.tm rfl)) rfl ?_; clear S; intro a S
   refine l_done (then_n (f_seq (f_region (lv S (rn_move (S.tm rfl)) rfl ?_)))); clear S; intro a S
   refine lv S (rn_move (S.tm rfl)) rfl ?_; clear S; intro a S
   refine lv S (rn_move (S.tm rfl)) rfl ?_; clear S; intro a S
   obtain ⟨b1, o1, hm1, hr1⟩ := rn_indexT (a := a) (x := .tmp 12) (y := .tmp 13) (ty := 0) sl_31 hs_p_s (get_mid hd1 hi1) rfl (S.tm rfl) (S.tm rfl)
   refine lv S (hr1 _) rfl ?_; clear S; intro a S
   clear hr1
   refine lv S (rn_ld Tryd.isAgg9 (off := o1) (o := 0) (S.tm rfl) (hm1.at S.emb0) rfl) rfl ?_; clear S; intro a S
   refine lv S (rn_seql (S.tm rfl) (S.tm rfl)) rfl ?_; clear S; intro a S
   refine l_done (then_n (f_cond (S.tm rfl) (fun hb1 => ?_) (fun hb1 => ?_)))
   ·replace h := iteT h hb1
    refine f_seq (f_region (lv S (rn_move (S.tm rfl)) rfl ?_)); clear S; intro a S
    refine lv S (rn_assign (S.tm rfl)) rfl ?_; clear S; intro a S
    refine l_done ?_
    replace S := S.nk [] [(4, iV (i1 : Int))] [] rfl ⟨rfl, trivial⟩
    refine then_n (wp_ret (blk_r (then_r (then_r (blk_r (then_r ?_))))))
    refine then_r ?_
    subst h
    exact f_ret S Tryd.results29 rfl rfl
   ·replace h := iteF h hb1
    refine wp_skip (blk_n (then_n (f_region (lv S (rn_add (S.tm rfl) rfl) rfl ?_)))); clear S; intro a S
    refine lv S (rn_move (S.tm rfl)) rfl ?_; clear S; intro a S
    refine l_done (then_n ?_)
    exact ⟨ys1, ⟨i1 + 1, ⟨_, (hd1).trans (List.append_cons _ _ _), by simp [hi1]⟩, h, S.nf [] rfl ⟨rfl, rfl, rfl, (congrArg (fun z => some (Value.int .i64 z)) (rng_next hd1 hi1 (slc_max hs_p_s))), trivial⟩⟩, Nat.lt_succ_self _⟩
 clear S h; rintro a w2 ⟨h, S⟩; rw [hj1] at h; clear hj1 j1
 refine then_n (f_seq (f_region (lv S (rn_assign rfl) rfl ?_))); clear S; intro a S
 refine l_done (then_n (wp_ret ?_))
 subst h
 exact f_ret S Tryd.results29 rfl rfl
theorem slices_Contains_string_ok (w : World) (v_p_s : Value) (p_s : List ByteArray) (hs_p_s : Slc (view w []) 1 v_p_s (p_s.map eStr)) (p_v : ByteArray) (r : Bool) (h : slices_Contains_string p_s p_v = r) :
    Calls Tryd.prog 11 [v_p_s, sV p_v].toArray w (Ret w [] fun _ v _ => v = bV r) := by
 refine f_enter [] [] Tryd.func11 rfl Tryd.ntmps11 rfl (by simp) (by simp [fps]) (by simp [fps]) fun a S => ?_
 unfold slices_Contains_string at h
 replace S := S.nk [] [(0, v_p_s), (1, sV p_v)] [] rfl (subR rfl)
 refine f_seq (f_region (lv S (rn_assign rfl) rfl ?_)); clear S; intro a S
 refine l_done (then_n (f_seq (f_region (lv S (rn_move (S.tm rfl)) rfl ?_)))); clear S; intro a S
 refine lv S (rn_move (S.tm rfl)) rfl ?_; clear S; intro a S
 refine l_enter S (fun _ => run_call (vs := [v_p_s, sV p_v]) ⟨(S.tm rfl), (S.tm rfl), trivial⟩ Tryd.call29) (slices_Index_string_ok _ v_p_s p_s (hs_p_s.mono (S.le_arg nil_sub)) p_v _ rfl) rfl ?_; clear S; intro v1 a w1 hv1 hk1 hn1 S
 subst hv1
 refine lv S (rn_geq (S.tm rfl) rfl) rfl ?_; clear S; intro a S
 refine lv S (rn_assign (S.tm rfl)) rfl ?_; clear S; intro a S
 refine l_done (then_n (wp_ret ?_))
 subst h
 exact f_ret S Tryd.results11 rfl rfl
theorem record_isFor_ok (w : World) (p_k : GKind) (q_p_k : R63) (hq_p_k : rel_63 (view w []) p_k q_p_k) (p_s : GStep) (r : Bool) (h : record_isFor p_k p_s = r) :
    Calls Tryd.prog 44 [.agg (R63.enc q_p_k).toArray, .agg (GStep.enc p_s).toArray].toArray w (Ret w [] fun _ v _ => v = bV r) := by
 obtain ⟨u1, rfl, hs1⟩ := hq_p_k
 refine f_enter [] [] Tryd.func44 rfl Tryd.ntmps44 rfl (by simp) (by simp [fps]) (by simp [fps]) fun a S => ?_
 unfold record_isFor at h
 replace S := S.nk [] [(0, .agg #[sV p_k.Key, sV p_k.Race, u1.val, iV p_k.Young, iV p_k.Old]), (1, .agg (GStep.enc p_s).toArray)] [] rfl (subR rfl)
 refine f_seq (f_region (l_box S (S.tm rfl) (cs := [sV p_k.Key, sV p_k.Race, u1.val, iV p_k.Young, iV p_k.Old]) rfl rfl ?_)); clear S; intro a w1 b1 hz1 hk1 S
 refine l_box S (S.tm rfl) (cs := (GStep.enc p_s)) rfl rfl ?_; clear S; intro a w2 b2 hz2 hk2 S
 refine lv S (rn_assign rfl) rfl ?_; clear S; intro a S
 refine l_done (then_n (f_seq (f_region (lv S (rn_fld fa_66_5 (S.tm rfl)) rfl ?_)))); clear S; intro a S
 refine lv S (rn_load Tryd.isAgg9 (S.tm rfl) (S.cell (i := 0) rfl rfl)) rfl ?_; clear S; intro a S
 refine lv S (rn_fld fa_63_1 (S.tm rfl)) rfl ?_; clear S; intro a S
 refine lv S (rn_load Tryd.isAgg9 (S.tm rfl) (S.cell (i := 1) rfl rfl)) rfl ?_; clear S; intro a S
 refine lv S (rn_seql (S.tm rfl) (S.tm rfl)) rfl ?_; clear S; intro a S
 refine lv S (rn_move (S.tm rfl)) rfl ?_; clear S; intro a S
 refine f_cutm 12 (fun a w' => Keep [] w2 w' ∧ Sx w [] nov [.blk b2 (GStep.enc p_s) 66, .blk b1 [sV p_k.Key, sV p_k.Race, u1.val, iV p_k.Young, iV p_k.Old] 63] [(2, .pointer (some ⟨b1, 0, none⟩)), (3, .pointer (some ⟨b2, 0, none⟩)), (22, bV ((decide (p_s.Race = p_k.Race)) && ((decide ((p_k.Clubs.length : Int) = 0)) || (slices_Contains_string p_k.Clubs p_s.Club))))] 32 a w') ?_ ?_
 ·rcases Bool.eq_false_or_eq_true (decide (p_s.Race = p_k.Race)) with hb1 | hb1
  ·refine l_want S rfl rfl rfl hb1 (lv S (rn_fld fa_63_2 (S.tm rfl)) rfl ?_); clear S; intro a S
   refine l_want S rfl rfl rfl hb1 (lv S (rn_load Tryd.isAgg31 (S.tm rfl) (S.cell (i := 1) rfl rfl)) rfl ?_); clear S; intro a S
   refine l_want S rfl rfl rfl hb1 (lv S (rn_lenT sl_31 (S.tm rfl) (slc_len hs1)) rfl ?_); clear S; intro a S
   refine l_want S rfl rfl rfl hb1 (lv S (rn_eql (S.tm rfl) rfl) rfl ?_); clear S; intro a S
   refine l_want S rfl rfl rfl hb1 (lv S (rn_move (S.tm rfl)) rfl ?_); clear S; intro a S
   refine f_cutm 6 (fun a w' => Keep [] w2 w' ∧ Sx w [] nov [.blk b2 (GStep.enc p_s) 66, .blk b1 [sV p_k.Key, sV p_k.Race, u1.val, iV p_k.Young, iV p_k.Old] 63] [(2, .pointer (some ⟨b1, 0, none⟩)), (3, .pointer (some ⟨b2, 0, none⟩)), (10, bV (decide (p_s.Race = p_k.Race))), (21, bV ((decide ((p_k.Clubs.length : Int) = 0)) || (slices_Contains_string p_k.Clubs p_s.Club)))] 32 a w') ?_ ?_
   ·rcases Bool.eq_false_or_eq_true (decide ((p_k.Clubs.length : Int) = 0)) with hb2 | hb2
    ·iterate 5 (refine l_skip S rfl rfl rfl (neq_t hb2) rfl ?_ rfl; clear S; intro a S)
     refine l_want S rfl rfl rfl hb1 (lv S (rn_or_t (slices_Contains_string p_k.Clubs p_s.Club) hb2 (S.tm rfl) rfl) rfl ?_); clear S; intro a S
     refine l_done (then_n ?_)
     exact ⟨Keep.refl _ _, S.nf [true, true] rfl (subR rfl)⟩
    ·refine l_want S rfl rfl rfl hb2 (lv S (rn_fld fa_63_2 (S.tm rfl)) rfl ?_); clear S; intro a S
     refine l_want S rfl rfl rfl hb2 (lv S (rn_load Tryd.isAgg31 (S.tm rfl) (S.cell (i := 1) rfl rfl)) rfl ?_); clear S; intro a S
     refine l_want S rfl rfl rfl hb2 (lv S (rn_fld fa_66_4 (S.tm rfl)) rfl ?_); clear S; intro a S
     refine l_want S rfl rfl rfl hb2 (lv S (rn_load Tryd.isAgg9 (S.tm rfl) (S.cell (i := 0) rfl rfl)) rfl ?_); clear S; intro a S
     refine l_want S rfl rfl rfl hb2 (l_enter S (fun _ => run_call (vs := [u1.val, sV p_s.Club]) ⟨(S.tm rfl), (S.tm rfl), trivial⟩ Tryd.call11) (slices_Contains_string_ok _ u1.val p_k.Clubs (hs1.mono (S.le_arg nil_sub)) p_s.Club _ rfl) rfl ?_); clear S; intro v1 a w5 hv1 hk3 hn1 S
     subst hv1
     refine l_want S rfl rfl rfl hb1 (lv S (rn_or_f hb2 (S.tm rfl) (S.tm rfl)) rfl ?_); clear S; intro a S
     refine l_done (then_n ?_)
     exact ⟨hk3, S.nf [true, true] rfl (subR rfl)⟩
   clear S; rintro a w4 ⟨hk4, S⟩
   refine lv S (rn_and_t hb1 (S.tm rfl) (S.tm rfl)) rfl ?_; clear S; intro a S
   refine l_done (then_n ?_)
   exact ⟨hk4, S.nf [true, true] rfl (subR rfl)⟩
  ·iterate 5 (refine l_skip S rfl rfl rfl (neq_f hb1) rfl ?_ rfl; clear S; intro a S)
   iterate 5 (refine l_skipU S rfl rfl rfl rfl ?_; clear S; intro a S)
   refine l_skip S rfl rfl rfl (neq_f hb1) rfl ?_ rfl; clear S; intro a S
   refine lv S (rn_and_f ((decide ((p_k.Clubs.length : Int) = 0)) || (slices_Contains_string p_k.Clubs p_s.Club)) hb1 (S.tm rfl) rfl) rfl ?_; clear S; intro a S
   refine l_done (then_n ?_)
   exact ⟨Keep.refl _ _, S.nf [true, true] rfl (subR rfl)⟩
 clear S; rintro a w3 ⟨hk5, S⟩
 refine lv S (rn_move (S.tm rfl)) rfl ?_; clear S; intro a S
 refine f_cutm 8 (fun a w' => Keep [] w3 w' ∧ Sx w [] nov [.blk b2 (GStep.enc p_s) 66, .blk b1 [sV p_k.Key, sV p_k.Race, u1.val, iV p_k.Young, iV p_k.Old] 63] [(31, bV (((decide (p_s.Race = p_k.Race)) && ((decide ((p_k.Clubs.length : Int) = 0)) || (slices_Contains_string p_k.Clubs p_s.Club))) && (words_Within p_s.Age p_k.Young p_k.Old)))] 32 a w') ?_ ?_
 ·rcases Bool.eq_false_or_eq_true ((decide (p_s.Race = p_k.Race)) && ((decide ((p_k.Clubs.length : Int) = 0)) || (slices_Contains_string p_k.Clubs p_s.Club))) with hb3 | hb3
  ·refine l_want S rfl rfl rfl hb3 (lv S (rn_fld fa_66_6 (S.tm rfl)) rfl ?_); clear S; intro a S
   refine l_want S rfl rfl rfl hb3 (lv S (rn_load Tryd.isAgg3 (S.tm rfl) (S.cell (i := 0) rfl rfl)) rfl ?_); clear S; intro a S
   refine l_want S rfl rfl rfl hb3 (lv S (rn_fld fa_63_3 (S.tm rfl)) rfl ?_); clear S; intro a S
   refine l_want S rfl rfl rfl hb3 (lv S (rn_load Tryd.isAgg3 (S.tm rfl) (S.cell (i := 1) rfl rfl)) rfl ?_); clear S; intro a S
   refine l_want S rfl rfl rfl hb3 (lv S (rn_fld fa_63_4 (S.tm rfl)) rfl ?_); clear S; intro a S
   refine l_want S rfl rfl rfl hb3 (lv S (rn_load Tryd.isAgg3 (S.tm rfl) (S.cell (i := 1) rfl rfl)) rfl ?_); clear S; intro a S
   refine l_want S rfl rfl rfl hb3 (l_enter S (fun _ => run_call (vs := [iV p_s.Age, iV p_k.Young, iV p_k.Old]) ⟨(S.tm rfl), (S.tm rfl), (S.tm rfl), trivial⟩ Tryd.call27) (words_Within_ok _ p_s.Age p_k.Young p_k.Old _ rfl) rfl ?_); clear S; intro v2 a w7 hv2 hk6 hn2 S
   subst hv2
   refine lv S (rn_and_t hb3 (S.tm rfl) (S.tm rfl)) rfl ?_; clear S; intro a S
   refine l_done (then_n ?_)
   exact ⟨hk6, S.nf [true, true] rfl ⟨rfl, trivial⟩⟩
  ·iterate 7 (refine l_skip S rfl rfl rfl (neq_f hb3) rfl ?_ rfl; clear S; intro a S)
   refine lv S (rn_and_f (words_Within p_s.Age p_k.Young p_k.Old) hb3 (S.tm rfl) rfl) rfl ?_; clear S; intro a S
   refine l_done (then_n ?_)
   exact ⟨Keep.refl _ _, S.nf [true, true] rfl ⟨rfl, trivial⟩⟩
 clear S; rintro a w6 ⟨hk7, S⟩
 refine lv S (rn_assign (S.tm rfl)) rfl ?_; clear S; intro a S
 refine l_done (then_n (wp_ret ?_))
 subst h
 exact f_ret S Tryd.results44 rfl rfl
theorem record_For_ok (w : World) (v_p_l : Value) (p_l : List GKind) (rs_p_l : List R63) (hs_p_l : Slc (view w []) 5 v_p_l (rs_p_l.map R63.enc)) (hr_p_l : All2 (rel_63 (view w [])) p_l rs_p_l) (p_s : GStep) (r : (List ByteArray) × Int) (h : record_For p_l p_s = some r) :
    Calls Tryd.prog 24 [v_p_l, .agg (GStep.enc p_s).toArray].toArray w (Ret w [] fun τ v _ => ∃ u1 : Value, v = .tuple #[u1, iV r.2] ∧ OwnV τ 9 1 u1 r.1.length (r.1.flatMap eStr)) := by
 refine f_enter [] [] Tryd.func24 rfl Tryd.ntmps24 rfl (by simp) (by simp [fps]) (by simp [fps]) fun a S => ?_
 unfold record_For at h
 replace S := S.nk [] [(0, v_p_l), (1, .agg (GStep.enc p_s).toArray)] [] rfl (subR rfl)
 refine f_seq (f_region (l_box S (S.tm rfl) (cs := (GStep.enc p_s)) rfl rfl ?_)); clear S; intro a w1 b1 hz1 hk1 S
 refine lv S (rn_assign rfl) rfl ?_; clear S; intro a S
 refine lv S (rn_assign rfl) rfl ?_; clear S; intro a S
 refine l_done (then_n (f_seq (f_seq (f_region (lv S (rn_move (S.tm rfl)) rfl ?_))))); clear S; intro a S
 obtain ⟨r1, hr1, h⟩ := bindE h
 refine l_enter S (fun _ => run_call (vs := [v_p_l]) ⟨(S.tm rfl), trivial⟩ Tryd.call42) (record_CheckKinds_ok _ v_p_l p_l rs_p_l (hs_p_l.mono (S.le_arg nil_sub)) (rels_63 (S.le_arg nil_sub) hr_p_l) _ hr1) rfl ?_; clear S; intro v1 a w2 hv1 hk2 hn1 S
 subst hv1
 refine lv S (rn_assign (S.tm rfl)) rfl ?_; clear S; intro a S
 refine l_done (then_n (f_seq (f_region (lv S (rn_move (S.tm rfl)) rfl ?_)))); clear S; intro a S
 refine lv S (rn_neq (S.tm rfl) rfl) rfl ?_; clear S; intro a S
 refine l_done (then_n (f_cond (S.tm rfl) (fun hb1 => ?_) (fun hb1 => ?_)))
 ·replace h := iteT h hb1
  refine f_seq (f_region (lv S (rn_move (S.tm rfl)) rfl ?_)); clear S; intro a S
  refine lv S (rn_assign rfl) rfl ?_; clear S; intro a S
  refine lv S (rn_assign (S.tm rfl)) rfl ?_; clear S; intro a S
  refine l_done (then_n (wp_ret (then_r ?_)))
  obtain rfl := Option.some.inj h
  exact f_ret2 S Tryd.results24 rfl rfl ⟨_, rfl, (ownV_nil _ _ _)⟩
 ·replace h := iteF h hb1
  refine wp_skip (then_n (f_seq (f_seq (f_region (lv S (rn_ldA Tryd.isAgg66 Tryd.sizeOf66 (off := 0) (o := 0) (part := (GStep.enc p_s)) rfl rfl (S.tm rfl) (S.cellsAt (i := 0) rfl)) rfl ?_))))); clear S; intro a S
  obtain ⟨r2, hr2, h⟩ := bindE h
  refine l_enter S (fun _ => run_call (vs := [.agg (GStep.enc p_s).toArray]) ⟨(S.tm rfl), trivial⟩ Tryd.call43) (record_checkSwum_ok _ p_s _ hr2) rfl ?_; clear S; intro v2 a w3 hv2 hk3 hn2 S
  subst hv2
  refine lv S (rn_assign (S.tm rfl)) rfl ?_; clear S; intro a S
  refine l_done (then_n (f_seq (f_region (lv S (rn_move (S.tm rfl)) rfl ?_)))); clear S; intro a S
  refine lv S (rn_neq (S.tm rfl) rfl) rfl ?_; clear S; intro a S
  refine l_done ?_
  replace S := S.nk [.blk b1 (GStep.enc p_s) 66] [(0, v_p_l), (3, .pointer (some ⟨b1, 0, none⟩)), (7, iV r2), (19, bV (!decide (r2 = 0)))] [true] rfl (subR rfl)
  refine then_n (f_cond (S.tm rfl) (fun hb2 => ?_) (fun hb2 => ?_))
  ·replace h := iteT h hb2
   refine f_seq (f_region (lv S (rn_move (S.tm rfl)) rfl ?_)); clear S; intro a S
   refine lv S (rn_assign rfl) rfl ?_; clear S; intro a S
   refine lv S (rn_assign (S.tm rfl)) rfl ?_; clear S; intro a S
   refine l_done (then_n (wp_ret (then_r ?_)))
   obtain rfl := Option.some.inj h
   exact f_ret2 S Tryd.results24 rfl rfl ⟨_, rfl, (ownV_nil _ _ _)⟩
  ·replace h := iteF h hb2
   refine wp_skip (then_n (f_seq (f_region (lv S (rn_assign rfl) rfl ?_)))); clear S; intro a S
   replace S := S.nil 9 1
   refine l_done (then_n (f_seq (f_seq (f_region (lv S (rn_move (S.tm rfl)) rfl ?_))))); clear S; intro a S
   refine lv S (rn_lenT sl_64 (S.tm rfl) (slc_lenD hs_p_l hr_p_l)) rfl ?_; clear S; intro a S
   refine lv S (rn_move rfl) rfl ?_; clear S; intro a S
   refine l_done (then_n ?_)
   replace S := S.nk [.own (.slice none 0 0) 9 1 ([] : List ByteArray).length (([] : List ByteArray).flatMap eStr), .blk b1 (GStep.enc p_s) 66] [(3, .pointer (some ⟨b1, 0, none⟩)), (8, (.slice none 0 0)), (21, v_p_l), (22, iV (p_l.length : Int)), (23, iV 0)] [true, true] rfl (subR rfl)
   obtain ⟨j1, hj1, h⟩ := joinE h
   refine f_join (fun a w' => ∃ x1 : List ByteArray, ∃ v3 : Value, j1 x1 = some r ∧ Sx w [] nov [.own v3 9 1 x1.length (x1.flatMap eStr), .blk b1 (GStep.enc p_s) 66] [(8, v3)] 37 a w') ?_ ?_
   ·refine wp_block (f_loop (fun (ys1 : List GKind) a w' => ∃ i1 : Nat, ∃ x1 : List ByteArray, ∃ v3 : Value, (∃ dn, p_l = dn ++ ys1 ∧ dn.length = i1) ∧ record_For_l1 p_s j1 ys1 i1 x1 = some r ∧ Sx w [] nov [.own v3 9 1 x1.length (x1.flatMap eStr), .blk b1 (GStep.enc p_s) 66] [(3, .pointer (some ⟨b1, 0, none⟩)), (8, v3), (21, v_p_l), (22, iV (p_l.length : Int)), (23, iV (i1 : Int))] 37 a w') List.length p_l ⟨0, ([] : List ByteArray), (.slice none 0 0), ⟨[], rfl, rfl⟩, h, S.nf [true, true] rfl (subR rfl)⟩ ?_)
    clear S h; rintro ys1 a w4 ⟨i1, x1, v3, ⟨dn, hd1, hi1⟩, h, S⟩
    cases ys1 with
    | nil =>
     rw [record_For_l1.eq_1] at h
     refine f_seq (f_region (lv S (rn_lss (S.tm rfl) (S.tm rfl)) rfl ?_)); clear S; intro a S
     refine l_done ?_
     replace S := S.nk [.own v3 9 1 x1.length (x1.flatMap eStr), .blk b1 (GStep.enc p_s) 66] [(3, .pointer (some ⟨b1, 0, none⟩)), (8, v3), (21, v_p_l), (22, iV (p_l.length : Int)), (23, iV (i1 : Int)), (24, bV (decide ((i1 : Int) < (p_l.length : Int))))] [true, true] rfl (subR rfl)
     refine then_n (f_seq (wp_cond_false ((S.tm rfl).trans (congrArg Value.bool (rng_nil hd1 hi1))) (wp_exit (then_x (then_x (x_same ?_))))))
     refine then_n ?_
     exact ⟨x1, v3, h, S.nf [true, true] rfl ⟨rfl, trivial⟩⟩
    | cons y1 ys1 =>
     rw [record_For_l1.eq_2] at h
     refine f_seq (f_region (lv S (rn_lss (S.tm rfl) (S.tm rfl)) rfl ?_)); clear S; intro a S
     refine l_done ?_
     replace S := S.nk [.own v3 9 1 x1.length (x1.flatMap eStr), .blk b1 (GStep.enc p_s) 66] [(3, .pointer (some ⟨b1, 0, none⟩)), (8, v3), (21, v_p_l), (22, iV (p_l.length : Int)), (23, iV (i1 : Int)), (24, bV (decide ((i1 : Int) < (p_l.length : Int))))] [true, true] rfl (subR rfl)
     refine then_n (f_seq (wp_cond_true ((S.tm rfl).trans (congrArg Value.bool (rng_cons hd1 hi1))) (wp_skip (then_n (f_seq ?_)))))
     obtain ⟨j2, hj2, h⟩ := joinE h
     refine f_join (fun a w' => ∃ x2 : List ByteArray, ∃ v4 : Value, j2 x2 = some r ∧ Sx w [] nov [.own v4 9 1 x2.length (x2.flatMap eStr), .blk b1 (GStep.enc p_s) 66] [(3, .pointer (some ⟨b1, 0, none⟩)), (8, v4), (21, v_p_l), (22, iV (p_l.length : Int)), (23, iV (i1 : Int))] 37 a w') ?_ ?_
     ·refine wp_block (f_seq (f_region ?_))
      obtain ⟨r3, hg1, hl1⟩ := All2.at hr_p_l (get_mid hd1 hi1)
      obtain ⟨u1, rfl, hs1⟩ := hl1
      obtain ⟨b2, o1, hm1, hr3⟩ := rn_indexT (a := a) (x := .tmp 21) (y := .tmp 23) (ty := 0) sl_64 hs_p_l hg1 rfl (S.tm rfl) (S.tm rfl)
      refine lv S (hr3 _) rfl ?_; clear S; intro a S
      clear hr3
      refine lv S (rn_ldA Tryd.isAgg63 Tryd.sizeOf63 (off := o1) (o := 0) (part := [sV y1.Key, sV y1.Race, u1.val, iV y1.Young, iV y1.Old]) rfl rfl (S.tm rfl) (hm1.at S.emb0)) rfl ?_; clear S; intro a S
      refine l_alloc S Tryd.zeroValue63 (cs := [sV k_empty, sV k_empty, .slice none 0 0, iV 0, iV 0]) rfl rfl ?_; clear S; intro a w7 b3 hz2 hk4 S
      refine l_store S (S.tm rfl) (S.tm rfl) (i := 0) (off := 0) rfl Tryd.sizeOf63 (vs := [sV y1.Key, sV y1.Race, u1.val, iV y1.Young, iV y1.Old]) rfl rfl rfl (all1 rfl (all1 rfl (all1 (SlcLen.one (slc_len hs1)) (all1 rfl (all1 rfl rfl))))) ?_; clear S; intro w8 hk5 S
      refine l_done (then_n (f_seq (f_region (lv S (rn_ldA Tryd.isAgg63 Tryd.sizeOf63 (off := 0) (o := 0) (part := [sV y1.Key, sV y1.Race, u1.val, iV y1.Young, iV y1.Old]) rfl rfl (S.tm rfl) (S.cellsAt (i := 0) rfl)) rfl ?_)))); clear S; intro a S
      refine lv S (rn_ldA Tryd.isAgg66 Tryd.sizeOf66 (off := 0) (o := 0) (part := (GStep.enc p_s)) rfl rfl (S.tm rfl) (S.cellsAt (i := 2) rfl)) rfl ?_; clear S; intro a S
      refine l_enter S (fun _ => run_call (vs := [.agg (R63.enc (R63.mk y1.Key y1.Race u1 y1.Young y1.Old)).toArray, .agg (GStep.enc p_s).toArray]) ⟨(S.tm rfl), (S.tm rfl), trivial⟩ Tryd.call44) (record_isFor_ok _ y1 (R63.mk y1.Key y1.Race u1 y1.Young y1.Old) ⟨u1, rfl, (hs1.mono (S.le_arg nil_sub))⟩ p_s _ rfl) rfl ?_; clear S; intro v5 a w9 hv3 hk6 hn3 S
      subst hv3
      refine l_done (then_n ?_)
      obtain ⟨j3, hj3, h⟩ := joinE h
      refine f_join (fun a w' => ∃ x3 : List ByteArray, ∃ v6 : Value, j3 x3 = some r ∧ Sx w [] nov [.own v6 9 1 x3.length (x3.flatMap eStr), .blk b1 (GStep.enc p_s) 66] [(3, .pointer (some ⟨b1, 0, none⟩)), (8, v6), (21, v_p_l), (22, iV (p_l.length : Int)), (23, iV (i1 : Int))] 37 a w') ?_ ?_
      ·refine f_cond (S.tm rfl) (fun hb3 => ?_) (fun hb3 => ?_)
       ·replace h := iteT h hb3
        refine f_region (lv S (rn_move (S.tm rfl)) rfl ?_); clear S; intro a S
        refine lv S (rn_fld fa_63_0 (S.tm rfl)) rfl ?_; clear S; intro a S
        refine lv S (rn_load Tryd.isAgg9 (S.tm rfl) (S.cell (i := 0) rfl rfl)) rfl ?_; clear S; intro a S
        refine l_buildSlice S Tryd.underlying31 Tryd.sizeOf9 Tryd.zeroValue9 rfl rfl (pv := [(0, sV y1.Key)]) ⟨rfl, (S.tm rfl), trivial⟩ (cs := [sV y1.Key]) (by kernel_rfl) rfl ?_; clear S; intro a w11 b4 hz3 hk7 S
        obtain ⟨hc1, h⟩ := chkE h
        refine l_appendT sl_31 enc_str S (S.tm rfl) (i := 2) rfl (S.tm rfl) (j := 0) rfl (ys := [y1.Key]) rfl rfl rfl rfl (by have := room_lt hc1; omega) rfl ?_; clear S; intro v7 a w12 hk8 S
        refine lv S (rn_assign (S.tm rfl)) rfl ?_; clear S; intro a S
        refine l_done ?_
        replace S := S.nk [.own v7 9 1 (x1 ++ [y1.Key]).length ((x1 ++ [y1.Key]).flatMap eStr), .blk b1 (GStep.enc p_s) 66] [(3, .pointer (some ⟨b1, 0, none⟩)), (8, v7), (21, v_p_l), (22, iV (p_l.length : Int)), (23, iV (i1 : Int))] [false, false, true, true] rfl (subR rfl)
        refine then_n ?_
        exact ⟨(x1 ++ [y1.Key]), v7, h, S.nf [true, true] rfl (subR rfl)⟩
       ·replace h := iteF h hb3
        refine wp_skip (then_n ?_)
        exact ⟨x1, v3, h, S.nf [false, true, true] rfl (subR rfl)⟩
      clear S h; rintro a w10 ⟨x3, v6, h, S⟩; rw [hj3] at h; clear hj3 j3
      refine blk_n (then_n ?_)
      exact ⟨x3, v6, h, S.nf [true, true] rfl (subR rfl)⟩
     clear S h; rintro a w6 ⟨x2, v4, h, S⟩; rw [hj2] at h; clear hj2 j2
     refine then_n (f_region (lv S (rn_add (S.tm rfl) rfl) rfl ?_)); clear S; intro a S
     refine lv S (rn_move (S.tm rfl)) rfl ?_; clear S; intro a S
     refine l_done (then_n ?_)
     exact ⟨ys1, ⟨i1 + 1, x2, v4, ⟨_, (hd1).trans (List.append_cons _ _ _), by simp [hi1]⟩, h, S.nf [true, true] rfl ⟨rfl, rfl, rfl, rfl, (congrArg (fun z => some (Value.int .i64 z)) (rng_next hd1 hi1 (slc_maxD hs_p_l hr_p_l))), trivial⟩⟩, Nat.lt_succ_self _⟩
   clear S h; rintro a w5 ⟨x1, v3, h, S⟩; rw [hj1] at h; clear hj1 j1
   refine then_n (f_seq (f_region (lv S (rn_move (S.tm rfl)) rfl ?_))); clear S; intro a S
   refine lv S (rn_assign (S.tm rfl)) rfl ?_; clear S; intro a S
   refine lv S (rn_assign rfl) rfl ?_; clear S; intro a S
   refine l_done (then_n (wp_ret ?_))
   obtain rfl := Option.some.inj h
   exact f_ret2 S Tryd.results24 rfl rfl ⟨_, rfl, (own_retT S (i := 0) rfl rfl)⟩
theorem tumbkeep2_errs_ok (w : World) (v_p_l : Value) (p_l : List Int) (hs_p_l : Slc (view w []) 1 v_p_l (p_l.map eInt)) (r : Int) (h : tumbkeep2_errs p_l = r) :
    Calls Tryd.prog 25 [v_p_l].toArray w (Ret w [] fun _ v _ => v = iV r) := by
 refine f_enter [] [] Tryd.func25 rfl Tryd.ntmps25 rfl (by simp) (by simp [fps]) (by simp [fps]) fun a S => ?_
 unfold tumbkeep2_errs at h
 replace S := S.nk [] [(0, v_p_l)] [] rfl ⟨rfl, trivial⟩
 refine f_seq (f_region (lv S (rn_assign rfl) rfl ?_)); clear S; intro a S
 refine l_done (then_n (f_seq (f_seq (f_region (lv S (rn_move (S.tm rfl)) rfl ?_))))); clear S; intro a S
 refine lv S (rn_lenT sl_85 (S.tm rfl) (slc_len hs_p_l)) rfl ?_; clear S; intro a S
 refine lv S (rn_move rfl) rfl ?_; clear S; intro a S
 refine l_done (then_n ?_)
 replace S := S.nk [] [(5, v_p_l), (6, iV (p_l.length : Int)), (7, iV 0)] [] rfl (subR rfl)
 obtain ⟨j1, hj1, h⟩ := joinE h
 refine f_join (fun a w' => j1 = r ∧ Sx w [] nov [] [] 15 a w') ?_ ?_
 ·refine wp_block (f_loop (fun (ys1 : List Int) a w' => ∃ i1 : Nat, (∃ dn, p_l = dn ++ ys1 ∧ dn.length = i1) ∧ tumbkeep2_errs_l1 j1 ys1 i1 = r ∧ Sx w [] nov [] [(5, v_p_l), (6, iV (p_l.length : Int)), (7, iV (i1 : Int))] 15 a w') List.length p_l ⟨0, ⟨[], rfl, rfl⟩, h, S.nf [] rfl (subR rfl)⟩ ?_)
  clear S h; rintro ys1 a w1 ⟨i1, ⟨dn, hd1, hi1⟩, h, S⟩
  cases ys1 with
  | nil =>
   rw [tumbkeep2_errs_l1.eq_1] at h
   refine f_seq (f_region (lv S (rn_lss (S.tm rfl) (S.tm rfl)) rfl ?_)); clear S; intro a S
   refine l_done ?_
   replace S := S.nk [] [(5, v_p_l), (6, iV (p_l.length : Int)), (7, iV (i1 : Int)), (8, bV (decide ((i1 : Int) < (p_l.length : Int))))] [] rfl (subR rfl)
   refine then_n (f_seq (wp_cond_false ((S.tm rfl).trans (congrArg Value.bool (rng_nil hd1 hi1))) (wp_exit (then_x (then_x (x_same ?_))))))
   refine then_n ?_
   exact ⟨h, S.nf [] rfl trivial⟩
  | cons y1 ys1 =>
   rw [tumbkeep2_errs_l1.eq_2] at h
   refine f_seq (f_region (lv S (rn_lss (S.tm rfl) (S.tm rfl)) rfl ?_)); clear S; intro a S
   refine l_done ?_
   replace S := S.nk [] [(5, v_p_l), (6, iV (p_l.length : Int)), (7, iV (i1 : Int)), (8, bV (decide ((i1 : Int) < (p_l.length : Int))))] [] rfl (subR rfl)
   refine then_n (f_seq (wp_cond_true ((S.tm rfl).trans (congrArg Value.bool (rng_cons hd1 hi1))) (wp_skip (then_n (f_seq (wp_block ?_))))))
   refine f_seq (f_region ?_)
   obtain ⟨b1, o1, hm1, hr1⟩ := rn_indexT (a := a) (x := .tmp 5) (y := .tmp 7) (ty := 0) sl_85 hs_p_l (get_mid hd1 hi1) rfl (S.tm rfl) (S.tm rfl)
   refine lv S (hr1 _) rfl ?_; clear S; intro a S
   clear hr1
   refine lv S (rn_ld Tryd.isAgg28 (off := o1) (o := 0) (S.tm rfl) (hm1.at S.emb0) rfl) rfl ?_; clear S; intro a S
   refine lv S (rn_assign (S.tm rfl)) rfl ?_; clear S; intro a S
   refine l_done (then_n (f_seq (f_region (lv S (rn_move (S.tm rfl)) rfl ?_)))); clear S; intro a S
   refine lv S (rn_neq (S.tm rfl) rfl) rfl ?_; clear S; intro a S
   refine l_done (then_n (f_cond (S.tm rfl) (fun hb1 => ?_) (fun hb1 => ?_)))
   ·replace h := iteT h hb1
    refine f_seq (f_region (lv S (rn_move (S.tm rfl)) rfl ?_)); clear S; intro a S
    refine lv S (rn_assign (S.tm rfl)) rfl ?_; clear S; intro a S
    refine l_done (then_n (wp_ret (blk_r (then_r (then_r (blk_r ?_))))))
    refine then_r (then_r ?_)
    subst h
    exact f_ret S Tryd.results25 rfl rfl
   ·replace h := iteF h hb1
    refine wp_skip (blk_n (then_n (f_region (lv S (rn_add (S.tm rfl) rfl) rfl ?_)))); clear S; intro a S
    refine lv S (rn_move (S.tm rfl)) rfl ?_; clear S; intro a S
    refine l_done (then_n ?_)
    exact ⟨ys1, ⟨i1 + 1, ⟨_, (hd1).trans (List.append_cons _ _ _), by simp [hi1]⟩, h, S.nf [] rfl ⟨rfl, rfl, (congrArg (fun z => some (Value.int .i64 z)) (rng_next hd1 hi1 (slc_max hs_p_l))), trivial⟩⟩, Nat.lt_succ_self _⟩
 clear S h; rintro a w2 ⟨h, S⟩; rw [hj1] at h; clear hj1 j1
 refine then_n (f_seq (f_region (lv S (rn_assign rfl) rfl ?_))); clear S; intro a S
 refine l_done (then_n (wp_ret ?_))
 subst h
 exact f_ret S Tryd.results25 rfl rfl
theorem tumbkeep2_ready_ok (w : World) (r : Bool) (h : tumbkeep2_ready = some r) :
    Calls Tryd.prog 6 [].toArray w (Ret w [] fun _ v _ => v = bV r) := by
 refine f_enter [] [] Tryd.func6 rfl Tryd.ntmps6 rfl (by simp) (by simp [fps]) (by simp [fps]) fun a S => ?_
 unfold tumbkeep2_ready at h
 replace S := S.nk [] [] [] rfl trivial
 refine f_seq (f_region (lv S (rn_assign rfl) rfl ?_)); clear S; intro a S
 refine l_done (then_n (f_seq (f_region (lv S (rn_bld bt_51 (pv := [(0, iV 2024), (1, iV 3), (2, iV 1)]) ⟨rfl, rfl, rfl, rfl, rfl, rfl, trivial⟩ (cs := [iV 2024, iV 3, iV 1]) (by kernel_rfl)) rfl ?_)))); clear S; intro a S
 obtain ⟨r1, hr1, h⟩ := bindE h
 refine l_enter S (fun _ => run_call (vs := [.agg (GDate.enc (GDate.mk 2024 3 1)).toArray]) ⟨(S.tm rfl), trivial⟩ Tryd.call21) (swimmer_DayOf_ok _ (GDate.mk 2024 3 1) _ hr1) rfl ?_; clear S; intro v1 a w1 hv1 hk1 hn1 S
 subst hv1
 refine lv S (rn_move (S.tm rfl)) rfl ?_; clear S; intro a S
 refine lv S (rn_extract (S.tm rfl) rfl) rfl ?_; clear S; intro a S
 refine lv S (rn_extract (S.tm rfl) rfl) rfl ?_; clear S; intro a S
 refine lv S (rn_assign (S.tm rfl)) rfl ?_; clear S; intro a S
 refine lv S (rn_assign (S.tm rfl)) rfl ?_; clear S; intro a S
 refine l_done (then_n (f_seq (f_region (lv S (rn_bld bt_54 (pv := [(0, sV k_a), (1, iV 2), (2, iV 10), (3, iV 5)]) ⟨rfl, rfl, rfl, rfl, rfl, rfl, rfl, rfl, trivial⟩ (cs := [sV k_a, iV 2, iV 10, iV 5, iV 0]) (by kernel_rfl)) rfl ?_)))); clear S; intro a S
 refine l_buildSlice S Tryd.underlying55 Tryd.sizeOf54 Tryd.zeroValue54 rfl rfl (pv := [(0, .agg #[sV k_a, iV 2, iV 10, iV 5, iV 0])]) ⟨rfl, (S.tm rfl), trivial⟩ (cs := [sV k_a, iV 2, iV 10, iV 5, iV 0]) (by kernel_rfl) rfl ?_; clear S; intro a w2 b1 hz1 hk2 S
 obtain ⟨r2, hr2, h⟩ := bindE h
 refine l_enter S (fun _ => run_call (vs := [.slice (some ⟨b1, 0, none⟩) 1 1, iV 0]) ⟨(S.tm rfl), rfl, trivial⟩ Tryd.call22) (session_Ends_ok _ (.slice (some ⟨b1, 0, none⟩) 1 1) [(GItem.mk k_a 2 10 5 0)] (lit_slcT GItem.enc_ok S (i := 0) rfl rfl rfl rfl ((ne_nil (e' := .blk b1 [sV k_a, iV 2, iV 10, iV 5, iV 0] 54)) _ rfl)) 0 _ hr2) rfl ?_; clear S; intro v2 a w3 hv2 hk3 hn2 S
 subst hv2
 refine lv S (rn_move (S.tm rfl)) rfl ?_; clear S; intro a S
 refine lv S (rn_extract (S.tm rfl) rfl) rfl ?_; clear S; intro a S
 refine lv S (rn_extract (S.tm rfl) rfl) rfl ?_; clear S; intro a S
 refine lv S (rn_assign (S.tm rfl)) rfl ?_; clear S; intro a S
 refine lv S (rn_assign (S.tm rfl)) rfl ?_; clear S; intro a S
 refine l_done ?_
 replace S := S.nk [] [(1, iV r1.1), (2, iV r1.2), (3, iV r2.1), (4, iV r2.2)] [false] rfl (subR rfl)
 refine then_n (f_seq (f_region (lv S (rn_bld bt_58 (pv := [(0, sV k_r), (1, iV 3000)]) ⟨rfl, rfl, rfl, rfl, trivial⟩ (cs := [sV k_r, iV 3000]) (by kernel_rfl)) rfl ?_))); clear S; intro a S
 refine l_buildSlice S Tryd.underlying59 Tryd.sizeOf58 Tryd.zeroValue58 rfl rfl (pv := [(0, .agg #[sV k_r, iV 3000])]) ⟨rfl, (S.tm rfl), trivial⟩ (cs := [sV k_r, iV 3000]) (by kernel_rfl) rfl ?_; clear S; intro a w4 b2 hz2 hk4 S
 obtain ⟨r3, hr3, h⟩ := bindE h
 refine l_enter S (fun _ => run_call (vs := [.slice (some ⟨b2, 0, none⟩) 1 1, sV k_r, iV 6000]) ⟨(S.tm rfl), rfl, rfl, trivial⟩ Tryd.call23) (points_ByTime_ok _ (.slice (some ⟨b2, 0, none⟩) 1 1) [(GBase.mk k_r 3000)] (lit_slcT GBase.enc_ok S (i := 0) rfl rfl rfl rfl ((ne_nil (e' := .blk b2 [sV k_r, iV 3000] 58)) _ rfl)) k_r 6000 _ hr3) rfl ?_; clear S; intro v3 a w5 hv3 hk5 hn3 S
 subst hv3
 refine lv S (rn_move (S.tm rfl)) rfl ?_; clear S; intro a S
 refine lv S (rn_extract (S.tm rfl) rfl) rfl ?_; clear S; intro a S
 refine lv S (rn_extract (S.tm rfl) rfl) rfl ?_; clear S; intro a S
 refine lv S (rn_assign (S.tm rfl)) rfl ?_; clear S; intro a S
 refine lv S (rn_assign (S.tm rfl)) rfl ?_; clear S; intro a S
 refine l_done (then_n (f_seq (f_region (lv S (rn_bld bt_63 (pv := [(0, sV k_k), (1, sV k_r), (4, iV 9)]) ⟨rfl, rfl, rfl, rfl, rfl, rfl, trivial⟩ (cs := [sV k_k, sV k_r, .slice none 0 0, iV 0, iV 9]) (by kernel_rfl)) rfl ?_)))); clear S; intro a S
 refine l_buildSlice S Tryd.underlying64 Tryd.sizeOf63 Tryd.zeroValue63 rfl rfl (pv := [(0, .agg #[sV k_k, sV k_r, .slice none 0 0, iV 0, iV 9])]) ⟨rfl, (S.tm rfl), trivial⟩ (cs := [sV k_k, sV k_r, .slice none 0 0, iV 0, iV 9]) (by kernel_rfl) rfl ?_; clear S; intro a w6 b3 hz3 hk6 S
 refine lv S (rn_bld bt_66 (pv := [(1, iV 1), (2, sV k_i), (3, sV k_a), (5, sV k_r), (7, iV 5)]) ⟨rfl, rfl, rfl, rfl, rfl, rfl, rfl, rfl, rfl, rfl, trivial⟩ (cs := [iV 0, iV 1, sV k_i, sV k_a, sV k_empty, sV k_r, iV 0, iV 5]) (by kernel_rfl)) rfl ?_; clear S; intro a S
 have hr4 : All2 (rel_63 nov) ([(GKind.mk k_k k_r ([] : List ByteArray) 0 9)] : List GKind) ([(R63.mk k_k k_r ⟨.slice none 0 0, rfl⟩ 0 9)] : List R63) := (All2.cons ⟨⟨.slice none 0 0, rfl⟩, rfl, (slc_nil _ _)⟩ All2.nil)
 replace S := S.litOwn (i := 0) (xs := ([(R63.mk k_k k_r ⟨.slice none 0 0, rfl⟩ 0 9)] : List R63)) rfl R63.enc_ok rfl rfl rfl
 replace S := S.nk [.own (.slice (some ⟨b3, 0, none⟩) 1 1) 63 5 ([(R63.mk k_k k_r ⟨.slice none 0 0, rfl⟩ 0 9)] : List R63).length (([(R63.mk k_k k_r ⟨.slice none 0 0, rfl⟩ 0 9)] : List R63).flatMap R63.enc), .blk b2 [sV k_r, iV 3000] 58] [(1, iV r1.1), (2, iV r1.2), (3, iV r2.1), (4, iV r2.2), (5, iV r3.1), (6, iV r3.2), (20, .tuple #[iV r3.1, iV r3.2]), (21, .agg #[sV k_r, iV 3000]), (22, .slice (some ⟨b2, 0, none⟩) 1 1), (23, .tuple #[iV r3.1, iV r3.2]), (24, iV r3.1), (25, iV r3.2), (27, .agg #[sV k_k, sV k_r, .slice none 0 0, iV 0, iV 9]), (28, (.slice (some ⟨b3, 0, none⟩) 1 1)), (29, .agg (GStep.enc (GStep.mk 0 1 k_i k_a k_empty k_r 0 5)).toArray)] [] rfl (subR rfl)
 obtain ⟨r4, hr5, h⟩ := bindE h
 have hz4 := S.keep.size
 refine l_enter S (fun _ => run_call (vs := [(.slice (some ⟨b3, 0, none⟩) 1 1), .agg (GStep.enc (GStep.mk 0 1 k_i k_a k_empty k_r 0 5)).toArray]) ⟨(S.tm rfl), (S.tm rfl), trivial⟩ Tryd.call24) (record_For_ok _ (.slice (some ⟨b3, 0, none⟩) 1 1) ([(GKind.mk k_k k_r ([] : List ByteArray) 0 9)] : List GKind) ([(R63.mk k_k k_r ⟨.slice none 0 0, rfl⟩ 0 9)] : List R63) (own_slcT R63.enc_ok S (i := 0) rfl (ne_nil (e' := .own (.slice (some ⟨b3, 0, none⟩) 1 1) 63 5 ([(R63.mk k_k k_r ⟨.slice none 0 0, rfl⟩ 0 9)] : List R63).length (([(R63.mk k_k k_r ⟨.slice none 0 0, rfl⟩ 0 9)] : List R63).flatMap R63.enc)))) (rels_63 (S.le_new nil_sub) hr4) (GStep.mk 0 1 k_i k_a k_empty k_r 0 5) _ hr5) rfl ?_; clear S; intro v4 a w7 hv4 hk7 hn4 S
 obtain ⟨u1, rfl, ho1⟩ := hv4
 obtain ⟨φ1, hl1, hm1, S⟩ := S.see' hn4 hz4
 have hs1 := ho1.mono hm1
 refine lv S (rn_move (S.tm rfl)) rfl ?_; clear S; intro a S
 refine lv S (rn_extract (S.tm rfl) rfl) rfl ?_; clear S; intro a S
 refine lv S (rn_extract (S.tm rfl) rfl) rfl ?_; clear S; intro a S
 refine lv S (rn_assign (S.tm rfl)) rfl ?_; clear S; intro a S
 refine lv S (rn_assign (S.tm rfl)) rfl ?_; clear S; intro a S
 refine l_done ?_
 replace S := S.nk [] [(1, iV r1.1), (2, iV r1.2), (3, iV r2.1), (4, iV r2.2), (5, iV r3.1), (6, iV r3.2), (7, u1), (8, iV r4.2)] [false, false] rfl (subR rfl)
 refine then_n (f_seq (f_region (lv S (rn_move (S.tm rfl)) rfl ?_))); clear S; intro a S
 iterate 3 (refine lv S (rn_move (S.tm rfl)) rfl ?_; clear S; intro a S)
 refine l_buildSlice S Tryd.underlying85 Tryd.sizeOf28 Tryd.zeroValue28 rfl rfl (pv := [(0, iV r1.2), (1, iV r2.2), (2, iV r3.2), (3, iV r4.2)]) ⟨rfl, (S.tm rfl), rfl, (S.tm rfl), rfl, (S.tm rfl), rfl, (S.tm rfl), trivial⟩ (cs := [iV r1.2, iV r2.2, iV r3.2, iV r4.2]) (by kernel_rfl) rfl ?_; clear S; intro a w8 b4 hz5 hk8 S
 refine l_enter S (fun _ => run_call (vs := [.slice (some ⟨b4, 0, none⟩) 4 4]) ⟨(S.tm rfl), trivial⟩ Tryd.call25) (tumbkeep2_errs_ok _ (.slice (some ⟨b4, 0, none⟩) 4 4) [r1.2, r2.2, r3.2, r4.2] (lit_slcT enc_int S (i := 0) rfl rfl rfl rfl ((ne_nil (e' := .blk b4 [iV r1.2, iV r2.2, iV r3.2, iV r4.2] 28)) _ rfl)) _ rfl) rfl ?_; clear S; intro v5 a w9 hv5 hk9 hn5 S
 subst hv5
 refine lv S (rn_eql (S.tm rfl) rfl) rfl ?_; clear S; intro a S
 refine lv S (rn_move (S.tm rfl)) rfl ?_; clear S; intro a S
 refine f_cutm 3 (fun a w' => Keep [] w9 w' ∧ Sx w [] φ1 [.blk b4 [iV r1.2, iV r2.2, iV r3.2, iV r4.2] 28] [(3, iV r2.1), (5, iV r3.1), (7, u1), (43, bV ((decide ((tumbkeep2_errs [r1.2, r2.2, r3.2, r4.2]) = 0)) && (decide (r1.1 = 60))))] 57 a w') ?_ ?_
 ·rcases Bool.eq_false_or_eq_true (decide ((tumbkeep2_errs [r1.2, r2.2, r3.2, r4.2]) = 0)) with hb1 | hb1
  ·refine l_want S rfl rfl rfl hb1 (lv S (rn_move (S.tm rfl)) rfl ?_); clear S; intro a S
   refine l_want S rfl rfl rfl hb1 (lv S (rn_eql (S.tm rfl) rfl) rfl ?_); clear S; intro a S
   refine lv S (rn_and_t hb1 (S.tm rfl) (S.tm rfl)) rfl ?_; clear S; intro a S
   refine l_done (then_n ?_)
   exact ⟨Keep.refl _ _, S.nf [true] rfl (subR rfl)⟩
  ·refine l_skip S rfl rfl rfl (neq_f hb1) rfl ?_ rfl; clear S; intro a S
   refine l_skip S rfl rfl rfl (neq_f hb1) rfl ?_ rfl; clear S; intro a S
   refine lv S (rn_and_f (decide (r1.1 = 60)) hb1 (S.tm rfl) rfl) rfl ?_; clear S; intro a S
   refine l_done (then_n ?_)
   exact ⟨Keep.refl _ _, S.nf [true] rfl (subR rfl)⟩
 clear S; rintro a w10 ⟨hk10, S⟩
 refine lv S (rn_move (S.tm rfl)) rfl ?_; clear S; intro a S
 refine f_cutm 3 (fun a w' => Keep [] w10 w' ∧ Sx w [] φ1 [.blk b4 [iV r1.2, iV r2.2, iV r3.2, iV r4.2] 28] [(5, iV r3.1), (7, u1), (47, bV (((decide ((tumbkeep2_errs [r1.2, r2.2, r3.2, r4.2]) = 0)) && (decide (r1.1 = 60))) && (decide (r2.1 = 25))))] 57 a w') ?_ ?_
 ·rcases Bool.eq_false_or_eq_true ((decide ((tumbkeep2_errs [r1.2, r2.2, r3.2, r4.2]) = 0)) && (decide (r1.1 = 60))) with hb2 | hb2
  ·refine l_want S rfl rfl rfl hb2 (lv S (rn_move (S.tm rfl)) rfl ?_); clear S; intro a S
   refine l_want S rfl rfl rfl hb2 (lv S (rn_eql (S.tm rfl) rfl) rfl ?_); clear S; intro a S
   refine lv S (rn_and_t hb2 (S.tm rfl) (S.tm rfl)) rfl ?_; clear S; intro a S
   refine l_done (then_n ?_)
   exact ⟨Keep.refl _ _, S.nf [true] rfl (subR rfl)⟩
  ·refine l_skip S rfl rfl rfl (neq_f hb2) rfl ?_ rfl; clear S; intro a S
   refine l_skip S rfl rfl rfl (neq_f hb2) rfl ?_ rfl; clear S; intro a S
   refine lv S (rn_and_f (decide (r2.1 = 25)) hb2 (S.tm rfl) rfl) rfl ?_; clear S; intro a S
   refine l_done (then_n ?_)
   exact ⟨Keep.refl _ _, S.nf [true] rfl (subR rfl)⟩
 clear S; rintro a w11 ⟨hk11, S⟩
 refine lv S (rn_move (S.tm rfl)) rfl ?_; clear S; intro a S
 refine f_cutm 3 (fun a w' => Keep [] w11 w' ∧ Sx w [] φ1 [.blk b4 [iV r1.2, iV r2.2, iV r3.2, iV r4.2] 28] [(7, u1), (51, bV ((((decide ((tumbkeep2_errs [r1.2, r2.2, r3.2, r4.2]) = 0)) && (decide (r1.1 = 60))) && (decide (r2.1 = 25))) && (decide (r3.1 = 125))))] 57 a w') ?_ ?_
 ·rcases Bool.eq_false_or_eq_true (((decide ((tumbkeep2_errs [r1.2, r2.2, r3.2, r4.2]) = 0)) && (decide (r1.1 = 60))) && (decide (r2.1 = 25))) with hb3 | hb3
  ·refine l_want S rfl rfl rfl hb3 (lv S (rn_move (S.tm rfl)) rfl ?_); clear S; intro a S
   refine l_want S rfl rfl rfl hb3 (lv S (rn_eql (S.tm rfl) rfl) rfl ?_); clear S; intro a S
   refine lv S (rn_and_t hb3 (S.tm rfl) (S.tm rfl)) rfl ?_; clear S; intro a S
   refine l_done (then_n ?_)
   exact ⟨Keep.refl _ _, S.nf [true] rfl (subR rfl)⟩
  ·refine l_skip S rfl rfl rfl (neq_f hb3) rfl ?_ rfl; clear S; intro a S
   refine l_skip S rfl rfl rfl (neq_f hb3) rfl ?_ rfl; clear S; intro a S
   refine lv S (rn_and_f (decide (r3.1 = 125)) hb3 (S.tm rfl) rfl) rfl ?_; clear S; intro a S
   refine l_done (then_n ?_)
   exact ⟨Keep.refl _ _, S.nf [true] rfl (subR rfl)⟩
 clear S; rintro a w12 ⟨hk12, S⟩
 refine lv S (rn_move (S.tm rfl)) rfl ?_; clear S; intro a S
 refine f_cutm 4 (fun a w' => Keep [] w12 w' ∧ Sx w [] φ1 [.blk b4 [iV r1.2, iV r2.2, iV r3.2, iV r4.2] 28] [(56, bV (((((decide ((tumbkeep2_errs [r1.2, r2.2, r3.2, r4.2]) = 0)) && (decide (r1.1 = 60))) && (decide (r2.1 = 25))) && (decide (r3.1 = 125))) && (decide ((r4.1.length : Int) = 1))))] 57 a w') ?_ ?_
 ·rcases Bool.eq_false_or_eq_true ((((decide ((tumbkeep2_errs [r1.2, r2.2, r3.2, r4.2]) = 0)) && (decide (r1.1 = 60))) && (decide (r2.1 = 25))) && (decide (r3.1 = 125))) with hb4 | hb4
  ·refine l_want S rfl rfl rfl hb4 (lv S (rn_move (S.tm rfl)) rfl ?_); clear S; intro a S
   refine l_want S rfl rfl rfl hb4 (lv S (rn_lenT sl_31 (S.tm rfl) (slc_len (ownV_slcT enc_str hs1))) rfl ?_); clear S; intro a S
   refine l_want S rfl rfl rfl hb4 (lv S (rn_eql (S.tm rfl) rfl) rfl ?_); clear S; intro a S
   refine lv S (rn_and_t hb4 (S.tm rfl) (S.tm rfl)) rfl ?_; clear S; intro a S
   refine l_done (then_n ?_)
   exact ⟨Keep.refl _ _, S.nf [true] rfl ⟨rfl, trivial⟩⟩
  ·iterate 3 (refine l_skip S rfl rfl rfl (neq_f hb4) rfl ?_ rfl; clear S; intro a S)
   refine lv S (rn_and_f (decide ((r4.1.length : Int) = 1)) hb4 (S.tm rfl) rfl) rfl ?_; clear S; intro a S
   refine l_done (then_n ?_)
   exact ⟨Keep.refl _ _, S.nf [true] rfl ⟨rfl, trivial⟩⟩
 clear S; rintro a w13 ⟨hk13, S⟩
 refine lv S (rn_assign (S.tm rfl)) rfl ?_; clear S; intro a S
 refine l_done (then_n (wp_ret ?_))
 obtain rfl := Option.some.inj h
 exact f_ret S Tryd.results6 rfl rfl
set_option maxRecDepth 20000 in
theorem swimmer_CheckLegs_ok (w : World) (v_p_l : Value) (p_l : List GLeg) (rs_p_l : List R36) (hs_p_l : Slc (view w []) 2 v_p_l (rs_p_l.map R36.enc)) (hr_p_l : All2 (rel_36 (view w [])) p_l rs_p_l) (r : Int) (h : swimmer_CheckLegs p_l = some r) :
    Calls Tryd.prog 26 [v_p_l].toArray w (Ret w [] fun _ v _ => v = iV r) := by
 refine f_enter [] [] Tryd.func26 rfl Tryd.ntmps26 rfl (by simp) (by simp [fps]) (by simp [fps]) fun a S => ?_
 unfold swimmer_CheckLegs at h
 replace S := S.nk [] [(0, v_p_l)] [] rfl ⟨rfl, trivial⟩
 refine f_seq (f_region (lv S (rn_assign rfl) rfl ?_)); clear S; intro a S
 refine l_done (then_n (f_seq (f_seq (f_region (lv S (rn_move (S.tm rfl)) rfl ?_))))); clear S; intro a S
 refine lv S (rn_lenT sl_26 (S.tm rfl) (slc_lenD hs_p_l hr_p_l)) rfl ?_; clear S; intro a S
 refine lv S (rn_gtr (S.tm rfl) rfl) rfl ?_; clear S; intro a S
 refine l_done (then_n (f_cond (S.tm rfl) (fun hb1 => ?_) (fun hb1 => ?_)))
 ·replace h := iteT h hb1
  refine f_seq (f_region (lv S (rn_assign rfl) rfl ?_)); clear S; intro a S
  refine l_done (then_n (wp_ret (then_r ?_)))
  obtain rfl := Option.some.inj h
  exact f_ret S Tryd.results26 rfl rfl
 ·replace h := iteF h hb1
  refine wp_skip (then_n (f_seq (f_seq (f_region (lv S (rn_move (S.tm rfl)) rfl ?_))))); clear S; intro a S
  refine lv S (rn_lenT sl_26 (S.tm rfl) (slc_lenD hs_p_l hr_p_l)) rfl ?_; clear S; intro a S
  refine lv S (rn_move rfl) rfl ?_; clear S; intro a S
  refine l_done (then_n ?_)
  replace S := S.nk [] [(0, v_p_l), (10, v_p_l), (11, iV (p_l.length : Int)), (12, iV 0)] [] rfl (subR rfl)
  obtain ⟨j1, hj1, h⟩ := joinE h
  refine f_join (fun a w' => j1 = some r ∧ Sx w [] nov [] [] 53 a w') ?_ ?_
  ·refine wp_block (f_loop (fun (ys1 : List GLeg) a w' => ∃ i1 : Nat, (∃ dn, p_l = dn ++ ys1 ∧ dn.length = i1) ∧ swimmer_CheckLegs_l1 p_l j1 ys1 i1 = some r ∧ Sx w [] nov [] [(0, v_p_l), (10, v_p_l), (11, iV (p_l.length : Int)), (12, iV (i1 : Int))] 53 a w') List.length p_l ⟨0, ⟨[], rfl, rfl⟩, h, S.nf [] rfl (subR rfl)⟩ ?_)
   clear S h; rintro ys1 a w1 ⟨i1, ⟨dn, hd1, hi1⟩, h, S⟩
   cases ys1 with
   | nil =>
    rw [swimmer_CheckLegs_l1.eq_1] at h
    refine f_seq (f_region (lv S (rn_lss (S.tm rfl) (S.tm rfl)) rfl ?_)); clear S; intro a S
    refine l_done ?_
    replace S := S.nk [] [(0, v_p_l), (10, v_p_l), (11, iV (p_l.length : Int)), (12, iV (i1 : Int)), (13, bV (decide ((i1 : Int) < (p_l.length : Int))))] [] rfl (subR rfl)
    refine then_n (f_seq (wp_cond_false ((S.tm rfl).trans (congrArg Value.bool (rng_nil hd1 hi1))) (wp_exit (then_x (then_x (x_same ?_))))))
    refine then_n ?_
    exact ⟨h, S.nf [] rfl trivial⟩
   | cons y1 ys1 =>
    rw [swimmer_CheckLegs_l1.eq_2] at h
    refine f_seq (f_region (lv S (rn_lss (S.tm rfl) (S.tm rfl)) rfl ?_)); clear S; intro a S
    refine l_done ?_
    replace S := S.nk [] [(0, v_p_l), (10, v_p_l), (11, iV (p_l.length : Int)), (12, iV (i1 : Int)), (13, bV (decide ((i1 : Int) < (p_l.length : Int))))] [] rfl (subR rfl)
    refine then_n (f_seq (wp_cond_true ((S.tm rfl).trans (congrArg Value.bool (rng_cons hd1 hi1))) (wp_skip (then_n (f_seq (wp_block ?_))))))
    refine f_seq (f_region (lv S (rn_move (S.tm rfl)) rfl ?_)); clear S; intro a S
    obtain ⟨r1, hg1, hl1⟩ := All2.at hr_p_l (get_mid hd1 hi1)
    obtain ⟨u1, rfl, hs1⟩ := hl1
    obtain ⟨b1, o1, hm1, hr1⟩ := rn_indexT (a := a) (x := .tmp 10) (y := .tmp 12) (ty := 0) sl_26 hs_p_l hg1 rfl (S.tm rfl) (S.tm rfl)
    refine lv S (hr1 _) rfl ?_; clear S; intro a S
    clear hr1
    refine lv S (rn_ldA Tryd.isAgg36 Tryd.sizeOf36 (off := o1) (o := 0) (part := [sV y1.Who, u1.val]) rfl rfl (S.tm rfl) (hm1.at S.emb0)) rfl ?_; clear S; intro a S
    refine l_alloc S Tryd.zeroValue36 (cs := [sV k_empty, .slice none 0 0]) rfl rfl ?_; clear S; intro a w3 b2 hz1 hk1 S
    refine lv S (rn_assign (S.tm rfl)) rfl ?_; clear S; intro a S
    refine l_store S (S.tm rfl) (S.tm rfl) (i := 0) (off := 0) rfl Tryd.sizeOf36 (vs := [sV y1.Who, u1.val]) rfl rfl rfl (all1 rfl (all1 (SlcLen.one (slc_len hs1)) rfl)) ?_; clear S; intro w4 hk2 S
    refine l_done (then_n (f_seq (wp_block (f_seq (f_region (lv S (rn_fld fa_36_0 (S.tm rfl)) rfl ?_)))))); clear S; intro a S
    refine lv S (rn_load Tryd.isAgg9 (S.tm rfl) (S.cell (i := 0) rfl rfl)) rfl ?_; clear S; intro a S
    obtain ⟨r2, hr2, h⟩ := bindE h
    refine l_enter S (fun _ => run_call (vs := [sV y1.Who]) ⟨(S.tm rfl), trivial⟩ Tryd.call45) (words_IsKey_ok _ y1.Who _ hr2) rfl ?_; clear S; intro v1 a w5 hv1 hk3 hn1 S
    subst hv1
    refine lv S (rn_not (S.tm rfl)) rfl ?_; clear S; intro a S
    refine lv S (rn_assign (S.tm rfl)) rfl ?_; clear S; intro a S
    refine l_done ?_
    replace S := S.nk [.blk b2 [sV y1.Who, u1.val] 36] [(0, v_p_l), (3, iV (i1 : Int)), (4, .pointer (some ⟨b2, 0, none⟩)), (10, v_p_l), (11, iV (p_l.length : Int)), (12, iV (i1 : Int)), (17, bV (!r2))] [true] rfl (subR rfl)
    refine then_n (f_cond (S.tm rfl) (fun hb2 => ?_) (fun hb2 => ?_))
    ·replace h := iteT h hb2
     refine f_seq (f_region (lv S (rn_assign rfl) rfl ?_)); clear S; intro a S
     refine l_done (then_n (wp_ret (blk_r (then_r (blk_r (then_r ?_))))))
     refine then_r (blk_r (then_r (then_r ?_)))
     obtain rfl := Option.some.inj h
     exact f_ret S Tryd.results26 rfl rfl
    ·replace h := iteF h hb2
     refine f_seq (d_region [] ([]) Tryd.mixed S rfl (by kernel_rfl) ?_); clear S; intro w6 hk4 hsel S
     refine d_rest [0, 1, 2, 3, 4, 5, 6, 7, 8, 9, 10, 11, 12, 13] hsel (by kernel_rfl) rfl ?_
     clear hsel
     refine s_lv S rfl (rn_move (S.tm rfl)) rfl ?_; clear S; intro a S
     refine s_lv S rfl (rn_gtr (S.tm rfl) rfl) rfl ?_; clear S; intro a S
     refine s_lv S rfl (rn_move (S.tm rfl)) rfl ?_; clear S; intro a S
     obtain ⟨j2, hj2, h⟩ := joinE h
     refine s_cutm 10 (fun a w' => ∃ c1, j2 c1 = some r ∧ Keep [] w6 w' ∧ Sx w [] nov [.blk b2 [sV y1.Who, u1.val] 36] [(0, v_p_l), (4, .pointer (some ⟨b2, 0, none⟩)), (10, v_p_l), (11, iV (p_l.length : Int)), (12, iV (i1 : Int)), (35, bV c1)] 53 a w') ?_ ?_
     ·rcases Bool.eq_false_or_eq_true (decide (0 < (i1 : Int))) with hb3 | hb3
      ·replace h := iteT h hb3
       refine s_want S rfl rfl rfl rfl hb3 (s_lv0 S (rn_fld fa_36_0 (S.tm rfl)) rfl ?_); clear S; intro a S
       refine s_want S rfl rfl rfl rfl hb3 (s_lv0 S (rn_load Tryd.isAgg9 (S.tm rfl) (S.cell (i := 0) rfl rfl)) rfl ?_); clear S; intro a S
       refine s_want S rfl rfl rfl rfl hb3 (s_lv0 S (rn_move (S.tm rfl)) rfl ?_); clear S; intro a S
       refine s_want S rfl rfl rfl rfl hb3 (s_lv0 S (rn_move (S.tm rfl)) rfl ?_); clear S; intro a S
       refine s_want S rfl rfl rfl rfl hb3 (s_lv0 S (rn_sub (S.tm rfl) rfl) rfl ?_); clear S; intro a S
       refine s_want S rfl rfl rfl rfl hb3 ?_
       obtain ⟨hc1, h⟩ := chkE h
       obtain ⟨r3, hg2, hl2⟩ := all2_get hr_p_l hc1
       obtain ⟨u2, rfl, hs2⟩ := hl2
       obtain ⟨b3, o2, hm2, hr3⟩ := rn_indexT (a := a) (x := .tmp 28) (y := .tmp 30) (ty := 0) sl_26 hs_p_l hg2 (inB_get hc1).2 (S.tm rfl) (S.tm rfl)
       refine s_lv0 S (hr3 _) rfl ?_; clear S; intro a S
       clear hr3
       refine s_want S rfl rfl rfl rfl hb3 (s_lv0 S (rn_fld fa_36_0 (S.tm rfl)) rfl ?_); clear S; intro a S
       refine s_want S rfl rfl rfl rfl hb3 (s_lv0 S (rn_ld Tryd.isAgg9 (off := o2) (o := 0) (S.tm rfl) (hm2.at S.emb0) rfl) rfl ?_); clear S; intro a S
       refine s_want S rfl rfl rfl rfl hb3 (s_lv0 S (rn_sleq (S.tm rfl) (S.tm rfl)) rfl ?_); clear S; intro a S
       refine s_lv S rfl (rn_and_t hb3 (S.tm rfl) (S.tm rfl)) rfl ?_; clear S; intro a S
       refine s_done ?_
       exact ⟨_, h, Keep.refl _ _, S.nf [true] rfl (subR rfl)⟩
      ·replace h := iteF h hb3
       iterate 9 (refine s_skip S rfl rfl rfl rfl (neq_f hb3) rfl ?_ rfl; clear S; intro a S)
       refine s_lv S rfl (rn_and_f true hb3 (S.tm rfl) rfl) rfl ?_; clear S; intro a S
       refine s_done ?_
       exact ⟨_, h, Keep.refl _ _, S.nf [true] rfl (subR rfl)⟩
     clear S h; rintro a w7 ⟨c1, h, hk5, S⟩; rw [hj2] at h; clear hj2 j2
     refine s_lv S rfl (rn_assign (S.tm rfl)) rfl ?_; clear S; intro a S
     refine s_done ?_
     replace S := S.nk [.blk b2 [sV y1.Who, u1.val] 36] [(0, v_p_l), (4, .pointer (some ⟨b2, 0, none⟩)), (10, v_p_l), (11, iV (p_l.length : Int)), (12, iV (i1 : Int)), (22, bV c1)] [true] rfl (subR rfl)
     refine then_n (f_cond (S.tm rfl) (fun hb4 => ?_) (fun hb4 => ?_))
     ·replace h := iteT h hb4
      refine f_seq (f_region (lv S (rn_assign rfl) rfl ?_)); clear S; intro a S
      refine l_done (then_n (wp_ret (blk_r (then_r (blk_r (then_r ?_))))))
      refine then_r (blk_r (then_r (then_r ?_)))
      obtain rfl := Option.some.inj h
      exact f_ret S Tryd.results26 rfl rfl
     ·replace h := iteF h hb4
      refine f_seq (f_region (lv S (rn_fld fa_36_1 (S.tm rfl)) rfl ?_)); clear S; intro a S
      refine lv S (rn_load Tryd.isAgg22 (S.tm rfl) (S.cell (i := 0) rfl rfl)) rfl ?_; clear S; intro a S
      refine lv S (rn_lenT sl_22 (S.tm rfl) (slc_len hs1)) rfl ?_; clear S; intro a S
      refine lv S (rn_neq (S.tm rfl) rfl) rfl ?_; clear S; intro a S
      refine lv S (rn_assign (S.tm rfl)) rfl ?_; clear S; intro a S
      refine l_done (then_n (f_cond (S.tm rfl) (fun hb5 => ?_) (fun hb5 => ?_)))
      ·replace h := iteT h hb5
       refine f_seq (f_region (lv S (rn_assign rfl) rfl ?_)); clear S; intro a S
       refine l_done (then_n (wp_ret (blk_r (then_r (blk_r (then_r ?_))))))
       refine then_r (blk_r (then_r (then_r ?_)))
       obtain rfl := Option.some.inj h
       exact f_ret S Tryd.results26 rfl rfl
      ·replace h := iteF h hb5
       refine wp_skip (blk_n (then_n (f_seq (f_region (lv S (rn_fld fa_36_1 (S.tm rfl)) rfl ?_))))); clear S; intro a S
       refine lv S (rn_load Tryd.isAgg22 (S.tm rfl) (S.cell (i := 0) rfl rfl)) rfl ?_; clear S; intro a S
       refine lv S (rn_lenT sl_22 (S.tm rfl) (slc_len hs1)) rfl ?_; clear S; intro a S
       refine lv S (rn_move rfl) rfl ?_; clear S; intro a S
       refine l_done ?_
       replace S := S.nk [] [(0, v_p_l), (10, v_p_l), (11, iV (p_l.length : Int)), (12, iV (i1 : Int)), (42, u1.val), (43, iV (y1.Times.length : Int)), (44, iV 0)] [false] rfl (subR rfl)
       refine then_n ?_
       obtain ⟨j3, hj3, h⟩ := joinE h
       refine f_join (fun a w' => j3 = some r ∧ Sx w [] nov [] [(0, v_p_l), (10, v_p_l), (11, iV (p_l.length : Int)), (12, iV (i1 : Int))] 53 a w') ?_ ?_
       ·refine wp_block (f_loop (fun (ys2 : List Int) a w' => ∃ i2 : Nat, (∃ dn, y1.Times = dn ++ ys2 ∧ dn.length = i2) ∧ swimmer_CheckLegs_l2 j3 ys2 i2 = some r ∧ Sx w [] nov [] [(0, v_p_l), (10, v_p_l), (11, iV (p_l.length : Int)), (12, iV (i1 : Int)), (42, u1.val), (43, iV (y1.Times.length : Int)), (44, iV (i2 : Int))] 53 a w') List.length y1.Times ⟨0, ⟨[], rfl, rfl⟩, h, S.nf [] rfl (subR rfl)⟩ ?_)
        clear S h; rintro ys2 a w8 ⟨i2, ⟨dn, hd2, hi2⟩, h, S⟩
        cases ys2 with
        | nil =>
         rw [swimmer_CheckLegs_l2.eq_1] at h
         refine f_seq (f_region (lv S (rn_lss (S.tm rfl) (S.tm rfl)) rfl ?_)); clear S; intro a S
         refine l_done ?_
         replace S := S.nk [] [(0, v_p_l), (10, v_p_l), (11, iV (p_l.length : Int)), (12, iV (i1 : Int)), (42, u1.val), (43, iV (y1.Times.length : Int)), (44, iV (i2 : Int)), (45, bV (decide ((i2 : Int) < (y1.Times.length : Int))))] [] rfl (subR rfl)
         refine then_n (f_seq (wp_cond_false ((S.tm rfl).trans (congrArg Value.bool (rng_nil hd2 hi2))) (wp_exit (then_x (then_x (x_same ?_))))))
         refine then_n ?_
         exact ⟨h, S.nf [] rfl (subR rfl)⟩
        | cons y2 ys2 =>
         rw [swimmer_CheckLegs_l2.eq_2] at h
         refine f_seq (f_region (lv S (rn_lss (S.tm rfl) (S.tm rfl)) rfl ?_)); clear S; intro a S
         refine l_done ?_
         replace S := S.nk [] [(0, v_p_l), (10, v_p_l), (11, iV (p_l.length : Int)), (12, iV (i1 : Int)), (42, u1.val), (43, iV (y1.Times.length : Int)), (44, iV (i2 : Int)), (45, bV (decide ((i2 : Int) < (y1.Times.length : Int))))] [] rfl (subR rfl)
         refine then_n (f_seq (wp_cond_true ((S.tm rfl).trans (congrArg Value.bool (rng_cons hd2 hi2))) (wp_skip (then_n (f_seq (wp_block ?_))))))
         refine f_seq (f_region ?_)
         obtain ⟨b4, o3, hm3, hr4⟩ := rn_indexT (a := a) (x := .tmp 42) (y := .tmp 44) (ty := 0) sl_22 hs1 (get_mid hd2 hi2) rfl (S.tm rfl) (S.tm rfl)
         refine lv S (hr4 _) rfl ?_; clear S; intro a S
         clear hr4
         refine lv S (rn_ld Tryd.isAgg3 (off := o3) (o := 0) (S.tm rfl) (hm3.at S.emb0) rfl) rfl ?_; clear S; intro a S
         refine lv S (rn_assign (S.tm rfl)) rfl ?_; clear S; intro a S
         refine l_done (then_n (f_seq (f_region (lv S (rn_move (S.tm rfl)) rfl ?_)))); clear S; intro a S
         refine l_enter S (fun _ => run_call (vs := [iV y2, iV 0, iV 360000]) ⟨(S.tm rfl), rfl, rfl, trivial⟩ Tryd.call27) (words_Within_ok _ y2 0 360000 _ rfl) rfl ?_; clear S; intro v2 a w10 hv2 hk6 hn2 S
         subst hv2
         refine lv S (rn_not (S.tm rfl)) rfl ?_; clear S; intro a S
         refine l_done (then_n (f_cond (S.tm rfl) (fun hb6 => ?_) (fun hb6 => ?_)))
         ·replace h := iteT h hb6
          refine f_seq (f_region (lv S (rn_assign rfl) rfl ?_)); clear S; intro a S
          refine l_done ?_
          replace S := S.nk [] [(2, iV 1)] [] rfl ⟨rfl, trivial⟩
          refine then_n (wp_ret (blk_r (then_r (then_r (blk_r (then_r ?_))))))
          refine blk_r (then_r (then_r (blk_r (then_r (then_r ?_)))))
          obtain rfl := Option.some.inj h
          exact f_ret S Tryd.results26 rfl rfl
         ·replace h := iteF h hb6
          refine wp_skip (blk_n (then_n (f_region (lv S (rn_add (S.tm rfl) rfl) rfl ?_)))); clear S; intro a S
          refine lv S (rn_move (S.tm rfl)) rfl ?_; clear S; intro a S
          refine l_done ?_
          replace S := S.nk [] [(0, v_p_l), (10, v_p_l), (11, iV (p_l.length : Int)), (12, iV (i1 : Int)), (42, u1.val), (43, iV (y1.Times.length : Int)), (44, iV (W ((i2 : Int) + 1)))] [] rfl (subR rfl)
          refine then_n ?_
          exact ⟨ys2, ⟨i2 + 1, ⟨_, (hd2).trans (List.append_cons _ _ _), by simp [hi2]⟩, h, S.nf [] rfl ⟨rfl, rfl, rfl, rfl, rfl, rfl, (congrArg (fun z => some (Value.int .i64 z)) (rng_next hd2 hi2 (slc_max hs1))), trivial⟩⟩, Nat.lt_succ_self _⟩
       clear S h; rintro a w9 ⟨h, S⟩; rw [hj3] at h; clear hj3 j3
       refine blk_n (then_n (f_region (lv S (rn_add (S.tm rfl) rfl) rfl ?_))); clear S; intro a S
       refine lv S (rn_move (S.tm rfl)) rfl ?_; clear S; intro a S
       refine l_done (then_n ?_)
       exact ⟨ys1, ⟨i1 + 1, ⟨_, (hd1).trans (List.append_cons _ _ _), by simp [hi1]⟩, h, S.nf [] rfl ⟨rfl, rfl, rfl, (congrArg (fun z => some (Value.int .i64 z)) (rng_next hd1 hi1 (slc_maxD hs_p_l hr_p_l))), trivial⟩⟩, Nat.lt_succ_self _⟩
  clear S h; rintro a w2 ⟨h, S⟩; rw [hj1] at h; clear hj1 j1
  refine then_n (f_seq (f_region (lv S (rn_assign rfl) rfl ?_))); clear S; intro a S
  refine l_done (then_n (wp_ret ?_))
  obtain rfl := Option.some.inj h
  exact f_ret S Tryd.results26 rfl rfl
theorem slices_Clone_string_ok (w : World) (v_p_s : Value) (p_s : List ByteArray) (hs_p_s : Slc (view w []) 1 v_p_s (p_s.map eStr)) (r : (List ByteArray)) (h : slices_Clone_string p_s = some r) :
    Calls Tryd.prog 46 [v_p_s].toArray w (Ret w [] fun τ v _ => OwnV τ 9 1 v r.length (r.flatMap eStr)) := by
 refine f_enter [] [] Tryd.func46 rfl Tryd.ntmps46 rfl (by simp) (by simp [fps]) (by simp [fps]) fun a S => ?_
 unfold slices_Clone_string at h
 replace S := S.nk [] [(0, v_p_s)] [] rfl ⟨rfl, trivial⟩
 refine f_seq (f_region (lv S (rn_assign rfl) rfl ?_)); clear S; intro a S
 refine l_done (then_n (f_seq (f_seq (f_region (lv S (rn_move (S.tm rfl)) rfl ?_))))); clear S; intro a S
 refine lv S (rn_nileq Tryd.underlying31 (slc_len hs_p_s) (S.tm rfl) rfl) rfl ?_; clear S; intro a S
 refine l_done (then_n (f_cond (S.tm rfl) (fun hb1 => ?_) (fun hb1 => ?_)))
 ·have hx1 := slc_nilB hs_p_s hb1
  subst hx1
  replace h : some ([] : List ByteArray) = some r := h
  refine f_seq (f_region (lv S (rn_assign rfl) rfl ?_)); clear S; intro a S
  refine l_done (then_n (wp_ret (then_r ?_)))
  obtain rfl := Option.some.inj h
  exact f_ret S Tryd.results46 rfl (ownV_nil _ _ _)
 ·refine wp_skip (then_n (f_seq (f_region (l_buildSlice0 S Tryd.underlying31 Tryd.sizeOf9 rfl ?_)))); clear S; intro a w1 b1 hz1 hk1 S
  refine lv S (rn_move (S.tm rfl)) rfl ?_; clear S; intro a S
  replace S := S.litOwn (i := 0) (xs := ([] : List ByteArray)) rfl enc_str rfl rfl rfl
  replace S := S.nk [.own (.slice (some ⟨b1, 0, none⟩) 0 0) 9 1 (([] : List ByteArray) : List ByteArray).length ((([] : List ByteArray) : List ByteArray).flatMap eStr)] [(0, v_p_s), (2, .slice none 0 0), (3, v_p_s), (4, bV (nilB v_p_s)), (5, (.slice (some ⟨b1, 0, none⟩) 0 0)), (6, v_p_s)] [] rfl (subR rfl)
  obtain ⟨hc1, h⟩ := chkE h
  refine l_appendS (Y := []) sl_31 enc_str S (S.tm rfl) (i := 0) rfl (S.tm rfl) (hs_p_s.mono (S.le_arg (fun _ h => by cases h))) rfl rfl (by have := room_lt hc1; omega) rfl ?_; clear S; intro v1 a w2 hk2 S
  refine lv S (rn_assign (S.tm rfl)) rfl ?_; clear S; intro a S
  refine l_done (then_n (wp_ret ?_))
  obtain rfl := Option.some.inj h
  exact f_ret S Tryd.results46 rfl (own_retT S (i := 0) rfl rfl)
theorem stringslite_HasPrefix_ok (w : World) (p_s : ByteArray) (p_prefix : ByteArray) (r : Bool) (h : stringslite_HasPrefix p_s p_prefix = some r) :
    Calls Tryd.prog 57 [sV p_s, sV p_prefix].toArray w (Ret w [] fun _ v _ => v = bV r) := by
 refine f_enter [] [] Tryd.func57 rfl Tryd.ntmps57 rfl (by simp) (by simp [fps]) (by simp [fps]) fun a S => ?_
 unfold stringslite_HasPrefix at h
 replace S := S.nk [] [(0, sV p_s), (1, sV p_prefix)] [] rfl (subR rfl)
 refine f_seq (f_region (lv S (rn_assign rfl) rfl ?_)); clear S; intro a S
 refine l_done (then_n (f_seq (f_region (lv S (rn_move (S.tm rfl)) rfl ?_)))); clear S; intro a S
 refine lv S (rn_len_str Tryd.underlying9 (S.tm rfl)) rfl ?_; clear S; intro a S
 refine lv S (rn_move (S.tm rfl)) rfl ?_; clear S; intro a S
 refine lv S (rn_len_str Tryd.underlying9 (S.tm rfl)) rfl ?_; clear S; intro a S
 refine lv S (rn_geq (S.tm rfl) (S.tm rfl)) rfl ?_; clear S; intro a S
 refine lv S (rn_move (S.tm rfl)) rfl ?_; clear S; intro a S
 obtain ⟨j1, hj1, h⟩ := joinE h
 refine f_cutm 7 (fun a w' => ∃ c1, j1 c1 = some r ∧ Keep [] w w' ∧ Sx w [] nov [] [(17, bV c1)] 18 a w') ?_ ?_
 ·rcases Bool.eq_false_or_eq_true (decide ((p_prefix.size : Int) ≤ (p_s.size : Int))) with hb1 | hb1
  ·replace h := iteT h hb1
   refine l_want S rfl rfl rfl hb1 (lv S (rn_move (S.tm rfl)) rfl ?_); clear S; intro a S
   refine l_want S rfl rfl rfl hb1 (lv S (rn_move (S.tm rfl)) rfl ?_); clear S; intro a S
   refine l_want S rfl rfl rfl hb1 (lv S (rn_len_str Tryd.underlying9 (S.tm rfl)) rfl ?_); clear S; intro a S
   refine l_want S rfl rfl rfl hb1 ?_
   obtain ⟨hc1, h⟩ := chkE h
   refine lv S (rn_scutTh Tryd.underlying9 (S.tm rfl) (S.tm rfl) hc1) rfl ?_; clear S; intro a S
   refine l_want S rfl rfl rfl hb1 (lv S (rn_move (S.tm rfl)) rfl ?_); clear S; intro a S
   refine l_want S rfl rfl rfl hb1 (lv S (rn_seql (S.tm rfl) (S.tm rfl)) rfl ?_); clear S; intro a S
   refine lv S (rn_and_t hb1 (S.tm rfl) (S.tm rfl)) rfl ?_; clear S; intro a S
   refine l_done (then_n ?_)
   exact ⟨_, h, Keep.refl _ _, S.nf [] rfl ⟨rfl, trivial⟩⟩
  ·replace h := iteF h hb1
   iterate 6 (refine l_skip S rfl rfl rfl (neq_f hb1) rfl ?_ rfl; clear S; intro a S)
   refine lv S (rn_and_f true hb1 (S.tm rfl) rfl) rfl ?_; clear S; intro a S
   refine l_done (then_n ?_)
   exact ⟨_, h, Keep.refl _ _, S.nf [] rfl ⟨rfl, trivial⟩⟩
 clear S h; rintro a w1 ⟨c1, h, hk1, S⟩; rw [hj1] at h; clear hj1 j1
 refine lv S (rn_assign (S.tm rfl)) rfl ?_; clear S; intro a S
 refine l_done (then_n (wp_ret ?_))
 obtain rfl := Option.some.inj h
 exact f_ret S Tryd.results57 rfl rfl
theorem strings_HasPrefix_ok (w : World) (p_s : ByteArray) (p_prefix : ByteArray) (r : Bool) (h : strings_HasPrefix p_s p_prefix = some r) :
    Calls Tryd.prog 47 [sV p_s, sV p_prefix].toArray w (Ret w [] fun _ v _ => v = bV r) := by
 refine f_enter [] [] Tryd.func47 rfl Tryd.ntmps47 rfl (by simp) (by simp [fps]) (by simp [fps]) fun a S => ?_
 unfold strings_HasPrefix at h
 replace S := S.nk [] [(0, sV p_s), (1, sV p_prefix)] [] rfl (subR rfl)
 refine f_seq (f_region (lv S (rn_assign rfl) rfl ?_)); clear S; intro a S
 refine l_done (then_n (f_seq (f_region (lv S (rn_move (S.tm rfl)) rfl ?_)))); clear S; intro a S
 refine lv S (rn_move (S.tm rfl)) rfl ?_; clear S; intro a S
 obtain ⟨r1, hr1, h⟩ := bindE h
 refine l_enter S (fun _ => run_call (vs := [sV p_s, sV p_prefix]) ⟨(S.tm rfl), (S.tm rfl), trivial⟩ Tryd.call57) (stringslite_HasPrefix_ok _ p_s p_prefix _ hr1) rfl ?_; clear S; intro v1 a w1 hv1 hk1 hn1 S
 subst hv1
 refine lv S (rn_assign (S.tm rfl)) rfl ?_; clear S; intro a S
 refine l_done (then_n (wp_ret ?_))
 obtain rfl := Option.some.inj h
 exact f_ret S Tryd.results47 rfl rfl
set_option maxRecDepth 20000 in
theorem crew_try_s_ok (self : (List GLeg) → Int → (List ByteArray) → (List ByteArray) → Int → Bool → Int → Int → Option ((List ByteArray) × (List ByteArray) × Int × Bool)) (hself : ∀ (w : World) (X : List Nat) (b_p_c : Nat) (v_p_c_l : Value) (p_c_l : List GLeg) (rs_p_c_l : List R36) (hs_p_c_l : Slc (view w X) 2 v_p_c_l (rs_p_c_l.map R36.enc)) (hr_p_c_l : All2 (rel_36 (view w X)) p_c_l rs_p_c_l) (p_c_bound : Int) (v_p_c_now : Value) (p_c_now : List ByteArray) (hb_v_p_c_now : (LEnt.own v_p_c_now 9 1 p_c_now.length (p_c_now.flatMap eStr)).holds w) (v_p_c_names : Value) (p_c_names : List ByteArray) (hb_v_p_c_names : (LEnt.own v_p_c_names 9 1 p_c_names.length (p_c_names.flatMap eStr)).holds w) (p_c_sum : Int) (p_c_found : Bool) (hb_b_p_c : (LEnt.blk b_p_c [v_p_c_l, iV p_c_bound, v_p_c_now, v_p_c_names, iV p_c_sum, bV p_c_found] 70).holds w) (p_guests : Int) (p_sum : Int) (hXn : X.Nodup) (hXe : X = fps [.blk b_p_c [v_p_c_l, iV p_c_bound, v_p_c_now, v_p_c_names, iV p_c_sum, bV p_c_found] 70, .own v_p_c_now 9 1 p_c_now.length (p_c_now.flatMap eStr), .own v_p_c_names 9 1 p_c_names.length (p_c_names.flatMap eStr)]) (r : (List ByteArray) × (List ByteArray) × Int × Bool) (_ : self p_c_l p_c_bound p_c_now p_c_names p_c_sum p_c_found p_guests p_sum = some r),
    Calls Tryd.prog 28 [.pointer (some ⟨b_p_c, 0, none⟩), iV p_guests, iV p_sum].toArray w (Ret w X fun _ v w' => ∃ y1 y2 : Value, Grp w w' X [.blk b_p_c [v_p_c_l, iV p_c_bound, y1, y2, iV r.2.2.1, bV r.2.2.2] 70, .own y1 9 1 r.1.length (r.1.flatMap eStr), .own y2 9 1 r.2.1.length (r.2.1.flatMap eStr)] ∧ v = .tuple #[])) (w : World) (X : List Nat) (b_p_c : Nat) (v_p_c_l : Value) (p_c_l : List GLeg) (rs_p_c_l : List R36) (hs_p_c_l : Slc (view w X) 2 v_p_c_l (rs_p_c_l.map R36.enc)) (hr_p_c_l : All2 (rel_36 (view w X)) p_c_l rs_p_c_l) (p_c_bound : Int) (v_p_c_now : Value) (p_c_now : List ByteArray) (hb_v_p_c_now : (LEnt.own v_p_c_now 9 1 p_c_now.length (p_c_now.flatMap eStr)).holds w) (v_p_c_names : Value) (p_c_names : List ByteArray) (hb_v_p_c_names : (LEnt.own v_p_c_names 9 1 p_c_names.length (p_c_names.flatMap eStr)).holds w) (p_c_sum : Int) (p_c_found : Bool) (hb_b_p_c : (LEnt.blk b_p_c [v_p_c_l, iV p_c_bound, v_p_c_now, v_p_c_names, iV p_c_sum, bV p_c_found] 70).holds w) (p_guests : Int) (p_sum : Int) (hXn : X.Nodup) (hXe : X = fps [.blk b_p_c [v_p_c_l, iV p_c_bound, v_p_c_now, v_p_c_names, iV p_c_sum, bV p_c_found] 70, .own v_p_c_now 9 1 p_c_now.length (p_c_now.flatMap eStr), .own v_p_c_names 9 1 p_c_names.length (p_c_names.flatMap eStr)]) (r : (List ByteArray) × (List ByteArray) × Int × Bool) (h : crew_try_s self p_c_l p_c_bound p_c_now p_c_names p_c_sum p_c_found p_guests p_sum = some r) :
    Calls Tryd.prog 28 [.pointer (some ⟨b_p_c, 0, none⟩), iV p_guests, iV p_sum].toArray w (Ret w X fun _ v w' => ∃ y1 y2 : Value, Grp w w' X [.blk b_p_c [v_p_c_l, iV p_c_bound, y1, y2, iV r.2.2.1, bV r.2.2.2] 70, .own y1 9 1 r.1.length (r.1.flatMap eStr), .own y2 9 1 r.2.1.length (r.2.1.flatMap eStr)] ∧ v = .tuple #[]) := by
 refine f_enter X [.blk b_p_c [v_p_c_l, iV p_c_bound, v_p_c_now, v_p_c_names, iV p_c_sum, bV p_c_found] 70, .own v_p_c_now 9 1 p_c_now.length (p_c_now.flatMap eStr), .own v_p_c_names 9 1 p_c_names.length (p_c_names.flatMap eStr)] Tryd.func28 rfl Tryd.ntmps28 rfl (fun e he => by simp only [List.mem_cons, List.not_mem_nil, or_false] at he; rcases he with rfl | rfl | rfl <;> assumption) (by rw [← hXe]; exact hXn) (fun b hb => by rw [hXe]; exact hb) fun a S => ?_
 unfold crew_try_s at h
 replace S := S.nk [.blk b_p_c [v_p_c_l, iV p_c_bound, v_p_c_now, v_p_c_names, iV p_c_sum, bV p_c_found] 70, .own v_p_c_now 9 1 p_c_now.length (p_c_now.flatMap eStr), .own v_p_c_names 9 1 p_c_names.length (p_c_names.flatMap eStr)] [(0, .pointer (some ⟨b_p_c, 0, none⟩)), (1, iV p_guests), (2, iV p_sum)] [true, true, true] rfl (subR rfl)
 refine f_seq (f_region (lv S (rn_move (S.tm rfl)) rfl ?_)); clear S; intro a S
 refine lv S (rn_nilCheck (S.tm rfl)) rfl ?_; clear S; intro a S
 refine lv S (rn_fld fa_70_2 (S.tm rfl)) rfl ?_; clear S; intro a S
 refine lv S (rn_load Tryd.isAgg31 (S.tm rfl) (S.cell (i := 0) rfl rfl)) rfl ?_; clear S; intro a S
 refine lv S (rn_lenT sl_31 (S.tm rfl) (own_len (S.own_at (i := 1) rfl))) rfl ?_; clear S; intro a S
 refine lv S (rn_assign (S.tm rfl)) rfl ?_; clear S; intro a S
 refine l_done (then_n (f_seq (f_seq (f_region (lv S (rn_move (S.tm rfl)) rfl ?_))))); clear S; intro a S
 refine lv S (rn_eql (S.tm rfl) rfl) rfl ?_; clear S; intro a S
 refine l_done (then_n (f_cond (S.tm rfl) (fun hb1 => ?_) (fun hb1 => ?_)))
 ·replace h := iteT h hb1
  refine f_seq (f_seq (f_region (lv S (rn_move (S.tm rfl)) rfl ?_))); clear S; intro a S
  refine lv S (rn_nilCheck (S.tm rfl)) rfl ?_; clear S; intro a S
  refine lv S (rn_fld fa_70_5 (S.tm rfl)) rfl ?_; clear S; intro a S
  refine lv S (rn_load Tryd.isAgg4 (S.tm rfl) (S.cell (i := 0) rfl rfl)) rfl ?_; clear S; intro a S
  refine lv S (rn_not (S.tm rfl)) rfl ?_; clear S; intro a S
  refine lv S (rn_move (S.tm rfl)) rfl ?_; clear S; intro a S
  refine f_cutm 7 (fun a w' => Keep [] w w' ∧ Sx w X nov [.blk b_p_c [v_p_c_l, iV p_c_bound, v_p_c_now, v_p_c_names, iV p_c_sum, bV p_c_found] 70, .own v_p_c_now 9 1 p_c_now.length (p_c_now.flatMap eStr), .own v_p_c_names 9 1 p_c_names.length (p_c_names.flatMap eStr)] [(0, .pointer (some ⟨b_p_c, 0, none⟩)), (2, iV p_sum), (29, bV ((!p_c_found) || (decide (p_sum < p_c_sum))))] 121 a w') ?_ ?_
  ·rcases Bool.eq_false_or_eq_true (!p_c_found) with hb2 | hb2
   ·iterate 6 (refine l_skip S rfl rfl rfl (neq_t hb2) rfl ?_ rfl; clear S; intro a S)
    refine lv S (rn_or_t (decide (p_sum < p_c_sum)) hb2 (S.tm rfl) rfl) rfl ?_; clear S; intro a S
    refine l_done (then_n ?_)
    exact ⟨Keep.refl _ _, S.nf [true, true, true] rfl (subR rfl)⟩
   ·refine l_want S rfl rfl rfl hb2 (lv S (rn_move (S.tm rfl)) rfl ?_); clear S; intro a S
    refine l_want S rfl rfl rfl hb2 (lv S (rn_move (S.tm rfl)) rfl ?_); clear S; intro a S
    refine l_want S rfl rfl rfl hb2 (lv S (rn_nilCheck (S.tm rfl)) rfl ?_); clear S; intro a S
    refine l_want S rfl rfl rfl hb2 (lv S (rn_fld fa_70_4 (S.tm rfl)) rfl ?_); clear S; intro a S
    refine l_want S rfl rfl rfl hb2 (lv S (rn_load Tryd.isAgg3 (S.tm rfl) (S.cell (i := 0) rfl rfl)) rfl ?_); clear S; intro a S
    refine l_want S rfl rfl rfl hb2 (lv S (rn_lss (S.tm rfl) (S.tm rfl)) rfl ?_); clear S; intro a S
    refine lv S (rn_or_f hb2 (S.tm rfl) (S.tm rfl)) rfl ?_; clear S; intro a S
    refine l_done (then_n ?_)
    exact ⟨Keep.refl _ _, S.nf [true, true, true] rfl (subR rfl)⟩
  clear S; rintro a w1 ⟨hk1, S⟩
  refine l_done (then_n ?_)
  obtain ⟨j1, hj1, h⟩ := joinE h
  refine f_join (fun a w' => ∃ x1 : Int, ∃ x2 : Bool, ∃ x3 : List ByteArray, ∃ v1 : Value, j1 x1 x2 x3 = some r ∧ Sx w X nov [.blk b_p_c [v_p_c_l, iV p_c_bound, v_p_c_now, v1, iV x1, bV x2] 70, .own v_p_c_now 9 1 p_c_now.length (p_c_now.flatMap eStr), .own v1 9 1 x3.length (x3.flatMap eStr)] [] 121 a w') ?_ ?_
  ·refine f_cond (S.tm rfl) (fun hb3 => ?_) (fun hb3 => ?_)
   ·replace h := iteT h hb3
    refine f_region (lv S (rn_move (S.tm rfl)) rfl ?_); clear S; intro a S
    iterate 3 (refine lv S (rn_move (S.tm rfl)) rfl ?_; clear S; intro a S)
    refine lv S (rn_nilCheck (S.tm rfl)) rfl ?_; clear S; intro a S
    refine lv S (rn_fld fa_70_2 (S.tm rfl)) rfl ?_; clear S; intro a S
    refine lv S (rn_load Tryd.isAgg31 (S.tm rfl) (S.cell (i := 0) rfl rfl)) rfl ?_; clear S; intro a S
    obtain ⟨r1, hr1, h⟩ := bindE h
    have hz1 := S.keep.size
    refine l_enter S (fun _ => run_call (vs := [v_p_c_now]) ⟨(S.tm rfl), trivial⟩ Tryd.call46) (slices_Clone_string_ok _ v_p_c_now p_c_now (own_slcT enc_str S (i := 1) rfl (ne_nil (e' := .own v_p_c_now 9 1 p_c_now.length (p_c_now.flatMap eStr)))) _ hr1) rfl ?_; clear S; intro v2 a w3 hv1 hk2 hn1 S
    replace S := S.take hn1 hz1 hv1
    refine lv S (rn_move (S.tm rfl)) rfl ?_; clear S; intro a S
    refine lv S (rn_nilCheck (S.tm rfl)) rfl ?_; clear S; intro a S
    refine lv S (rn_fld fa_70_3 (S.tm rfl)) rfl ?_; clear S; intro a S
    refine l_store S (S.tm rfl) (S.tm rfl) (i := 1) (off := 3) rfl Tryd.sizeOf31 (vs := [v2]) (SlcLen.cells (own_len (S.own_at (i := 0) rfl))) rfl rfl (all1 (SlcLen.one (own_len (S.own_at (i := 0) rfl))) rfl) ?_; clear S; intro w4 hk3 S
    refine lv S (rn_nilCheck (S.tm rfl)) rfl ?_; clear S; intro a S
    refine lv S (rn_fld fa_70_4 (S.tm rfl)) rfl ?_; clear S; intro a S
    refine l_store S (S.tm rfl) (S.tm rfl) (i := 1) (off := 4) rfl Tryd.sizeOf3 (vs := [iV p_sum]) rfl rfl rfl rfl ?_; clear S; intro w5 hk4 S
    refine lv S (rn_nilCheck (S.tm rfl)) rfl ?_; clear S; intro a S
    refine lv S (rn_fld fa_70_5 (S.tm rfl)) rfl ?_; clear S; intro a S
    refine l_store S (S.tm rfl) rfl (i := 1) (off := 5) rfl Tryd.sizeOf4 (vs := [bV true]) rfl rfl rfl rfl ?_; clear S; intro w6 hk5 S
    refine l_done ?_
    replace S := S.nk [.own v2 9 1 r1.length (r1.flatMap eStr), .blk b_p_c [v_p_c_l, iV p_c_bound, v_p_c_now, v2, iV p_sum, bV true] 70, .own v_p_c_now 9 1 p_c_now.length (p_c_now.flatMap eStr)] [] [true, true, true, false] rfl trivial
    refine then_n ?_
    exact ⟨p_sum, true, r1, v2, h, S.pn [1, 2, 0] [] rfl rfl trivial⟩
   ·replace h := iteF h hb3
    refine wp_skip (then_n ?_)
    exact ⟨p_c_sum, p_c_found, p_c_names, v_p_c_names, h, S.nf [true, true, true] rfl trivial⟩
  clear S h; rintro a w2 ⟨x1, x2, x3, v1, h, S⟩; rw [hj1] at h; clear hj1 j1
  refine then_n (wp_ret (then_r ?_))
  obtain rfl := Option.some.inj h
  exact f_ret0 S Tryd.results28 ⟨v_p_c_now, v1, S.grp [0, 1, 2] [] rfl rfl rfl, rfl⟩
 ·replace h := iteF h hb1
  refine wp_skip (then_n (f_seq (f_region (lv S (rn_move (S.tm rfl)) rfl ?_)))); clear S; intro a S
  refine lv S (rn_nilCheck (S.tm rfl)) rfl ?_; clear S; intro a S
  refine lv S (rn_fld fa_70_0 (S.tm rfl)) rfl ?_; clear S; intro a S
  refine lv S (rn_load Tryd.isAgg26 (S.tm rfl) (S.cell (i := 0) rfl rfl)) rfl ?_; clear S; intro a S
  refine lv S (rn_lenT sl_26 (S.tm rfl) (slc_lenD hs_p_c_l hr_p_c_l)) rfl ?_; clear S; intro a S
  refine lv S (rn_move rfl) rfl ?_; clear S; intro a S
  refine l_done ?_
  replace S := S.nk [.blk b_p_c [v_p_c_l, iV p_c_bound, v_p_c_now, v_p_c_names, iV p_c_sum, bV p_c_found] 70, .own v_p_c_now 9 1 p_c_now.length (p_c_now.flatMap eStr), .own v_p_c_names 9 1 p_c_names.length (p_c_names.flatMap eStr)] [(0, .pointer (some ⟨b_p_c, 0, none⟩)), (1, iV p_guests), (2, iV p_sum), (6, iV (p_c_now.length : Int)), (48, v_p_c_l), (49, iV (p_c_l.length : Int)), (50, iV 0)] [true, true, true] rfl (subR rfl)
  refine then_n ?_
  obtain ⟨j2, hj2, h⟩ := joinE h
  refine f_join (fun a w' => ∃ x4 : Int, ∃ x5 : Bool, ∃ x6 : List ByteArray, ∃ x7 : List ByteArray, ∃ v3 : Value, ∃ v4 : Value, j2 x4 x5 x6 x7 = some r ∧ Sx w X nov [.blk b_p_c [v_p_c_l, iV p_c_bound, v3, v4, iV x4, bV x5] 70, .own v3 9 1 x6.length (x6.flatMap eStr), .own v4 9 1 x7.length (x7.flatMap eStr)] [] 121 a w') ?_ ?_
  ·refine wp_block (f_loop (fun (ys1 : List GLeg) a w' => ∃ i1 : Nat, ∃ x4 : Int, ∃ x5 : Bool, ∃ x6 : List ByteArray, ∃ x7 : List ByteArray, ∃ v3 : Value, ∃ v4 : Value, (∃ dn, p_c_l = dn ++ ys1 ∧ dn.length = i1) ∧ crew_try_l1 p_c_now self p_c_l p_c_bound p_sum p_guests j2 ys1 i1 x4 x5 x6 x7 = some r ∧ Sx w X nov [.blk b_p_c [v_p_c_l, iV p_c_bound, v3, v4, iV x4, bV x5] 70, .own v3 9 1 x6.length (x6.flatMap eStr), .own v4 9 1 x7.length (x7.flatMap eStr)] [(0, .pointer (some ⟨b_p_c, 0, none⟩)), (1, iV p_guests), (2, iV p_sum), (6, iV (p_c_now.length : Int)), (48, v_p_c_l), (49, iV (p_c_l.length : Int)), (50, iV (i1 : Int))] 121 a w') List.length p_c_l ⟨0, p_c_sum, p_c_found, p_c_now, p_c_names, v_p_c_now, v_p_c_names, ⟨[], rfl, rfl⟩, h, S.nf [true, true, true] rfl (subR rfl)⟩ ?_)
   clear S h; rintro ys1 a w7 ⟨i1, x4, x5, x6, x7, v3, v4, ⟨dn, hd1, hi1⟩, h, S⟩
   cases ys1 with
   | nil =>
    rw [crew_try_l1.eq_1] at h
    refine f_seq (f_region (lv S (rn_lss (S.tm rfl) (S.tm rfl)) rfl ?_)); clear S; intro a S
    refine l_done ?_
    replace S := S.nk [.blk b_p_c [v_p_c_l, iV p_c_bound, v3, v4, iV x4, bV x5] 70, .own v3 9 1 x6.length (x6.flatMap eStr), .own v4 9 1 x7.length (x7.flatMap eStr)] [(0, .pointer (some ⟨b_p_c, 0, none⟩)), (1, iV p_guests), (2, iV p_sum), (6, iV (p_c_now.length : Int)), (48, v_p_c_l), (49, iV (p_c_l.length : Int)), (50, iV (i1 : Int)), (51, bV (decide ((i1 : Int) < (p_c_l.length : Int))))] [true, true, true] rfl (subR rfl)
    refine then_n (f_seq (wp_cond_false ((S.tm rfl).trans (congrArg Value.bool (rng_nil hd1 hi1))) (wp_exit (then_x (then_x (x_same ?_))))))
    refine then_n ?_
    exact ⟨x4, x5, x6, x7, v3, v4, h, S.nf [true, true, true] rfl trivial⟩
   | cons y1 ys1 =>
    rw [crew_try_l1.eq_2] at h
    refine f_seq (f_region (lv S (rn_lss (S.tm rfl) (S.tm rfl)) rfl ?_)); clear S; intro a S
    refine l_done ?_
    replace S := S.nk [.blk b_p_c [v_p_c_l, iV p_c_bound, v3, v4, iV x4, bV x5] 70, .own v3 9 1 x6.length (x6.flatMap eStr), .own v4 9 1 x7.length (x7.flatMap eStr)] [(0, .pointer (some ⟨b_p_c, 0, none⟩)), (1, iV p_guests), (2, iV p_sum), (6, iV (p_c_now.length : Int)), (48, v_p_c_l), (49, iV (p_c_l.length : Int)), (50, iV (i1 : Int)), (51, bV (decide ((i1 : Int) < (p_c_l.length : Int))))] [true, true, true] rfl (subR rfl)
    refine then_n (f_seq (wp_cond_true ((S.tm rfl).trans (congrArg Value.bool (rng_cons hd1 hi1))) (wp_skip (then_n (f_seq ?_)))))
    obtain ⟨j3, hj3, h⟩ := joinE h
    refine f_join (fun a w' => ∃ x8 : Int, ∃ x9 : Bool, ∃ x10 : List ByteArray, ∃ x11 : List ByteArray, ∃ v5 : Value, ∃ v6 : Value, j3 x8 x9 x10 x11 = some r ∧ Sx w X nov [.blk b_p_c [v_p_c_l, iV p_c_bound, v5, v6, iV x8, bV x9] 70, .own v5 9 1 x10.length (x10.flatMap eStr), .own v6 9 1 x11.length (x11.flatMap eStr)] [(0, .pointer (some ⟨b_p_c, 0, none⟩)), (1, iV p_guests), (2, iV p_sum), (6, iV (p_c_now.length : Int)), (48, v_p_c_l), (49, iV (p_c_l.length : Int)), (50, iV (i1 : Int))] 121 a w') ?_ ?_
    ·refine wp_block (f_seq (f_region ?_))
     obtain ⟨r2, hg1, hl1⟩ := All2.at hr_p_c_l (get_mid hd1 hi1)
     obtain ⟨u2, rfl, hs1⟩ := hl1
     obtain ⟨b1, o1, hm1, hr2⟩ := rn_indexT (a := a) (x := .tmp 48) (y := .tmp 50) (ty := 0) sl_26 hs_p_c_l hg1 rfl (S.tm rfl) (S.tm rfl)
     refine lv S (hr2 _) rfl ?_; clear S; intro a S
     clear hr2
     refine lv S (rn_ldA Tryd.isAgg36 Tryd.sizeOf36 (off := o1) (o := 0) (part := [sV y1.Who, u2.val]) rfl rfl (S.tm rfl) (hm1.at S.emb0)) rfl ?_; clear S; intro a S
     refine l_alloc S Tryd.zeroValue36 (cs := [sV k_empty, .slice none 0 0]) rfl rfl ?_; clear S; intro a w10 b2 hz2 hk6 S
     replace S := S.nil 3 1
     refine l_store S (S.tm rfl) (S.tm rfl) (i := 1) (off := 0) rfl Tryd.sizeOf36 (vs := [sV y1.Who, u2.val]) rfl rfl rfl (all1 rfl (all1 (SlcLen.one (slc_len hs1)) rfl)) ?_; clear S; intro w11 hk7 S
     refine l_done (then_n (f_seq (f_region (lv S (rn_move (S.tm rfl)) rfl ?_)))); clear S; intro a S
     refine lv S (rn_assign (S.tm rfl)) rfl ?_; clear S; intro a S
     refine l_done (then_n (f_seq (f_seq (f_region (lv S (rn_fld fa_36_0 (S.tm rfl)) rfl ?_))))); clear S; intro a S
     refine lv S (rn_load Tryd.isAgg9 (S.tm rfl) (S.cell (i := 1) rfl rfl)) rfl ?_; clear S; intro a S
     obtain ⟨r3, hr3, h⟩ := bindE h
     refine l_enter S (fun _ => run_call (vs := [sV y1.Who, sV k_x]) ⟨(S.tm rfl), rfl, trivial⟩ Tryd.call47) (strings_HasPrefix_ok _ y1.Who k_x _ hr3) rfl ?_; clear S; intro v7 a w12 hv2 hk8 hn2 S
     subst hv2
     refine l_done ?_
     replace S := S.nk [.blk b2 [sV y1.Who, u2.val] 36, .blk b_p_c [v_p_c_l, iV p_c_bound, v3, v4, iV x4, bV x5] 70, .own v3 9 1 x6.length (x6.flatMap eStr), .own v4 9 1 x7.length (x7.flatMap eStr)] [(0, .pointer (some ⟨b_p_c, 0, none⟩)), (1, iV p_guests), (2, iV p_sum), (6, iV (p_c_now.length : Int)), (8, .pointer (some ⟨b2, 0, none⟩)), (9, iV p_guests), (48, v_p_c_l), (49, iV (p_c_l.length : Int)), (50, iV (i1 : Int)), (57, bV r3)] [false, true, true, true, true] rfl (subR rfl)
     refine then_n ?_
     obtain ⟨j4, hj4, h⟩ := joinE h
     refine f_join (fun a w' => ∃ x12 : Int, j4 x12 = some r ∧ Sx w X nov [.blk b2 [sV y1.Who, u2.val] 36, .blk b_p_c [v_p_c_l, iV p_c_bound, v3, v4, iV x4, bV x5] 70, .own v3 9 1 x6.length (x6.flatMap eStr), .own v4 9 1 x7.length (x7.flatMap eStr)] [(0, .pointer (some ⟨b_p_c, 0, none⟩)), (1, iV p_guests), (2, iV p_sum), (6, iV (p_c_now.length : Int)), (8, .pointer (some ⟨b2, 0, none⟩)), (9, iV x12), (48, v_p_c_l), (49, iV (p_c_l.length : Int)), (50, iV (i1 : Int))] 121 a w') ?_ ?_
     ·refine f_cond (S.tm rfl) (fun hb4 => ?_) (fun hb4 => ?_)
      ·replace h := iteT h hb4
       refine f_region (lv S (rn_move (S.tm rfl)) rfl ?_); clear S; intro a S
       refine lv S (rn_add (S.tm rfl) rfl) rfl ?_; clear S; intro a S
       refine lv S (rn_assign (S.tm rfl)) rfl ?_; clear S; intro a S
       refine l_done (then_n ?_)
       exact ⟨W (p_guests + 1), h, S.nf [true, true, true, true] rfl (subR rfl)⟩
      ·replace h := iteF h hb4
       refine wp_skip (then_n ?_)
       exact ⟨p_guests, h, S.nf [true, true, true, true] rfl (subR rfl)⟩
     clear S h; rintro a w13 ⟨x12, h, S⟩; rw [hj4] at h; clear hj4 j4
     refine then_n (f_seq (f_seq ?_))
     obtain ⟨j5, hj5, h⟩ := joinE h
     refine f_join (fun a w' => ∃ x13 : Bool, j5 x13 = some r ∧ Sx w X nov [.blk b2 [sV y1.Who, u2.val] 36, .blk b_p_c [v_p_c_l, iV p_c_bound, v3, v4, iV x4, bV x5] 70, .own v3 9 1 x6.length (x6.flatMap eStr), .own v4 9 1 x7.length (x7.flatMap eStr)] [(0, .pointer (some ⟨b_p_c, 0, none⟩)), (1, iV p_guests), (2, iV p_sum), (6, iV (p_c_now.length : Int)), (8, .pointer (some ⟨b2, 0, none⟩)), (9, iV x12), (48, v_p_c_l), (49, iV (p_c_l.length : Int)), (50, iV (i1 : Int)), (89, bV x13)] 121 a w') ?_ ?_
     ·obtain ⟨hc1, h⟩ := chkE h
      rcases Bool.eq_false_or_eq_true (decide ((nth y1.Times (p_c_now.length : Int)) = 0)) with hb5 | hb5
      ·replace h := iteT h hb5
       rcases Bool.eq_false_or_eq_true true with hb6 | hb6
       ·replace h := iteT h hb6
        refine d_region [] ([]) Tryd.mixed S rfl (by kernel_rfl) ?_; clear S; intro w15 hk9 hsel S
        refine d_rest [0, 1, 2, 3, 4, 5, 6, 7, 8, 9, 10, 11, 12, 13, 14, 15, 16, 17, 18, 19, 20, 21, 22, 23, 24, 25, 26, 27, 28, 29] hsel (by kernel_rfl) rfl ?_
        clear hsel
        refine s_lv S rfl (rn_fld fa_36_1 (S.tm rfl)) rfl ?_; clear S; intro a S
        refine s_lv S rfl (rn_load Tryd.isAgg22 (S.tm rfl) (S.cell (i := 0) rfl rfl)) rfl ?_; clear S; intro a S
        refine s_lv S rfl (rn_move (S.tm rfl)) rfl ?_; clear S; intro a S
        obtain ⟨hc2, h⟩ := chkE h
        obtain ⟨b5, o4, hm4, hr6⟩ := rn_indexT (a := a) (x := .tmp 61) (y := .tmp 62) (ty := 0) sl_22 hs1 (inB_get hc2).1 (inB_get hc2).2 (S.tm rfl) (S.tm rfl)
        refine s_lv S rfl (hr6 _) rfl ?_; clear S; intro a S
        clear hr6
        refine s_lv S rfl (rn_ld Tryd.isAgg3 (off := o4) (o := 0) (S.tm rfl) (hm4.at S.emb0) rfl) rfl ?_; clear S; intro a S
        refine s_lv S rfl (rn_eql (S.tm rfl) rfl) rfl ?_; clear S; intro a S
        refine s_lv S rfl (rn_move (S.tm rfl)) rfl ?_; clear S; intro a S
        iterate 6 (refine s_skip S rfl rfl rfl rfl (neq_t hb5) rfl ?_ rfl; clear S; intro a S)
        iterate 6 (refine s_skipU S rfl rfl rfl rfl rfl ?_; clear S; intro a S)
        refine s_skip S rfl rfl rfl rfl (neq_t hb5) rfl ?_ rfl; clear S; intro a S
        refine s_lv S rfl (rn_pick_b hb5 (S.tm rfl) rfl) rfl ?_; clear S; intro a S
        refine s_lv S rfl (rn_move (S.tm rfl)) rfl ?_; clear S; intro a S
        iterate 7 (refine s_skip S rfl rfl rfl rfl (neq_t hb6) rfl ?_ rfl; clear S; intro a S)
        refine s_lv S rfl (rn_pick_b hb6 (S.tm rfl) rfl) rfl ?_; clear S; intro a S
        refine s_done ?_
        replace S := S.nk [.blk b2 [sV y1.Who, u2.val] 36, .blk b_p_c [v_p_c_l, iV p_c_bound, v3, v4, iV x4, bV x5] 70, .own v3 9 1 x6.length (x6.flatMap eStr), .own v4 9 1 x7.length (x7.flatMap eStr)] [(0, .pointer (some ⟨b_p_c, 0, none⟩)), (1, iV p_guests), (2, iV p_sum), (6, iV (p_c_now.length : Int)), (8, .pointer (some ⟨b2, 0, none⟩)), (9, iV x12), (48, v_p_c_l), (49, iV (p_c_l.length : Int)), (50, iV (i1 : Int)), (89, bV true)] [true, true, true, true] rfl (subR rfl)
        refine then_n ?_
        exact ⟨true, h, S.nf [true, true, true, true] rfl (subR rfl)⟩
       ·replace h := iteF h hb6
        refine d_region [] ([]) Tryd.mixed S rfl (by kernel_rfl) ?_; clear S; intro w17 hk11 hsel S
        refine d_quiet 0 S hsel rfl rfl rfl (by kernel_rfl) (by kernel_rfl) rfl (fun _ hw => (rn_fld fa_36_1 (S.tm rfl))) ?_; clear S; intro a S
        refine d_quiet 1 S hsel rfl rfl rfl (by kernel_rfl) (by kernel_rfl) rfl (fun _ hw => (rn_ld Tryd.isAgg22 (off := 0) (o := 1) (S.tm rfl) ((S.blk_mem (i := 0) (cells := [sV y1.Who, u2.val]) (b := b2) (T := 36) rfl (ne_nil (e' := .blk b2 [sV y1.Who, u2.val] 36))).kept hw) rfl)) ?_; clear S; intro a S
        refine d_quiet 2 S hsel rfl rfl rfl (by kernel_rfl) (by kernel_rfl) rfl (fun _ hw => (rn_move (S.tm rfl))) ?_; clear S; intro a S
        obtain ⟨b7, o6, hm6, hr8⟩ := rn_indexT (a := a) (x := .tmp 61) (y := .tmp 62) (ty := 0) sl_22 (hs1.mono (S.le_arg nil_sub)) (inB_get hc1).1 (inB_get hc1).2 (S.tm rfl) (S.tm rfl)
        refine d_quiet 3 S hsel rfl rfl rfl (by kernel_rfl) (by kernel_rfl) rfl (fun _ hw => hr8 _) ?_; clear S; intro a S
        clear hr8
        refine d_quiet 4 S hsel rfl rfl rfl (by kernel_rfl) (by kernel_rfl) rfl (fun _ hw => (rn_ld Tryd.isAgg3 (off := o6) (o := 0) (S.tm rfl) (hm6.kept hw) rfl)) ?_; clear S; intro a S
        refine d_quiet 5 S hsel rfl rfl rfl (by kernel_rfl) (by kernel_rfl) rfl (fun _ hw => (rn_eql (S.tm rfl) rfl)) ?_; clear S; intro a S
        refine d_quiet 6 S hsel rfl rfl rfl (by kernel_rfl) (by kernel_rfl) rfl (fun _ hw => (rn_move (S.tm rfl))) ?_; clear S; intro a S
        refine d_skip 7 S hsel rfl rfl rfl rfl (neq_t hb5) rfl (by kernel_rfl) (by kernel_rfl) rfl ?_; clear S; intro a S
        refine d_skip 8 S hsel rfl rfl rfl rfl (neq_t hb5) rfl (by kernel_rfl) (by kernel_rfl) rfl ?_; clear S; intro a S
        refine d_skip 9 S hsel rfl rfl rfl rfl (neq_t hb5) rfl (by kernel_rfl) (by kernel_rfl) rfl ?_; clear S; intro a S
        refine d_skip 10 S hsel rfl rfl rfl rfl (neq_t hb5) rfl (by kernel_rfl) (by kernel_rfl) rfl ?_; clear S; intro a S
        refine d_skip 11 S hsel rfl rfl rfl rfl (neq_t hb5) rfl (by kernel_rfl) (by kernel_rfl) rfl ?_; clear S; intro a S
        refine d_skip 12 S hsel rfl rfl rfl rfl (neq_t hb5) rfl (by kernel_rfl) (by kernel_rfl) rfl ?_; clear S; intro a S
        refine d_skipU 13 S hsel rfl rfl rfl rfl rfl (by kernel_rfl) (by kernel_rfl) rfl ?_; clear S; intro a S
        refine d_skipU 14 S hsel rfl rfl rfl rfl rfl (by kernel_rfl) (by kernel_rfl) rfl ?_; clear S; intro a S
        refine d_skipU 15 S hsel rfl rfl rfl rfl rfl (by kernel_rfl) (by kernel_rfl) rfl ?_; clear S; intro a S
        refine d_skipU 16 S hsel rfl rfl rfl rfl rfl (by kernel_rfl) (by kernel_rfl) rfl ?_; clear S; intro a S
        refine d_skipU 17 S hsel rfl rfl rfl rfl rfl (by kernel_rfl) (by kernel_rfl) rfl ?_; clear S; intro a S
        refine d_skipU 18 S hsel rfl rfl rfl rfl rfl (by kernel_rfl) (by kernel_rfl) rfl ?_; clear S; intro a S
        refine d_skip 19 S hsel rfl rfl rfl rfl (neq_t hb5) rfl (by kernel_rfl) (by kernel_rfl) rfl ?_; clear S; intro a S
        refine d_quiet 20 S hsel rfl rfl rfl (by kernel_rfl) (by kernel_rfl) rfl (fun _ hw => (rn_pick_b hb5 (S.tm rfl) rfl)) ?_; clear S; intro a S
        refine d_quiet 21 S hsel rfl rfl rfl (by kernel_rfl) (by kernel_rfl) rfl (fun _ hw => (rn_move (S.tm rfl))) ?_; clear S; intro a S
        refine d_quiet_g 22 S hsel rfl rfl rfl rfl hb6 rfl rfl (by kernel_rfl) (by kernel_rfl) rfl (fun _ hw => (rn_move (S.tm rfl))) ?_; clear S; intro a S
        refine d_quiet_g 23 S hsel rfl rfl rfl rfl hb6 rfl rfl (by kernel_rfl) (by kernel_rfl) rfl (fun _ hw => (rn_nilCheck (S.tm rfl))) ?_; clear S; intro a S
        refine d_quiet_g 24 S hsel rfl rfl rfl rfl hb6 rfl rfl (by kernel_rfl) (by kernel_rfl) rfl (fun _ hw => (rn_fld fa_70_2 (S.tm rfl))) ?_; clear S; intro a S
        refine d_quiet_g 25 S hsel rfl rfl rfl rfl hb6 rfl rfl (by kernel_rfl) (by kernel_rfl) rfl (fun _ hw => (rn_ld Tryd.isAgg31 (off := 0) (o := 2) (S.tm rfl) ((S.blk_mem (i := 1) (cells := [v_p_c_l, iV p_c_bound, v3, v4, iV x4, bV x5]) (b := b_p_c) (T := 70) rfl (ne_nil (e' := .blk b_p_c [v_p_c_l, iV p_c_bound, v3, v4, iV x4, bV x5] 70))).kept hw) rfl)) ?_; clear S; intro a S
        refine d_quiet_g 26 S hsel rfl rfl rfl rfl hb6 rfl rfl (by kernel_rfl) (by kernel_rfl) rfl (fun _ hw => (rn_fld fa_36_0 (S.tm rfl))) ?_; clear S; intro a S
        refine d_quiet_g 27 S hsel rfl rfl rfl rfl hb6 rfl rfl (by kernel_rfl) (by kernel_rfl) rfl (fun _ hw => (rn_ld Tryd.isAgg9 (off := 0) (o := 0) (S.tm rfl) ((S.blk_mem (i := 0) (cells := [sV y1.Who, u2.val]) (b := b2) (T := 36) rfl (ne_nil (e' := .blk b2 [sV y1.Who, u2.val] 36))).kept hw) rfl)) ?_; clear S; intro a S
        refine d_loud1 28 (by kernel_rfl) rfl (l_want S rfl rfl rfl hb6 (l_enter S (fun _ => run_call (vs := [v3, sV y1.Who]) ⟨(S.tm rfl), (S.tm rfl), trivial⟩ Tryd.call11) (slices_Contains_string_ok _ v3 x6 (own_slcT enc_str S (i := 2) rfl (ne_nil (e' := .own v3 9 1 x6.length (x6.flatMap eStr)))) y1.Who _ rfl) rfl ?_)); clear S; intro v9 a w18 hv4 hk12 hn4 S
        subst hv4
        refine l_done (d_next hk12 (d_rest [29] hsel (by kernel_rfl) rfl ?_))
        clear hsel
        refine s_lv S rfl (rn_pick_c hb6 (S.tm rfl) (S.tm rfl)) rfl ?_; clear S; intro a S
        refine s_done ?_
        replace S := S.nk [.blk b2 [sV y1.Who, u2.val] 36, .blk b_p_c [v_p_c_l, iV p_c_bound, v3, v4, iV x4, bV x5] 70, .own v3 9 1 x6.length (x6.flatMap eStr), .own v4 9 1 x7.length (x7.flatMap eStr)] [(0, .pointer (some ⟨b_p_c, 0, none⟩)), (1, iV p_guests), (2, iV p_sum), (6, iV (p_c_now.length : Int)), (8, .pointer (some ⟨b2, 0, none⟩)), (9, iV x12), (48, v_p_c_l), (49, iV (p_c_l.length : Int)), (50, iV (i1 : Int)), (82, .pointer (some ⟨b_p_c, 0, none⟩)), (83, .pointer (some ⟨b_p_c, 0, none⟩)), (84, .pointer (some ⟨b_p_c, 2, none⟩)), (85, v3), (86, .pointer (some ⟨b2, 0, none⟩)), (87, sV y1.Who), (88, bV (slices_Contains_string x6 y1.Who)), (89, bV (slices_Contains_string x6 y1.Who))] [true, true, true, true] rfl (subR rfl)
        refine then_n ?_
        exact ⟨(slices_Contains_string x6 y1.Who), h, S.nf [true, true, true, true] rfl (subR rfl)⟩
      ·replace h := iteF h hb5
       rcases Bool.eq_false_or_eq_true (decide (0 < p_c_bound)) with hb7 | hb7
       ·replace h := iteT h hb7
        rcases Bool.eq_false_or_eq_true (decide (p_c_bound < x12)) with hb8 | hb8
        ·replace h := iteT h hb8
         refine d_region [] ([]) Tryd.mixed S rfl (by kernel_rfl) ?_; clear S; intro w19 hk13 hsel S
         refine d_rest [0, 1, 2, 3, 4, 5, 6, 7, 8, 9, 10, 11, 12, 13, 14, 15, 16, 17, 18, 19, 20, 21, 22, 23, 24, 25, 26, 27, 28, 29] hsel (by kernel_rfl) rfl ?_
         clear hsel
         refine s_lv S rfl (rn_fld fa_36_1 (S.tm rfl)) rfl ?_; clear S; intro a S
         refine s_lv S rfl (rn_load Tryd.isAgg22 (S.tm rfl) (S.cell (i := 0) rfl rfl)) rfl ?_; clear S; intro a S
         refine s_lv S rfl (rn_move (S.tm rfl)) rfl ?_; clear S; intro a S
         obtain ⟨hc3, h⟩ := chkE h
         obtain ⟨b10, o9, hm9, hr11⟩ := rn_indexT (a := a) (x := .tmp 61) (y := .tmp 62) (ty := 0) sl_22 hs1 (inB_get hc3).1 (inB_get hc3).2 (S.tm rfl) (S.tm rfl)
         refine s_lv S rfl (hr11 _) rfl ?_; clear S; intro a S
         clear hr11
         refine s_lv S rfl (rn_ld Tryd.isAgg3 (off := o9) (o := 0) (S.tm rfl) (hm9.at S.emb0) rfl) rfl ?_; clear S; intro a S
         refine s_lv S rfl (rn_eql (S.tm rfl) rfl) rfl ?_; clear S; intro a S
         refine s_lv S rfl (rn_move (S.tm rfl)) rfl ?_; clear S; intro a S
         refine s_want S rfl rfl rfl rfl hb5 (s_lv0 S (rn_move (S.tm rfl)) rfl ?_); clear S; intro a S
         refine s_want S rfl rfl rfl rfl hb5 (s_lv0 S (rn_nilCheck (S.tm rfl)) rfl ?_); clear S; intro a S
         refine s_want S rfl rfl rfl rfl hb5 (s_lv0 S (rn_fld fa_70_1 (S.tm rfl)) rfl ?_); clear S; intro a S
         refine s_want S rfl rfl rfl rfl hb5 (s_lv0 S (rn_load Tryd.isAgg3 (S.tm rfl) (S.cell (i := 1) rfl rfl)) rfl ?_); clear S; intro a S
         refine s_want S rfl rfl rfl rfl hb5 (s_lv0 S (rn_gtr (S.tm rfl) rfl) rfl ?_); clear S; intro a S
         refine s_want S rfl rfl rfl rfl hb5 (s_lv0 S (rn_move (S.tm rfl)) rfl ?_); clear S; intro a S
         refine s_want S rfl rfl rfl rfl hb7 (s_lv0 S (rn_move (S.tm rfl)) rfl ?_); clear S; intro a S
         refine s_want S rfl rfl rfl rfl hb7 (s_lv0 S (rn_move (S.tm rfl)) rfl ?_); clear S; intro a S
         refine s_want S rfl rfl rfl rfl hb7 (s_lv0 S (rn_nilCheck (S.tm rfl)) rfl ?_); clear S; intro a S
         refine s_want S rfl rfl rfl rfl hb7 (s_lv0 S (rn_fld fa_70_1 (S.tm rfl)) rfl ?_); clear S; intro a S
         refine s_want S rfl rfl rfl rfl hb7 (s_lv0 S (rn_load Tryd.isAgg3 (S.tm rfl) (S.cell (i := 1) rfl rfl)) rfl ?_); clear S; intro a S
         refine s_want S rfl rfl rfl rfl hb7 (s_lv0 S (rn_gtr (S.tm rfl) (S.tm rfl)) rfl ?_); clear S; intro a S
         refine s_want S rfl rfl rfl rfl hb5 (s_lv0 S (rn_pick_b hb7 (S.tm rfl) (S.tm rfl)) rfl ?_); clear S; intro a S
         refine s_lv S rfl (rn_pick_c hb5 (S.tm rfl) (S.tm rfl)) rfl ?_; clear S; intro a S
         refine s_lv S rfl (rn_move (S.tm rfl)) rfl ?_; clear S; intro a S
         iterate 7 (refine s_skip S rfl rfl rfl rfl (neq_t hb8) rfl ?_ rfl; clear S; intro a S)
         refine s_lv S rfl (rn_pick_b hb8 (S.tm rfl) rfl) rfl ?_; clear S; intro a S
         refine s_done ?_
         replace S := S.nk [.blk b2 [sV y1.Who, u2.val] 36, .blk b_p_c [v_p_c_l, iV p_c_bound, v3, v4, iV x4, bV x5] 70, .own v3 9 1 x6.length (x6.flatMap eStr), .own v4 9 1 x7.length (x7.flatMap eStr)] [(0, .pointer (some ⟨b_p_c, 0, none⟩)), (1, iV p_guests), (2, iV p_sum), (6, iV (p_c_now.length : Int)), (8, .pointer (some ⟨b2, 0, none⟩)), (9, iV x12), (48, v_p_c_l), (49, iV (p_c_l.length : Int)), (50, iV (i1 : Int)), (67, .pointer (some ⟨b_p_c, 0, none⟩)), (68, .pointer (some ⟨b_p_c, 0, none⟩)), (69, .pointer (some ⟨b_p_c, 1, none⟩)), (70, iV p_c_bound), (71, bV (decide (0 < p_c_bound))), (72, bV (decide (0 < p_c_bound))), (73, iV x12), (74, .pointer (some ⟨b_p_c, 0, none⟩)), (75, .pointer (some ⟨b_p_c, 0, none⟩)), (76, .pointer (some ⟨b_p_c, 1, none⟩)), (77, iV p_c_bound), (78, bV (decide (p_c_bound < x12))), (79, bV (decide (p_c_bound < x12))), (89, bV true)] [true, true, true, true] rfl (subR rfl)
         refine then_n ?_
         exact ⟨true, h, S.nf [true, true, true, true] rfl (subR rfl)⟩
        ·replace h := iteF h hb8
         refine d_region [] ([]) Tryd.mixed S rfl (by kernel_rfl) ?_; clear S; intro w21 hk15 hsel S
         refine d_quiet 0 S hsel rfl rfl rfl (by kernel_rfl) (by kernel_rfl) rfl (fun _ hw => (rn_fld fa_36_1 (S.tm rfl))) ?_; clear S; intro a S
         refine d_quiet 1 S hsel rfl rfl rfl (by kernel_rfl) (by kernel_rfl) rfl (fun _ hw => (rn_ld Tryd.isAgg22 (off := 0) (o := 1) (S.tm rfl) ((S.blk_mem (i := 0) (cells := [sV y1.Who, u2.val]) (b := b2) (T := 36) rfl (ne_nil (e' := .blk b2 [sV y1.Who, u2.val] 36))).kept hw) rfl)) ?_; clear S; intro a S
         refine d_quiet 2 S hsel rfl rfl rfl (by kernel_rfl) (by kernel_rfl) rfl (fun _ hw => (rn_move (S.tm rfl))) ?_; clear S; intro a S
         obtain ⟨b12, o11, hm11, hr13⟩ := rn_indexT (a := a) (x := .tmp 61) (y := .tmp 62) (ty := 0) sl_22 (hs1.mono (S.le_arg nil_sub)) (inB_get hc1).1 (inB_get hc1).2 (S.tm rfl) (S.tm rfl)
         refine d_quiet 3 S hsel rfl rfl rfl (by kernel_rfl) (by kernel_rfl) rfl (fun _ hw => hr13 _) ?_; clear S; intro a S
         clear hr13
         refine d_quiet 4 S hsel rfl rfl rfl (by kernel_rfl) (by kernel_rfl) rfl (fun _ hw => (rn_ld Tryd.isAgg3 (off := o11) (o := 0) (S.tm rfl) (hm11.kept hw) rfl)) ?_; clear S; intro a S
         refine d_quiet 5 S hsel rfl rfl rfl (by kernel_rfl) (by kernel_rfl) rfl (fun _ hw => (rn_eql (S.tm rfl) rfl)) ?_; clear S; intro a S
         refine d_quiet 6 S hsel rfl rfl rfl (by kernel_rfl) (by kernel_rfl) rfl (fun _ hw => (rn_move (S.tm rfl))) ?_; clear S; intro a S
         refine d_quiet_g 7 S hsel rfl rfl rfl rfl hb5 rfl rfl (by kernel_rfl) (by kernel_rfl) rfl (fun _ hw => (rn_move (S.tm rfl))) ?_; clear S; intro a S
         refine d_quiet_g 8 S hsel rfl rfl rfl rfl hb5 rfl rfl (by kernel_rfl) (by kernel_rfl) rfl (fun _ hw => (rn_nilCheck (S.tm rfl))) ?_; clear S; intro a S
         refine d_quiet_g 9 S hsel rfl rfl rfl rfl hb5 rfl rfl (by kernel_rfl) (by kernel_rfl) rfl (fun _ hw => (rn_fld fa_70_1 (S.tm rfl))) ?_; clear S; intro a S
         refine d_quiet_g 10 S hsel rfl rfl rfl rfl hb5 rfl rfl (by kernel_rfl) (by kernel_rfl) rfl (fun _ hw => (rn_ld Tryd.isAgg3 (off := 0) (o := 1) (S.tm rfl) ((S.blk_mem (i := 1) (cells := [v_p_c_l, iV p_c_bound, v3, v4, iV x4, bV x5]) (b := b_p_c) (T := 70) rfl (ne_nil (e' := .blk b_p_c [v_p_c_l, iV p_c_bound, v3, v4, iV x4, bV x5] 70))).kept hw) rfl)) ?_; clear S; intro a S
         refine d_quiet_g 11 S hsel rfl rfl rfl rfl hb5 rfl rfl (by kernel_rfl) (by kernel_rfl) rfl (fun _ hw => (rn_gtr (S.tm rfl) rfl)) ?_; clear S; intro a S
         refine d_quiet_g 12 S hsel rfl rfl rfl rfl hb5 rfl rfl (by kernel_rfl) (by kernel_rfl) rfl (fun _ hw => (rn_move (S.tm rfl))) ?_; clear S; intro a S
         refine d_quiet_g 13 S hsel rfl rfl rfl rfl hb7 rfl rfl (by kernel_rfl) (by kernel_rfl) rfl (fun _ hw => (rn_move (S.tm rfl))) ?_; clear S; intro a S
         refine d_quiet_g 14 S hsel rfl rfl rfl rfl hb7 rfl rfl (by kernel_rfl) (by kernel_rfl) rfl (fun _ hw => (rn_move (S.tm rfl))) ?_; clear S; intro a S
         refine d_quiet_g 15 S hsel rfl rfl rfl rfl hb7 rfl rfl (by kernel_rfl) (by kernel_rfl) rfl (fun _ hw => (rn_nilCheck (S.tm rfl))) ?_; clear S; intro a S
         refine d_quiet_g 16 S hsel rfl rfl rfl rfl hb7 rfl rfl (by kernel_rfl) (by kernel_rfl) rfl (fun _ hw => (rn_fld fa_70_1 (S.tm rfl))) ?_; clear S; intro a S
         refine d_quiet_g 17 S hsel rfl rfl rfl rfl hb7 rfl rfl (by kernel_rfl) (by kernel_rfl) rfl (fun _ hw => (rn_ld Tryd.isAgg3 (off := 0) (o := 1) (S.tm rfl) ((S.blk_mem (i := 1) (cells := [v_p_c_l, iV p_c_bound, v3, v4, iV x4, bV x5]) (b := b_p_c) (T := 70) rfl (ne_nil (e' := .blk b_p_c [v_p_c_l, iV p_c_bound, v3, v4, iV x4, bV x5] 70))).kept hw) rfl)) ?_; clear S; intro a S
         refine d_quiet_g 18 S hsel rfl rfl rfl rfl hb7 rfl rfl (by kernel_rfl) (by kernel_rfl) rfl (fun _ hw => (rn_gtr (S.tm rfl) (S.tm rfl))) ?_; clear S; intro a S
         refine d_quiet_g 19 S hsel rfl rfl rfl rfl hb5 rfl rfl (by kernel_rfl) (by kernel_rfl) rfl (fun _ hw => (rn_pick_b hb7 (S.tm rfl) (S.tm rfl))) ?_; clear S; intro a S
         refine d_quiet 20 S hsel rfl rfl rfl (by kernel_rfl) (by kernel_rfl) rfl (fun _ hw => (rn_pick_c hb5 (S.tm rfl) (S.tm rfl))) ?_; clear S; intro a S
         refine d_quiet 21 S hsel rfl rfl rfl (by kernel_rfl) (by kernel_rfl) rfl (fun _ hw => (rn_move (S.tm rfl))) ?_; clear S; intro a S
         refine d_quiet_g 22 S hsel rfl rfl rfl rfl hb8 rfl rfl (by kernel_rfl) (by kernel_rfl) rfl (fun _ hw => (rn_move (S.tm rfl))) ?_; clear S; intro a S
         refine d_quiet_g 23 S hsel rfl rfl rfl rfl hb8 rfl rfl (by kernel_rfl) (by kernel_rfl) rfl (fun _ hw => (rn_nilCheck (S.tm rfl))) ?_; clear S; intro a S
         refine d_quiet_g 24 S hsel rfl rfl rfl rfl hb8 rfl rfl (by kernel_rfl) (by kernel_rfl) rfl (fun _ hw => (rn_fld fa_70_2 (S.tm rfl))) ?_; clear S; intro a S
         refine d_quiet_g 25 S hsel rfl rfl rfl rfl hb8 rfl rfl (by kernel_rfl) (by kernel_rfl) rfl (fun _ hw => (rn_ld Tryd.isAgg31 (off := 0) (o := 2) (S.tm rfl) ((S.blk_mem (i := 1) (cells := [v_p_c_l, iV p_c_bound, v3, v4, iV x4, bV x5]) (b := b_p_c) (T := 70) rfl (ne_nil (e' := .blk b_p_c [v_p_c_l, iV p_c_bound, v3, v4, iV x4, bV x5] 70))).kept hw) rfl)) ?_; clear S; intro a S
         refine d_quiet_g 26 S hsel rfl rfl rfl rfl hb8 rfl rfl (by kernel_rfl) (by kernel_rfl) rfl (fun _ hw => (rn_fld fa_36_0 (S.tm rfl))) ?_; clear S; intro a S
         refine d_quiet_g 27 S hsel rfl rfl rfl rfl hb8 rfl rfl (by kernel_rfl) (by kernel_rfl) rfl (fun _ hw => (rn_ld Tryd.isAgg9 (off := 0) (o := 0) (S.tm rfl) ((S.blk_mem (i := 0) (cells := [sV y1.Who, u2.val]) (b := b2) (T := 36) rfl (ne_nil (e' := .blk b2 [sV y1.Who, u2.val] 36))).kept hw) rfl)) ?_; clear S; intro a S
         refine d_loud1 28 (by kernel_rfl) rfl (l_want S rfl rfl rfl hb8 (l_enter S (fun _ => run_call (vs := [v3, sV y1.Who]) ⟨(S.tm rfl), (S.tm rfl), trivial⟩ Tryd.call11) (slices_Contains_string_ok _ v3 x6 (own_slcT enc_str S (i := 2) rfl (ne_nil (e' := .own v3 9 1 x6.length (x6.flatMap eStr)))) y1.Who _ rfl) rfl ?_)); clear S; intro v11 a w22 hv6 hk16 hn6 S
         subst hv6
         refine l_done (d_next hk16 (d_rest [29] hsel (by kernel_rfl) rfl ?_))
         clear hsel
         refine s_lv S rfl (rn_pick_c hb8 (S.tm rfl) (S.tm rfl)) rfl ?_; clear S; intro a S
         refine s_done ?_
         replace S := S.nk [.blk b2 [sV y1.Who, u2.val] 36, .blk b_p_c [v_p_c_l, iV p_c_bound, v3, v4, iV x4, bV x5] 70, .own v3 9 1 x6.length (x6.flatMap eStr), .own v4 9 1 x7.length (x7.flatMap eStr)] [(0, .pointer (some ⟨b_p_c, 0, none⟩)), (1, iV p_guests), (2, iV p_sum), (6, iV (p_c_now.length : Int)), (8, .pointer (some ⟨b2, 0, none⟩)), (9, iV x12), (48, v_p_c_l), (49, iV (p_c_l.length : Int)), (50, iV (i1 : Int)), (67, .pointer (some ⟨b_p_c, 0, none⟩)), (68, .pointer (some ⟨b_p_c, 0, none⟩)), (69, .pointer (some ⟨b_p_c, 1, none⟩)), (70, iV p_c_bound), (71, bV (decide (0 < p_c_bound))), (72, bV (decide (0 < p_c_bound))), (73, iV x12), (74, .pointer (some ⟨b_p_c, 0, none⟩)), (75, .pointer (some ⟨b_p_c, 0, none⟩)), (76, .pointer (some ⟨b_p_c, 1, none⟩)), (77, iV p_c_bound), (78, bV (decide (p_c_bound < x12))), (79, bV (decide (p_c_bound < x12))), (82, .pointer (some ⟨b_p_c, 0, none⟩)), (83, .pointer (some ⟨b_p_c, 0, none⟩)), (84, .pointer (some ⟨b_p_c, 2, none⟩)), (85, v3), (86, .pointer (some ⟨b2, 0, none⟩)), (87, sV y1.Who), (88, bV (slices_Contains_string x6 y1.Who)), (89, bV (slices_Contains_string x6 y1.Who))] [true, true, true, true] rfl (subR rfl)
         refine then_n ?_
         exact ⟨(slices_Contains_string x6 y1.Who), h, S.nf [true, true, true, true] rfl (subR rfl)⟩
       ·replace h := iteF h hb7
        rcases Bool.eq_false_or_eq_true false with hb9 | hb9
        ·replace h := iteT h hb9
         refine d_region [] ([]) Tryd.mixed S rfl (by kernel_rfl) ?_; clear S; intro w23 hk17 hsel S
         refine d_rest [0, 1, 2, 3, 4, 5, 6, 7, 8, 9, 10, 11, 12, 13, 14, 15, 16, 17, 18, 19, 20, 21, 22, 23, 24, 25, 26, 27, 28, 29] hsel (by kernel_rfl) rfl ?_
         clear hsel
         refine s_lv S rfl (rn_fld fa_36_1 (S.tm rfl)) rfl ?_; clear S; intro a S
         refine s_lv S rfl (rn_load Tryd.isAgg22 (S.tm rfl) (S.cell (i := 0) rfl rfl)) rfl ?_; clear S; intro a S
         refine s_lv S rfl (rn_move (S.tm rfl)) rfl ?_; clear S; intro a S
         obtain ⟨hc4, h⟩ := chkE h
         obtain ⟨b14, o13, hm13, hr15⟩ := rn_indexT (a := a) (x := .tmp 61) (y := .tmp 62) (ty := 0) sl_22 hs1 (inB_get hc4).1 (inB_get hc4).2 (S.tm rfl) (S.tm rfl)
         refine s_lv S rfl (hr15 _) rfl ?_; clear S; intro a S
         clear hr15
         refine s_lv S rfl (rn_ld Tryd.isAgg3 (off := o13) (o := 0) (S.tm rfl) (hm13.at S.emb0) rfl) rfl ?_; clear S; intro a S
         refine s_lv S rfl (rn_eql (S.tm rfl) rfl) rfl ?_; clear S; intro a S
         refine s_lv S rfl (rn_move (S.tm rfl)) rfl ?_; clear S; intro a S
         refine s_want S rfl rfl rfl rfl hb5 (s_lv0 S (rn_move (S.tm rfl)) rfl ?_); clear S; intro a S
         refine s_want S rfl rfl rfl rfl hb5 (s_lv0 S (rn_nilCheck (S.tm rfl)) rfl ?_); clear S; intro a S
         refine s_want S rfl rfl rfl rfl hb5 (s_lv0 S (rn_fld fa_70_1 (S.tm rfl)) rfl ?_); clear S; intro a S
         refine s_want S rfl rfl rfl rfl hb5 (s_lv0 S (rn_load Tryd.isAgg3 (S.tm rfl) (S.cell (i := 1) rfl rfl)) rfl ?_); clear S; intro a S
         refine s_want S rfl rfl rfl rfl hb5 (s_lv0 S (rn_gtr (S.tm rfl) rfl) rfl ?_); clear S; intro a S
         refine s_want S rfl rfl rfl rfl hb5 (s_lv0 S (rn_move (S.tm rfl)) rfl ?_); clear S; intro a S
         iterate 6 (refine s_skip S rfl rfl rfl rfl (neq_f hb7) rfl ?_ rfl; clear S; intro a S)
         refine s_want S rfl rfl rfl rfl hb5 (s_lv0 S (rn_pick_c hb7 (S.tm rfl) rfl) rfl ?_); clear S; intro a S
         refine s_lv S rfl (rn_pick_c hb5 (S.tm rfl) (S.tm rfl)) rfl ?_; clear S; intro a S
         refine s_lv S rfl (rn_move (S.tm rfl)) rfl ?_; clear S; intro a S
         iterate 7 (refine s_skip S rfl rfl rfl rfl (neq_t hb9) rfl ?_ rfl; clear S; intro a S)
         refine s_lv S rfl (rn_pick_b hb9 (S.tm rfl) rfl) rfl ?_; clear S; intro a S
         refine s_done ?_
         replace S := S.nk [.blk b2 [sV y1.Who, u2.val] 36, .blk b_p_c [v_p_c_l, iV p_c_bound, v3, v4, iV x4, bV x5] 70, .own v3 9 1 x6.length (x6.flatMap eStr), .own v4 9 1 x7.length (x7.flatMap eStr)] [(0, .pointer (some ⟨b_p_c, 0, none⟩)), (1, iV p_guests), (2, iV p_sum), (6, iV (p_c_now.length : Int)), (8, .pointer (some ⟨b2, 0, none⟩)), (9, iV x12), (48, v_p_c_l), (49, iV (p_c_l.length : Int)), (50, iV (i1 : Int)), (67, .pointer (some ⟨b_p_c, 0, none⟩)), (68, .pointer (some ⟨b_p_c, 0, none⟩)), (69, .pointer (some ⟨b_p_c, 1, none⟩)), (70, iV p_c_bound), (71, bV (decide (0 < p_c_bound))), (72, bV (decide (0 < p_c_bound))), (79, bV false), (89, bV true)] [true, true, true, true] rfl (subR rfl)
         refine then_n ?_
         exact ⟨true, h, S.nf [true, true, true, true] rfl (subR rfl)⟩
        ·replace h := iteF h hb9
         refine d_region [] ([]) Tryd.mixed S rfl (by kernel_rfl) ?_; clear S; intro w25 hk19 hsel S
         refine d_quiet 0 S hsel rfl rfl rfl (by kernel_rfl) (by kernel_rfl) rfl (fun _ hw => (rn_fld fa_36_1 (S.tm rfl))) ?_; clear S; intro a S
         refine d_quiet 1 S hsel rfl rfl rfl (by kernel_rfl) (by kernel_rfl) rfl (fun _ hw => (rn_ld Tryd.isAgg22 (off := 0) (o := 1) (S.tm rfl) ((S.blk_mem (i := 0) (cells := [sV y1.Who, u2.val]) (b := b2) (T := 36) rfl (ne_nil (e' := .blk b2 [sV y1.Who, u2.val] 36))).kept hw) rfl)) ?_; clear S; intro a S
         refine d_quiet 2 S hsel rfl rfl rfl (by kernel_rfl) (by kernel_rfl) rfl (fun _ hw => (rn_move (S.tm rfl))) ?_; clear S; intro a S
         obtain ⟨b16, o15, hm15, hr17⟩ := rn_indexT (a := a) (x := .tmp 61) (y := .tmp 62) (ty := 0) sl_22 (hs1.mono (S.le_arg nil_sub)) (inB_get hc1).1 (inB_get hc1).2 (S.tm rfl) (S.tm rfl)
         refine d_quiet 3 S hsel rfl rfl rfl (by kernel_rfl) (by kernel_rfl) rfl (fun _ hw => hr17 _) ?_; clear S; intro a S
         clear hr17
         refine d_quiet 4 S hsel rfl rfl rfl (by kernel_rfl) (by kernel_rfl) rfl (fun _ hw => (rn_ld Tryd.isAgg3 (off := o15) (o := 0) (S.tm rfl) (hm15.kept hw) rfl)) ?_; clear S; intro a S
         refine d_quiet 5 S hsel rfl rfl rfl (by kernel_rfl) (by kernel_rfl) rfl (fun _ hw => (rn_eql (S.tm rfl) rfl)) ?_; clear S; intro a S
         refine d_quiet 6 S hsel rfl rfl rfl (by kernel_rfl) (by kernel_rfl) rfl (fun _ hw => (rn_move (S.tm rfl))) ?_; clear S; intro a S
         refine d_quiet_g 7 S hsel rfl rfl rfl rfl hb5 rfl rfl (by kernel_rfl) (by kernel_rfl) rfl (fun _ hw => (rn_move (S.tm rfl))) ?_; clear S; intro a S
         refine d_quiet_g 8 S hsel rfl rfl rfl rfl hb5 rfl rfl (by kernel_rfl) (by kernel_rfl) rfl (fun _ hw => (rn_nilCheck (S.tm rfl))) ?_; clear S; intro a S
         refine d_quiet_g 9 S hsel rfl rfl rfl rfl hb5 rfl rfl (by kernel_rfl) (by kernel_rfl) rfl (fun _ hw => (rn_fld fa_70_1 (S.tm rfl))) ?_; clear S; intro a S
         refine d_quiet_g 10 S hsel rfl rfl rfl rfl hb5 rfl rfl (by kernel_rfl) (by kernel_rfl) rfl (fun _ hw => (rn_ld Tryd.isAgg3 (off := 0) (o := 1) (S.tm rfl) ((S.blk_mem (i := 1) (cells := [v_p_c_l, iV p_c_bound, v3, v4, iV x4, bV x5]) (b := b_p_c) (T := 70) rfl (ne_nil (e' := .blk b_p_c [v_p_c_l, iV p_c_bound, v3, v4, iV x4, bV x5] 70))).kept hw) rfl)) ?_; clear S; intro a S
         refine d_quiet_g 11 S hsel rfl rfl rfl rfl hb5 rfl rfl (by kernel_rfl) (by kernel_rfl) rfl (fun _ hw => (rn_gtr (S.tm rfl) rfl)) ?_; clear S; intro a S
         refine d_quiet_g 12 S hsel rfl rfl rfl rfl hb5 rfl rfl (by kernel_rfl) (by kernel_rfl) rfl (fun _ hw => (rn_move (S.tm rfl))) ?_; clear S; intro a S
         refine d_skip 13 S hsel rfl rfl rfl rfl (neq_f hb7) rfl (by kernel_rfl) (by kernel_rfl) rfl ?_; clear S; intro a S
         refine d_skip 14 S hsel rfl rfl rfl rfl (neq_f hb7) rfl (by kernel_rfl) (by kernel_rfl) rfl ?_; clear S; intro a S
         refine d_skip 15 S hsel rfl rfl rfl rfl (neq_f hb7) rfl (by kernel_rfl) (by kernel_rfl) rfl ?_; clear S; intro a S
         refine d_skip 16 S hsel rfl rfl rfl rfl (neq_f hb7) rfl (by kernel_rfl) (by kernel_rfl) rfl ?_; clear S; intro a S
         refine d_skip 17 S hsel rfl rfl rfl rfl (neq_f hb7) rfl (by kernel_rfl) (by kernel_rfl) rfl ?_; clear S; intro a S
         refine d_skip 18 S hsel rfl rfl rfl rfl (neq_f hb7) rfl (by kernel_rfl) (by kernel_rfl) rfl ?_; clear S; intro a S
         refine d_quiet_g 19 S hsel rfl rfl rfl rfl hb5 rfl rfl (by kernel_rfl) (by kernel_rfl) rfl (fun _ hw => (rn_pick_c hb7 (S.tm rfl) rfl)) ?_; clear S; intro a S
         refine d_quiet 20 S hsel rfl rfl rfl (by kernel_rfl) (by kernel_rfl) rfl (fun _ hw => (rn_pick_c hb5 (S.tm rfl) (S.tm rfl))) ?_; clear S; intro a S
         refine d_quiet 21 S hsel rfl rfl rfl (by kernel_rfl) (by kernel_rfl) rfl (fun _ hw => (rn_move (S.tm rfl))) ?_; clear S; intro a S
         refine d_quiet_g 22 S hsel rfl rfl rfl rfl hb9 rfl rfl (by kernel_rfl) (by kernel_rfl) rfl (fun _ hw => (rn_move (S.tm rfl))) ?_; clear S; intro a S
         refine d_quiet_g 23 S hsel rfl rfl rfl rfl hb9 rfl rfl (by kernel_rfl) (by kernel_rfl) rfl (fun _ hw => (rn_nilCheck (S.tm rfl))) ?_; clear S; intro a S
         refine d_quiet_g 24 S hsel rfl rfl rfl rfl hb9 rfl rfl (by kernel_rfl) (by kernel_rfl) rfl (fun _ hw => (rn_fld fa_70_2 (S.tm rfl))) ?_; clear S; intro a S
         refine d_quiet_g 25 S hsel rfl rfl rfl rfl hb9 rfl rfl (by kernel_rfl) (by kernel_rfl) rfl (fun _ hw => (rn_ld Tryd.isAgg31 (off := 0) (o := 2) (S.tm rfl) ((S.blk_mem (i := 1) (cells := [v_p_c_l, iV p_c_bound, v3, v4, iV x4, bV x5]) (b := b_p_c) (T := 70) rfl (ne_nil (e' := .blk b_p_c [v_p_c_l, iV p_c_bound, v3, v4, iV x4, bV x5] 70))).kept hw) rfl)) ?_; clear S; intro a S
         refine d_quiet_g 26 S hsel rfl rfl rfl rfl hb9 rfl rfl (by kernel_rfl) (by kernel_rfl) rfl (fun _ hw => (rn_fld fa_36_0 (S.tm rfl))) ?_; clear S; intro a S
         refine d_quiet_g 27 S hsel rfl rfl rfl rfl hb9 rfl rfl (by kernel_rfl) (by kernel_rfl) rfl (fun _ hw => (rn_ld Tryd.isAgg9 (off := 0) (o := 0) (S.tm rfl) ((S.blk_mem (i := 0) (cells := [sV y1.Who, u2.val]) (b := b2) (T := 36) rfl (ne_nil (e' := .blk b2 [sV y1.Who, u2.val] 36))).kept hw) rfl)) ?_; clear S; intro a S
         refine d_loud1 28 (by kernel_rfl) rfl (l_want S rfl rfl rfl hb9 (l_enter S (fun _ => run_call (vs := [v3, sV y1.Who]) ⟨(S.tm rfl), (S.tm rfl), trivial⟩ Tryd.call11) (slices_Contains_string_ok _ v3 x6 (own_slcT enc_str S (i := 2) rfl (ne_nil (e' := .own v3 9 1 x6.length (x6.flatMap eStr)))) y1.Who _ rfl) rfl ?_)); clear S; intro v13 a w26 hv8 hk20 hn8 S
         subst hv8
         refine l_done (d_next hk20 (d_rest [29] hsel (by kernel_rfl) rfl ?_))
         clear hsel
         refine s_lv S rfl (rn_pick_c hb9 (S.tm rfl) (S.tm rfl)) rfl ?_; clear S; intro a S
         refine s_done ?_
         replace S := S.nk [.blk b2 [sV y1.Who, u2.val] 36, .blk b_p_c [v_p_c_l, iV p_c_bound, v3, v4, iV x4, bV x5] 70, .own v3 9 1 x6.length (x6.flatMap eStr), .own v4 9 1 x7.length (x7.flatMap eStr)] [(0, .pointer (some ⟨b_p_c, 0, none⟩)), (1, iV p_guests), (2, iV p_sum), (6, iV (p_c_now.length : Int)), (8, .pointer (some ⟨b2, 0, none⟩)), (9, iV x12), (48, v_p_c_l), (49, iV (p_c_l.length : Int)), (50, iV (i1 : Int)), (67, .pointer (some ⟨b_p_c, 0, none⟩)), (68, .pointer (some ⟨b_p_c, 0, none⟩)), (69, .pointer (some ⟨b_p_c, 1, none⟩)), (70, iV p_c_bound), (71, bV (decide (0 < p_c_bound))), (72, bV (decide (0 < p_c_bound))), (79, bV false), (82, .pointer (some ⟨b_p_c, 0, none⟩)), (83, .pointer (some ⟨b_p_c, 0, none⟩)), (84, .pointer (some ⟨b_p_c, 2, none⟩)), (85, v3), (86, .pointer (some ⟨b2, 0, none⟩)), (87, sV y1.Who), (88, bV (slices_Contains_string x6 y1.Who)), (89, bV (slices_Contains_string x6 y1.Who))] [true, true, true, true] rfl (subR rfl)
         refine then_n ?_
         exact ⟨(slices_Contains_string x6 y1.Who), h, S.nf [true, true, true, true] rfl (subR rfl)⟩
     clear S h; rintro a w14 ⟨x13, h, S⟩; rw [hj5] at h; clear hj5 j5
     refine then_n (f_cond (S.tm rfl) (fun hb10 => ?_) (fun hb10 => ?_))
     ·replace h := iteT h hb10
      refine wp_exit (then_x (x_same (then_n ?_)))
      exact ⟨x4, x5, x6, x7, v3, v4, h, S.nf [false, true, true, true] rfl (subR rfl)⟩
     ·replace h := iteF h hb10
      refine wp_skip (then_n (f_seq ?_))
      obtain ⟨hc5, h⟩ := chkE h
      refine d_region [11] (v3.ownBlock.toList) Tryd.mixed S rfl (by kernel_rfl) ?_; clear S; intro w30 hk24 hsel S
      refine d_pure 0 S hsel rfl rfl (by kernel_rfl) (by kernel_rfl) rfl (fun _ => (rn_move (S.tm rfl))) ?_; clear S; intro a S
      refine d_pure 1 S hsel rfl rfl (by kernel_rfl) (by kernel_rfl) rfl (fun _ => (rn_move (S.tm rfl))) ?_; clear S; intro a S
      refine d_pure 2 S hsel rfl rfl (by kernel_rfl) (by kernel_rfl) rfl (fun _ => (rn_nilCheck (S.tm rfl))) ?_; clear S; intro a S
      refine d_pure 3 S hsel rfl rfl (by kernel_rfl) (by kernel_rfl) rfl (fun _ => (rn_fld fa_70_2 (S.tm rfl))) ?_; clear S; intro a S
      refine d_quiet 4 S hsel rfl (by kernel_rfl) (by kernel_rfl) (by kernel_rfl) (by kernel_rfl) rfl (fun _ hw => (rn_ld Tryd.isAgg31 (off := 0) (o := 2) (S.tm rfl) ((S.blk_mem (i := 1) (cells := [v_p_c_l, iV p_c_bound, v3, v4, iV x4, bV x5]) (b := b_p_c) (T := 70) rfl (ne_fp (i := 2) (j := 1) (e := .own v3 9 1 x6.length (x6.flatMap eStr)) (e' := .blk b_p_c [v_p_c_l, iV p_c_bound, v3, v4, iV x4, bV x5] 70) S rfl rfl rfl)).kept hw) rfl)) ?_; clear S; intro a S
      refine d_pure 5 S hsel rfl rfl (by kernel_rfl) (by kernel_rfl) rfl (fun _ => (rn_fld fa_36_0 (S.tm rfl))) ?_; clear S; intro a S
      refine d_quiet 6 S hsel rfl (by kernel_rfl) (by kernel_rfl) (by kernel_rfl) (by kernel_rfl) rfl (fun _ hw => (rn_ld Tryd.isAgg9 (off := 0) (o := 0) (S.tm rfl) ((S.blk_mem (i := 0) (cells := [sV y1.Who, u2.val]) (b := b2) (T := 36) rfl (ne_fp (i := 2) (j := 0) (e := .own v3 9 1 x6.length (x6.flatMap eStr)) (e' := .blk b2 [sV y1.Who, u2.val] 36) S rfl rfl rfl)).kept hw) rfl)) ?_; clear S; intro a S
      refine d_loud1 7 (by kernel_rfl) rfl (l_buildSlice S Tryd.underlying31 Tryd.sizeOf9 Tryd.zeroValue9 rfl rfl (pv := [(0, sV y1.Who)]) ⟨rfl, (S.tm rfl), trivial⟩ (cs := [sV y1.Who]) (by kernel_rfl) rfl ?_); clear S; intro a w31 b18 hz4 hk25 S
      refine l_done (d_next (Keep.none hk25) (d_loud1 8 (by kernel_rfl) rfl ?_))
      refine l_appendT sl_31 enc_str S (S.tm rfl) (i := 3) rfl (S.tm rfl) (j := 0) rfl (ys := [y1.Who]) rfl rfl rfl rfl (by have := room_lt hc5; omega) rfl ?_; clear S; intro v15 a w32 hk26 S
      refine l_done (d_next hk26 (d_pure 9 S hsel rfl rfl (by kernel_rfl) (by kernel_rfl) rfl (fun _ => (rn_nilCheck (S.tm rfl))) ?_)); clear S; intro a S
      refine d_pure 10 S hsel rfl rfl (by kernel_rfl) (by kernel_rfl) rfl (fun _ => (rn_fld fa_70_2 (S.tm rfl))) ?_; clear S; intro a S
      refine d_loudB 11 (v15.ownBlock.toList ++ [b_p_c]) rfl (by kernel_rfl) rfl (l_store S (S.tm rfl) (S.tm rfl) (i := 2) (off := 2) rfl Tryd.sizeOf31 (vs := [v15]) (SlcLen.cells (own_len (S.own_at (i := 3) rfl))) rfl rfl (all1 (SlcLen.one (own_len (S.own_at (i := 3) rfl))) rfl) ?_); clear S; intro w33 hk27 S
      refine l_done (d_nextB (d_end (by kernel_rfl) ?_))
      clear hsel
      replace S := S.nk [.blk b2 [sV y1.Who, u2.val] 36, .blk b_p_c [v_p_c_l, iV p_c_bound, v15, v4, iV x4, bV x5] 70, .own v15 9 1 (x6 ++ [y1.Who]).length ((x6 ++ [y1.Who]).flatMap eStr), .own v4 9 1 x7.length (x7.flatMap eStr)] [(0, .pointer (some ⟨b_p_c, 0, none⟩)), (1, iV p_guests), (2, iV p_sum), (6, iV (p_c_now.length : Int)), (8, .pointer (some ⟨b2, 0, none⟩)), (9, iV x12), (48, v_p_c_l), (49, iV (p_c_l.length : Int)), (50, iV (i1 : Int))] [false, true, true, true, true] rfl (subR rfl)
      refine then_n (f_seq (f_region (lv S (rn_move (S.tm rfl)) rfl ?_))); clear S; intro a S
      refine lv S (rn_move (S.tm rfl)) rfl ?_; clear S; intro a S
      refine lv S (rn_move (S.tm rfl)) rfl ?_; clear S; intro a S
      refine lv S (rn_fld fa_36_1 (S.tm rfl)) rfl ?_; clear S; intro a S
      refine lv S (rn_load Tryd.isAgg22 (S.tm rfl) (S.cell (i := 0) rfl rfl)) rfl ?_; clear S; intro a S
      refine lv S (rn_move (S.tm rfl)) rfl ?_; clear S; intro a S
      obtain ⟨hc6, h⟩ := chkE h
      obtain ⟨b19, o16, hm16, hr18⟩ := rn_indexT (a := a) (x := .tmp 105) (y := .tmp 106) (ty := 0) sl_22 hs1 (inB_get hc6).1 (inB_get hc6).2 (S.tm rfl) (S.tm rfl)
      refine lv S (hr18 _) rfl ?_; clear S; intro a S
      clear hr18
      refine lv S (rn_ld Tryd.isAgg3 (off := o16) (o := 0) (S.tm rfl) (hm16.at S.emb0) rfl) rfl ?_; clear S; intro a S
      refine lv S (rn_add (S.tm rfl) (S.tm rfl)) rfl ?_; clear S; intro a S
      obtain ⟨r4, hr19, h⟩ := bindE h
      refine l_enterG [1, 2, 3] [0] (Ls := [.blk b_p_c [v_p_c_l, iV p_c_bound, v15, v4, iV x4, bV x5] 70, .own v15 9 1 (x6 ++ [y1.Who]).length ((x6 ++ [y1.Who]).flatMap eStr), .own v4 9 1 x7.length (x7.flatMap eStr)]) (Lr := [.blk b2 [sV y1.Who, u2.val] 36]) (Y := [b_p_c] ++ v15.ownBlock.toList ++ v4.ownBlock.toList) S rfl rfl rfl (by simp [fps_cons, fps_nil, LEnt.fp]) (fun _ => run_call (vs := [.pointer (some ⟨b_p_c, 0, none⟩), iV x12, iV (W (p_sum + (nth y1.Times (p_c_now.length : Int))))]) ⟨(S.tm rfl), (S.tm rfl), (S.tm rfl), trivial⟩ Tryd.call28) (hself _ ([b_p_c] ++ v15.ownBlock.toList ++ v4.ownBlock.toList) b_p_c v_p_c_l p_c_l rs_p_c_l (hs_p_c_l.mono (S.le_arg (app_sub (app_sub (fp_sub (i := 1) (e := .blk b_p_c [v_p_c_l, iV p_c_bound, v15, v4, iV x4, bV x5] 70) rfl) (fp_sub (i := 2) (e := .own v15 9 1 (x6 ++ [y1.Who]).length ((x6 ++ [y1.Who]).flatMap eStr)) rfl)) (fp_sub (i := 3) (e := .own v4 9 1 x7.length (x7.flatMap eStr)) rfl)))) (rels_36 (S.le_arg (app_sub (app_sub (fp_sub (i := 1) (e := .blk b_p_c [v_p_c_l, iV p_c_bound, v15, v4, iV x4, bV x5] 70) rfl) (fp_sub (i := 2) (e := .own v15 9 1 (x6 ++ [y1.Who]).length ((x6 ++ [y1.Who]).flatMap eStr)) rfl)) (fp_sub (i := 3) (e := .own v4 9 1 x7.length (x7.flatMap eStr)) rfl))) hr_p_c_l) p_c_bound v15 (x6 ++ [y1.Who]) (S.holds _ (List.mem_of_getElem? (i := 2) rfl)) v4 x7 (S.holds _ (List.mem_of_getElem? (i := 3) rfl)) x4 x5 (S.holds _ (List.mem_of_getElem? (i := 1) rfl)) x12 (W (p_sum + (nth y1.Times (p_c_now.length : Int)))) (S.ndg [1, 2, 3] [0] rfl rfl rfl (by simp [fps_cons, fps_nil, LEnt.fp])) (by simp [fps_cons, fps_nil, LEnt.fp]) _ hr19) rfl ?_; clear S; intro v16 a w34 hv9 hk28 hn9 S
      obtain ⟨v17, v18, hg2, hv9⟩ := hv9; replace S := S _ hg2; clear hg2
      subst hv9
      refine l_done ?_
      replace S := S.nk [.blk b_p_c [v_p_c_l, iV p_c_bound, v17, v18, iV r4.2.2.1, bV r4.2.2.2] 70, .own v17 9 1 r4.1.length (r4.1.flatMap eStr), .own v18 9 1 r4.2.1.length (r4.2.1.flatMap eStr)] [(0, .pointer (some ⟨b_p_c, 0, none⟩)), (1, iV p_guests), (2, iV p_sum), (6, iV (p_c_now.length : Int)), (48, v_p_c_l), (49, iV (p_c_l.length : Int)), (50, iV (i1 : Int))] [true, true, true, false] rfl (subR rfl)
      refine then_n (f_region (lv S (rn_move (S.tm rfl)) rfl ?_)); clear S; intro a S
      refine lv S (rn_move (S.tm rfl)) rfl ?_; clear S; intro a S
      refine lv S (rn_nilCheck (S.tm rfl)) rfl ?_; clear S; intro a S
      refine lv S (rn_fld fa_70_2 (S.tm rfl)) rfl ?_; clear S; intro a S
      refine lv S (rn_load Tryd.isAgg31 (S.tm rfl) (S.cell (i := 0) rfl rfl)) rfl ?_; clear S; intro a S
      refine lv S (rn_move (S.tm rfl)) rfl ?_; clear S; intro a S
      obtain ⟨hc7, h⟩ := chkE h
      obtain ⟨u3, hu1, hr20⟩ := rn_subh (a := a) (x := .tmp 115) (y' := .tmp 116) (ty := 31) sl_31 S (i := 1) rfl (S.tm rfl) (S.tm rfl) hc7
      refine lv S (hr20 _) rfl ?_; clear S; intro a S
      clear hr20
      obtain ⟨S, hz5⟩ := S.ownCut (zh := (p_c_now.length : Int)) enc_str (i := 1) rfl hu1
      refine lv S (rn_nilCheck (S.tm rfl)) rfl ?_; clear S; intro a S
      refine lv S (rn_fld fa_70_2 (S.tm rfl)) rfl ?_; clear S; intro a S
      refine l_store S (S.tm rfl) (S.tm rfl) (i := 0) (off := 2) rfl Tryd.sizeOf31 (vs := [u3]) (SlcLen.cells (own_len (S.own_at (i := 1) rfl))) rfl rfl (all1 (SlcLen.one (own_len (S.own_at (i := 1) rfl))) rfl) ?_; clear S; intro w35 hk29 S
      refine l_done ?_
      replace S := S.nk [.blk b_p_c [v_p_c_l, iV p_c_bound, u3, v18, iV r4.2.2.1, bV r4.2.2.2] 70, .own u3 9 1 (cut r4.1 (0 : Int) (p_c_now.length : Int)).length ((cut r4.1 (0 : Int) (p_c_now.length : Int)).flatMap eStr), .own v18 9 1 r4.2.1.length (r4.2.1.flatMap eStr)] [(0, .pointer (some ⟨b_p_c, 0, none⟩)), (1, iV p_guests), (2, iV p_sum), (6, iV (p_c_now.length : Int)), (48, v_p_c_l), (49, iV (p_c_l.length : Int)), (50, iV (i1 : Int))] [true, true, true] rfl (subR rfl)
      refine blk_n (then_n ?_)
      exact ⟨r4.2.2.1, r4.2.2.2, (cut r4.1 (0 : Int) (p_c_now.length : Int)), r4.2.1, u3, v18, h, S.nf [true, true, true] rfl (subR rfl)⟩
    clear S h; rintro a w9 ⟨x8, x9, x10, x11, v5, v6, h, S⟩; rw [hj3] at h; clear hj3 j3
    refine then_n (f_region (lv S (rn_add (S.tm rfl) rfl) rfl ?_)); clear S; intro a S
    refine lv S (rn_move (S.tm rfl)) rfl ?_; clear S; intro a S
    refine l_done (then_n ?_)
    exact ⟨ys1, ⟨i1 + 1, x8, x9, x10, x11, v5, v6, ⟨_, (hd1).trans (List.append_cons _ _ _), by simp [hi1]⟩, h, S.nf [true, true, true] rfl ⟨rfl, rfl, rfl, rfl, rfl, rfl, (congrArg (fun z => some (Value.int .i64 z)) (rng_next hd1 hi1 (slc_maxD hs_p_c_l hr_p_c_l))), trivial⟩⟩, Nat.lt_succ_self _⟩
  clear S h; rintro a w8 ⟨x4, x5, x6, x7, v3, v4, h, S⟩; rw [hj2] at h; clear hj2 j2
  obtain rfl := Option.some.inj h
  exact f_ret0 S Tryd.results28 ⟨v3, v4, S.grp [0, 1, 2] [] rfl rfl rfl, rfl⟩
theorem crew_try_ok (m : Nat) : ∀ (w : World) (X : List Nat) (b_p_c : Nat) (v_p_c_l : Value) (p_c_l : List GLeg) (rs_p_c_l : List R36) (hs_p_c_l : Slc (view w X) 2 v_p_c_l (rs_p_c_l.map R36.enc)) (hr_p_c_l : All2 (rel_36 (view w X)) p_c_l rs_p_c_l) (p_c_bound : Int) (v_p_c_now : Value) (p_c_now : List ByteArray) (hb_v_p_c_now : (LEnt.own v_p_c_now 9 1 p_c_now.length (p_c_now.flatMap eStr)).holds w) (v_p_c_names : Value) (p_c_names : List ByteArray) (hb_v_p_c_names : (LEnt.own v_p_c_names 9 1 p_c_names.length (p_c_names.flatMap eStr)).holds w) (p_c_sum : Int) (p_c_found : Bool) (hb_b_p_c : (LEnt.blk b_p_c [v_p_c_l, iV p_c_bound, v_p_c_now, v_p_c_names, iV p_c_sum, bV p_c_found] 70).holds w) (p_guests : Int) (p_sum : Int) (hXn : X.Nodup) (hXe : X = fps [.blk b_p_c [v_p_c_l, iV p_c_bound, v_p_c_now, v_p_c_names, iV p_c_sum, bV p_c_found] 70, .own v_p_c_now 9 1 p_c_now.length (p_c_now.flatMap eStr), .own v_p_c_names 9 1 p_c_names.length (p_c_names.flatMap eStr)]) (r : (List ByteArray) × (List ByteArray) × Int × Bool) (_ : crew_try m p_c_l p_c_bound p_c_now p_c_names p_c_sum p_c_found p_guests p_sum = some r),
    Calls Tryd.prog 28 [.pointer (some ⟨b_p_c, 0, none⟩), iV p_guests, iV p_sum].toArray w (Ret w X fun _ v w' => ∃ y1 y2 : Value, Grp w w' X [.blk b_p_c [v_p_c_l, iV p_c_bound, y1, y2, iV r.2.2.1, bV r.2.2.2] 70, .own y1 9 1 r.1.length (r.1.flatMap eStr), .own y2 9 1 r.2.1.length (r.2.1.flatMap eStr)] ∧ v = .tuple #[]) := by
  induction m with
  | zero => intros; rename_i h; rw [crew_try] at h; cases h
  | succ m ih => exact fun w X b_p_c v_p_c_l p_c_l rs_p_c_l hs_p_c_l hr_p_c_l p_c_bound v_p_c_now p_c_now hb_v_p_c_now v_p_c_names p_c_names hb_v_p_c_names p_c_sum p_c_found hb_b_p_c p_guests p_sum hXn hXe r h => crew_try_s_ok (crew_try m) ih w X b_p_c v_p_c_l p_c_l rs_p_c_l hs_p_c_l hr_p_c_l p_c_bound v_p_c_now p_c_now hb_v_p_c_now v_p_c_names p_c_names hb_v_p_c_names p_c_sum p_c_found hb_b_p_c p_guests p_sum hXn hXe r h
set_option maxRecDepth 20000 in
theorem swimmer_Fastest_ok (w : World) (v_p_l : Value) (p_l : List GLeg) (rs_p_l : List R36) (hs_p_l : Slc (view w []) 2 v_p_l (rs_p_l.map R36.enc)) (hr_p_l : All2 (rel_36 (view w [])) p_l rs_p_l) (p_b : Int) (r : (List ByteArray) × Int × Bool × Int) (h : swimmer_Fastest p_l p_b = some r) :
    Calls Tryd.prog 7 [v_p_l, iV p_b].toArray w (Ret w [] fun τ v _ => ∃ u1 : Value, v = .tuple #[u1, iV r.2.1, bV r.2.2.1, iV r.2.2.2] ∧ OwnV τ 9 1 u1 r.1.length (r.1.flatMap eStr)) := by
 refine f_enter [] [] Tryd.func7 rfl Tryd.ntmps7 rfl (by simp) (by simp [fps]) (by simp [fps]) fun a S => ?_
 unfold swimmer_Fastest at h
 replace S := S.nk [] [(0, v_p_l), (1, iV p_b)] [] rfl (subR rfl)
 refine f_seq (f_region (lv S (rn_assign rfl) rfl ?_)); clear S; intro a S
 iterate 3 (refine lv S (rn_assign rfl) rfl ?_; clear S; intro a S)
 refine l_done (then_n (f_seq (f_seq (f_region (lv S (rn_move (S.tm rfl)) rfl ?_))))); clear S; intro a S
 obtain ⟨r1, hr1, h⟩ := bindE h
 refine l_enter S (fun _ => run_call (vs := [v_p_l]) ⟨(S.tm rfl), trivial⟩ Tryd.call26) (swimmer_CheckLegs_ok _ v_p_l p_l rs_p_l (hs_p_l.mono (S.le_arg nil_sub)) (rels_36 (S.le_arg nil_sub) hr_p_l) _ hr1) rfl ?_; clear S; intro v1 a w1 hv1 hk1 hn1 S
 subst hv1
 refine lv S (rn_assign (S.tm rfl)) rfl ?_; clear S; intro a S
 refine l_done (then_n (f_seq (f_region (lv S (rn_move (S.tm rfl)) rfl ?_)))); clear S; intro a S
 refine lv S (rn_neq (S.tm rfl) rfl) rfl ?_; clear S; intro a S
 refine l_done (then_n (f_cond (S.tm rfl) (fun hb1 => ?_) (fun hb1 => ?_)))
 ·replace h := iteT h hb1
  refine f_seq (f_region (lv S (rn_move (S.tm rfl)) rfl ?_)); clear S; intro a S
  iterate 3 (refine lv S (rn_assign rfl) rfl ?_; clear S; intro a S)
  refine lv S (rn_assign (S.tm rfl)) rfl ?_; clear S; intro a S
  refine l_done (then_n (wp_ret (then_r ?_)))
  obtain rfl := Option.some.inj h
  exact f_ret4 S Tryd.results7 rfl rfl rfl rfl ⟨_, rfl, (ownV_nil _ _ _)⟩
 ·replace h := iteF h hb1
  refine wp_skip (then_n (f_seq (f_seq (f_region (lv S (rn_move (S.tm rfl)) rfl ?_))))); clear S; intro a S
  refine l_enter S (fun _ => run_call (vs := [iV p_b, iV 0, iV 4]) ⟨(S.tm rfl), rfl, rfl, trivial⟩ Tryd.call27) (words_Within_ok _ p_b 0 4 _ rfl) rfl ?_; clear S; intro v2 a w2 hv2 hk2 hn2 S
  subst hv2
  refine lv S (rn_not (S.tm rfl)) rfl ?_; clear S; intro a S
  refine l_done (then_n (f_cond (S.tm rfl) (fun hb2 => ?_) (fun hb2 => ?_)))
  ·replace h := iteT h hb2
   refine f_seq (f_region (lv S (rn_assign rfl) rfl ?_)); clear S; intro a S
   iterate 3 (refine lv S (rn_assign rfl) rfl ?_; clear S; intro a S)
   refine l_done (then_n (wp_ret (then_r ?_)))
   obtain rfl := Option.some.inj h
   exact f_ret4 S Tryd.results7 rfl rfl rfl rfl ⟨_, rfl, (ownV_nil _ _ _)⟩
  ·replace h := iteF h hb2
   refine wp_skip (then_n (f_seq (f_region (lv S (rn_move (S.tm rfl)) rfl ?_)))); clear S; intro a S
   refine lv S (rn_move (S.tm rfl)) rfl ?_; clear S; intro a S
   refine lv S (rn_bld bt_70 (pv := [(0, v_p_l), (1, iV p_b)]) ⟨rfl, (S.tm rfl), rfl, (S.tm rfl), trivial⟩ (cs := [v_p_l, iV p_b, .slice none 0 0, .slice none 0 0, iV 0, bV false]) (by obtain ⟨_, _, hv⟩ := (slc_lenD hs_p_l hr_p_l); rw [hv]; clear hv; kernel_rfl)) rfl ?_; clear S; intro a S
   refine l_box S (S.tm rfl) (cs := [v_p_l, iV p_b, .slice none 0 0, .slice none 0 0, iV 0, bV false]) rfl rfl ?_; clear S; intro a w3 b1 hz1 hk3 S
   refine lv S (rn_assign (S.tm rfl)) rfl ?_; clear S; intro a S
   refine l_done ?_
   replace S := S.nk [.blk b1 [v_p_l, iV p_b, .slice none 0 0, .slice none 0 0, iV 0, bV false] 70] [(9, .pointer (some ⟨b1, 0, none⟩))] [true] rfl ⟨rfl, trivial⟩
   refine then_n (f_seq (f_region (lv S (rn_move (S.tm rfl)) rfl ?_))); clear S; intro a S
   replace S := S.nil 9 1
   replace S := S.nil 9 1
   obtain ⟨r2, hr2, h⟩ := bindE h
   refine l_enterG [2, 1, 0] [] (Ls := [.blk b1 [v_p_l, iV p_b, (.slice none 0 0), (.slice none 0 0), iV 0, bV false] 70, .own (.slice none 0 0) 9 1 ([] : List ByteArray).length (([] : List ByteArray).flatMap eStr), .own (.slice none 0 0) 9 1 ([] : List ByteArray).length (([] : List ByteArray).flatMap eStr)]) (Lr := []) (Y := [b1] ++ (Value.ownBlock (.slice none 0 0)).toList ++ (Value.ownBlock (.slice none 0 0)).toList) S rfl rfl rfl (by simp [fps_cons, fps_nil, LEnt.fp]) (fun _ => run_call (vs := [.pointer (some ⟨b1, 0, none⟩), iV 0, iV 0]) ⟨(S.tm rfl), rfl, rfl, trivial⟩ Tryd.call28) (crew_try_ok 16 _ ([b1] ++ (Value.ownBlock (.slice none 0 0)).toList ++ (Value.ownBlock (.slice none 0 0)).toList) b1 v_p_l p_l rs_p_l (hs_p_l.mono (S.le_arg (app_sub (app_sub (fp_sub (i := 2) (e := .blk b1 [v_p_l, iV p_b, (.slice none 0 0), (.slice none 0 0), iV 0, bV false] 70) rfl) (fp_sub (i := 1) (e := .own (.slice none 0 0) 9 1 ([] : List ByteArray).length (([] : List ByteArray).flatMap eStr)) rfl)) (fp_sub (i := 0) (e := .own (.slice none 0 0) 9 1 ([] : List ByteArray).length (([] : List ByteArray).flatMap eStr)) rfl)))) (rels_36 (S.le_arg (app_sub (app_sub (fp_sub (i := 2) (e := .blk b1 [v_p_l, iV p_b, (.slice none 0 0), (.slice none 0 0), iV 0, bV false] 70) rfl) (fp_sub (i := 1) (e := .own (.slice none 0 0) 9 1 ([] : List ByteArray).length (([] : List ByteArray).flatMap eStr)) rfl)) (fp_sub (i := 0) (e := .own (.slice none 0 0) 9 1 ([] : List ByteArray).length (([] : List ByteArray).flatMap eStr)) rfl))) hr_p_l) p_b (.slice none 0 0) ([] : List ByteArray) (S.holds _ (List.mem_of_getElem? (i := 1) rfl)) (.slice none 0 0) ([] : List ByteArray) (S.holds _ (List.mem_of_getElem? (i := 0) rfl)) 0 false (S.holds _ (List.mem_of_getElem? (i := 2) rfl)) 0 0 (S.ndg [2, 1, 0] [] rfl rfl rfl (by simp [fps_cons, fps_nil, LEnt.fp])) (by simp [fps_cons, fps_nil, LEnt.fp]) _ hr2) rfl ?_; clear S; intro v3 a w4 hv3 hk4 hn3 S
   obtain ⟨v4, v5, hg1, hv3⟩ := hv3; replace S := S _ hg1; clear hg1
   subst hv3
   refine l_done (then_n (f_seq (d_region [] ([]) Tryd.mixed S rfl (by kernel_rfl) ?_))); clear S; intro w5 hk5 hsel S
   refine d_rest [0, 1, 2, 3, 4, 5, 6, 7, 8, 9, 10, 11, 12, 13, 14, 15] hsel (by kernel_rfl) rfl ?_
   clear hsel
   refine s_lv S rfl (rn_move (S.tm rfl)) rfl ?_; clear S; intro a S
   refine s_lv S rfl (rn_nilCheck (S.tm rfl)) rfl ?_; clear S; intro a S
   refine s_lv S rfl (rn_fld fa_70_3 (S.tm rfl)) rfl ?_; clear S; intro a S
   refine s_lv S rfl (rn_load Tryd.isAgg31 (S.tm rfl) (S.cell (i := 0) rfl rfl)) rfl ?_; clear S; intro a S
   refine s_lv S rfl (rn_move (S.tm rfl)) rfl ?_; clear S; intro a S
   refine s_lv S rfl (rn_nilCheck (S.tm rfl)) rfl ?_; clear S; intro a S
   refine s_lv S rfl (rn_fld fa_70_4 (S.tm rfl)) rfl ?_; clear S; intro a S
   refine s_lv S rfl (rn_load Tryd.isAgg3 (S.tm rfl) (S.cell (i := 0) rfl rfl)) rfl ?_; clear S; intro a S
   refine s_lv S rfl (rn_move (S.tm rfl)) rfl ?_; clear S; intro a S
   refine s_lv S rfl (rn_nilCheck (S.tm rfl)) rfl ?_; clear S; intro a S
   refine s_lv S rfl (rn_fld fa_70_5 (S.tm rfl)) rfl ?_; clear S; intro a S
   refine s_lv S rfl (rn_load Tryd.isAgg4 (S.tm rfl) (S.cell (i := 0) rfl rfl)) rfl ?_; clear S; intro a S
   iterate 3 (refine s_lv S rfl (rn_assign (S.tm rfl)) rfl ?_; clear S; intro a S)
   refine s_lv S rfl (rn_assign rfl) rfl ?_; clear S; intro a S
   refine s_done ?_
   replace S := S.nk [.own v5 9 1 r2.2.1.length (r2.2.1.flatMap eStr)] [(4, v5), (5, iV r2.2.2.1), (6, bV r2.2.2.2), (7, iV 0)] [false, false, true] rfl (subR rfl)
   refine then_n (wp_ret ?_)
   obtain rfl := Option.some.inj h
   exact f_ret4 S Tryd.results7 rfl rfl rfl rfl ⟨_, rfl, (own_retT S (i := 0) rfl rfl)⟩
theorem tumbkeep2_RelaysAreFastest_c1_c1_ok (w : World) (p_x : GLeg) (q_p_x : R36) (hq_p_x : rel_36 (view w []) p_x q_p_x) (b_p_a1 : Nat) (p_a1 : ByteArray) (hb_b_p_a1 : (view w []) b_p_a1 = some (.cells [sV p_a1].toArray 9 (0, 0))) (r : Bool) (h : tumbkeep2_RelaysAreFastest_c1_c1 p_x p_a1 = r) :
    Calls Tryd.prog 10 [.agg (R36.enc q_p_x).toArray, .pointer (some ⟨b_p_a1, 0, none⟩)].toArray w (Ret w [] fun _ v _ => v = bV r) := by
 obtain ⟨u1, rfl, hs1⟩ := hq_p_x
 refine f_enter [] [] Tryd.func10 rfl Tryd.ntmps10 rfl (by simp) (by simp [fps]) (by simp [fps]) fun a S => ?_
 unfold tumbkeep2_RelaysAreFastest_c1_c1 at h
 replace S := S.nk [] [(0, .agg #[sV p_x.Who, u1.val]), (1, .pointer (some ⟨b_p_a1, 0, none⟩))] [] rfl (subR rfl)
 refine f_seq (f_region (l_box S (S.tm rfl) (cs := [sV p_x.Who, u1.val]) rfl rfl ?_)); clear S; intro a w1 b1 hz1 hk1 S
 refine lv S (rn_assign rfl) rfl ?_; clear S; intro a S
 refine l_done (then_n (f_seq (f_region (lv S (rn_fld fa_36_0 (S.tm rfl)) rfl ?_)))); clear S; intro a S
 refine lv S (rn_load Tryd.isAgg9 (S.tm rfl) (S.cell (i := 0) rfl rfl)) rfl ?_; clear S; intro a S
 refine lv S (rn_ld Tryd.isAgg9 (off := 0) (o := 0) (S.tm rfl) ((mem_blk hb_b_p_a1).at S.emb0) rfl) rfl ?_; clear S; intro a S
 refine lv S (rn_seql (S.tm rfl) (S.tm rfl)) rfl ?_; clear S; intro a S
 refine lv S (rn_assign (S.tm rfl)) rfl ?_; clear S; intro a S
 refine l_done (then_n (wp_ret ?_))
 subst h
 exact f_ret S Tryd.results10 rfl rfl
theorem slices_IndexFunc_Leg_tumbkeep2_RelaysAreFastest_c1_c1_ok (w : World) (v_p_s : Value) (p_s : List GLeg) (rs_p_s : List R36) (hs_p_s : Slc (view w []) 2 v_p_s (rs_p_s.map R36.enc)) (hr_p_s : All2 (rel_36 (view w [])) p_s rs_p_s) (b_p_f_0 : Nat) (p_f_0 : ByteArray) (hb_b_p_f_0 : (view w []) b_p_f_0 = some (.cells [sV p_f_0].toArray 9 (0, 0))) (r : Int) (h : slices_IndexFunc_Leg_tumbkeep2_RelaysAreFastest_c1_c1 p_s p_f_0 = r) :
    Calls Tryd.prog 9 [v_p_s, .func (.func 10) #[] #[.pointer (some ⟨b_p_f_0, 0, none⟩)]].toArray w (Ret w [] fun _ v _ => v = iV r) := by
 refine f_enter [] [] Tryd.func9 rfl Tryd.ntmps9 rfl (by simp) (by simp [fps]) (by simp [fps]) fun a S => ?_
 unfold slices_IndexFunc_Leg_tumbkeep2_RelaysAreFastest_c1_c1 at h
 replace S := S.nk [] [(0, v_p_s), (1, .func (.func 10) #[] #[.pointer (some ⟨b_p_f_0, 0, none⟩)])] [] rfl (subR rfl)
 refine f_seq (f_region (lv S (rn_assign rfl) rfl ?_)); clear S; intro a S
 refine l_done (then_n (f_seq (f_seq (f_region (lv S (rn_move (S.tm rfl)) rfl ?_))))); clear S; intro a S
 refine lv S (rn_lenT sl_26 (S.tm rfl) (slc_lenD hs_p_s hr_p_s)) rfl ?_; clear S; intro a S
 refine lv S (rn_move rfl) rfl ?_; clear S; intro a S
 refine l_done (then_n ?_)
 replace S := S.nk [] [(0, v_p_s), (1, .func (.func 10) #[] #[.pointer (some ⟨b_p_f_0, 0, none⟩)]), (7, iV (p_s.length : Int)), (8, iV 0)] [] rfl (subR rfl)
 obtain ⟨j1, hj1, h⟩ := joinE h
 refine f_join (fun a w' => j1 = r ∧ Sx w [] nov [] [] 19 a w') ?_ ?_
 ·refine wp_block (f_loop (fun (ys1 : List GLeg) a w' => ∃ i1 : Nat, (∃ dn, p_s = dn ++ ys1 ∧ dn.length = i1) ∧ slices_IndexFunc_Leg_tumbkeep2_RelaysAreFastest_c1_c1_l1 p_f_0 j1 ys1 i1 = r ∧ Sx w [] nov [] [(0, v_p_s), (1, .func (.func 10) #[] #[.pointer (some ⟨b_p_f_0, 0, none⟩)]), (7, iV (p_s.length : Int)), (8, iV (i1 : Int))] 19 a w') List.length p_s ⟨0, ⟨[], rfl, rfl⟩, h, S.nf [] rfl (subR rfl)⟩ ?_)
  clear S h; rintro ys1 a w1 ⟨i1, ⟨dn, hd1, hi1⟩, h, S⟩
  cases ys1 with
  | nil =>
   rw [slices_IndexFunc_Leg_tumbkeep2_RelaysAreFastest_c1_c1_l1.eq_1] at h
   refine f_seq (f_region (lv S (rn_lss (S.tm rfl) (S.tm rfl)) rfl ?_)); clear S; intro a S
   refine l_done ?_
   replace S := S.nk [] [(0, v_p_s), (1, .func (.func 10) #[] #[.pointer (some ⟨b_p_f_0, 0, none⟩)]), (7, iV (p_s.length : Int)), (8, iV (i1 : Int)), (9, bV (decide ((i1 : Int) < (p_s.length : Int))))] [] rfl (subR rfl)
   refine then_n (f_seq (wp_cond_false ((S.tm rfl).trans (congrArg Value.bool (rng_nil hd1 hi1))) (wp_exit (then_x (then_x (x_same ?_))))))
   refine then_n ?_
   exact ⟨h, S.nf [] rfl trivial⟩
  | cons y1 ys1 =>
   rw [slices_IndexFunc_Leg_tumbkeep2_RelaysAreFastest_c1_c1_l1.eq_2] at h
   refine f_seq (f_region (lv S (rn_lss (S.tm rfl) (S.tm rfl)) rfl ?_)); clear S; intro a S
   refine l_done ?_
   replace S := S.nk [] [(0, v_p_s), (1, .func (.func 10) #[] #[.pointer (some ⟨b_p_f_0, 0, none⟩)]), (7, iV (p_s.length : Int)), (8, iV (i1 : Int)), (9, bV (decide ((i1 : Int) < (p_s.length : Int))))] [] rfl (subR rfl)
   refine then_n (f_seq (wp_cond_true ((S.tm rfl).trans (congrArg Value.bool (rng_cons hd1 hi1))) (wp_skip (then_n (f_seq (wp_block ?_))))))
   refine f_seq (f_region (lv S (rn_move (S.tm rfl)) rfl ?_)); clear S; intro a S
   refine lv S (rn_assign (S.tm rfl)) rfl ?_; clear S; intro a S
   refine l_done (then_n (f_seq (f_region (lv S (rn_move (S.tm rfl)) rfl ?_)))); clear S; intro a S
   refine lv S (rn_move (S.tm rfl)) rfl ?_; clear S; intro a S
   refine lv S (rn_move (S.tm rfl)) rfl ?_; clear S; intro a S
   obtain ⟨r1, hg1, hl1⟩ := All2.at hr_p_s (get_mid hd1 hi1)
   obtain ⟨u1, rfl, hs1⟩ := hl1
   obtain ⟨b1, o1, hm1, hr1⟩ := rn_indexT (a := a) (x := .tmp 12) (y := .tmp 13) (ty := 0) sl_26 hs_p_s hg1 rfl (S.tm rfl) (S.tm rfl)
   refine lv S (hr1 _) rfl ?_; clear S; intro a S
   clear hr1
   refine lv S (rn_ldA Tryd.isAgg36 Tryd.sizeOf36 (off := o1) (o := 0) (part := [sV y1.Who, u1.val]) rfl rfl (S.tm rfl) (hm1.at S.emb0)) rfl ?_; clear S; intro a S
   refine l_enter S (fun _ => run_callV (cap := [.pointer (some ⟨b_p_f_0, 0, none⟩)]) (S.tm rfl) (vs := [.agg (R36.enc (R36.mk y1.Who u1)).toArray]) ⟨(S.tm rfl), trivial⟩ Tryd.call10) (tumbkeep2_RelaysAreFastest_c1_c1_ok _ y1 (R36.mk y1.Who u1) ⟨u1, rfl, (hs1.mono (S.le_arg nil_sub))⟩ b_p_f_0 p_f_0 ((S.le_arg nil_sub) _ _ hb_b_p_f_0) _ rfl) rfl ?_; clear S; intro v1 a w3 hv1 hk1 hn1 S
   subst hv1
   refine l_done (then_n (f_cond (S.tm rfl) (fun hb1 => ?_) (fun hb1 => ?_)))
   ·replace h := iteT h hb1
    refine f_seq (f_region (lv S (rn_move (S.tm rfl)) rfl ?_)); clear S; intro a S
    refine lv S (rn_assign (S.tm rfl)) rfl ?_; clear S; intro a S
    refine l_done ?_
    replace S := S.nk [] [(4, iV (i1 : Int))] [] rfl ⟨rfl, trivial⟩
    refine then_n (wp_ret (blk_r (then_r (then_r (blk_r (then_r ?_))))))
    refine then_r ?_
    subst h
    exact f_ret S Tryd.results9 rfl rfl
   ·replace h := iteF h hb1
    refine wp_skip (blk_n (then_n (f_region (lv S (rn_add (S.tm rfl) rfl) rfl ?_)))); clear S; intro a S
    refine lv S (rn_move (S.tm rfl)) rfl ?_; clear S; intro a S
    refine l_done (then_n ?_)
    exact ⟨ys1, ⟨i1 + 1, ⟨_, (hd1).trans (List.append_cons _ _ _), by simp [hi1]⟩, h, S.nf [] rfl ⟨rfl, rfl, rfl, (congrArg (fun z => some (Value.int .i64 z)) (rng_next hd1 hi1 (slc_maxD hs_p_s hr_p_s))), trivial⟩⟩, Nat.lt_succ_self _⟩
 clear S h; rintro a w2 ⟨h, S⟩; rw [hj1] at h; clear hj1 j1
 refine then_n (f_seq (f_region (lv S (rn_assign rfl) rfl ?_))); clear S; intro a S
 refine l_done (then_n (wp_ret ?_))
 subst h
 exact f_ret S Tryd.results9 rfl rfl
theorem tumbkeep2_RelaysAreFastest_c1_ok (w : World) (p_k : ByteArray) (p_leg : Int) (b_p_a2 : Nat) (v_p_a2 : Value) (p_a2 : List GLeg) (rs_p_a2 : List R36) (hs_p_a2 : Slc (view w []) 2 v_p_a2 (rs_p_a2.map R36.enc)) (hr_p_a2 : All2 (rel_36 (view w [])) p_a2 rs_p_a2) (hb_b_p_a2 : (view w []) b_p_a2 = some (.cells [v_p_a2].toArray 26 (0, 0))) (r : Int) (h : tumbkeep2_RelaysAreFastest_c1 p_k p_leg p_a2 = some r) :
    Calls Tryd.prog 8 [sV p_k, iV p_leg, .pointer (some ⟨b_p_a2, 0, none⟩)].toArray w (Ret w [] fun _ v _ => v = iV r) := by
 refine f_enter [] [] Tryd.func8 rfl Tryd.ntmps8 rfl (by simp) (by simp [fps]) (by simp [fps]) fun a S => ?_
 unfold tumbkeep2_RelaysAreFastest_c1 at h
 replace S := S.nk [] [(0, sV p_k), (1, iV p_leg), (2, .pointer (some ⟨b_p_a2, 0, none⟩))] [] rfl (subR rfl)
 refine f_seq (f_region (l_box S (S.tm rfl) (cs := [sV p_k]) rfl rfl ?_)); clear S; intro a w1 b1 hz1 hk1 S
 refine lv S (rn_assign rfl) rfl ?_; clear S; intro a S
 refine l_done (then_n (f_seq (f_region (lv S (rn_ld Tryd.isAgg26 (off := 0) (o := 0) (S.tm rfl) ((mem_blk hb_b_p_a2).at S.emb0) rfl) rfl ?_)))); clear S; intro a S
 refine lv S (rn_makeFunc (us := #[]) (xs := [].toArray) (ys := [.tmp 3].toArray) (by simp) (evA ⟨(S.tm rfl), trivial⟩ (vs := [.pointer (some ⟨b1, 0, none⟩)]))) rfl ?_; clear S; intro a S
 refine l_enter S (fun _ => run_call (vs := [v_p_a2, .func (.func 10) #[] #[.pointer (some ⟨b1, 0, none⟩)]]) ⟨(S.tm rfl), (S.tm rfl), trivial⟩ Tryd.call9) (slices_IndexFunc_Leg_tumbkeep2_RelaysAreFastest_c1_c1_ok _ v_p_a2 p_a2 rs_p_a2 (hs_p_a2.mono (S.le_arg nil_sub)) (rels_36 (S.le_arg nil_sub) hr_p_a2) b1 p_k (S.blk_view (i := 0) rfl ((ne_nil (e' := .blk b1 [sV p_k] 9)) _ rfl)) _ rfl) rfl ?_; clear S; intro v1 a w2 hv1 hk2 hn1 S
 subst hv1
 refine lv S (rn_assign (S.tm rfl)) rfl ?_; clear S; intro a S
 refine l_done (then_n (f_seq (f_seq (f_region (lv S (rn_move (S.tm rfl)) rfl ?_))))); clear S; intro a S
 refine lv S (rn_lss (S.tm rfl) rfl) rfl ?_; clear S; intro a S
 refine l_done (then_n (f_cond (S.tm rfl) (fun hb1 => ?_) (fun hb1 => ?_)))
 ·replace h := iteT h hb1
  refine f_seq (f_region (lv S (rn_assign rfl) rfl ?_)); clear S; intro a S
  refine l_done (then_n (wp_ret (then_r ?_)))
  obtain rfl := Option.some.inj h
  exact f_ret S Tryd.results8 rfl rfl
 ·replace h := iteF h hb1
  refine wp_skip (then_n (f_seq (f_region (lv S (rn_ld Tryd.isAgg26 (off := 0) (o := 0) (S.tm rfl) ((mem_blk hb_b_p_a2).at S.emb0) rfl) rfl ?_)))); clear S; intro a S
  refine lv S (rn_move (S.tm rfl)) rfl ?_; clear S; intro a S
  obtain ⟨hc1, h⟩ := chkE h
  obtain ⟨r1, hg1, hl1⟩ := all2_get hr_p_a2 hc1
  obtain ⟨u1, rfl, hs1⟩ := hl1
  obtain ⟨b2, o1, hm1, hr1⟩ := rn_indexT (a := a) (x := .tmp 12) (y := .tmp 13) (ty := 0) sl_26 hs_p_a2 hg1 (inB_get hc1).2 (S.tm rfl) (S.tm rfl)
  refine lv S (hr1 _) rfl ?_; clear S; intro a S
  clear hr1
  refine lv S (rn_fld fa_36_1 (S.tm rfl)) rfl ?_; clear S; intro a S
  refine lv S (rn_ld Tryd.isAgg22 (off := o1) (o := 1) (S.tm rfl) (hm1.at S.emb0) rfl) rfl ?_; clear S; intro a S
  refine lv S (rn_move (S.tm rfl)) rfl ?_; clear S; intro a S
  obtain ⟨hc2, h⟩ := chkE h
  obtain ⟨b3, o2, hm2, hr2⟩ := rn_indexT (a := a) (x := .tmp 16) (y := .tmp 17) (ty := 0) sl_22 hs1 (inB_get hc2).1 (inB_get hc2).2 (S.tm rfl) (S.tm rfl)
  refine lv S (hr2 _) rfl ?_; clear S; intro a S
  clear hr2
  refine lv S (rn_ld Tryd.isAgg3 (off := o2) (o := 0) (S.tm rfl) (hm2.at S.emb0) rfl) rfl ?_; clear S; intro a S
  refine lv S (rn_assign (S.tm rfl)) rfl ?_; clear S; intro a S
  refine l_done ?_
  replace S := S.nk [] [(5, iV (nth ((nth p_a2 (slices_IndexFunc_Leg_tumbkeep2_RelaysAreFastest_c1_c1 p_a2 p_k)).Times) p_leg))] [false] rfl ⟨rfl, trivial⟩
  refine then_n (wp_ret ?_)
  obtain rfl := Option.some.inj h
  exact f_ret S Tryd.results8 rfl rfl
set_option maxRecDepth 20000 in
theorem tumbkeep2_RelaysAreFastest_ok (w : World) (v_p_l : Value) (p_l : List Int) (hs_p_l : Slc (view w []) 1 v_p_l (p_l.map eInt)) (r : Bool) (h : tumbkeep2_RelaysAreFastest p_l = some r) :
    Calls Tryd.prog 3 [v_p_l].toArray w (Ret w [] fun _ v _ => v = bV r) := by
 refine f_enter [] [] Tryd.func3 rfl Tryd.ntmps3 rfl (by simp) (by simp [fps]) (by simp [fps]) fun a S => ?_
 unfold tumbkeep2_RelaysAreFastest at h
 replace S := S.nk [] [(0, v_p_l)] [] rfl ⟨rfl, trivial⟩
 refine f_seq (f_region (lv S (rn_assign rfl) rfl ?_)); clear S; intro a S
 refine l_done (then_n (f_seq (f_region (lv S (rn_move (S.tm rfl)) rfl ?_)))); clear S; intro a S
 refine lv S (rn_bld bt_25 (pv := [(0, v_p_l)]) ⟨rfl, (S.tm rfl), trivial⟩ (cs := [v_p_l, iV 0]) (by obtain ⟨_, _, hv⟩ := (slc_len hs_p_l); rw [hv]; clear hv; kernel_rfl)) rfl ?_; clear S; intro a S
 refine l_box S (S.tm rfl) (cs := [v_p_l, iV 0]) rfl rfl ?_; clear S; intro a w1 b1 hz1 hk1 S
 refine lv S (rn_assign (S.tm rfl)) rfl ?_; clear S; intro a S
 refine l_done (then_n (f_seq (f_region (lv S (rn_move (S.tm rfl)) rfl ?_)))); clear S; intro a S
 obtain ⟨r1, hr1, h⟩ := bindE h
 have hz2 := S.keep.size
 refine l_enter1 0 S (b := b1) rfl rfl (fun _ => .blk b1 [v_p_l, iV r1.2] 25) (fun _ => run_call (vs := [.pointer (some ⟨b1, 0, none⟩)]) ⟨(S.tm rfl), trivial⟩ Tryd.call4) (Stream_Legs_ok _ b1 v_p_l p_l (hs_p_l.mono (S.le_arg (fp_sub (i := 0) (e := .blk b1 [v_p_l, iV 0] 25) rfl))) 0 (S.holds _ (List.mem_of_getElem? (i := 0) rfl)) _ hr1) rfl (fun _ _ _ h => ⟨h.1, fun _ hc => by cases hc; rfl⟩) ?_; clear S; intro v1 a w2 hv1 hk2 hn1 S
 replace hv1 := hv1.2
 obtain ⟨rs1, ho2, hr2⟩ := hv1
 obtain ⟨φ1, hl1, hm1, S⟩ := S.see' hn1 hz2
 have hs1 := ho2.mono hm1
 have hr3 := rels_36 (View.le_trans (hide_le _ _) hm1) hr2
 refine l_alloc S Tryd.zeroValue26 (cs := [.slice none 0 0]) rfl rfl ?_; clear S; intro a w3 b2 hz3 hk3 S
 refine l_store S (S.tm rfl) (S.tm rfl) (i := 0) (off := 0) rfl Tryd.sizeOf26 (vs := [v1]) (SlcLen.cells (slc_lenD (ownV_slcT R36.enc_ok hs1) hr3)) rfl rfl (all1 (SlcLen.one (slc_lenD (ownV_slcT R36.enc_ok hs1) hr3)) rfl) ?_; clear S; intro w4 hk4 S
 refine l_done (then_n (f_seq (f_seq (f_region (lv S (rn_load Tryd.isAgg26 (S.tm rfl) (S.cell (i := 0) rfl rfl)) rfl ?_))))); clear S; intro a S
 obtain ⟨r2, hr4, h⟩ := bindE h
 refine l_enter S (fun _ => run_call (vs := [v1]) ⟨(S.tm rfl), trivial⟩ Tryd.call5) (tumbref2_LegsFault_ok _ v1 r1.1 rs1 ((ownV_slcT R36.enc_ok hs1).mono (S.le_new nil_sub)) (rels_36 (S.le_new nil_sub) hr3) _ hr4) rfl ?_; clear S; intro v2 a w5 hv2 hk5 hn2 S
 subst hv2
 refine lv S (rn_neq (S.tm rfl) rfl) rfl ?_; clear S; intro a S
 refine l_done (then_n (f_cond (S.tm rfl) (fun hb1 => ?_) (fun hb1 => ?_)))
 ·replace h := iteT h hb1
  refine f_seq (f_region ?_)
  obtain ⟨r3, hr5, h⟩ := bindE h
  refine l_enter S (fun _ => run_call (vs := []) trivial Tryd.call6) (tumbkeep2_ready_ok _ _ hr5) rfl ?_; clear S; intro v3 a w6 hv3 hk6 hn3 S
  subst hv3
  refine lv S (rn_assign (S.tm rfl)) rfl ?_; clear S; intro a S
  refine l_done (then_n (wp_ret (then_r ?_)))
  obtain rfl := Option.some.inj h
  exact f_ret S Tryd.results3 rfl rfl
 ·replace h := iteF h hb1
  refine wp_skip (then_n (f_seq (f_region (lv S (rn_load Tryd.isAgg26 (S.tm rfl) (S.cell (i := 0) rfl rfl)) rfl ?_)))); clear S; intro a S
  obtain ⟨r4, hr6, h⟩ := bindE h
  have hz4 := S.keep.size
  refine l_enter S (fun _ => run_call (vs := [v1, iV 0]) ⟨(S.tm rfl), rfl, trivial⟩ Tryd.call7) (swimmer_Fastest_ok _ v1 r1.1 rs1 ((ownV_slcT R36.enc_ok hs1).mono (S.le_new nil_sub)) (rels_36 (S.le_new nil_sub) hr3) 0 _ hr6) rfl ?_; clear S; intro v4 a w7 hv4 hk7 hn4 S
  obtain ⟨u2, rfl, ho3⟩ := hv4
  obtain ⟨φ2, hl2, hm2, S⟩ := S.see' hn4 hz4
  have hs2 := ho3.mono hm2
  refine lv S (rn_move (S.tm rfl)) rfl ?_; clear S; intro a S
  iterate 4 (refine lv S (rn_extract (S.tm rfl) rfl) rfl ?_; clear S; intro a S)
  iterate 4 (refine lv S (rn_assign (S.tm rfl)) rfl ?_; clear S; intro a S)
  refine l_done ?_
  replace S := S.nk [.blk b2 [v1] 26, .blk b1 [v_p_l, iV r1.2] 25] [(3, .pointer (some ⟨b1, 0, none⟩)), (4, .pointer (some ⟨b2, 0, none⟩)), (5, u2), (6, iV r4.2.1), (7, bV r4.2.2.1), (8, iV r4.2.2.2)] [true, true] rfl (subR rfl)
  refine then_n (f_seq (f_seq (f_region (lv S (rn_move (S.tm rfl)) rfl ?_)))); clear S; intro a S
  refine lv S (rn_neq (S.tm rfl) rfl) rfl ?_; clear S; intro a S
  refine lv S (rn_move (S.tm rfl)) rfl ?_; clear S; intro a S
  refine f_cutm 3 (fun a w' => Keep [] w7 w' ∧ Sx w [] φ2 [.blk b2 [v1] 26, .blk b1 [v_p_l, iV r1.2] 25] [(3, .pointer (some ⟨b1, 0, none⟩)), (4, .pointer (some ⟨b2, 0, none⟩)), (5, u2), (6, iV r4.2.1), (8, iV r4.2.2.2), (42, bV ((!decide (r4.2.2.2 = 0)) || (!r4.2.2.1)))] 161 a w') ?_ ?_
  ·rcases Bool.eq_false_or_eq_true (!decide (r4.2.2.2 = 0)) with hb2 | hb2
   ·refine l_skip S rfl rfl rfl (neq_t hb2) rfl ?_ rfl; clear S; intro a S
    refine l_skip S rfl rfl rfl (neq_t hb2) rfl ?_ rfl; clear S; intro a S
    refine lv S (rn_or_t (!r4.2.2.1) hb2 (S.tm rfl) rfl) rfl ?_; clear S; intro a S
    refine l_done (then_n ?_)
    exact ⟨Keep.refl _ _, S.nf [true, true] rfl (subR rfl)⟩
   ·refine l_want S rfl rfl rfl hb2 (lv S (rn_move (S.tm rfl)) rfl ?_); clear S; intro a S
    refine l_want S rfl rfl rfl hb2 (lv S (rn_not (S.tm rfl)) rfl ?_); clear S; intro a S
    refine lv S (rn_or_f hb2 (S.tm rfl) (S.tm rfl)) rfl ?_; clear S; intro a S
    refine l_done (then_n ?_)
    exact ⟨Keep.refl _ _, S.nf [true, true] rfl (subR rfl)⟩
  clear S; rintro a w8 ⟨hk8, S⟩
  refine l_done (then_n (f_cond (S.tm rfl) (fun hb3 => ?_) (fun hb3 => ?_)))
  ·replace h := iteT h hb3
   refine f_seq (f_region (lv S (rn_move (S.tm rfl)) rfl ?_)); clear S; intro a S
   refine lv S (rn_eql (S.tm rfl) rfl) rfl ?_; clear S; intro a S
   refine lv S (rn_move (S.tm rfl)) rfl ?_; clear S; intro a S
   refine f_cutm 4 (fun a w' => Keep [] w8 w' ∧ Sx w [] φ2 [.blk b2 [v1] 26, .blk b1 [v_p_l, iV r1.2] 25] [(6, iV r4.2.1), (49, bV ((decide (r4.2.2.2 = 0)) && (decide ((r4.1.length : Int) = 0))))] 161 a w') ?_ ?_
   ·rcases Bool.eq_false_or_eq_true (decide (r4.2.2.2 = 0)) with hb4 | hb4
    ·refine l_want S rfl rfl rfl hb4 (lv S (rn_move (S.tm rfl)) rfl ?_); clear S; intro a S
     refine l_want S rfl rfl rfl hb4 (lv S (rn_lenT sl_31 (S.tm rfl) (slc_len (ownV_slcT enc_str hs2))) rfl ?_); clear S; intro a S
     refine l_want S rfl rfl rfl hb4 (lv S (rn_eql (S.tm rfl) rfl) rfl ?_); clear S; intro a S
     refine lv S (rn_and_t hb4 (S.tm rfl) (S.tm rfl)) rfl ?_; clear S; intro a S
     refine l_done (then_n ?_)
     exact ⟨Keep.refl _ _, S.nf [true, true] rfl (subR rfl)⟩
    ·iterate 3 (refine l_skip S rfl rfl rfl (neq_f hb4) rfl ?_ rfl; clear S; intro a S)
     refine lv S (rn_and_f (decide ((r4.1.length : Int) = 0)) hb4 (S.tm rfl) rfl) rfl ?_; clear S; intro a S
     refine l_done (then_n ?_)
     exact ⟨Keep.refl _ _, S.nf [true, true] rfl (subR rfl)⟩
   clear S; rintro a w9 ⟨hk9, S⟩
   refine lv S (rn_move (S.tm rfl)) rfl ?_; clear S; intro a S
   refine f_cutm 3 (fun a w' => Keep [] w9 w' ∧ Sx w [] φ2 [.blk b2 [v1] 26, .blk b1 [v_p_l, iV r1.2] 25] [(53, bV (((decide (r4.2.2.2 = 0)) && (decide ((r4.1.length : Int) = 0))) && (decide (r4.2.1 = 0))))] 161 a w') ?_ ?_
   ·rcases Bool.eq_false_or_eq_true ((decide (r4.2.2.2 = 0)) && (decide ((r4.1.length : Int) = 0))) with hb5 | hb5
    ·refine l_want S rfl rfl rfl hb5 (lv S (rn_move (S.tm rfl)) rfl ?_); clear S; intro a S
     refine l_want S rfl rfl rfl hb5 (lv S (rn_eql (S.tm rfl) rfl) rfl ?_); clear S; intro a S
     refine lv S (rn_and_t hb5 (S.tm rfl) (S.tm rfl)) rfl ?_; clear S; intro a S
     refine l_done (then_n ?_)
     exact ⟨Keep.refl _ _, S.nf [true, true] rfl ⟨rfl, trivial⟩⟩
    ·refine l_skip S rfl rfl rfl (neq_f hb5) rfl ?_ rfl; clear S; intro a S
     refine l_skip S rfl rfl rfl (neq_f hb5) rfl ?_ rfl; clear S; intro a S
     refine lv S (rn_and_f (decide (r4.2.1 = 0)) hb5 (S.tm rfl) rfl) rfl ?_; clear S; intro a S
     refine l_done (then_n ?_)
     exact ⟨Keep.refl _ _, S.nf [true, true] rfl ⟨rfl, trivial⟩⟩
   clear S; rintro a w10 ⟨hk10, S⟩
   refine lv S (rn_move (S.tm rfl)) rfl ?_; clear S; intro a S
   obtain ⟨j1, hj1, h⟩ := joinE h
   refine f_cutm 2 (fun a w' => ∃ c1, j1 c1 = some r ∧ Keep [] w10 w' ∧ Sx w [] φ2 [.blk b2 [v1] 26, .blk b1 [v_p_l, iV r1.2] 25] [(56, bV c1)] 161 a w') ?_ ?_
   ·rcases Bool.eq_false_or_eq_true (((decide (r4.2.2.2 = 0)) && (decide ((r4.1.length : Int) = 0))) && (decide (r4.2.1 = 0))) with hb6 | hb6
    ·replace h := iteT h hb6
     refine l_want S rfl rfl rfl hb6 ?_
     obtain ⟨r5, hr7, h⟩ := bindE h
     refine l_enter S (fun _ => run_call (vs := []) trivial Tryd.call6) (tumbkeep2_ready_ok _ _ hr7) rfl ?_; clear S; intro v5 a w12 hv5 hk11 hn5 S
     subst hv5
     refine lv S (rn_and_t hb6 (S.tm rfl) (S.tm rfl)) rfl ?_; clear S; intro a S
     refine l_done (then_n ?_)
     exact ⟨_, h, hk11, S.nf [true, true] rfl ⟨rfl, trivial⟩⟩
    ·replace h := iteF h hb6
     refine l_skip S rfl rfl rfl (neq_f hb6) rfl ?_ rfl; clear S; intro a S
     refine lv S (rn_and_f true hb6 (S.tm rfl) rfl) rfl ?_; clear S; intro a S
     refine l_done (then_n ?_)
     exact ⟨_, h, Keep.refl _ _, S.nf [true, true] rfl ⟨rfl, trivial⟩⟩
   clear S h; rintro a w11 ⟨c1, h, hk12, S⟩; rw [hj1] at h; clear hj1 j1
   refine lv S (rn_assign (S.tm rfl)) rfl ?_; clear S; intro a S
   refine l_done (then_n (wp_ret (then_r ?_)))
   obtain rfl := Option.some.inj h
   exact f_ret S Tryd.results3 rfl rfl
  ·replace h := iteF h hb3
   refine wp_skip (then_n (f_seq (f_region (lv S (rn_makeFunc (us := #[]) (xs := [].toArray) (ys := [.tmp 4].toArray) (by simp) (evA ⟨(S.tm rfl), trivial⟩ (vs := [.pointer (some ⟨b2, 0, none⟩)]))) rfl ?_)))); clear S; intro a S
   refine lv S (rn_assign (S.tm rfl)) rfl ?_; clear S; intro a S
   refine l_done (then_n (f_seq (f_region (lv S (rn_assign rfl) rfl ?_)))); clear S; intro a S
   refine l_done (then_n (f_seq (f_seq (f_region (lv S (rn_move (S.tm rfl)) rfl ?_))))); clear S; intro a S
   refine lv S (rn_lenT sl_31 (S.tm rfl) (slc_len (ownV_slcT enc_str hs2))) rfl ?_; clear S; intro a S
   refine lv S (rn_move rfl) rfl ?_; clear S; intro a S
   refine l_done (then_n ?_)
   replace S := S.nk [.blk b2 [v1] 26, .blk b1 [v_p_l, iV r1.2] 25] [(3, .pointer (some ⟨b1, 0, none⟩)), (4, .pointer (some ⟨b2, 0, none⟩)), (5, u2), (6, iV r4.2.1), (9, .func (.func 8) #[] #[.pointer (some ⟨b2, 0, none⟩)]), (10, iV 0), (58, u2), (59, iV (r4.1.length : Int)), (60, iV 0)] [true, true] rfl (subR rfl)
   obtain ⟨j2, hj2, h⟩ := joinE h
   refine f_join (fun a w' => ∃ x1 : Int, j2 x1 = some r ∧ Sx w [] φ2 [.blk b2 [v1] 26, .blk b1 [v_p_l, iV r1.2] 25] [(3, .pointer (some ⟨b1, 0, none⟩)), (4, .pointer (some ⟨b2, 0, none⟩)), (5, u2), (6, iV r4.2.1), (10, iV x1)] 161 a w') ?_ ?_
   ·refine wp_block (f_loop (fun (ys1 : List ByteArray) a w' => ∃ i1 : Nat, ∃ x1 : Int, (∃ dn, r4.1 = dn ++ ys1 ∧ dn.length = i1) ∧ tumbkeep2_RelaysAreFastest_l1 r1 r4 j2 ys1 i1 x1 = some r ∧ Sx w [] φ2 [.blk b2 [v1] 26, .blk b1 [v_p_l, iV r1.2] 25] [(3, .pointer (some ⟨b1, 0, none⟩)), (4, .pointer (some ⟨b2, 0, none⟩)), (5, u2), (6, iV r4.2.1), (9, .func (.func 8) #[] #[.pointer (some ⟨b2, 0, none⟩)]), (10, iV x1), (58, u2), (59, iV (r4.1.length : Int)), (60, iV (i1 : Int))] 161 a w') List.length r4.1 ⟨0, 0, ⟨[], rfl, rfl⟩, h, S.nf [true, true] rfl (subR rfl)⟩ ?_)
    clear S h; rintro ys1 a w13 ⟨i1, x1, ⟨dn, hd1, hi1⟩, h, S⟩
    cases ys1 with
    | nil =>
     rw [tumbkeep2_RelaysAreFastest_l1.eq_1] at h
     refine f_seq (f_region (lv S (rn_lss (S.tm rfl) (S.tm rfl)) rfl ?_)); clear S; intro a S
     refine l_done ?_
     replace S := S.nk [.blk b2 [v1] 26, .blk b1 [v_p_l, iV r1.2] 25] [(3, .pointer (some ⟨b1, 0, none⟩)), (4, .pointer (some ⟨b2, 0, none⟩)), (5, u2), (6, iV r4.2.1), (9, .func (.func 8) #[] #[.pointer (some ⟨b2, 0, none⟩)]), (10, iV x1), (58, u2), (59, iV (r4.1.length : Int)), (60, iV (i1 : Int)), (61, bV (decide ((i1 : Int) < (r4.1.length : Int))))] [true, true] rfl (subR rfl)
     refine then_n (f_seq (wp_cond_false ((S.tm rfl).trans (congrArg Value.bool (rng_nil hd1 hi1))) (wp_exit (then_x (then_x (x_same ?_))))))
     refine then_n ?_
     exact ⟨x1, h, S.nf [true, true] rfl (subR rfl)⟩
    | cons y1 ys1 =>
     rw [tumbkeep2_RelaysAreFastest_l1.eq_2] at h
     refine f_seq (f_region (lv S (rn_lss (S.tm rfl) (S.tm rfl)) rfl ?_)); clear S; intro a S
     refine l_done ?_
     replace S := S.nk [.blk b2 [v1] 26, .blk b1 [v_p_l, iV r1.2] 25] [(3, .pointer (some ⟨b1, 0, none⟩)), (4, .pointer (some ⟨b2, 0, none⟩)), (5, u2), (6, iV r4.2.1), (9, .func (.func 8) #[] #[.pointer (some ⟨b2, 0, none⟩)]), (10, iV x1), (58, u2), (59, iV (r4.1.length : Int)), (60, iV (i1 : Int)), (61, bV (decide ((i1 : Int) < (r4.1.length : Int))))] [true, true] rfl (subR rfl)
     refine then_n (f_seq (wp_cond_true ((S.tm rfl).trans (congrArg Value.bool (rng_cons hd1 hi1))) (wp_skip (then_n (f_seq (wp_block ?_))))))
     refine f_seq (f_region (lv S (rn_move (S.tm rfl)) rfl ?_)); clear S; intro a S
     obtain ⟨b3, o1, hm3, hr8⟩ := rn_indexT (a := a) (x := .tmp 58) (y := .tmp 60) (ty := 0) sl_31 (ownV_slcT enc_str hs2) (get_mid hd1 hi1) rfl (S.tm rfl) (S.tm rfl)
     refine lv S (hr8 _) rfl ?_; clear S; intro a S
     clear hr8
     refine lv S (rn_ld Tryd.isAgg9 (off := o1) (o := 0) (S.tm rfl) (hm3.at S.emb) rfl) rfl ?_; clear S; intro a S
     refine lv S (rn_assign (S.tm rfl)) rfl ?_; clear S; intro a S
     refine lv S (rn_assign (S.tm rfl)) rfl ?_; clear S; intro a S
     refine l_done ?_
     replace S := S.nk [.blk b2 [v1] 26, .blk b1 [v_p_l, iV r1.2] 25] [(3, .pointer (some ⟨b1, 0, none⟩)), (4, .pointer (some ⟨b2, 0, none⟩)), (5, u2), (6, iV r4.2.1), (9, .func (.func 8) #[] #[.pointer (some ⟨b2, 0, none⟩)]), (10, iV x1), (11, iV (i1 : Int)), (12, sV y1), (58, u2), (59, iV (r4.1.length : Int)), (60, iV (i1 : Int))] [true, true] rfl (subR rfl)
     refine then_n (f_seq (f_seq (f_region (lv S (rn_move (S.tm rfl)) rfl ?_)))); clear S; intro a S
     refine lv S (rn_move (S.tm rfl)) rfl ?_; clear S; intro a S
     refine lv S (rn_move (S.tm rfl)) rfl ?_; clear S; intro a S
     obtain ⟨r6, hr9, h⟩ := bindE h
     refine l_enter S (fun _ => run_callV (cap := [.pointer (some ⟨b2, 0, none⟩)]) (S.tm rfl) (vs := [sV y1, iV (i1 : Int)]) ⟨(S.tm rfl), (S.tm rfl), trivial⟩ Tryd.call8) (tumbkeep2_RelaysAreFastest_c1_ok _ y1 (i1 : Int) b2 v1 r1.1 rs1 ((ownV_slcT R36.enc_ok hs1).mono (View.le_trans hl2 (S.le_new nil_sub))) (rels_36 (View.le_trans hl2 (S.le_new nil_sub)) hr3) (S.blk_view (i := 0) rfl ((ne_nil (e' := .blk b2 [v1] 26)) _ rfl)) _ hr9) rfl ?_; clear S; intro v6 a w15 hv6 hk13 hn6 S
     subst hv6
     refine lv S (rn_eql (S.tm rfl) rfl) rfl ?_; clear S; intro a S
     refine lv S (rn_move (S.tm rfl)) rfl ?_; clear S; intro a S
     obtain ⟨j3, hj3, h⟩ := joinE h
     refine f_cutm 6 (fun a w' => ∃ c2, j3 c2 = some r ∧ Keep [] w15 w' ∧ Sx w [] φ2 [.blk b2 [v1] 26, .blk b1 [v_p_l, iV r1.2] 25] [(3, .pointer (some ⟨b1, 0, none⟩)), (4, .pointer (some ⟨b2, 0, none⟩)), (5, u2), (6, iV r4.2.1), (9, .func (.func 8) #[] #[.pointer (some ⟨b2, 0, none⟩)]), (10, iV x1), (11, iV (i1 : Int)), (12, sV y1), (58, u2), (59, iV (r4.1.length : Int)), (60, iV (i1 : Int)), (76, bV c2)] 161 a w') ?_ ?_
     ·rcases Bool.eq_false_or_eq_true (decide (r6 = 0)) with hb7 | hb7
      ·replace h := iteT h hb7
       iterate 5 (refine l_skip S rfl rfl rfl (neq_t hb7) rfl ?_ rfl; clear S; intro a S)
       refine lv S (rn_or_t true hb7 (S.tm rfl) rfl) rfl ?_; clear S; intro a S
       refine l_done (then_n ?_)
       exact ⟨_, h, Keep.refl _ _, S.nf [true, true] rfl (subR rfl)⟩
      ·replace h := iteF h hb7
       refine l_want S rfl rfl rfl hb7 (lv S (rn_move (S.tm rfl)) rfl ?_); clear S; intro a S
       refine l_want S rfl rfl rfl hb7 (lv S (rn_move (S.tm rfl)) rfl ?_); clear S; intro a S
       refine l_want S rfl rfl rfl hb7 ?_
       obtain ⟨hc1, h⟩ := chkE h
       obtain ⟨v7, hs3, hr10⟩ := rn_cutTh (a := a) (x := .tmp 71) (y' := .tmp 72) (ty := 31) sl_31 (ownV_slcT enc_str hs2) (S.tm rfl) (S.tm rfl) hc1
       refine lv S (hr10 _) rfl ?_; clear S; intro a S
       clear hr10
       refine l_want S rfl rfl rfl hb7 (lv S (rn_move (S.tm rfl)) rfl ?_); clear S; intro a S
       refine l_want S rfl rfl rfl hb7 (l_enter S (fun _ => run_call (vs := [v7, sV y1]) ⟨(S.tm rfl), (S.tm rfl), trivial⟩ Tryd.call11) (slices_Contains_string_ok _ v7 (cut r4.1 0 (i1 : Int)) (hs3.mono (S.le_new nil_sub)) y1 _ rfl) rfl ?_); clear S; intro v8 a w17 hv7 hk14 hn7 S
       subst hv7
       refine lv S (rn_or_f hb7 (S.tm rfl) (S.tm rfl)) rfl ?_; clear S; intro a S
       refine l_done (then_n ?_)
       exact ⟨_, h, hk14, S.nf [true, true] rfl (subR rfl)⟩
     clear S h; rintro a w16 ⟨c2, h, hk15, S⟩; rw [hj3] at h; clear hj3 j3
     refine l_done (then_n (f_cond (S.tm rfl) (fun hb8 => ?_) (fun hb8 => ?_)))
     ·replace h := iteT h hb8
      refine f_seq (f_region (lv S (rn_assign rfl) rfl ?_)); clear S; intro a S
      refine l_done (then_n (wp_ret (then_r (blk_r (then_r (then_r ?_))))))
      refine blk_r (then_r (then_r ?_))
      obtain rfl := Option.some.inj h
      exact f_ret S Tryd.results3 rfl rfl
     ·replace h := iteF h hb8
      refine wp_skip (then_n (f_seq (f_region (lv S (rn_move (S.tm rfl)) rfl ?_)))); clear S; intro a S
      iterate 3 (refine lv S (rn_move (S.tm rfl)) rfl ?_; clear S; intro a S)
      obtain ⟨r7, hr11, h⟩ := bindE h
      refine l_enter S (fun _ => run_callV (cap := [.pointer (some ⟨b2, 0, none⟩)]) (S.tm rfl) (vs := [sV y1, iV (i1 : Int)]) ⟨(S.tm rfl), (S.tm rfl), trivial⟩ Tryd.call8) (tumbkeep2_RelaysAreFastest_c1_ok _ y1 (i1 : Int) b2 v1 r1.1 rs1 ((ownV_slcT R36.enc_ok hs1).mono (View.le_trans hl2 (S.le_new nil_sub))) (rels_36 (View.le_trans hl2 (S.le_new nil_sub)) hr3) (S.blk_view (i := 0) rfl ((ne_nil (e' := .blk b2 [v1] 26)) _ rfl)) _ hr11) rfl ?_; clear S; intro v9 a w18 hv8 hk16 hn8 S
      subst hv8
      refine lv S (rn_add (S.tm rfl) (S.tm rfl)) rfl ?_; clear S; intro a S
      refine lv S (rn_assign (S.tm rfl)) rfl ?_; clear S; intro a S
      refine l_done ?_
      replace S := S.nk [.blk b2 [v1] 26, .blk b1 [v_p_l, iV r1.2] 25] [(3, .pointer (some ⟨b1, 0, none⟩)), (4, .pointer (some ⟨b2, 0, none⟩)), (5, u2), (6, iV r4.2.1), (9, .func (.func 8) #[] #[.pointer (some ⟨b2, 0, none⟩)]), (10, iV (W (x1 + r7))), (11, iV (i1 : Int)), (12, sV y1), (58, u2), (59, iV (r4.1.length : Int)), (60, iV (i1 : Int))] [true, true] rfl (subR rfl)
      refine then_n (f_seq (f_region (lv S (rn_move (S.tm rfl)) rfl ?_))); clear S; intro a S
      refine lv S (rn_move (S.tm rfl)) rfl ?_; clear S; intro a S
      obtain ⟨hc2, h⟩ := chkE h
      obtain ⟨v10, hs4, hr12⟩ := rn_cutTh (a := a) (x := .tmp 83) (y' := .tmp 84) (ty := 31) sl_31 (ownV_slcT enc_str hs2) (S.tm rfl) (S.tm rfl) hc2
      refine lv S (hr12 _) rfl ?_; clear S; intro a S
      clear hr12
      refine lv S (rn_lenT sl_31 (S.tm rfl) (slc_len hs4)) rfl ?_; clear S; intro a S
      refine lv S (rn_move rfl) rfl ?_; clear S; intro a S
      refine l_done ?_
      replace S := S.nk [.blk b2 [v1] 26, .blk b1 [v_p_l, iV r1.2] 25] [(3, .pointer (some ⟨b1, 0, none⟩)), (4, .pointer (some ⟨b2, 0, none⟩)), (5, u2), (6, iV r4.2.1), (9, .func (.func 8) #[] #[.pointer (some ⟨b2, 0, none⟩)]), (10, iV (W (x1 + r7))), (11, iV (i1 : Int)), (12, sV y1), (58, u2), (59, iV (r4.1.length : Int)), (60, iV (i1 : Int)), (85, v10), (86, iV ((cut r4.1 0 (i1 : Int)).length : Int)), (87, iV 0)] [true, true] rfl (subR rfl)
      refine then_n ?_
      obtain ⟨j4, hj4, h⟩ := joinE h
      refine f_join (fun a w' => j4 = some r ∧ Sx w [] φ2 [.blk b2 [v1] 26, .blk b1 [v_p_l, iV r1.2] 25] [(3, .pointer (some ⟨b1, 0, none⟩)), (4, .pointer (some ⟨b2, 0, none⟩)), (5, u2), (6, iV r4.2.1), (9, .func (.func 8) #[] #[.pointer (some ⟨b2, 0, none⟩)]), (10, iV (W (x1 + r7))), (58, u2), (59, iV (r4.1.length : Int)), (60, iV (i1 : Int))] 161 a w') ?_ ?_
      ·refine wp_block (f_loop (fun (ys2 : List ByteArray) a w' => ∃ i2 : Nat, (∃ dn, cut r4.1 0 (i1 : Int) = dn ++ ys2 ∧ dn.length = i2) ∧ tumbkeep2_RelaysAreFastest_l2 i1 r1 y1 j4 ys2 i2 = some r ∧ Sx w [] φ2 [.blk b2 [v1] 26, .blk b1 [v_p_l, iV r1.2] 25] [(3, .pointer (some ⟨b1, 0, none⟩)), (4, .pointer (some ⟨b2, 0, none⟩)), (5, u2), (6, iV r4.2.1), (9, .func (.func 8) #[] #[.pointer (some ⟨b2, 0, none⟩)]), (10, iV (W (x1 + r7))), (11, iV (i1 : Int)), (12, sV y1), (58, u2), (59, iV (r4.1.length : Int)), (60, iV (i1 : Int)), (85, v10), (86, iV ((cut r4.1 0 (i1 : Int)).length : Int)), (87, iV (i2 : Int))] 161 a w') List.length (cut r4.1 0 (i1 : Int)) ⟨0, ⟨[], rfl, rfl⟩, h, S.nf [true, true] rfl (subR rfl)⟩ ?_)
       clear S h; rintro ys2 a w19 ⟨i2, ⟨dn, hd2, hi2⟩, h, S⟩
       cases ys2 with
       | nil =>
        rw [tumbkeep2_RelaysAreFastest_l2.eq_1] at h
        refine f_seq (f_region (lv S (rn_lss (S.tm rfl) (S.tm rfl)) rfl ?_)); clear S; intro a S
        refine l_done ?_
        replace S := S.nk [.blk b2 [v1] 26, .blk b1 [v_p_l, iV r1.2] 25] [(3, .pointer (some ⟨b1, 0, none⟩)), (4, .pointer (some ⟨b2, 0, none⟩)), (5, u2), (6, iV r4.2.1), (9, .func (.func 8) #[] #[.pointer (some ⟨b2, 0, none⟩)]), (10, iV (W (x1 + r7))), (11, iV (i1 : Int)), (12, sV y1), (58, u2), (59, iV (r4.1.length : Int)), (60, iV (i1 : Int)), (85, v10), (86, iV ((cut r4.1 0 (i1 : Int)).length : Int)), (87, iV (i2 : Int)), (88, bV (decide ((i2 : Int) < ((cut r4.1 0 (i1 : Int)).length : Int))))] [true, true] rfl (subR rfl)
        refine then_n (f_seq (wp_cond_false ((S.tm rfl).trans (congrArg Value.bool (rng_nil hd2 hi2))) (wp_exit (then_x (then_x (x_same ?_))))))
        refine then_n ?_
        exact ⟨h, S.nf [true, true] rfl (subR rfl)⟩
       | cons y2 ys2 =>
        rw [tumbkeep2_RelaysAreFastest_l2.eq_2] at h
        refine f_seq (f_region (lv S (rn_lss (S.tm rfl) (S.tm rfl)) rfl ?_)); clear S; intro a S
        refine l_done ?_
        replace S := S.nk [.blk b2 [v1] 26, .blk b1 [v_p_l, iV r1.2] 25] [(3, .pointer (some ⟨b1, 0, none⟩)), (4, .pointer (some ⟨b2, 0, none⟩)), (5, u2), (6, iV r4.2.1), (9, .func (.func 8) #[] #[.pointer (some ⟨b2, 0, none⟩)]), (10, iV (W (x1 + r7))), (11, iV (i1 : Int)), (12, sV y1), (58, u2), (59, iV (r4.1.length : Int)), (60, iV (i1 : Int)), (85, v10), (86, iV ((cut r4.1 0 (i1 : Int)).length : Int)), (87, iV (i2 : Int)), (88, bV (decide ((i2 : Int) < ((cut r4.1 0 (i1 : Int)).length : Int))))] [true, true] rfl (subR rfl)
        refine then_n (f_seq (wp_cond_true ((S.tm rfl).trans (congrArg Value.bool (rng_cons hd2 hi2))) (wp_skip (then_n (f_seq (wp_block ?_))))))
        refine f_seq (f_region (lv S (rn_move (S.tm rfl)) rfl ?_)); clear S; intro a S
        obtain ⟨b4, o2, hm4, hr13⟩ := rn_indexT (a := a) (x := .tmp 85) (y := .tmp 87) (ty := 0) sl_31 hs4 (get_mid hd2 hi2) rfl (S.tm rfl) (S.tm rfl)
        refine lv S (hr13 _) rfl ?_; clear S; intro a S
        clear hr13
        refine lv S (rn_ld Tryd.isAgg9 (off := o2) (o := 0) (S.tm rfl) (hm4.at S.emb) rfl) rfl ?_; clear S; intro a S
        refine lv S (rn_assign (S.tm rfl)) rfl ?_; clear S; intro a S
        refine lv S (rn_assign (S.tm rfl)) rfl ?_; clear S; intro a S
        refine l_done ?_
        replace S := S.nk [.blk b2 [v1] 26, .blk b1 [v_p_l, iV r1.2] 25] [(3, .pointer (some ⟨b1, 0, none⟩)), (4, .pointer (some ⟨b2, 0, none⟩)), (5, u2), (6, iV r4.2.1), (9, .func (.func 8) #[] #[.pointer (some ⟨b2, 0, none⟩)]), (10, iV (W (x1 + r7))), (11, iV (i1 : Int)), (12, sV y1), (13, iV (i2 : Int)), (14, sV y2), (58, u2), (59, iV (r4.1.length : Int)), (60, iV (i1 : Int)), (85, v10), (86, iV ((cut r4.1 0 (i1 : Int)).length : Int)), (87, iV (i2 : Int))] [true, true] rfl (subR rfl)
        refine then_n (f_seq (f_region (lv S (rn_move (S.tm rfl)) rfl ?_))); clear S; intro a S
        refine lv S (rn_move (S.tm rfl)) rfl ?_; clear S; intro a S
        refine lv S (rn_move (S.tm rfl)) rfl ?_; clear S; intro a S
        obtain ⟨r8, hr14, h⟩ := bindE h
        refine l_enter S (fun _ => run_callV (cap := [.pointer (some ⟨b2, 0, none⟩)]) (S.tm rfl) (vs := [sV y2, iV (i1 : Int)]) ⟨(S.tm rfl), (S.tm rfl), trivial⟩ Tryd.call8) (tumbkeep2_RelaysAreFastest_c1_ok _ y2 (i1 : Int) b2 v1 r1.1 rs1 ((ownV_slcT R36.enc_ok hs1).mono (View.le_trans hl2 (S.le_new nil_sub))) (rels_36 (View.le_trans hl2 (S.le_new nil_sub)) hr3) (S.blk_view (i := 0) rfl ((ne_nil (e' := .blk b2 [v1] 26)) _ rfl)) _ hr14) rfl ?_; clear S; intro v11 a w21 hv9 hk17 hn9 S
        subst hv9
        iterate 3 (refine lv S (rn_move (S.tm rfl)) rfl ?_; clear S; intro a S)
        obtain ⟨r9, hr15, h⟩ := bindE h
        refine l_enter S (fun _ => run_callV (cap := [.pointer (some ⟨b2, 0, none⟩)]) (S.tm rfl) (vs := [sV y1, iV (i2 : Int)]) ⟨(S.tm rfl), (S.tm rfl), trivial⟩ Tryd.call8) (tumbkeep2_RelaysAreFastest_c1_ok _ y1 (i2 : Int) b2 v1 r1.1 rs1 ((ownV_slcT R36.enc_ok hs1).mono (View.le_trans hl2 (S.le_new nil_sub))) (rels_36 (View.le_trans hl2 (S.le_new nil_sub)) hr3) (S.blk_view (i := 0) rfl ((ne_nil (e' := .blk b2 [v1] 26)) _ rfl)) _ hr15) rfl ?_; clear S; intro v12 a w22 hv10 hk18 hn10 S
        subst hv10
        refine lv S (rn_assign (S.tm rfl)) rfl ?_; clear S; intro a S
        refine lv S (rn_assign (S.tm rfl)) rfl ?_; clear S; intro a S
        refine l_done ?_
        replace S := S.nk [.blk b2 [v1] 26, .blk b1 [v_p_l, iV r1.2] 25] [(3, .pointer (some ⟨b1, 0, none⟩)), (4, .pointer (some ⟨b2, 0, none⟩)), (5, u2), (6, iV r4.2.1), (9, .func (.func 8) #[] #[.pointer (some ⟨b2, 0, none⟩)]), (10, iV (W (x1 + r7))), (11, iV (i1 : Int)), (12, sV y1), (13, iV (i2 : Int)), (14, sV y2), (15, iV r8), (16, iV r9), (58, u2), (59, iV (r4.1.length : Int)), (60, iV (i1 : Int)), (85, v10), (86, iV ((cut r4.1 0 (i1 : Int)).length : Int)), (87, iV (i2 : Int))] [true, true] rfl (subR rfl)
        refine then_n (f_seq (f_region (lv S (rn_move (S.tm rfl)) rfl ?_))); clear S; intro a S
        refine lv S (rn_gtr (S.tm rfl) rfl) rfl ?_; clear S; intro a S
        refine lv S (rn_move (S.tm rfl)) rfl ?_; clear S; intro a S
        refine f_cutm 3 (fun a w' => Keep [] w22 w' ∧ Sx w [] φ2 [.blk b2 [v1] 26, .blk b1 [v_p_l, iV r1.2] 25] [(3, .pointer (some ⟨b1, 0, none⟩)), (4, .pointer (some ⟨b2, 0, none⟩)), (5, u2), (6, iV r4.2.1), (9, .func (.func 8) #[] #[.pointer (some ⟨b2, 0, none⟩)]), (10, iV (W (x1 + r7))), (11, iV (i1 : Int)), (12, sV y1), (13, iV (i2 : Int)), (14, sV y2), (15, iV r8), (16, iV r9), (58, u2), (59, iV (r4.1.length : Int)), (60, iV (i1 : Int)), (85, v10), (86, iV ((cut r4.1 0 (i1 : Int)).length : Int)), (87, iV (i2 : Int)), (105, bV ((decide (0 < r8)) && (decide (0 < r9))))] 161 a w') ?_ ?_
        ·rcases Bool.eq_false_or_eq_true (decide (0 < r8)) with hb9 | hb9
         ·refine l_want S rfl rfl rfl hb9 (lv S (rn_move (S.tm rfl)) rfl ?_); clear S; intro a S
          refine l_want S rfl rfl rfl hb9 (lv S (rn_gtr (S.tm rfl) rfl) rfl ?_); clear S; intro a S
          refine lv S (rn_and_t hb9 (S.tm rfl) (S.tm rfl)) rfl ?_; clear S; intro a S
          refine l_done (then_n ?_)
          exact ⟨Keep.refl _ _, S.nf [true, true] rfl (subR rfl)⟩
         ·refine l_skip S rfl rfl rfl (neq_f hb9) rfl ?_ rfl; clear S; intro a S
          refine l_skip S rfl rfl rfl (neq_f hb9) rfl ?_ rfl; clear S; intro a S
          refine lv S (rn_and_f (decide (0 < r9)) hb9 (S.tm rfl) rfl) rfl ?_; clear S; intro a S
          refine l_done (then_n ?_)
          exact ⟨Keep.refl _ _, S.nf [true, true] rfl (subR rfl)⟩
        clear S; rintro a w23 ⟨hk19, S⟩
        refine lv S (rn_move (S.tm rfl)) rfl ?_; clear S; intro a S
        obtain ⟨j5, hj5, h⟩ := joinE h
        refine f_cutm 14 (fun a w' => ∃ c3, j5 c3 = some r ∧ Keep [] w23 w' ∧ Sx w [] φ2 [.blk b2 [v1] 26, .blk b1 [v_p_l, iV r1.2] 25] [(3, .pointer (some ⟨b1, 0, none⟩)), (4, .pointer (some ⟨b2, 0, none⟩)), (5, u2), (6, iV r4.2.1), (9, .func (.func 8) #[] #[.pointer (some ⟨b2, 0, none⟩)]), (10, iV (W (x1 + r7))), (11, iV (i1 : Int)), (12, sV y1), (58, u2), (59, iV (r4.1.length : Int)), (60, iV (i1 : Int)), (85, v10), (86, iV ((cut r4.1 0 (i1 : Int)).length : Int)), (87, iV (i2 : Int)), (120, bV c3)] 161 a w') ?_ ?_
        ·rcases Bool.eq_false_or_eq_true ((decide (0 < r8)) && (decide (0 < r9))) with hb10 | hb10
         ·replace h := iteT h hb10
          refine l_want S rfl rfl rfl hb10 (lv S (rn_move (S.tm rfl)) rfl ?_); clear S; intro a S
          refine l_want S rfl rfl rfl hb10 (lv S (rn_move (S.tm rfl)) rfl ?_); clear S; intro a S
          refine l_want S rfl rfl rfl hb10 (lv S (rn_add (S.tm rfl) (S.tm rfl)) rfl ?_); clear S; intro a S
          refine l_want S rfl rfl rfl hb10 (lv S (rn_move (S.tm rfl)) rfl ?_); clear S; intro a S
          refine l_want S rfl rfl rfl hb10 (lv S (rn_move (S.tm rfl)) rfl ?_); clear S; intro a S
          refine l_want S rfl rfl rfl hb10 (lv S (rn_move (S.tm rfl)) rfl ?_); clear S; intro a S
          refine l_want S rfl rfl rfl hb10 ?_
          obtain ⟨r10, hr16, h⟩ := bindE h
          refine l_enter S (fun _ => run_callV (cap := [.pointer (some ⟨b2, 0, none⟩)]) (S.tm rfl) (vs := [sV y1, iV (i1 : Int)]) ⟨(S.tm rfl), (S.tm rfl), trivial⟩ Tryd.call8) (tumbkeep2_RelaysAreFastest_c1_ok _ y1 (i1 : Int) b2 v1 r1.1 rs1 ((ownV_slcT R36.enc_ok hs1).mono (View.le_trans hl2 (S.le_new nil_sub))) (rels_36 (View.le_trans hl2 (S.le_new nil_sub)) hr3) (S.blk_view (i := 0) rfl ((ne_nil (e' := .blk b2 [v1] 26)) _ rfl)) _ hr16) rfl ?_; clear S; intro v13 a w25 hv11 hk20 hn11 S
          subst hv11
          refine l_want S rfl rfl rfl hb10 (lv S (rn_move (S.tm rfl)) rfl ?_); clear S; intro a S
          refine l_want S rfl rfl rfl hb10 (lv S (rn_move (S.tm rfl)) rfl ?_); clear S; intro a S
          refine l_want S rfl rfl rfl hb10 (lv S (rn_move (S.tm rfl)) rfl ?_); clear S; intro a S
          refine l_want S rfl rfl rfl hb10 ?_
          obtain ⟨r11, hr17, h⟩ := bindE h
          refine l_enter S (fun _ => run_callV (cap := [.pointer (some ⟨b2, 0, none⟩)]) (S.tm rfl) (vs := [sV y2, iV (i2 : Int)]) ⟨(S.tm rfl), (S.tm rfl), trivial⟩ Tryd.call8) (tumbkeep2_RelaysAreFastest_c1_ok _ y2 (i2 : Int) b2 v1 r1.1 rs1 ((ownV_slcT R36.enc_ok hs1).mono (View.le_trans hl2 (S.le_new nil_sub))) (rels_36 (View.le_trans hl2 (S.le_new nil_sub)) hr3) (S.blk_view (i := 0) rfl ((ne_nil (e' := .blk b2 [v1] 26)) _ rfl)) _ hr17) rfl ?_; clear S; intro v14 a w26 hv12 hk21 hn12 S
          subst hv12
          refine l_want S rfl rfl rfl hb10 (lv S (rn_add (S.tm rfl) (S.tm rfl)) rfl ?_); clear S; intro a S
          refine l_want S rfl rfl rfl hb10 (lv S (rn_lss (S.tm rfl) (S.tm rfl)) rfl ?_); clear S; intro a S
          refine lv S (rn_and_t hb10 (S.tm rfl) (S.tm rfl)) rfl ?_; clear S; intro a S
          refine l_done (then_n ?_)
          exact ⟨_, h, (hk20).trans hk21, S.nf [true, true] rfl (subR rfl)⟩
         ·replace h := iteF h hb10
          iterate 13 (refine l_skip S rfl rfl rfl (neq_f hb10) rfl ?_ rfl; clear S; intro a S)
          refine lv S (rn_and_f true hb10 (S.tm rfl) rfl) rfl ?_; clear S; intro a S
          refine l_done (then_n ?_)
          exact ⟨_, h, Keep.refl _ _, S.nf [true, true] rfl (subR rfl)⟩
        clear S h; rintro a w24 ⟨c3, h, hk22, S⟩; rw [hj5] at h; clear hj5 j5
        refine l_done ?_
        replace S := S.nk [.blk b2 [v1] 26, .blk b1 [v_p_l, iV r1.2] 25] [(3, .pointer (some ⟨b1, 0, none⟩)), (4, .pointer (some ⟨b2, 0, none⟩)), (5, u2), (6, iV r4.2.1), (9, .func (.func 8) #[] #[.pointer (some ⟨b2, 0, none⟩)]), (10, iV (W (x1 + r7))), (11, iV (i1 : Int)), (12, sV y1), (58, u2), (59, iV (r4.1.length : Int)), (60, iV (i1 : Int)), (85, v10), (86, iV ((cut r4.1 0 (i1 : Int)).length : Int)), (87, iV (i2 : Int)), (120, bV c3)] [true, true] rfl (subR rfl)
        refine then_n (f_cond (S.tm rfl) (fun hb11 => ?_) (fun hb11 => ?_))
        ·replace h := iteT h hb11
         refine f_seq (f_region (lv S (rn_assign rfl) rfl ?_)); clear S; intro a S
         refine l_done ?_
         replace S := S.nk [] [(2, bV false)] [false, false] rfl ⟨rfl, trivial⟩
         refine then_n (wp_ret (blk_r (then_r (then_r (blk_r (then_r ?_))))))
         refine blk_r (then_r (then_r (blk_r (then_r (then_r ?_)))))
         obtain rfl := Option.some.inj h
         exact f_ret S Tryd.results3 rfl rfl
        ·replace h := iteF h hb11
         refine wp_skip (blk_n (then_n (f_region (lv S (rn_add (S.tm rfl) rfl) rfl ?_)))); clear S; intro a S
         refine lv S (rn_move (S.tm rfl)) rfl ?_; clear S; intro a S
         refine l_done ?_
         replace S := S.nk [.blk b2 [v1] 26, .blk b1 [v_p_l, iV r1.2] 25] [(3, .pointer (some ⟨b1, 0, none⟩)), (4, .pointer (some ⟨b2, 0, none⟩)), (5, u2), (6, iV r4.2.1), (9, .func (.func 8) #[] #[.pointer (some ⟨b2, 0, none⟩)]), (10, iV (W (x1 + r7))), (11, iV (i1 : Int)), (12, sV y1), (58, u2), (59, iV (r4.1.length : Int)), (60, iV (i1 : Int)), (85, v10), (86, iV ((cut r4.1 0 (i1 : Int)).length : Int)), (87, iV (W ((i2 : Int) + 1)))] [true, true] rfl (subR rfl)
         refine then_n ?_
         exact ⟨ys2, ⟨i2 + 1, ⟨_, (hd2).trans (List.append_cons _ _ _), by simp [hi2]⟩, h, S.nf [true, true] rfl ⟨rfl, rfl, rfl, rfl, rfl, rfl, rfl, rfl, rfl, rfl, rfl, rfl, rfl, (congrArg (fun z => some (Value.int .i64 z)) (rng_next hd2 hi2 (slc_max hs4))), trivial⟩⟩, Nat.lt_succ_self _⟩
      clear S h; rintro a w20 ⟨h, S⟩; rw [hj4] at h; clear hj4 j4
      refine blk_n (then_n (f_region (lv S (rn_add (S.tm rfl) rfl) rfl ?_))); clear S; intro a S
      refine lv S (rn_move (S.tm rfl)) rfl ?_; clear S; intro a S
      refine l_done (then_n ?_)
      exact ⟨ys1, ⟨i1 + 1, W (x1 + r7), ⟨_, (hd1).trans (List.append_cons _ _ _), by simp [hi1]⟩, h, S.nf [true, true] rfl ⟨rfl, rfl, rfl, rfl, rfl, rfl, rfl, rfl, (congrArg (fun z => some (Value.int .i64 z)) (rng_next hd1 hi1 (slc_max (ownV_slcT enc_str hs2)))), trivial⟩⟩, Nat.lt_succ_self _⟩
   clear S h; rintro a w14 ⟨x1, h, S⟩; rw [hj2] at h; clear hj2 j2
   refine then_n (f_seq ?_)
   obtain ⟨r12, hr18, h⟩ := bindE h
   obtain ⟨r13, hr19, h⟩ := bindE h
   refine d_region [] ([b1]) Tryd.mixed S rfl (by kernel_rfl) ?_; clear S; intro w29 hk25 hsel S
   refine d_quiet 0 S hsel rfl rfl rfl (by kernel_rfl) (by kernel_rfl) rfl (fun _ hw => (rn_ld Tryd.isAgg26 (off := 0) (o := 0) (S.tm rfl) ((S.blk_mem (i := 0) (cells := [v1]) (b := b2) (T := 26) rfl (ne_fp (i := 1) (j := 0) (e := .blk b1 [v_p_l, iV r1.2] 25) (e' := .blk b2 [v1] 26) S rfl rfl rfl)).kept hw) rfl)) ?_; clear S; intro a S
   refine d_quiet 1 S hsel rfl rfl rfl (by kernel_rfl) (by kernel_rfl) rfl (fun _ hw => (rn_move (S.tm rfl))) ?_; clear S; intro a S
   refine d_loud1 2 (by kernel_rfl) rfl ?_
   refine l_enter1 1 S (b := b1) rfl rfl (fun _ => .blk b1 [v_p_l, iV r12.2] 25) (fun _ => run_call (vs := [.pointer (some ⟨b1, 0, none⟩), iV 1, iV 4]) ⟨(S.tm rfl), rfl, rfl, trivial⟩ Tryd.call12) (Stream_Range_ok _ b1 v_p_l p_l (hs_p_l.mono (S.le_arg (fp_sub (i := 1) (e := .blk b1 [v_p_l, iV r1.2] 25) rfl))) r1.2 (S.holds _ (List.mem_of_getElem? (i := 1) rfl)) 1 4 _ hr18) rfl (fun _ _ _ h => ⟨h.1, fun _ hc => by cases hc; rfl⟩) ?_; clear S; intro v17 a w30 hv15 hk26 hn15 S
   replace hv15 := hv15.2
   subst hv15
   refine l_done (d_next hk26 (d_loud1 3 (by kernel_rfl) rfl ?_))
   have hz6 := S.keep.size
   refine l_enter S (fun _ => run_call (vs := [v1, iV r12.1]) ⟨(S.tm rfl), (S.tm rfl), trivial⟩ Tryd.call7) (swimmer_Fastest_ok _ v1 r1.1 rs1 ((ownV_slcT R36.enc_ok hs1).mono (View.le_trans hl2 (S.le_new nil_sub))) (rels_36 (View.le_trans hl2 (S.le_new nil_sub)) hr3) r12.1 _ hr19) rfl ?_; clear S; intro v18 a w31 hv16 hk27 hn16 S
   obtain ⟨u4, rfl, ho5⟩ := hv16
   obtain ⟨φ4, hl4, hm6, S⟩ := S.see' hn16 hz6
   have hs6 := ho5.mono hm6
   refine l_done (d_next (Keep.none hk27) (d_rest [4, 5, 6, 7, 8, 9, 10, 11, 12] hsel (by kernel_rfl) rfl ?_))
   clear hsel
   refine s_lv S rfl (rn_move (S.tm rfl)) rfl ?_; clear S; intro a S
   iterate 4 (refine s_lv S rfl (rn_extract (S.tm rfl) rfl) rfl ?_; clear S; intro a S)
   iterate 4 (refine s_lv S rfl (rn_assign (S.tm rfl)) rfl ?_; clear S; intro a S)
   refine s_done ?_
   replace S := S.nk [] [(5, u2), (6, iV r4.2.1), (10, iV x1), (17, u4), (18, iV r13.2.1), (19, bV r13.2.2.1), (20, iV r13.2.2.2)] [false, false] rfl (subR rfl)
   refine then_n (f_seq (f_region (lv S (rn_move (S.tm rfl)) rfl ?_))); clear S; intro a S
   refine lv S (rn_eql (S.tm rfl) rfl) rfl ?_; clear S; intro a S
   refine lv S (rn_move (S.tm rfl)) rfl ?_; clear S; intro a S
   refine f_cutm 4 (fun a w' => Keep [] w31 w' ∧ Sx w [] φ4 [] [(6, iV r4.2.1), (10, iV x1), (17, u4), (18, iV r13.2.1), (19, bV r13.2.2.1), (138, bV ((decide (r13.2.2.2 = 0)) && (decide ((r4.1.length : Int) = 4))))] 161 a w') ?_ ?_
   ·rcases Bool.eq_false_or_eq_true (decide (r13.2.2.2 = 0)) with hb12 | hb12
    ·refine l_want S rfl rfl rfl hb12 (lv S (rn_move (S.tm rfl)) rfl ?_); clear S; intro a S
     refine l_want S rfl rfl rfl hb12 (lv S (rn_lenT sl_31 (S.tm rfl) (slc_len (ownV_slcT enc_str hs2))) rfl ?_); clear S; intro a S
     refine l_want S rfl rfl rfl hb12 (lv S (rn_eql (S.tm rfl) rfl) rfl ?_); clear S; intro a S
     refine lv S (rn_and_t hb12 (S.tm rfl) (S.tm rfl)) rfl ?_; clear S; intro a S
     refine l_done (then_n ?_)
     exact ⟨Keep.refl _ _, S.nf [] rfl (subR rfl)⟩
    ·iterate 3 (refine l_skip S rfl rfl rfl (neq_f hb12) rfl ?_ rfl; clear S; intro a S)
     refine lv S (rn_and_f (decide ((r4.1.length : Int) = 4)) hb12 (S.tm rfl) rfl) rfl ?_; clear S; intro a S
     refine l_done (then_n ?_)
     exact ⟨Keep.refl _ _, S.nf [] rfl (subR rfl)⟩
   clear S; rintro a w32 ⟨hk28, S⟩
   refine lv S (rn_move (S.tm rfl)) rfl ?_; clear S; intro a S
   refine f_cutm 4 (fun a w' => Keep [] w32 w' ∧ Sx w [] φ4 [] [(6, iV r4.2.1), (17, u4), (18, iV r13.2.1), (19, bV r13.2.2.1), (143, bV (((decide (r13.2.2.2 = 0)) && (decide ((r4.1.length : Int) = 4))) && (decide (x1 = r4.2.1))))] 161 a w') ?_ ?_
   ·rcases Bool.eq_false_or_eq_true ((decide (r13.2.2.2 = 0)) && (decide ((r4.1.length : Int) = 4))) with hb13 | hb13
    ·refine l_want S rfl rfl rfl hb13 (lv S (rn_move (S.tm rfl)) rfl ?_); clear S; intro a S
     refine l_want S rfl rfl rfl hb13 (lv S (rn_move (S.tm rfl)) rfl ?_); clear S; intro a S
     refine l_want S rfl rfl rfl hb13 (lv S (rn_eql (S.tm rfl) (S.tm rfl)) rfl ?_); clear S; intro a S
     refine lv S (rn_and_t hb13 (S.tm rfl) (S.tm rfl)) rfl ?_; clear S; intro a S
     refine l_done (then_n ?_)
     exact ⟨Keep.refl _ _, S.nf [] rfl (subR rfl)⟩
    ·iterate 3 (refine l_skip S rfl rfl rfl (neq_f hb13) rfl ?_ rfl; clear S; intro a S)
     refine lv S (rn_and_f (decide (x1 = r4.2.1)) hb13 (S.tm rfl) rfl) rfl ?_; clear S; intro a S
     refine l_done (then_n ?_)
     exact ⟨Keep.refl _ _, S.nf [] rfl (subR rfl)⟩
   clear S; rintro a w33 ⟨hk29, S⟩
   refine lv S (rn_move (S.tm rfl)) rfl ?_; clear S; intro a S
   refine f_cutm 13 (fun a w' => Keep [] w33 w' ∧ Sx w [] φ4 [] [(157, bV ((((decide (r13.2.2.2 = 0)) && (decide ((r4.1.length : Int) = 4))) && (decide (x1 = r4.2.1))) && ((!r13.2.2.1) || ((decide (r4.2.1 ≤ r13.2.1)) && (decide ((r13.1.length : Int) = 4))))))] 161 a w') ?_ ?_
   ·rcases Bool.eq_false_or_eq_true (((decide (r13.2.2.2 = 0)) && (decide ((r4.1.length : Int) = 4))) && (decide (x1 = r4.2.1))) with hb14 | hb14
    ·refine l_want S rfl rfl rfl hb14 (lv S (rn_move (S.tm rfl)) rfl ?_); clear S; intro a S
     refine l_want S rfl rfl rfl hb14 (lv S (rn_not (S.tm rfl)) rfl ?_); clear S; intro a S
     refine l_want S rfl rfl rfl hb14 (lv S (rn_move (S.tm rfl)) rfl ?_); clear S; intro a S
     refine f_cutm 9 (fun a w' => Keep [] w33 w' ∧ Sx w [] φ4 [] [(144, bV (((decide (r13.2.2.2 = 0)) && (decide ((r4.1.length : Int) = 4))) && (decide (x1 = r4.2.1)))), (156, bV ((!r13.2.2.1) || ((decide (r4.2.1 ≤ r13.2.1)) && (decide ((r13.1.length : Int) = 4)))))] 161 a w') ?_ ?_
     ·rcases Bool.eq_false_or_eq_true (!r13.2.2.1) with hb15 | hb15
      ·iterate 4 (refine l_skip S rfl rfl rfl (neq_t hb15) rfl ?_ rfl; clear S; intro a S)
       iterate 3 (refine l_skipU S rfl rfl rfl rfl ?_; clear S; intro a S)
       refine l_skip S rfl rfl rfl (neq_t hb15) rfl ?_ rfl; clear S; intro a S
       refine l_want S rfl rfl rfl hb14 (lv S (rn_or_t ((decide (r4.2.1 ≤ r13.2.1)) && (decide ((r13.1.length : Int) = 4))) hb15 (S.tm rfl) rfl) rfl ?_); clear S; intro a S
       refine l_done (then_n ?_)
       exact ⟨Keep.refl _ _, S.nf [] rfl (subR rfl)⟩
      ·refine l_want S rfl rfl rfl hb15 (lv S (rn_move (S.tm rfl)) rfl ?_); clear S; intro a S
       refine l_want S rfl rfl rfl hb15 (lv S (rn_move (S.tm rfl)) rfl ?_); clear S; intro a S
       refine l_want S rfl rfl rfl hb15 (lv S (rn_geq (S.tm rfl) (S.tm rfl)) rfl ?_); clear S; intro a S
       refine l_want S rfl rfl rfl hb15 (lv S (rn_move (S.tm rfl)) rfl ?_); clear S; intro a S
       refine f_cutm 4 (fun a w' => Keep [] w33 w' ∧ Sx w [] φ4 [] [(144, bV (((decide (r13.2.2.2 = 0)) && (decide ((r4.1.length : Int) = 4))) && (decide (x1 = r4.2.1)))), (147, bV (!r13.2.2.1)), (155, bV ((decide (r4.2.1 ≤ r13.2.1)) && (decide ((r13.1.length : Int) = 4))))] 161 a w') ?_ ?_
       ·rcases Bool.eq_false_or_eq_true (decide (r4.2.1 ≤ r13.2.1)) with hb16 | hb16
        ·refine l_want S rfl rfl rfl hb16 (lv S (rn_move (S.tm rfl)) rfl ?_); clear S; intro a S
         refine l_want S rfl rfl rfl hb16 (lv S (rn_lenT sl_31 (S.tm rfl) (slc_len (ownV_slcT enc_str hs6))) rfl ?_); clear S; intro a S
         refine l_want S rfl rfl rfl hb16 (lv S (rn_eql (S.tm rfl) rfl) rfl ?_); clear S; intro a S
         refine l_want S rfl rfl rfl hb15 (lv S (rn_and_t hb16 (S.tm rfl) (S.tm rfl)) rfl ?_); clear S; intro a S
         refine l_done (then_n ?_)
         exact ⟨Keep.refl _ _, S.nf [] rfl (subR rfl)⟩
        ·iterate 3 (refine l_skip S rfl rfl rfl (neq_f hb16) rfl ?_ rfl; clear S; intro a S)
         refine l_want S rfl rfl rfl hb15 (lv S (rn_and_f (decide ((r13.1.length : Int) = 4)) hb16 (S.tm rfl) rfl) rfl ?_); clear S; intro a S
         refine l_done (then_n ?_)
         exact ⟨Keep.refl _ _, S.nf [] rfl (subR rfl)⟩
       clear S; rintro a w36 ⟨hk30, S⟩
       refine l_want S rfl rfl rfl hb14 (lv S (rn_or_f hb15 (S.tm rfl) (S.tm rfl)) rfl ?_); clear S; intro a S
       refine l_done (then_n ?_)
       exact ⟨hk30, S.nf [] rfl (subR rfl)⟩
     clear S; rintro a w35 ⟨hk31, S⟩
     refine lv S (rn_and_t hb14 (S.tm rfl) (S.tm rfl)) rfl ?_; clear S; intro a S
     refine l_done (then_n ?_)
     exact ⟨hk31, S.nf [] rfl ⟨rfl, trivial⟩⟩
    ·iterate 3 (refine l_skip S rfl rfl rfl (neq_f hb14) rfl ?_ rfl; clear S; intro a S)
     iterate 8 (refine l_skipU S rfl rfl rfl rfl ?_; clear S; intro a S)
     refine l_skip S rfl rfl rfl (neq_f hb14) rfl ?_ rfl; clear S; intro a S
     refine lv S (rn_and_f ((!r13.2.2.1) || ((decide (r4.2.1 ≤ r13.2.1)) && (decide ((r13.1.length : Int) = 4)))) hb14 (S.tm rfl) rfl) rfl ?_; clear S; intro a S
     refine l_done (then_n ?_)
     exact ⟨Keep.refl _ _, S.nf [] rfl ⟨rfl, trivial⟩⟩
   clear S; rintro a w34 ⟨hk32, S⟩
   refine lv S (rn_move (S.tm rfl)) rfl ?_; clear S; intro a S
   obtain ⟨j6, hj6, h⟩ := joinE h
   refine f_cutm 2 (fun a w' => ∃ c4, j6 c4 = some r ∧ Keep [] w34 w' ∧ Sx w [] φ4 [] [(160, bV c4)] 161 a w') ?_ ?_
   ·rcases Bool.eq_false_or_eq_true ((((decide (r13.2.2.2 = 0)) && (decide ((r4.1.length : Int) = 4))) && (decide (x1 = r4.2.1))) && ((!r13.2.2.1) || ((decide (r4.2.1 ≤ r13.2.1)) && (decide ((r13.1.length : Int) = 4))))) with hb17 | hb17
    ·replace h := iteT h hb17
     refine l_want S rfl rfl rfl hb17 ?_
     obtain ⟨r14, hr20, h⟩ := bindE h
     refine l_enter S (fun _ => run_call (vs := []) trivial Tryd.call6) (tumbkeep2_ready_ok _ _ hr20) rfl ?_; clear S; intro v19 a w38 hv17 hk33 hn17 S
     subst hv17
     refine lv S (rn_and_t hb17 (S.tm rfl) (S.tm rfl)) rfl ?_; clear S; intro a S
     refine l_done (then_n ?_)
     exact ⟨_, h, hk33, S.nf [] rfl ⟨rfl, trivial⟩⟩
    ·replace h := iteF h hb17
     refine l_skip S rfl rfl rfl (neq_f hb17) rfl ?_ rfl; clear S; intro a S
     refine lv S (rn_and_f true hb17 (S.tm rfl) rfl) rfl ?_; clear S; intro a S
     refine l_done (then_n ?_)
     exact ⟨_, h, Keep.refl _ _, S.nf [] rfl ⟨rfl, trivial⟩⟩
   clear S h; rintro a w37 ⟨c4, h, hk34, S⟩; rw [hj6] at h; clear hj6 j6
   refine lv S (rn_assign (S.tm rfl)) rfl ?_; clear S; intro a S
   refine l_done (then_n (wp_ret ?_))
   obtain rfl := Option.some.inj h
   exact f_ret S Tryd.results3 rfl rfl
end Go.Proofs.YthefdlbcibhblaaDoor
