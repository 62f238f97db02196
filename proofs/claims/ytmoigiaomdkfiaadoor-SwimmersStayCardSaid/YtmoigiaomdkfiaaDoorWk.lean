/- Each Go function computes its plain twin, by program. -/
import Derived.Test.YtmoigiaomdkfiaaDoorWk2
namespace Go.Proofs.YtmoigiaomdkfiaaDoor
open Go
theorem record_checkStep_ok (w : World) (p_x : GStep) (r : Int) (h : record_checkStep p_x = some r) :
    Calls Tryd.prog 72 [.agg (GStep.enc p_x).toArray].toArray w (Ret w [] fun _ v _ => v = iV r) := by
 refine f_enter [] [] Tryd.func72 rfl Tryd.ntmps72 rfl (by simp) (by simp [fps]) (by simp [fps]) fun a S => ?_
 unfold record_checkStep at h
 replace S := S.nk [] [(0, .agg (GStep.enc p_x).toArray)] [] rfl ⟨rfl, trivial⟩
 refine f_seq (f_region (l_box S (S.tm rfl) (cs := (GStep.enc p_x)) rfl rfl ?_)); clear S; intro a w1 b1 hz1 hk1 S
 refine lv S (rn_assign rfl) rfl ?_; clear S; intro a S
 refine l_done (then_n (f_seq ?_))
 obtain ⟨j1, hj1, h⟩ := joinE h
 refine f_join (fun a w' => j1 = some r ∧ Sx w [] nov [] [] 64 a w') ?_ ?_
 ·refine wp_block (f_seq (f_region (lv S (rn_fld fa_87_0 (S.tm rfl)) rfl ?_))); clear S; intro a S
  refine lv S (rn_load Tryd.isAgg3 (S.tm rfl) (S.cell (i := 0) rfl rfl)) rfl ?_; clear S; intro a S
  refine l_enter S (fun _ => run_call (vs := [iV p_x.At]) ⟨(S.tm rfl), trivial⟩ Tryd.call78) (words_IsMoment_ok _ p_x.At _ rfl) rfl ?_; clear S; intro v1 a w3 hv1 hk2 hn1 S
  subst hv1
  refine lv S (rn_not (S.tm rfl)) rfl ?_; clear S; intro a S
  refine lv S (rn_assign (S.tm rfl)) rfl ?_; clear S; intro a S
  refine l_done (then_n (f_cond (S.tm rfl) (fun hb1 => ?_) (fun hb1 => ?_)))
  ·replace h := iteT h hb1
   refine f_seq (f_region (lv S (rn_assign rfl) rfl ?_)); clear S; intro a S
   refine l_done (then_n (wp_ret (blk_r (then_r (then_r ?_)))))
   obtain rfl := Option.some.inj h
   exact f_ret S Tryd.results72 rfl rfl
  ·replace h := iteF h hb1
   refine f_seq (f_region (lv S (rn_fld fa_87_1 (S.tm rfl)) rfl ?_)); clear S; intro a S
   refine lv S (rn_load Tryd.isAgg3 (S.tm rfl) (S.cell (i := 0) rfl rfl)) rfl ?_; clear S; intro a S
   refine l_enter S (fun _ => run_call (vs := [iV p_x.Kind, iV 1, iV 3]) ⟨(S.tm rfl), rfl, rfl, trivial⟩ Tryd.call26) (words_Within_ok _ p_x.Kind 1 3 _ rfl) rfl ?_; clear S; intro v2 a w4 hv2 hk3 hn2 S
   subst hv2
   refine lv S (rn_not (S.tm rfl)) rfl ?_; clear S; intro a S
   refine lv S (rn_assign (S.tm rfl)) rfl ?_; clear S; intro a S
   refine l_done (then_n (f_cond (S.tm rfl) (fun hb2 => ?_) (fun hb2 => ?_)))
   ·replace h := iteT h hb2
    refine f_seq (f_region (lv S (rn_assign rfl) rfl ?_)); clear S; intro a S
    refine l_done (then_n (wp_ret (blk_r (then_r (then_r ?_)))))
    obtain rfl := Option.some.inj h
    exact f_ret S Tryd.results72 rfl rfl
   ·replace h := iteF h hb2
    refine f_seq (f_region (lv S (rn_fld fa_87_2 (S.tm rfl)) rfl ?_)); clear S; intro a S
    refine lv S (rn_load Tryd.isAgg9 (S.tm rfl) (S.cell (i := 0) rfl rfl)) rfl ?_; clear S; intro a S
    obtain ⟨r1, hr1, h⟩ := bindE h
    refine l_enter S (fun _ => run_call (vs := [sV p_x.Id]) ⟨(S.tm rfl), trivial⟩ Tryd.call25) (words_IsKey_ok _ p_x.Id _ hr1) rfl ?_; clear S; intro v3 a w5 hv3 hk4 hn3 S
    subst hv3
    refine lv S (rn_not (S.tm rfl)) rfl ?_; clear S; intro a S
    refine lv S (rn_assign (S.tm rfl)) rfl ?_; clear S; intro a S
    refine l_done ?_
    replace S := S.nk [.blk b1 (GStep.enc p_x) 87] [(1, .pointer (some ⟨b1, 0, none⟩)), (13, bV (!r1))] [true] rfl (subR rfl)
    refine then_n (f_cond (S.tm rfl) (fun hb3 => ?_) (fun hb3 => ?_))
    ·replace h := iteT h hb3
     refine f_seq (f_region (lv S (rn_assign rfl) rfl ?_)); clear S; intro a S
     refine l_done (then_n (wp_ret (blk_r (then_r (then_r ?_)))))
     obtain rfl := Option.some.inj h
     exact f_ret S Tryd.results72 rfl rfl
    ·replace h := iteF h hb3
     refine f_seq (f_region (lv S (rn_fld fa_87_1 (S.tm rfl)) rfl ?_)); clear S; intro a S
     refine lv S (rn_load Tryd.isAgg3 (S.tm rfl) (S.cell (i := 0) rfl rfl)) rfl ?_; clear S; intro a S
     refine lv S (rn_neq (S.tm rfl) rfl) rfl ?_; clear S; intro a S
     refine lv S (rn_assign (S.tm rfl)) rfl ?_; clear S; intro a S
     refine l_done (then_n ?_)
     obtain ⟨j2, hj2, h⟩ := joinE h
     refine f_join (fun a w' => j2 = some r ∧ Sx w [] nov [] [] 64 a w') ?_ ?_
     ·refine f_cond (S.tm rfl) (fun hb4 => ?_) (fun hb4 => ?_)
      ·replace h := iteT h hb4
       refine f_seq (f_region (lv S (rn_ldA Tryd.isAgg87 Tryd.sizeOf87 (off := 0) (o := 0) (part := (GStep.enc p_x)) rfl rfl (S.tm rfl) (S.cellsAt (i := 0) rfl)) rfl ?_)); clear S; intro a S
       refine lv S (rn_fld fa_87_0 (S.tm rfl)) rfl ?_; clear S; intro a S
       refine lv S (rn_load Tryd.isAgg3 (S.tm rfl) (S.cell (i := 0) rfl rfl)) rfl ?_; clear S; intro a S
       refine lv S (rn_fld fa_87_1 (S.tm rfl)) rfl ?_; clear S; intro a S
       refine lv S (rn_load Tryd.isAgg3 (S.tm rfl) (S.cell (i := 0) rfl rfl)) rfl ?_; clear S; intro a S
       refine lv S (rn_fld fa_87_2 (S.tm rfl)) rfl ?_; clear S; intro a S
       refine lv S (rn_load Tryd.isAgg9 (S.tm rfl) (S.cell (i := 0) rfl rfl)) rfl ?_; clear S; intro a S
       refine lv S (rn_bld bt_87 (pv := [(0, iV p_x.At), (1, iV p_x.Kind), (2, sV p_x.Id)]) ⟨rfl, (S.tm rfl), rfl, (S.tm rfl), rfl, (S.tm rfl), trivial⟩ (cs := [iV p_x.At, iV p_x.Kind, sV p_x.Id, sV k_empty, sV k_empty, sV k_empty, iV 0, iV 0]) (by kernel_rfl)) rfl ?_; clear S; intro a S
       refine lv S (rn_neq_87 (m := p_x) (n := (GStep.mk p_x.At p_x.Kind p_x.Id k_empty k_empty k_empty 0 0)) (S.tm rfl) (S.tm rfl)) rfl ?_; clear S; intro a S
       refine l_done ?_
       replace S := S.nk [] [(30, bV (!decide (p_x = (GStep.mk p_x.At p_x.Kind p_x.Id k_empty k_empty k_empty 0 0))))] [false] rfl ⟨rfl, trivial⟩
       refine then_n (f_cond (S.tm rfl) (fun hb5 => ?_) (fun hb5 => ?_))
       ·replace h := iteT h hb5
        refine f_seq (f_region (lv S (rn_assign rfl) rfl ?_)); clear S; intro a S
        refine l_done (then_n (wp_ret (then_r (blk_r (then_r (then_r ?_))))))
        obtain rfl := Option.some.inj h
        exact f_ret S Tryd.results72 rfl rfl
       ·replace h := iteF h hb5
        refine wp_skip (then_n ?_)
        exact ⟨h, S.nf [] rfl trivial⟩
      ·replace h := iteF h hb4
       refine f_seq (f_region (lv S (rn_fld fa_87_3 (S.tm rfl)) rfl ?_)); clear S; intro a S
       refine lv S (rn_load Tryd.isAgg9 (S.tm rfl) (S.cell (i := 0) rfl rfl)) rfl ?_; clear S; intro a S
       obtain ⟨r2, hr2, h⟩ := bindE h
       refine l_enter S (fun _ => run_call (vs := [sV p_x.Who]) ⟨(S.tm rfl), trivial⟩ Tryd.call25) (words_IsKey_ok _ p_x.Who _ hr2) rfl ?_; clear S; intro v4 a w7 hv4 hk5 hn4 S
       subst hv4
       refine lv S (rn_not (S.tm rfl)) rfl ?_; clear S; intro a S
       refine lv S (rn_move (S.tm rfl)) rfl ?_; clear S; intro a S
       obtain ⟨j3, hj3, h⟩ := joinE h
       refine f_cutm 5 (fun a w' => ∃ c1, j3 c1 = some r ∧ Keep [] w7 w' ∧ Sx w [] nov [.blk b1 (GStep.enc p_x) 87] [(1, .pointer (some ⟨b1, 0, none⟩)), (41, bV c1)] 64 a w') ?_ ?_
       ·rcases Bool.eq_false_or_eq_true (!r2) with hb6 | hb6
        ·replace h := iteT h hb6
         iterate 4 (refine l_skip S rfl rfl rfl (neq_t hb6) rfl ?_ rfl; clear S; intro a S)
         refine lv S (rn_or_t true hb6 (S.tm rfl) rfl) rfl ?_; clear S; intro a S
         refine l_done (then_n ?_)
         exact ⟨_, h, Keep.refl _ _, S.nf [true] rfl (subR rfl)⟩
        ·replace h := iteF h hb6
         refine l_want S rfl rfl rfl hb6 (lv S (rn_fld fa_87_5 (S.tm rfl)) rfl ?_); clear S; intro a S
         refine l_want S rfl rfl rfl hb6 (lv S (rn_load Tryd.isAgg9 (S.tm rfl) (S.cell (i := 0) rfl rfl)) rfl ?_); clear S; intro a S
         refine l_want S rfl rfl rfl hb6 ?_
         obtain ⟨r3, hr3, h⟩ := bindE h
         refine l_enter S (fun _ => run_call (vs := [sV p_x.Race]) ⟨(S.tm rfl), trivial⟩ Tryd.call25) (words_IsKey_ok _ p_x.Race _ hr3) rfl ?_; clear S; intro v5 a w9 hv5 hk6 hn5 S
         subst hv5
         refine l_want S rfl rfl rfl hb6 (lv S (rn_not (S.tm rfl)) rfl ?_); clear S; intro a S
         refine lv S (rn_or_f hb6 (S.tm rfl) (S.tm rfl)) rfl ?_; clear S; intro a S
         refine l_done (then_n ?_)
         exact ⟨_, h, hk6, S.nf [true] rfl (subR rfl)⟩
       clear S h; rintro a w8 ⟨c1, h, hk7, S⟩; rw [hj3] at h; clear hj3 j3
       refine lv S (rn_move (S.tm rfl)) rfl ?_; clear S; intro a S
       obtain ⟨j4, hj4, h⟩ := joinE h
       refine f_cutm 10 (fun a w' => ∃ c2, j4 c2 = some r ∧ Keep [] w8 w' ∧ Sx w [] nov [.blk b1 (GStep.enc p_x) 87] [(1, .pointer (some ⟨b1, 0, none⟩)), (52, bV c2)] 64 a w') ?_ ?_
       ·rcases Bool.eq_false_or_eq_true c1 with hb7 | hb7
        ·replace h := iteT h hb7
         iterate 4 (refine l_skip S rfl rfl rfl (neq_t hb7) rfl ?_ rfl; clear S; intro a S)
         iterate 4 (refine l_skipU S rfl rfl rfl rfl ?_; clear S; intro a S)
         refine l_skip S rfl rfl rfl (neq_t hb7) rfl ?_ rfl; clear S; intro a S
         refine lv S (rn_or_t true hb7 (S.tm rfl) rfl) rfl ?_; clear S; intro a S
         refine l_done (then_n ?_)
         exact ⟨_, h, Keep.refl _ _, S.nf [true] rfl (subR rfl)⟩
        ·replace h := iteF h hb7
         refine l_want S rfl rfl rfl hb7 (lv S (rn_fld fa_87_4 (S.tm rfl)) rfl ?_); clear S; intro a S
         refine l_want S rfl rfl rfl hb7 (lv S (rn_load Tryd.isAgg9 (S.tm rfl) (S.cell (i := 0) rfl rfl)) rfl ?_); clear S; intro a S
         refine l_want S rfl rfl rfl hb7 (lv S (rn_sneq (S.tm rfl) rfl) rfl ?_); clear S; intro a S
         refine l_want S rfl rfl rfl hb7 (lv S (rn_move (S.tm rfl)) rfl ?_); clear S; intro a S
         obtain ⟨j5, hj5, h⟩ := joinE h
         refine f_cutm 5 (fun a w' => ∃ c3, j5 c3 = some r ∧ Keep [] w8 w' ∧ Sx w [] nov [.blk b1 (GStep.enc p_x) 87] [(1, .pointer (some ⟨b1, 0, none⟩)), (42, bV c1), (51, bV c3)] 64 a w') ?_ ?_
         ·rcases Bool.eq_false_or_eq_true (!decide (p_x.Club = k_empty)) with hb8 | hb8
          ·replace h := iteT h hb8
           refine l_want S rfl rfl rfl hb8 (lv S (rn_fld fa_87_4 (S.tm rfl)) rfl ?_); clear S; intro a S
           refine l_want S rfl rfl rfl hb8 (lv S (rn_load Tryd.isAgg9 (S.tm rfl) (S.cell (i := 0) rfl rfl)) rfl ?_); clear S; intro a S
           refine l_want S rfl rfl rfl hb8 ?_
           obtain ⟨r4, hr4, h⟩ := bindE h
           refine l_enter S (fun _ => run_call (vs := [sV p_x.Club]) ⟨(S.tm rfl), trivial⟩ Tryd.call25) (words_IsKey_ok _ p_x.Club _ hr4) rfl ?_; clear S; intro v6 a w12 hv6 hk8 hn6 S
           subst hv6
           refine l_want S rfl rfl rfl hb8 (lv S (rn_not (S.tm rfl)) rfl ?_); clear S; intro a S
           refine l_want S rfl rfl rfl hb7 (lv S (rn_and_t hb8 (S.tm rfl) (S.tm rfl)) rfl ?_); clear S; intro a S
           refine l_done (then_n ?_)
           exact ⟨_, h, hk8, S.nf [true] rfl (subR rfl)⟩
          ·replace h := iteF h hb8
           iterate 4 (refine l_skip S rfl rfl rfl (neq_f hb8) rfl ?_ rfl; clear S; intro a S)
           refine l_want S rfl rfl rfl hb7 (lv S (rn_and_f true hb8 (S.tm rfl) rfl) rfl ?_); clear S; intro a S
           refine l_done (then_n ?_)
           exact ⟨_, h, Keep.refl _ _, S.nf [true] rfl (subR rfl)⟩
         clear S h; rintro a w11 ⟨c3, h, hk9, S⟩; rw [hj5] at h; clear hj5 j5
         refine lv S (rn_or_f hb7 (S.tm rfl) (S.tm rfl)) rfl ?_; clear S; intro a S
         refine l_done (then_n ?_)
         exact ⟨_, h, hk9, S.nf [true] rfl (subR rfl)⟩
       clear S h; rintro a w10 ⟨c2, h, hk10, S⟩; rw [hj4] at h; clear hj4 j4
       refine lv S (rn_assign (S.tm rfl)) rfl ?_; clear S; intro a S
       refine l_done (then_n (f_cond (S.tm rfl) (fun hb9 => ?_) (fun hb9 => ?_)))
       ·replace h := iteT h hb9
        refine f_seq (f_region (lv S (rn_assign rfl) rfl ?_)); clear S; intro a S
        refine l_done (then_n (wp_ret (then_r (blk_r (then_r (then_r ?_))))))
        obtain rfl := Option.some.inj h
        exact f_ret S Tryd.results72 rfl rfl
       ·replace h := iteF h hb9
        refine f_seq (f_region (lv S (rn_fld fa_87_6 (S.tm rfl)) rfl ?_)); clear S; intro a S
        refine lv S (rn_load Tryd.isAgg3 (S.tm rfl) (S.cell (i := 0) rfl rfl)) rfl ?_; clear S; intro a S
        refine l_enter S (fun _ => run_call (vs := [iV p_x.Age, iV 0, iV 150]) ⟨(S.tm rfl), rfl, rfl, trivial⟩ Tryd.call26) (words_Within_ok _ p_x.Age 0 150 _ rfl) rfl ?_; clear S; intro v7 a w13 hv7 hk11 hn7 S
        subst hv7
        refine lv S (rn_not (S.tm rfl)) rfl ?_; clear S; intro a S
        refine lv S (rn_move (S.tm rfl)) rfl ?_; clear S; intro a S
        refine f_cutm 5 (fun a w' => Keep [] w13 w' ∧ Sx w [] nov [.blk b1 (GStep.enc p_x) 87] [(63, bV ((!(words_Within p_x.Age 0 150)) || (!(timing_IsTime p_x.Time))))] 64 a w') ?_ ?_
        ·rcases Bool.eq_false_or_eq_true (!(words_Within p_x.Age 0 150)) with hb10 | hb10
         ·iterate 4 (refine l_skip S rfl rfl rfl (neq_t hb10) rfl ?_ rfl; clear S; intro a S)
          refine lv S (rn_or_t (!(timing_IsTime p_x.Time)) hb10 (S.tm rfl) rfl) rfl ?_; clear S; intro a S
          refine l_done (then_n ?_)
          exact ⟨Keep.refl _ _, S.nf [true] rfl ⟨rfl, trivial⟩⟩
         ·refine l_want S rfl rfl rfl hb10 (lv S (rn_fld fa_87_7 (S.tm rfl)) rfl ?_); clear S; intro a S
          refine l_want S rfl rfl rfl hb10 (lv S (rn_load Tryd.isAgg3 (S.tm rfl) (S.cell (i := 0) rfl rfl)) rfl ?_); clear S; intro a S
          refine l_want S rfl rfl rfl hb10 (l_enter S (fun _ => run_call (vs := [iV p_x.Time]) ⟨(S.tm rfl), trivial⟩ Tryd.call38) (timing_IsTime_ok _ p_x.Time _ rfl) rfl ?_); clear S; intro v8 a w15 hv8 hk12 hn8 S
          subst hv8
          refine l_want S rfl rfl rfl hb10 (lv S (rn_not (S.tm rfl)) rfl ?_); clear S; intro a S
          refine lv S (rn_or_f hb10 (S.tm rfl) (S.tm rfl)) rfl ?_; clear S; intro a S
          refine l_done (then_n ?_)
          exact ⟨hk12, S.nf [true] rfl ⟨rfl, trivial⟩⟩
        clear S; rintro a w14 ⟨hk13, S⟩
        refine lv S (rn_assign (S.tm rfl)) rfl ?_; clear S; intro a S
        refine l_done (then_n (f_cond (S.tm rfl) (fun hb11 => ?_) (fun hb11 => ?_)))
        ·replace h := iteT h hb11
         refine f_seq (f_region (lv S (rn_assign rfl) rfl ?_)); clear S; intro a S
         refine l_done (then_n (wp_ret (then_r (blk_r (then_r (then_r ?_))))))
         obtain rfl := Option.some.inj h
         exact f_ret S Tryd.results72 rfl rfl
        ·replace h := iteF h hb11
         refine wp_skip (then_n ?_)
         exact ⟨h, S.nf [false] rfl trivial⟩
     clear S h; rintro a w6 ⟨h, S⟩; rw [hj2] at h; clear hj2 j2
     refine blk_n (then_n ?_)
     exact ⟨h, S.nf [] rfl trivial⟩
 clear S h; rintro a w2 ⟨h, S⟩; rw [hj1] at h; clear hj1 j1
 refine then_n (f_seq (f_region (lv S (rn_assign rfl) rfl ?_))); clear S; intro a S
 refine l_done (then_n (wp_ret ?_))
 obtain rfl := Option.some.inj h
 exact f_ret S Tryd.results72 rfl rfl
theorem record_checkSwum_ok (w : World) (p_s : GStep) (r : Int) (h : record_checkSwum p_s = some r) :
    Calls Tryd.prog 53 [.agg (GStep.enc p_s).toArray].toArray w (Ret w [] fun _ v _ => v = iV r) := by
 refine f_enter [] [] Tryd.func53 rfl Tryd.ntmps53 rfl (by simp) (by simp [fps]) (by simp [fps]) fun a S => ?_
 unfold record_checkSwum at h
 replace S := S.nk [] [(0, .agg (GStep.enc p_s).toArray)] [] rfl ⟨rfl, trivial⟩
 refine f_seq (f_region (l_box S (S.tm rfl) (cs := (GStep.enc p_s)) rfl rfl ?_)); clear S; intro a w1 b1 hz1 hk1 S
 refine lv S (rn_assign rfl) rfl ?_; clear S; intro a S
 refine l_done (then_n (f_seq (f_seq (f_region (lv S (rn_ldA Tryd.isAgg87 Tryd.sizeOf87 (off := 0) (o := 0) (part := (GStep.enc p_s)) rfl rfl (S.tm rfl) (S.cellsAt (i := 0) rfl)) rfl ?_))))); clear S; intro a S
 obtain ⟨r1, hr1, h⟩ := bindE h
 refine l_enter S (fun _ => run_call (vs := [.agg (GStep.enc p_s).toArray]) ⟨(S.tm rfl), trivial⟩ Tryd.call72) (record_checkStep_ok _ p_s _ hr1) rfl ?_; clear S; intro v1 a w2 hv1 hk2 hn1 S
 subst hv1
 refine lv S (rn_assign (S.tm rfl)) rfl ?_; clear S; intro a S
 refine l_done (then_n (f_seq (f_region (lv S (rn_move (S.tm rfl)) rfl ?_)))); clear S; intro a S
 refine lv S (rn_neq (S.tm rfl) rfl) rfl ?_; clear S; intro a S
 refine l_done (then_n (f_cond (S.tm rfl) (fun hb1 => ?_) (fun hb1 => ?_)))
 ·replace h := iteT h hb1
  refine f_seq (f_region (lv S (rn_move (S.tm rfl)) rfl ?_)); clear S; intro a S
  refine lv S (rn_assign (S.tm rfl)) rfl ?_; clear S; intro a S
  refine l_done (then_n (wp_ret (then_r ?_)))
  obtain rfl := Option.some.inj h
  exact f_ret S Tryd.results53 rfl rfl
 ·replace h := iteF h hb1
  refine wp_skip (then_n (f_seq (f_seq (f_region (lv S (rn_fld fa_87_1 (S.tm rfl)) rfl ?_))))); clear S; intro a S
  refine lv S (rn_load Tryd.isAgg3 (S.tm rfl) (S.cell (i := 0) rfl rfl)) rfl ?_; clear S; intro a S
  refine lv S (rn_neq (S.tm rfl) rfl) rfl ?_; clear S; intro a S
  refine l_done (then_n (f_cond (S.tm rfl) (fun hb2 => ?_) (fun hb2 => ?_)))
  ·replace h := iteT h hb2
   refine f_seq (f_region (lv S (rn_assign rfl) rfl ?_)); clear S; intro a S
   refine l_done (then_n (wp_ret (then_r ?_)))
   obtain rfl := Option.some.inj h
   exact f_ret S Tryd.results53 rfl rfl
  ·replace h := iteF h hb2
   refine wp_skip (then_n (f_seq (f_region (lv S (rn_assign rfl) rfl ?_)))); clear S; intro a S
   refine l_done (then_n (wp_ret ?_))
   obtain rfl := Option.some.inj h
   exact f_ret S Tryd.results53 rfl rfl
theorem record_isFor_ok (w : World) (p_k : GKind) (q_p_k : R84) (hq_p_k : rel_84 (view w []) p_k q_p_k) (p_s : GStep) (r : Bool) (h : record_isFor p_k p_s = r) :
    Calls Tryd.prog 54 [.agg (R84.enc q_p_k).toArray, .agg (GStep.enc p_s).toArray].toArray w (Ret w [] fun _ v _ => v = bV r) := by
 obtain ⟨u1, rfl, hs1⟩ := hq_p_k
 refine f_enter [] [] Tryd.func54 rfl Tryd.ntmps54 rfl (by simp) (by simp [fps]) (by simp [fps]) fun a S => ?_
 unfold record_isFor at h
 replace S := S.nk [] [(0, .agg #[sV p_k.Key, sV p_k.Race, u1.val, iV p_k.Young, iV p_k.Old]), (1, .agg (GStep.enc p_s).toArray)] [] rfl (subR rfl)
 refine f_seq (f_region (l_box S (S.tm rfl) (cs := [sV p_k.Key, sV p_k.Race, u1.val, iV p_k.Young, iV p_k.Old]) rfl rfl ?_)); clear S; intro a w1 b1 hz1 hk1 S
 refine l_box S (S.tm rfl) (cs := (GStep.enc p_s)) rfl rfl ?_; clear S; intro a w2 b2 hz2 hk2 S
 refine lv S (rn_assign rfl) rfl ?_; clear S; intro a S
 refine l_done (then_n (f_seq (f_region (lv S (rn_fld fa_87_5 (S.tm rfl)) rfl ?_)))); clear S; intro a S
 refine lv S (rn_load Tryd.isAgg9 (S.tm rfl) (S.cell (i := 0) rfl rfl)) rfl ?_; clear S; intro a S
 refine lv S (rn_fld fa_84_1 (S.tm rfl)) rfl ?_; clear S; intro a S
 refine lv S (rn_load Tryd.isAgg9 (S.tm rfl) (S.cell (i := 1) rfl rfl)) rfl ?_; clear S; intro a S
 refine lv S (rn_seql (S.tm rfl) (S.tm rfl)) rfl ?_; clear S; intro a S
 refine lv S (rn_move (S.tm rfl)) rfl ?_; clear S; intro a S
 refine f_cutm 12 (fun a w' => Keep [] w2 w' ∧ Sx w [] nov [.blk b2 (GStep.enc p_s) 87, .blk b1 [sV p_k.Key, sV p_k.Race, u1.val, iV p_k.Young, iV p_k.Old] 84] [(2, .pointer (some ⟨b1, 0, none⟩)), (3, .pointer (some ⟨b2, 0, none⟩)), (22, bV ((decide (p_s.Race = p_k.Race)) && ((decide ((p_k.Clubs.length : Int) = 0)) || (slices_Contains_string p_k.Clubs p_s.Club))))] 32 a w') ?_ ?_
 ·rcases Bool.eq_false_or_eq_true (decide (p_s.Race = p_k.Race)) with hb1 | hb1
  ·refine l_want S rfl rfl rfl hb1 (lv S (rn_fld fa_84_2 (S.tm rfl)) rfl ?_); clear S; intro a S
   refine l_want S rfl rfl rfl hb1 (lv S (rn_load Tryd.isAgg32 (S.tm rfl) (S.cell (i := 1) rfl rfl)) rfl ?_); clear S; intro a S
   refine l_want S rfl rfl rfl hb1 (lv S (rn_lenT sl_32 (S.tm rfl) (slc_len hs1)) rfl ?_); clear S; intro a S
   refine l_want S rfl rfl rfl hb1 (lv S (rn_eql (S.tm rfl) rfl) rfl ?_); clear S; intro a S
   refine l_want S rfl rfl rfl hb1 (lv S (rn_move (S.tm rfl)) rfl ?_); clear S; intro a S
   refine f_cutm 6 (fun a w' => Keep [] w2 w' ∧ Sx w [] nov [.blk b2 (GStep.enc p_s) 87, .blk b1 [sV p_k.Key, sV p_k.Race, u1.val, iV p_k.Young, iV p_k.Old] 84] [(2, .pointer (some ⟨b1, 0, none⟩)), (3, .pointer (some ⟨b2, 0, none⟩)), (10, bV (decide (p_s.Race = p_k.Race))), (21, bV ((decide ((p_k.Clubs.length : Int) = 0)) || (slices_Contains_string p_k.Clubs p_s.Club)))] 32 a w') ?_ ?_
   ·rcases Bool.eq_false_or_eq_true (decide ((p_k.Clubs.length : Int) = 0)) with hb2 | hb2
    ·iterate 5 (refine l_skip S rfl rfl rfl (neq_t hb2) rfl ?_ rfl; clear S; intro a S)
     refine l_want S rfl rfl rfl hb1 (lv S (rn_or_t (slices_Contains_string p_k.Clubs p_s.Club) hb2 (S.tm rfl) rfl) rfl ?_); clear S; intro a S
     refine l_done (then_n ?_)
     exact ⟨Keep.refl _ _, S.nf [true, true] rfl (subR rfl)⟩
    ·refine l_want S rfl rfl rfl hb2 (lv S (rn_fld fa_84_2 (S.tm rfl)) rfl ?_); clear S; intro a S
     refine l_want S rfl rfl rfl hb2 (lv S (rn_load Tryd.isAgg32 (S.tm rfl) (S.cell (i := 1) rfl rfl)) rfl ?_); clear S; intro a S
     refine l_want S rfl rfl rfl hb2 (lv S (rn_fld fa_87_4 (S.tm rfl)) rfl ?_); clear S; intro a S
     refine l_want S rfl rfl rfl hb2 (lv S (rn_load Tryd.isAgg9 (S.tm rfl) (S.cell (i := 0) rfl rfl)) rfl ?_); clear S; intro a S
     refine l_want S rfl rfl rfl hb2 (l_enter S (fun _ => run_call (vs := [u1.val, sV p_s.Club]) ⟨(S.tm rfl), (S.tm rfl), trivial⟩ Tryd.call44) (slices_Contains_string_ok _ u1.val p_k.Clubs (hs1.mono (S.le_arg nil_sub)) p_s.Club _ rfl) rfl ?_); clear S; intro v1 a w5 hv1 hk3 hn1 S
     subst hv1
     refine l_want S rfl rfl rfl hb1 (lv S (rn_or_f hb2 (S.tm rfl) (S.tm rfl)) rfl ?_); clear S; intro a S
     refine l_done (then_n ?_)
     exact ⟨hk3, S.nf [true, true] rfl (subR rfl)⟩
   clear S; rintro a w4 ⟨hk4, S⟩
   refine lv S (rn_and_t hb1 (S.tm rfl) (S.tm rfl)) rfl ?_; clear S; intro a S
   refine l_done (then_n ?_)
   exact ⟨hk4, S.nf [true, true] rfl (subR rfl)⟩
  ·iterate 5 (refine l_skip S rfl rfl rfl (neq_f hb1) rfl ?_ rfl; clear S; intro a S)
   iterate 5 (refine l_skipU S rfl rfl rfl rfl ?_; clear S; intro a S)
   refine l_skip S rfl rfl rfl (neq_f hb1) rfl ?_ rfl; clear S; intro a S
   refine lv S (rn_and_f ((decide ((p_k.Clubs.length : Int) = 0)) || (slices_Contains_string p_k.Clubs p_s.Club)) hb1 (S.tm rfl) rfl) rfl ?_; clear S; intro a S
   refine l_done (then_n ?_)
   exact ⟨Keep.refl _ _, S.nf [true, true] rfl (subR rfl)⟩
 clear S; rintro a w3 ⟨hk5, S⟩
 refine lv S (rn_move (S.tm rfl)) rfl ?_; clear S; intro a S
 refine f_cutm 8 (fun a w' => Keep [] w3 w' ∧ Sx w [] nov [.blk b2 (GStep.enc p_s) 87, .blk b1 [sV p_k.Key, sV p_k.Race, u1.val, iV p_k.Young, iV p_k.Old] 84] [(31, bV (((decide (p_s.Race = p_k.Race)) && ((decide ((p_k.Clubs.length : Int) = 0)) || (slices_Contains_string p_k.Clubs p_s.Club))) && (words_Within p_s.Age p_k.Young p_k.Old)))] 32 a w') ?_ ?_
 ·rcases Bool.eq_false_or_eq_true ((decide (p_s.Race = p_k.Race)) && ((decide ((p_k.Clubs.length : Int) = 0)) || (slices_Contains_string p_k.Clubs p_s.Club))) with hb3 | hb3
  ·refine l_want S rfl rfl rfl hb3 (lv S (rn_fld fa_87_6 (S.tm rfl)) rfl ?_); clear S; intro a S
   refine l_want S rfl rfl rfl hb3 (lv S (rn_load Tryd.isAgg3 (S.tm rfl) (S.cell (i := 0) rfl rfl)) rfl ?_); clear S; intro a S
   refine l_want S rfl rfl rfl hb3 (lv S (rn_fld fa_84_3 (S.tm rfl)) rfl ?_); clear S; intro a S
   refine l_want S rfl rfl rfl hb3 (lv S (rn_load Tryd.isAgg3 (S.tm rfl) (S.cell (i := 1) rfl rfl)) rfl ?_); clear S; intro a S
   refine l_want S rfl rfl rfl hb3 (lv S (rn_fld fa_84_4 (S.tm rfl)) rfl ?_); clear S; intro a S
   refine l_want S rfl rfl rfl hb3 (lv S (rn_load Tryd.isAgg3 (S.tm rfl) (S.cell (i := 1) rfl rfl)) rfl ?_); clear S; intro a S
   refine l_want S rfl rfl rfl hb3 (l_enter S (fun _ => run_call (vs := [iV p_s.Age, iV p_k.Young, iV p_k.Old]) ⟨(S.tm rfl), (S.tm rfl), (S.tm rfl), trivial⟩ Tryd.call26) (words_Within_ok _ p_s.Age p_k.Young p_k.Old _ rfl) rfl ?_); clear S; intro v2 a w7 hv2 hk6 hn2 S
   subst hv2
   refine lv S (rn_and_t hb3 (S.tm rfl) (S.tm rfl)) rfl ?_; clear S; intro a S
   refine l_done (then_n ?_)
   exact ⟨hk6, S.nf [true, true] rfl ⟨rfl, trivial⟩⟩
  ·iterate 7 (refine l_skip S rfl rfl rfl (neq_f hb3) rfl ?_ rfl; clear S; intro a S)
   refine lv S (rn_and_f (words_Within p_s.Age p_k.Young p_k.Old) hb3 (S.tm rfl) rfl) rfl ?_; clear S; intro a S
   refine l_done (then_n ?_)
   exact ⟨Keep.refl _ _, S.nf [true, true] rfl ⟨rfl, trivial⟩⟩
 clear S; rintro a w6 ⟨hk7, S⟩
 refine lv S (rn_assign (S.tm rfl)) rfl ?_; clear S; intro a S
 refine l_done (then_n (wp_ret ?_))
 subst h
 exact f_ret S Tryd.results54 rfl rfl
theorem record_For_ok (w : World) (v_p_l : Value) (p_l : List GKind) (rs_p_l : List R84) (hs_p_l : Slc (view w []) 5 v_p_l (rs_p_l.map R84.enc)) (hr_p_l : All2 (rel_84 (view w [])) p_l rs_p_l) (p_s : GStep) (r : (List ByteArray) × Int) (h : record_For p_l p_s = some r) :
    Calls Tryd.prog 33 [v_p_l, .agg (GStep.enc p_s).toArray].toArray w (Ret w [] fun τ v _ => ∃ u1 : Value, v = .tuple #[u1, iV r.2] ∧ OwnV τ 9 1 u1 r.1.length (r.1.flatMap eStr)) := by
 refine f_enter [] [] Tryd.func33 rfl Tryd.ntmps33 rfl (by simp) (by simp [fps]) (by simp [fps]) fun a S => ?_
 unfold record_For at h
 replace S := S.nk [] [(0, v_p_l), (1, .agg (GStep.enc p_s).toArray)] [] rfl (subR rfl)
 refine f_seq (f_region (l_box S (S.tm rfl) (cs := (GStep.enc p_s)) rfl rfl ?_)); clear S; intro a w1 b1 hz1 hk1 S
 refine lv S (rn_assign rfl) rfl ?_; clear S; intro a S
 refine lv S (rn_assign rfl) rfl ?_; clear S; intro a S
 refine l_done (then_n (f_seq (f_seq (f_region (lv S (rn_move (S.tm rfl)) rfl ?_))))); clear S; intro a S
 obtain ⟨r1, hr1, h⟩ := bindE h
 refine l_enter S (fun _ => run_call (vs := [v_p_l]) ⟨(S.tm rfl), trivial⟩ Tryd.call52) (record_CheckKinds_ok _ v_p_l p_l rs_p_l (hs_p_l.mono (S.le_arg nil_sub)) (rels_84 (S.le_arg nil_sub) hr_p_l) _ hr1) rfl ?_; clear S; intro v1 a w2 hv1 hk2 hn1 S
 subst hv1
 refine lv S (rn_assign (S.tm rfl)) rfl ?_; clear S; intro a S
 refine l_done (then_n (f_seq (f_region (lv S (rn_move (S.tm rfl)) rfl ?_)))); clear S; intro a S
 refine lv S (rn_neq (S.tm rfl) rfl) rfl ?_; clear S; intro a S
 refine l_done (then_n (f_cond (S.tm rfl) (fun hb1 => ?_) (fun hb1 => ?_)))
 ·replace h := iteT h hb1
  refine f_seq (f_region (lv S (rn_move (S.tm rfl)) rfl ?_)); clear S; intro a S
  refine lv S (rn_assign rfl) rfl ?_; clear S; intro a S
  refine lv S (rn_assign (S.tm rfl)) rfl ?_; clear S; intro a S
  refine l_done (then_n (wp_ret (then_r ?_)))
  obtain rfl := Option.some.inj h
  exact f_ret2 S Tryd.results33 rfl rfl ⟨_, rfl, (ownV_nil _ _ _)⟩
 ·replace h := iteF h hb1
  refine wp_skip (then_n (f_seq (f_seq (f_region (lv S (rn_ldA Tryd.isAgg87 Tryd.sizeOf87 (off := 0) (o := 0) (part := (GStep.enc p_s)) rfl rfl (S.tm rfl) (S.cellsAt (i := 0) rfl)) rfl ?_))))); clear S; intro a S
  obtain ⟨r2, hr2, h⟩ := bindE h
  refine l_enter S (fun _ => run_call (vs := [.agg (GStep.enc p_s).toArray]) ⟨(S.tm rfl), trivial⟩ Tryd.call53) (record_checkSwum_ok _ p_s _ hr2) rfl ?_; clear S; intro v2 a w3 hv2 hk3 hn2 S
  subst hv2
  refine lv S (rn_assign (S.tm rfl)) rfl ?_; clear S; intro a S
  refine l_done (then_n (f_seq (f_region (lv S (rn_move (S.tm rfl)) rfl ?_)))); clear S; intro a S
  refine lv S (rn_neq (S.tm rfl) rfl) rfl ?_; clear S; intro a S
  refine l_done ?_
  replace S := S.nk [.blk b1 (GStep.enc p_s) 87] [(0, v_p_l), (3, .pointer (some ⟨b1, 0, none⟩)), (7, iV r2), (19, bV (!decide (r2 = 0)))] [true] rfl (subR rfl)
  refine then_n (f_cond (S.tm rfl) (fun hb2 => ?_) (fun hb2 => ?_))
  ·replace h := iteT h hb2
   refine f_seq (f_region (lv S (rn_move (S.tm rfl)) rfl ?_)); clear S; intro a S
   refine lv S (rn_assign rfl) rfl ?_; clear S; intro a S
   refine lv S (rn_assign (S.tm rfl)) rfl ?_; clear S; intro a S
   refine l_done (then_n (wp_ret (then_r ?_)))
   obtain rfl := Option.some.inj h
   exact f_ret2 S Tryd.results33 rfl rfl ⟨_, rfl, (ownV_nil _ _ _)⟩
  ·replace h := iteF h hb2
   refine wp_skip (then_n (f_seq (f_region (lv S (rn_assign rfl) rfl ?_)))); clear S; intro a S
   replace S := S.nil 9 1
   refine l_done (then_n (f_seq (f_seq (f_region (lv S (rn_move (S.tm rfl)) rfl ?_))))); clear S; intro a S
   refine lv S (rn_lenT sl_85 (S.tm rfl) (slc_lenD hs_p_l hr_p_l)) rfl ?_; clear S; intro a S
   refine lv S (rn_move rfl) rfl ?_; clear S; intro a S
   refine l_done (then_n ?_)
   replace S := S.nk [.own (.slice none 0 0) 9 1 ([] : List ByteArray).length (([] : List ByteArray).flatMap eStr), .blk b1 (GStep.enc p_s) 87] [(3, .pointer (some ⟨b1, 0, none⟩)), (8, (.slice none 0 0)), (21, v_p_l), (22, iV (p_l.length : Int)), (23, iV 0)] [true, true] rfl (subR rfl)
   obtain ⟨j1, hj1, h⟩ := joinE h
   refine f_join (fun a w' => ∃ x1 : List ByteArray, ∃ v3 : Value, j1 x1 = some r ∧ Sx w [] nov [.own v3 9 1 x1.length (x1.flatMap eStr), .blk b1 (GStep.enc p_s) 87] [(8, v3)] 37 a w') ?_ ?_
   ·refine wp_block (f_loop (fun (ys1 : List GKind) a w' => ∃ i1 : Nat, ∃ x1 : List ByteArray, ∃ v3 : Value, (∃ dn, p_l = dn ++ ys1 ∧ dn.length = i1) ∧ record_For_l1 p_s j1 ys1 i1 x1 = some r ∧ Sx w [] nov [.own v3 9 1 x1.length (x1.flatMap eStr), .blk b1 (GStep.enc p_s) 87] [(3, .pointer (some ⟨b1, 0, none⟩)), (8, v3), (21, v_p_l), (22, iV (p_l.length : Int)), (23, iV (i1 : Int))] 37 a w') List.length p_l ⟨0, ([] : List ByteArray), (.slice none 0 0), ⟨[], rfl, rfl⟩, h, S.nf [true, true] rfl (subR rfl)⟩ ?_)
    clear S h; rintro ys1 a w4 ⟨i1, x1, v3, ⟨dn, hd1, hi1⟩, h, S⟩
    cases ys1 with
    | nil =>
     rw [record_For_l1.eq_1] at h
     refine f_seq (f_region (lv S (rn_lss (S.tm rfl) (S.tm rfl)) rfl ?_)); clear S; intro a S
     refine l_done ?_
     replace S := S.nk [.own v3 9 1 x1.length (x1.flatMap eStr), .blk b1 (GStep.enc p_s) 87] [(3, .pointer (some ⟨b1, 0, none⟩)), (8, v3), (21, v_p_l), (22, iV (p_l.length : Int)), (23, iV (i1 : Int)), (24, bV (decide ((i1 : Int) < (p_l.length : Int))))] [true, true] rfl (subR rfl)
     refine then_n (f_seq (wp_cond_false ((S.tm rfl).trans (congrArg Value.bool (rng_nil hd1 hi1))) (wp_exit (then_x (then_x (x_same ?_))))))
     refine then_n ?_
     exact ⟨x1, v3, h, S.nf [true, true] rfl ⟨rfl, trivial⟩⟩
    | cons y1 ys1 =>
     rw [record_For_l1.eq_2] at h
     refine f_seq (f_region (lv S (rn_lss (S.tm rfl) (S.tm rfl)) rfl ?_)); clear S; intro a S
     refine l_done ?_
     replace S := S.nk [.own v3 9 1 x1.length (x1.flatMap eStr), .blk b1 (GStep.enc p_s) 87] [(3, .pointer (some ⟨b1, 0, none⟩)), (8, v3), (21, v_p_l), (22, iV (p_l.length : Int)), (23, iV (i1 : Int)), (24, bV (decide ((i1 : Int) < (p_l.length : Int))))] [true, true] rfl (subR rfl)
     refine then_n (f_seq (wp_cond_true ((S.tm rfl).trans (congrArg Value.bool (rng_cons hd1 hi1))) (wp_skip (then_n (f_seq ?_)))))
     obtain ⟨j2, hj2, h⟩ := joinE h
     refine f_join (fun a w' => ∃ x2 : List ByteArray, ∃ v4 : Value, j2 x2 = some r ∧ Sx w [] nov [.own v4 9 1 x2.length (x2.flatMap eStr), .blk b1 (GStep.enc p_s) 87] [(3, .pointer (some ⟨b1, 0, none⟩)), (8, v4), (21, v_p_l), (22, iV (p_l.length : Int)), (23, iV (i1 : Int))] 37 a w') ?_ ?_
     ·refine wp_block (f_seq (f_region ?_))
      obtain ⟨r3, hg1, hl1⟩ := All2.at hr_p_l (get_mid hd1 hi1)
      obtain ⟨u1, rfl, hs1⟩ := hl1
      obtain ⟨b2, o1, hm1, hr3⟩ := rn_indexT (a := a) (x := .tmp 21) (y := .tmp 23) (ty := 0) sl_85 hs_p_l hg1 rfl (S.tm rfl) (S.tm rfl)
      refine lv S (hr3 _) rfl ?_; clear S; intro a S
      clear hr3
      refine lv S (rn_ldA Tryd.isAgg84 Tryd.sizeOf84 (off := o1) (o := 0) (part := [sV y1.Key, sV y1.Race, u1.val, iV y1.Young, iV y1.Old]) rfl rfl (S.tm rfl) (hm1.at S.emb0)) rfl ?_; clear S; intro a S
      refine l_alloc S Tryd.zeroValue84 (cs := [sV k_empty, sV k_empty, .slice none 0 0, iV 0, iV 0]) rfl rfl ?_; clear S; intro a w7 b3 hz2 hk4 S
      refine l_store S (S.tm rfl) (S.tm rfl) (i := 0) (off := 0) rfl Tryd.sizeOf84 (vs := [sV y1.Key, sV y1.Race, u1.val, iV y1.Young, iV y1.Old]) rfl rfl rfl (all1 rfl (all1 rfl (all1 (SlcLen.one (slc_len hs1)) (all1 rfl (all1 rfl rfl))))) ?_; clear S; intro w8 hk5 S
      refine l_done (then_n (f_seq (f_region (lv S (rn_ldA Tryd.isAgg84 Tryd.sizeOf84 (off := 0) (o := 0) (part := [sV y1.Key, sV y1.Race, u1.val, iV y1.Young, iV y1.Old]) rfl rfl (S.tm rfl) (S.cellsAt (i := 0) rfl)) rfl ?_)))); clear S; intro a S
      refine lv S (rn_ldA Tryd.isAgg87 Tryd.sizeOf87 (off := 0) (o := 0) (part := (GStep.enc p_s)) rfl rfl (S.tm rfl) (S.cellsAt (i := 2) rfl)) rfl ?_; clear S; intro a S
      refine l_enter S (fun _ => run_call (vs := [.agg (R84.enc (R84.mk y1.Key y1.Race u1 y1.Young y1.Old)).toArray, .agg (GStep.enc p_s).toArray]) ⟨(S.tm rfl), (S.tm rfl), trivial⟩ Tryd.call54) (record_isFor_ok _ y1 (R84.mk y1.Key y1.Race u1 y1.Young y1.Old) ⟨u1, rfl, (hs1.mono (S.le_arg nil_sub))⟩ p_s _ rfl) rfl ?_; clear S; intro v5 a w9 hv3 hk6 hn3 S
      subst hv3
      refine l_done (then_n ?_)
      obtain ⟨j3, hj3, h⟩ := joinE h
      refine f_join (fun a w' => ∃ x3 : List ByteArray, ∃ v6 : Value, j3 x3 = some r ∧ Sx w [] nov [.own v6 9 1 x3.length (x3.flatMap eStr), .blk b1 (GStep.enc p_s) 87] [(3, .pointer (some ⟨b1, 0, none⟩)), (8, v6), (21, v_p_l), (22, iV (p_l.length : Int)), (23, iV (i1 : Int))] 37 a w') ?_ ?_
      ·refine f_cond (S.tm rfl) (fun hb3 => ?_) (fun hb3 => ?_)
       ·replace h := iteT h hb3
        refine f_region (lv S (rn_move (S.tm rfl)) rfl ?_); clear S; intro a S
        refine lv S (rn_fld fa_84_0 (S.tm rfl)) rfl ?_; clear S; intro a S
        refine lv S (rn_load Tryd.isAgg9 (S.tm rfl) (S.cell (i := 0) rfl rfl)) rfl ?_; clear S; intro a S
        refine l_buildSlice S Tryd.underlying32 Tryd.sizeOf9 Tryd.zeroValue9 rfl rfl (pv := [(0, sV y1.Key)]) ⟨rfl, (S.tm rfl), trivial⟩ (cs := [sV y1.Key]) (by kernel_rfl) rfl ?_; clear S; intro a w11 b4 hz3 hk7 S
        obtain ⟨hc1, h⟩ := chkE h
        refine l_appendT sl_32 enc_str S (S.tm rfl) (i := 2) rfl (S.tm rfl) (j := 0) rfl (ys := [y1.Key]) rfl rfl rfl rfl (by have := room_lt hc1; omega) rfl ?_; clear S; intro v7 a w12 hk8 S
        refine lv S (rn_assign (S.tm rfl)) rfl ?_; clear S; intro a S
        refine l_done ?_
        replace S := S.nk [.own v7 9 1 (x1 ++ [y1.Key]).length ((x1 ++ [y1.Key]).flatMap eStr), .blk b1 (GStep.enc p_s) 87] [(3, .pointer (some ⟨b1, 0, none⟩)), (8, v7), (21, v_p_l), (22, iV (p_l.length : Int)), (23, iV (i1 : Int))] [false, false, true, true] rfl (subR rfl)
        refine then_n ?_
        exact ⟨(x1 ++ [y1.Key]), v7, h, S.nf [true, true] rfl (subR rfl)⟩
       ·replace h := iteF h hb3
        refine wp_skip (then_n ?_)
        exact ⟨x1, v3, h, S.nf [false, true, true] rfl (subR rfl)⟩
      clear S h; rintro a w10 ⟨x3, v6, h, S⟩; rw [hj3] at h; clear hj3 j3
      refine blk_n (then_n ?_)
      exact ⟨x3, v6, h, S.nf [true, true] rfl (subR rfl)⟩
     clear S h; rintro a w6 ⟨x2, v4, h, S⟩; rw [hj2] at h; clear hj2 j2
     refine then_n (f_region (lv S (rn_add (S.tm rfl) rfl) rfl ?_)); clear S; intro a S
     refine lv S (rn_move (S.tm rfl)) rfl ?_; clear S; intro a S
     refine l_done (then_n ?_)
     exact ⟨ys1, ⟨i1 + 1, x2, v4, ⟨_, (hd1).trans (List.append_cons _ _ _), by simp [hi1]⟩, h, S.nf [true, true] rfl ⟨rfl, rfl, rfl, rfl, (congrArg (fun z => some (Value.int .i64 z)) (rng_next hd1 hi1 (slc_maxD hs_p_l hr_p_l))), trivial⟩⟩, Nat.lt_succ_self _⟩
   clear S h; rintro a w5 ⟨x1, v3, h, S⟩; rw [hj1] at h; clear hj1 j1
   refine then_n (f_seq (f_region (lv S (rn_move (S.tm rfl)) rfl ?_))); clear S; intro a S
   refine lv S (rn_assign (S.tm rfl)) rfl ?_; clear S; intro a S
   refine lv S (rn_assign rfl) rfl ?_; clear S; intro a S
   refine l_done (then_n (wp_ret ?_))
   obtain rfl := Option.some.inj h
   exact f_ret2 S Tryd.results33 rfl rfl ⟨_, rfl, (own_retT S (i := 0) rfl rfl)⟩
theorem tumbkeep2_errs_ok (w : World) (v_p_l : Value) (p_l : List Int) (hs_p_l : Slc (view w []) 1 v_p_l (p_l.map eInt)) (r : Int) (h : tumbkeep2_errs p_l = r) :
    Calls Tryd.prog 34 [v_p_l].toArray w (Ret w [] fun _ v _ => v = iV r) := by
 refine f_enter [] [] Tryd.func34 rfl Tryd.ntmps34 rfl (by simp) (by simp [fps]) (by simp [fps]) fun a S => ?_
 unfold tumbkeep2_errs at h
 replace S := S.nk [] [(0, v_p_l)] [] rfl ⟨rfl, trivial⟩
 refine f_seq (f_region (lv S (rn_assign rfl) rfl ?_)); clear S; intro a S
 refine l_done (then_n (f_seq (f_seq (f_region (lv S (rn_move (S.tm rfl)) rfl ?_))))); clear S; intro a S
 refine lv S (rn_lenT sl_104 (S.tm rfl) (slc_len hs_p_l)) rfl ?_; clear S; intro a S
 refine lv S (rn_move rfl) rfl ?_; clear S; intro a S
 refine l_done (then_n ?_)
 replace S := S.nk [] [(5, v_p_l), (6, iV (p_l.length : Int)), (7, iV 0)] [] rfl (subR rfl)
 obtain ⟨j1, hj1, h⟩ := joinE h
 refine f_join (fun a w' => j1 = r ∧ Sx w [] nov [] [] 15 a w') ?_ ?_
 ·refine wp_block (f_loop (fun (ys1 : List Int) a w' => ∃ i1 : Nat, (∃ dn, p_l = dn ++ ys1 ∧ dn.length = i1) ∧ tumbkeep2_errs_l1 j1 ys1 i1 = r ∧ Sx w [] nov [] [(5, v_p_l), (6, iV (p_l.length : Int)), (7, iV (i1 : Int))] 15 a w') List.length p_l ⟨0, ⟨[], rfl, rfl⟩, h, S.nf [] rfl (subR rfl)⟩ ?_)
  clear S h; rintro ys1 a w1 ⟨i1, ⟨dn, hd1, hi1⟩, h, S⟩
  cases ys1 with
  | nil =>
   rw [tumbkeep2_errs_l1.eq_1] at h
   refine f_seq (f_region (lv S (rn_lss (S.tm rfl) (S.tm rfl)) rfl ?_)); clear S; intro a S
   refine l_done ?_
   replace S := S.nk [] [(5, v_p_l), (6, iV (p_l.length : Int)), (7, iV (i1 : Int)), (8, bV (decide ((i1 : Int) < (p_l.length : Int))))] [] rfl (subR rfl)
   refine then_n (f_seq (wp_cond_false ((S.tm rfl).trans (congrArg Value.bool (rng_nil hd1 hi1))) (wp_exit (then_x (then_x (x_same ?_))))))
   refine then_n ?_
   exact ⟨h, S.nf [] rfl trivial⟩
  | cons y1 ys1 =>
   rw [tumbkeep2_errs_l1.eq_2] at h
   refine f_seq (f_region (lv S (rn_lss (S.tm rfl) (S.tm rfl)) rfl ?_)); clear S; intro a S
   refine l_done ?_
   replace S := S.nk [] [(5, v_p_l), (6, iV (p_l.length : Int)), (7, iV (i1 : Int)), (8, bV (decide ((i1 : Int) < (p_l.length : Int))))] [] rfl (subR rfl)
   refine then_n (f_seq (wp_cond_true ((S.tm rfl).trans (congrArg Value.bool (rng_cons hd1 hi1))) (wp_skip (then_n (f_seq (wp_block ?_))))))
   refine f_seq (f_region ?_)
   obtain ⟨b1, o1, hm1, hr1⟩ := rn_indexT (a := a) (x := .tmp 5) (y := .tmp 7) (ty := 0) sl_104 hs_p_l (get_mid hd1 hi1) rfl (S.tm rfl) (S.tm rfl)
   refine lv S (hr1 _) rfl ?_; clear S; intro a S
   clear hr1
   refine lv S (rn_ld Tryd.isAgg33 (off := o1) (o := 0) (S.tm rfl) (hm1.at S.emb0) rfl) rfl ?_; clear S; intro a S
   refine lv S (rn_assign (S.tm rfl)) rfl ?_; clear S; intro a S
   refine l_done (then_n (f_seq (f_region (lv S (rn_move (S.tm rfl)) rfl ?_)))); clear S; intro a S
   refine lv S (rn_neq (S.tm rfl) rfl) rfl ?_; clear S; intro a S
   refine l_done (then_n (f_cond (S.tm rfl) (fun hb1 => ?_) (fun hb1 => ?_)))
   ·replace h := iteT h hb1
    refine f_seq (f_region (lv S (rn_move (S.tm rfl)) rfl ?_)); clear S; intro a S
    refine lv S (rn_assign (S.tm rfl)) rfl ?_; clear S; intro a S
    refine l_done (then_n (wp_ret (blk_r (then_r (then_r (blk_r ?_))))))
    refine then_r (then_r ?_)
    subst h
    exact f_ret S Tryd.results34 rfl rfl
   ·replace h := iteF h hb1
    refine wp_skip (blk_n (then_n (f_region (lv S (rn_add (S.tm rfl) rfl) rfl ?_)))); clear S; intro a S
    refine lv S (rn_move (S.tm rfl)) rfl ?_; clear S; intro a S
    refine l_done (then_n ?_)
    exact ⟨ys1, ⟨i1 + 1, ⟨_, (hd1).trans (List.append_cons _ _ _), by simp [hi1]⟩, h, S.nf [] rfl ⟨rfl, rfl, (congrArg (fun z => some (Value.int .i64 z)) (rng_next hd1 hi1 (slc_max hs_p_l))), trivial⟩⟩, Nat.lt_succ_self _⟩
 clear S h; rintro a w2 ⟨h, S⟩; rw [hj1] at h; clear hj1 j1
 refine then_n (f_seq (f_region (lv S (rn_assign rfl) rfl ?_))); clear S; intro a S
 refine l_done (then_n (wp_ret ?_))
 subst h
 exact f_ret S Tryd.results34 rfl rfl
theorem tumbkeep2_ready_ok (w : World) (r : Bool) (h : tumbkeep2_ready = some r) :
    Calls Tryd.prog 16 [].toArray w (Ret w [] fun _ v _ => v = bV r) := by
 refine f_enter [] [] Tryd.func16 rfl Tryd.ntmps16 rfl (by simp) (by simp [fps]) (by simp [fps]) fun a S => ?_
 unfold tumbkeep2_ready at h
 replace S := S.nk [] [] [] rfl trivial
 refine f_seq (f_region (lv S (rn_assign rfl) rfl ?_)); clear S; intro a S
 refine l_done (then_n (f_seq (f_region (lv S (rn_bld bt_73 (pv := [(0, iV 2024), (1, iV 3), (2, iV 1)]) ⟨rfl, rfl, rfl, rfl, rfl, rfl, trivial⟩ (cs := [iV 2024, iV 3, iV 1]) (by kernel_rfl)) rfl ?_)))); clear S; intro a S
 obtain ⟨r1, hr1, h⟩ := bindE h
 refine l_enter S (fun _ => run_call (vs := [.agg (GDate.enc (GDate.mk 2024 3 1)).toArray]) ⟨(S.tm rfl), trivial⟩ Tryd.call30) (swimmer_DayOf_ok _ (GDate.mk 2024 3 1) _ hr1) rfl ?_; clear S; intro v1 a w1 hv1 hk1 hn1 S
 subst hv1
 refine lv S (rn_move (S.tm rfl)) rfl ?_; clear S; intro a S
 refine lv S (rn_extract (S.tm rfl) rfl) rfl ?_; clear S; intro a S
 refine lv S (rn_extract (S.tm rfl) rfl) rfl ?_; clear S; intro a S
 refine lv S (rn_assign (S.tm rfl)) rfl ?_; clear S; intro a S
 refine lv S (rn_assign (S.tm rfl)) rfl ?_; clear S; intro a S
 refine l_done (then_n (f_seq (f_region (lv S (rn_bld bt_76 (pv := [(0, sV k_a), (1, iV 2), (2, iV 10), (3, iV 5)]) ⟨rfl, rfl, rfl, rfl, rfl, rfl, rfl, rfl, trivial⟩ (cs := [sV k_a, iV 2, iV 10, iV 5, iV 0]) (by kernel_rfl)) rfl ?_)))); clear S; intro a S
 refine l_buildSlice S Tryd.underlying77 Tryd.sizeOf76 Tryd.zeroValue76 rfl rfl (pv := [(0, .agg #[sV k_a, iV 2, iV 10, iV 5, iV 0])]) ⟨rfl, (S.tm rfl), trivial⟩ (cs := [sV k_a, iV 2, iV 10, iV 5, iV 0]) (by kernel_rfl) rfl ?_; clear S; intro a w2 b1 hz1 hk2 S
 obtain ⟨r2, hr2, h⟩ := bindE h
 refine l_enter S (fun _ => run_call (vs := [.slice (some ⟨b1, 0, none⟩) 1 1, iV 0]) ⟨(S.tm rfl), rfl, trivial⟩ Tryd.call31) (session_Ends_ok _ (.slice (some ⟨b1, 0, none⟩) 1 1) [(GItem.mk k_a 2 10 5 0)] (lit_slcT GItem.enc_ok S (i := 0) rfl rfl rfl rfl ((ne_nil (e' := .blk b1 [sV k_a, iV 2, iV 10, iV 5, iV 0] 76)) _ rfl)) 0 _ hr2) rfl ?_; clear S; intro v2 a w3 hv2 hk3 hn2 S
 subst hv2
 refine lv S (rn_move (S.tm rfl)) rfl ?_; clear S; intro a S
 refine lv S (rn_extract (S.tm rfl) rfl) rfl ?_; clear S; intro a S
 refine lv S (rn_extract (S.tm rfl) rfl) rfl ?_; clear S; intro a S
 refine lv S (rn_assign (S.tm rfl)) rfl ?_; clear S; intro a S
 refine lv S (rn_assign (S.tm rfl)) rfl ?_; clear S; intro a S
 refine l_done ?_
 replace S := S.nk [] [(1, iV r1.1), (2, iV r1.2), (3, iV r2.1), (4, iV r2.2)] [false] rfl (subR rfl)
 refine then_n (f_seq (f_region (lv S (rn_bld bt_80 (pv := [(0, sV k_r), (1, iV 3000)]) ⟨rfl, rfl, rfl, rfl, trivial⟩ (cs := [sV k_r, iV 3000]) (by kernel_rfl)) rfl ?_))); clear S; intro a S
 refine l_buildSlice S Tryd.underlying81 Tryd.sizeOf80 Tryd.zeroValue80 rfl rfl (pv := [(0, .agg #[sV k_r, iV 3000])]) ⟨rfl, (S.tm rfl), trivial⟩ (cs := [sV k_r, iV 3000]) (by kernel_rfl) rfl ?_; clear S; intro a w4 b2 hz2 hk4 S
 obtain ⟨r3, hr3, h⟩ := bindE h
 refine l_enter S (fun _ => run_call (vs := [.slice (some ⟨b2, 0, none⟩) 1 1, sV k_r, iV 6000]) ⟨(S.tm rfl), rfl, rfl, trivial⟩ Tryd.call32) (points_ByTime_ok _ (.slice (some ⟨b2, 0, none⟩) 1 1) [(GBase.mk k_r 3000)] (lit_slcT GBase.enc_ok S (i := 0) rfl rfl rfl rfl ((ne_nil (e' := .blk b2 [sV k_r, iV 3000] 80)) _ rfl)) k_r 6000 _ hr3) rfl ?_; clear S; intro v3 a w5 hv3 hk5 hn3 S
 subst hv3
 refine lv S (rn_move (S.tm rfl)) rfl ?_; clear S; intro a S
 refine lv S (rn_extract (S.tm rfl) rfl) rfl ?_; clear S; intro a S
 refine lv S (rn_extract (S.tm rfl) rfl) rfl ?_; clear S; intro a S
 refine lv S (rn_assign (S.tm rfl)) rfl ?_; clear S; intro a S
 refine lv S (rn_assign (S.tm rfl)) rfl ?_; clear S; intro a S
 refine l_done (then_n (f_seq (f_region (lv S (rn_bld bt_84 (pv := [(0, sV k_k), (1, sV k_r), (4, iV 9)]) ⟨rfl, rfl, rfl, rfl, rfl, rfl, trivial⟩ (cs := [sV k_k, sV k_r, .slice none 0 0, iV 0, iV 9]) (by kernel_rfl)) rfl ?_)))); clear S; intro a S
 refine l_buildSlice S Tryd.underlying85 Tryd.sizeOf84 Tryd.zeroValue84 rfl rfl (pv := [(0, .agg #[sV k_k, sV k_r, .slice none 0 0, iV 0, iV 9])]) ⟨rfl, (S.tm rfl), trivial⟩ (cs := [sV k_k, sV k_r, .slice none 0 0, iV 0, iV 9]) (by kernel_rfl) rfl ?_; clear S; intro a w6 b3 hz3 hk6 S
 refine lv S (rn_bld bt_87 (pv := [(1, iV 1), (2, sV k_i), (3, sV k_a), (5, sV k_r), (7, iV 5)]) ⟨rfl, rfl, rfl, rfl, rfl, rfl, rfl, rfl, rfl, rfl, trivial⟩ (cs := [iV 0, iV 1, sV k_i, sV k_a, sV k_empty, sV k_r, iV 0, iV 5]) (by kernel_rfl)) rfl ?_; clear S; intro a S
 have hr4 : All2 (rel_84 nov) ([(GKind.mk k_k k_r ([] : List ByteArray) 0 9)] : List GKind) ([(R84.mk k_k k_r ⟨.slice none 0 0, rfl⟩ 0 9)] : List R84) := (All2.cons ⟨⟨.slice none 0 0, rfl⟩, rfl, (slc_nil _ _)⟩ All2.nil)
 replace S := S.litOwn (i := 0) (xs := ([(R84.mk k_k k_r ⟨.slice none 0 0, rfl⟩ 0 9)] : List R84)) rfl R84.enc_ok rfl rfl rfl
 replace S := S.nk [.own (.slice (some ⟨b3, 0, none⟩) 1 1) 84 5 ([(R84.mk k_k k_r ⟨.slice none 0 0, rfl⟩ 0 9)] : List R84).length (([(R84.mk k_k k_r ⟨.slice none 0 0, rfl⟩ 0 9)] : List R84).flatMap R84.enc), .blk b2 [sV k_r, iV 3000] 80] [(1, iV r1.1), (2, iV r1.2), (3, iV r2.1), (4, iV r2.2), (5, iV r3.1), (6, iV r3.2), (20, .tuple #[iV r3.1, iV r3.2]), (21, .agg #[sV k_r, iV 3000]), (22, .slice (some ⟨b2, 0, none⟩) 1 1), (23, .tuple #[iV r3.1, iV r3.2]), (24, iV r3.1), (25, iV r3.2), (27, .agg #[sV k_k, sV k_r, .slice none 0 0, iV 0, iV 9]), (28, (.slice (some ⟨b3, 0, none⟩) 1 1)), (29, .agg (GStep.enc (GStep.mk 0 1 k_i k_a k_empty k_r 0 5)).toArray)] [] rfl (subR rfl)
 obtain ⟨r4, hr5, h⟩ := bindE h
 have hz4 := S.keep.size
 refine l_enter S (fun _ => run_call (vs := [(.slice (some ⟨b3, 0, none⟩) 1 1), .agg (GStep.enc (GStep.mk 0 1 k_i k_a k_empty k_r 0 5)).toArray]) ⟨(S.tm rfl), (S.tm rfl), trivial⟩ Tryd.call33) (record_For_ok _ (.slice (some ⟨b3, 0, none⟩) 1 1) ([(GKind.mk k_k k_r ([] : List ByteArray) 0 9)] : List GKind) ([(R84.mk k_k k_r ⟨.slice none 0 0, rfl⟩ 0 9)] : List R84) (own_slcT R84.enc_ok S (i := 0) rfl (ne_nil (e' := .own (.slice (some ⟨b3, 0, none⟩) 1 1) 84 5 ([(R84.mk k_k k_r ⟨.slice none 0 0, rfl⟩ 0 9)] : List R84).length (([(R84.mk k_k k_r ⟨.slice none 0 0, rfl⟩ 0 9)] : List R84).flatMap R84.enc)))) (rels_84 (S.le_new nil_sub) hr4) (GStep.mk 0 1 k_i k_a k_empty k_r 0 5) _ hr5) rfl ?_; clear S; intro v4 a w7 hv4 hk7 hn4 S
 obtain ⟨u1, rfl, ho1⟩ := hv4
 obtain ⟨φ1, hl1, hm1, S⟩ := S.see' hn4 hz4
 have hs1 := ho1.mono hm1
 refine lv S (rn_move (S.tm rfl)) rfl ?_; clear S; intro a S
 refine lv S (rn_extract (S.tm rfl) rfl) rfl ?_; clear S; intro a S
 refine lv S (rn_extract (S.tm rfl) rfl) rfl ?_; clear S; intro a S
 refine lv S (rn_assign (S.tm rfl)) rfl ?_; clear S; intro a S
 refine lv S (rn_assign (S.tm rfl)) rfl ?_; clear S; intro a S
 refine l_done ?_
 replace S := S.nk [] [(1, iV r1.1), (2, iV r1.2), (3, iV r2.1), (4, iV r2.2), (5, iV r3.1), (6, iV r3.2), (7, u1), (8, iV r4.2)] [false, false] rfl (subR rfl)
 refine then_n (f_seq (f_region (lv S (rn_move (S.tm rfl)) rfl ?_))); clear S; intro a S
 iterate 3 (refine lv S (rn_move (S.tm rfl)) rfl ?_; clear S; intro a S)
 refine l_buildSlice S Tryd.underlying104 Tryd.sizeOf33 Tryd.zeroValue33 rfl rfl (pv := [(0, iV r1.2), (1, iV r2.2), (2, iV r3.2), (3, iV r4.2)]) ⟨rfl, (S.tm rfl), rfl, (S.tm rfl), rfl, (S.tm rfl), rfl, (S.tm rfl), trivial⟩ (cs := [iV r1.2, iV r2.2, iV r3.2, iV r4.2]) (by kernel_rfl) rfl ?_; clear S; intro a w8 b4 hz5 hk8 S
 refine l_enter S (fun _ => run_call (vs := [.slice (some ⟨b4, 0, none⟩) 4 4]) ⟨(S.tm rfl), trivial⟩ Tryd.call34) (tumbkeep2_errs_ok _ (.slice (some ⟨b4, 0, none⟩) 4 4) [r1.2, r2.2, r3.2, r4.2] (lit_slcT enc_int S (i := 0) rfl rfl rfl rfl ((ne_nil (e' := .blk b4 [iV r1.2, iV r2.2, iV r3.2, iV r4.2] 33)) _ rfl)) _ rfl) rfl ?_; clear S; intro v5 a w9 hv5 hk9 hn5 S
 subst hv5
 refine lv S (rn_eql (S.tm rfl) rfl) rfl ?_; clear S; intro a S
 refine lv S (rn_move (S.tm rfl)) rfl ?_; clear S; intro a S
 refine f_cutm 3 (fun a w' => Keep [] w9 w' ∧ Sx w [] φ1 [.blk b4 [iV r1.2, iV r2.2, iV r3.2, iV r4.2] 33] [(3, iV r2.1), (5, iV r3.1), (7, u1), (43, bV ((decide ((tumbkeep2_errs [r1.2, r2.2, r3.2, r4.2]) = 0)) && (decide (r1.1 = 60))))] 57 a w') ?_ ?_
 ·rcases Bool.eq_false_or_eq_true (decide ((tumbkeep2_errs [r1.2, r2.2, r3.2, r4.2]) = 0)) with hb1 | hb1
  ·refine l_want S rfl rfl rfl hb1 (lv S (rn_move (S.tm rfl)) rfl ?_); clear S; intro a S
   refine l_want S rfl rfl rfl hb1 (lv S (rn_eql (S.tm rfl) rfl) rfl ?_); clear S; intro a S
   refine lv S (rn_and_t hb1 (S.tm rfl) (S.tm rfl)) rfl ?_; clear S; intro a S
   refine l_done (then_n ?_)
   exact ⟨Keep.refl _ _, S.nf [true] rfl (subR rfl)⟩
  ·refine l_skip S rfl rfl rfl (neq_f hb1) rfl ?_ rfl; clear S; intro a S
   refine l_skip S rfl rfl rfl (neq_f hb1) rfl ?_ rfl; clear S; intro a S
   refine lv S (rn_and_f (decide (r1.1 = 60)) hb1 (S.tm rfl) rfl) rfl ?_; clear S; intro a S
   refine l_done (then_n ?_)
   exact ⟨Keep.refl _ _, S.nf [true] rfl (subR rfl)⟩
 clear S; rintro a w10 ⟨hk10, S⟩
 refine lv S (rn_move (S.tm rfl)) rfl ?_; clear S; intro a S
 refine f_cutm 3 (fun a w' => Keep [] w10 w' ∧ Sx w [] φ1 [.blk b4 [iV r1.2, iV r2.2, iV r3.2, iV r4.2] 33] [(5, iV r3.1), (7, u1), (47, bV (((decide ((tumbkeep2_errs [r1.2, r2.2, r3.2, r4.2]) = 0)) && (decide (r1.1 = 60))) && (decide (r2.1 = 25))))] 57 a w') ?_ ?_
 ·rcases Bool.eq_false_or_eq_true ((decide ((tumbkeep2_errs [r1.2, r2.2, r3.2, r4.2]) = 0)) && (decide (r1.1 = 60))) with hb2 | hb2
  ·refine l_want S rfl rfl rfl hb2 (lv S (rn_move (S.tm rfl)) rfl ?_); clear S; intro a S
   refine l_want S rfl rfl rfl hb2 (lv S (rn_eql (S.tm rfl) rfl) rfl ?_); clear S; intro a S
   refine lv S (rn_and_t hb2 (S.tm rfl) (S.tm rfl)) rfl ?_; clear S; intro a S
   refine l_done (then_n ?_)
   exact ⟨Keep.refl _ _, S.nf [true] rfl (subR rfl)⟩
  ·refine l_skip S rfl rfl rfl (neq_f hb2) rfl ?_ rfl; clear S; intro a S
   refine l_skip S rfl rfl rfl (neq_f hb2) rfl ?_ rfl; clear S; intro a S
   refine lv S (rn_and_f (decide (r2.1 = 25)) hb2 (S.tm rfl) rfl) rfl ?_; clear S; intro a S
   refine l_done (then_n ?_)
   exact ⟨Keep.refl _ _, S.nf [true] rfl (subR rfl)⟩
 clear S; rintro a w11 ⟨hk11, S⟩
 refine lv S (rn_move (S.tm rfl)) rfl ?_; clear S; intro a S
 refine f_cutm 3 (fun a w' => Keep [] w11 w' ∧ Sx w [] φ1 [.blk b4 [iV r1.2, iV r2.2, iV r3.2, iV r4.2] 33] [(7, u1), (51, bV ((((decide ((tumbkeep2_errs [r1.2, r2.2, r3.2, r4.2]) = 0)) && (decide (r1.1 = 60))) && (decide (r2.1 = 25))) && (decide (r3.1 = 125))))] 57 a w') ?_ ?_
 ·rcases Bool.eq_false_or_eq_true (((decide ((tumbkeep2_errs [r1.2, r2.2, r3.2, r4.2]) = 0)) && (decide (r1.1 = 60))) && (decide (r2.1 = 25))) with hb3 | hb3
  ·refine l_want S rfl rfl rfl hb3 (lv S (rn_move (S.tm rfl)) rfl ?_); clear S; intro a S
   refine l_want S rfl rfl rfl hb3 (lv S (rn_eql (S.tm rfl) rfl) rfl ?_); clear S; intro a S
   refine lv S (rn_and_t hb3 (S.tm rfl) (S.tm rfl)) rfl ?_; clear S; intro a S
   refine l_done (then_n ?_)
   exact ⟨Keep.refl _ _, S.nf [true] rfl (subR rfl)⟩
  ·refine l_skip S rfl rfl rfl (neq_f hb3) rfl ?_ rfl; clear S; intro a S
   refine l_skip S rfl rfl rfl (neq_f hb3) rfl ?_ rfl; clear S; intro a S
   refine lv S (rn_and_f (decide (r3.1 = 125)) hb3 (S.tm rfl) rfl) rfl ?_; clear S; intro a S
   refine l_done (then_n ?_)
   exact ⟨Keep.refl _ _, S.nf [true] rfl (subR rfl)⟩
 clear S; rintro a w12 ⟨hk12, S⟩
 refine lv S (rn_move (S.tm rfl)) rfl ?_; clear S; intro a S
 refine f_cutm 4 (fun a w' => Keep [] w12 w' ∧ Sx w [] φ1 [.blk b4 [iV r1.2, iV r2.2, iV r3.2, iV r4.2] 33] [(56, bV (((((decide ((tumbkeep2_errs [r1.2, r2.2, r3.2, r4.2]) = 0)) && (decide (r1.1 = 60))) && (decide (r2.1 = 25))) && (decide (r3.1 = 125))) && (decide ((r4.1.length : Int) = 1))))] 57 a w') ?_ ?_
 ·rcases Bool.eq_false_or_eq_true ((((decide ((tumbkeep2_errs [r1.2, r2.2, r3.2, r4.2]) = 0)) && (decide (r1.1 = 60))) && (decide (r2.1 = 25))) && (decide (r3.1 = 125))) with hb4 | hb4
  ·refine l_want S rfl rfl rfl hb4 (lv S (rn_move (S.tm rfl)) rfl ?_); clear S; intro a S
   refine l_want S rfl rfl rfl hb4 (lv S (rn_lenT sl_32 (S.tm rfl) (slc_len (ownV_slcT enc_str hs1))) rfl ?_); clear S; intro a S
   refine l_want S rfl rfl rfl hb4 (lv S (rn_eql (S.tm rfl) rfl) rfl ?_); clear S; intro a S
   refine lv S (rn_and_t hb4 (S.tm rfl) (S.tm rfl)) rfl ?_; clear S; intro a S
   refine l_done (then_n ?_)
   exact ⟨Keep.refl _ _, S.nf [true] rfl ⟨rfl, trivial⟩⟩
  ·iterate 3 (refine l_skip S rfl rfl rfl (neq_f hb4) rfl ?_ rfl; clear S; intro a S)
   refine lv S (rn_and_f (decide ((r4.1.length : Int) = 1)) hb4 (S.tm rfl) rfl) rfl ?_; clear S; intro a S
   refine l_done (then_n ?_)
   exact ⟨Keep.refl _ _, S.nf [true] rfl ⟨rfl, trivial⟩⟩
 clear S; rintro a w13 ⟨hk13, S⟩
 refine lv S (rn_assign (S.tm rfl)) rfl ?_; clear S; intro a S
 refine l_done (then_n (wp_ret ?_))
 obtain rfl := Option.some.inj h
 exact f_ret S Tryd.results16 rfl rfl
theorem tumbkeep2_SwimmersStay_ok (w : World) (v_p_l : Value) (p_l : List Int) (hs_p_l : Slc (view w []) 1 v_p_l (p_l.map eInt)) (r : Bool) (h : tumbkeep2_SwimmersStay p_l = some r) :
    Calls Tryd.prog 3 [v_p_l].toArray w (Ret w [] fun _ v _ => v = bV r) := by
 refine f_enter [] [] Tryd.func3 rfl Tryd.ntmps3 rfl (by simp) (by simp [fps]) (by simp [fps]) fun a S => ?_
 unfold tumbkeep2_SwimmersStay at h
 replace S := S.nk [] [(0, v_p_l)] [] rfl ⟨rfl, trivial⟩
 refine f_seq (f_region (lv S (rn_assign rfl) rfl ?_)); clear S; intro a S
 refine l_done (then_n (f_seq (f_region (lv S (rn_move (S.tm rfl)) rfl ?_)))); clear S; intro a S
 refine lv S (rn_bld bt_25 (pv := [(0, v_p_l)]) ⟨rfl, (S.tm rfl), trivial⟩ (cs := [v_p_l, iV 0]) (by obtain ⟨_, _, hv⟩ := (slc_len hs_p_l); rw [hv]; clear hv; kernel_rfl)) rfl ?_; clear S; intro a S
 refine l_box S (S.tm rfl) (cs := [v_p_l, iV 0]) rfl rfl ?_; clear S; intro a w1 b1 hz1 hk1 S
 refine lv S (rn_move (S.tm rfl)) rfl ?_; clear S; intro a S
 refine lv S (rn_bld bt_25 (pv := [(0, v_p_l)]) ⟨rfl, (S.tm rfl), trivial⟩ (cs := [v_p_l, iV 0]) (by obtain ⟨_, _, hv⟩ := (slc_len hs_p_l); rw [hv]; clear hv; kernel_rfl)) rfl ?_; clear S; intro a S
 refine l_box S (S.tm rfl) (cs := [v_p_l, iV 0]) rfl rfl ?_; clear S; intro a w2 b2 hz2 hk2 S
 refine lv S (rn_assign (S.tm rfl)) rfl ?_; clear S; intro a S
 refine lv S (rn_assign (S.tm rfl)) rfl ?_; clear S; intro a S
 refine l_done (then_n (f_seq (f_region (lv S (rn_move (S.tm rfl)) rfl ?_)))); clear S; intro a S
 obtain ⟨r1, hr1, h⟩ := bindE h
 have hz3 := S.keep.size
 refine l_enter1 1 S (b := b1) rfl rfl (fun _ => .blk b1 [v_p_l, iV r1.2] 25) (fun _ => run_call (vs := [.pointer (some ⟨b1, 0, none⟩)]) ⟨(S.tm rfl), trivial⟩ Tryd.call4) (Stream_RightMoves_ok _ b1 v_p_l p_l (hs_p_l.mono (S.le_arg (fp_sub (i := 1) (e := .blk b1 [v_p_l, iV 0] 25) rfl))) 0 (S.holds _ (List.mem_of_getElem? (i := 1) rfl)) _ hr1) rfl (fun _ _ _ h => ⟨h.1, fun _ hc => by cases hc; rfl⟩) ?_; clear S; intro v1 a w3 hv1 hk3 hn1 S
 replace hv1 := hv1.2
 obtain ⟨φ1, hl1, hm1, S⟩ := S.see' hn1 hz3
 have hs1 := hv1.mono hm1
 refine lv S (rn_move (S.tm rfl)) rfl ?_; clear S; intro a S
 obtain ⟨r2, hr2, h⟩ := bindE h
 have hz4 := S.keep.size
 refine l_enter1 1 S (b := b1) rfl rfl (fun _ => .blk b1 [v_p_l, iV r2.2] 25) (fun _ => run_call (vs := [.pointer (some ⟨b1, 0, none⟩), iV 6]) ⟨(S.tm rfl), rfl, trivial⟩ Tryd.call5) (Stream_Marks_ok _ b1 v_p_l p_l (hs_p_l.mono (S.le_arg (fp_sub (i := 1) (e := .blk b1 [v_p_l, iV r1.2] 25) rfl))) r1.2 (S.holds _ (List.mem_of_getElem? (i := 1) rfl)) 6 _ hr2) rfl (fun _ _ _ h => ⟨h.1, fun _ hc => by cases hc; rfl⟩) ?_; clear S; intro v2 a w4 hv2 hk4 hn2 S
 replace hv2 := hv2.2
 obtain ⟨φ2, hl2, hm2, S⟩ := S.see' hn2 hz4
 have hs2 := hv2.mono hm2
 refine lv S (rn_move (S.tm rfl)) rfl ?_; clear S; intro a S
 obtain ⟨r3, hr3, h⟩ := bindE h
 have hz5 := S.keep.size
 refine l_enter1 1 S (b := b1) rfl rfl (fun _ => .blk b1 [v_p_l, iV r3.2] 25) (fun _ => run_call (vs := [.pointer (some ⟨b1, 0, none⟩)]) ⟨(S.tm rfl), trivial⟩ Tryd.call6) (Stream_Legs_ok _ b1 v_p_l p_l (hs_p_l.mono (S.le_arg (fp_sub (i := 1) (e := .blk b1 [v_p_l, iV r2.2] 25) rfl))) r2.2 (S.holds _ (List.mem_of_getElem? (i := 1) rfl)) _ hr3) rfl (fun _ _ _ h => ⟨h.1, fun _ hc => by cases hc; rfl⟩) ?_; clear S; intro v3 a w5 hv3 hk5 hn3 S
 replace hv3 := hv3.2
 obtain ⟨rs1, ho4, hr4⟩ := hv3
 obtain ⟨φ3, hl3, hm3, S⟩ := S.see' hn3 hz5
 have hs3 := ho4.mono hm3
 have hr5 := rels_49 (View.le_trans (hide_le _ _) hm3) hr4
 iterate 3 (refine lv S (rn_assign (S.tm rfl)) rfl ?_; clear S; intro a S)
 refine l_done ?_
 replace S := S.nk [.blk b2 [v_p_l, iV 0] 25] [(4, .pointer (some ⟨b2, 0, none⟩)), (5, v1), (6, v2), (7, v3)] [true, false] rfl (subR rfl)
 refine then_n (f_seq (f_region (lv S (rn_move (S.tm rfl)) rfl ?_))); clear S; intro a S
 obtain ⟨r4, hr6, h⟩ := bindE h
 have hz6 := S.keep.size
 refine l_enter1 0 S (b := b2) rfl rfl (fun _ => .blk b2 [v_p_l, iV r4.2] 25) (fun _ => run_call (vs := [.pointer (some ⟨b2, 0, none⟩)]) ⟨(S.tm rfl), trivial⟩ Tryd.call4) (Stream_RightMoves_ok _ b2 v_p_l p_l (hs_p_l.mono (S.le_arg (fp_sub (i := 0) (e := .blk b2 [v_p_l, iV 0] 25) rfl))) 0 (S.holds _ (List.mem_of_getElem? (i := 0) rfl)) _ hr6) rfl (fun _ _ _ h => ⟨h.1, fun _ hc => by cases hc; rfl⟩) ?_; clear S; intro v4 a w6 hv4 hk6 hn4 S
 replace hv4 := hv4.2
 obtain ⟨φ4, hl4, hm4, S⟩ := S.see' hn4 hz6
 have hs4 := hv4.mono hm4
 refine lv S (rn_move (S.tm rfl)) rfl ?_; clear S; intro a S
 obtain ⟨r5, hr7, h⟩ := bindE h
 have hz7 := S.keep.size
 refine l_enter1 0 S (b := b2) rfl rfl (fun _ => .blk b2 [v_p_l, iV r5.2] 25) (fun _ => run_call (vs := [.pointer (some ⟨b2, 0, none⟩), iV 6]) ⟨(S.tm rfl), rfl, trivial⟩ Tryd.call5) (Stream_Marks_ok _ b2 v_p_l p_l (hs_p_l.mono (S.le_arg (fp_sub (i := 0) (e := .blk b2 [v_p_l, iV r4.2] 25) rfl))) r4.2 (S.holds _ (List.mem_of_getElem? (i := 0) rfl)) 6 _ hr7) rfl (fun _ _ _ h => ⟨h.1, fun _ hc => by cases hc; rfl⟩) ?_; clear S; intro v5 a w7 hv5 hk7 hn5 S
 replace hv5 := hv5.2
 obtain ⟨φ5, hl5, hm5, S⟩ := S.see' hn5 hz7
 have hs5 := hv5.mono hm5
 refine lv S (rn_move (S.tm rfl)) rfl ?_; clear S; intro a S
 obtain ⟨r6, hr8, h⟩ := bindE h
 have hz8 := S.keep.size
 refine l_enter1 0 S (b := b2) rfl rfl (fun _ => .blk b2 [v_p_l, iV r6.2] 25) (fun _ => run_call (vs := [.pointer (some ⟨b2, 0, none⟩)]) ⟨(S.tm rfl), trivial⟩ Tryd.call6) (Stream_Legs_ok _ b2 v_p_l p_l (hs_p_l.mono (S.le_arg (fp_sub (i := 0) (e := .blk b2 [v_p_l, iV r5.2] 25) rfl))) r5.2 (S.holds _ (List.mem_of_getElem? (i := 0) rfl)) _ hr8) rfl (fun _ _ _ h => ⟨h.1, fun _ hc => by cases hc; rfl⟩) ?_; clear S; intro v6 a w8 hv6 hk8 hn6 S
 replace hv6 := hv6.2
 obtain ⟨rs2, ho8, hr9⟩ := hv6
 obtain ⟨φ6, hl6, hm6, S⟩ := S.see' hn6 hz8
 have hs6 := ho8.mono hm6
 have hr10 := rels_49 (View.le_trans (hide_le _ _) hm6) hr9
 iterate 3 (refine lv S (rn_assign (S.tm rfl)) rfl ?_; clear S; intro a S)
 refine l_done (then_n (f_seq (f_region (lv S (rn_move (S.tm rfl)) rfl ?_)))); clear S; intro a S
 obtain ⟨r7, hr11, h⟩ := bindE h
 have hz9 := S.keep.size
 refine l_enter S (fun _ => run_call (vs := [v1, sV k_blue, iV 60]) ⟨(S.tm rfl), rfl, rfl, trivial⟩ Tryd.call7) (swimmer_Members_ok _ v1 r1.1 ((ownV_slcT GMove.enc_ok hs1).mono (View.le_trans (View.le_trans (View.le_trans (View.le_trans (View.le_trans hl2 hl3) hl4) hl5) hl6) (S.le_new nil_sub))) k_blue 60 _ hr11) rfl ?_; clear S; intro v7 a w9 hv7 hk9 hn7 S
 obtain ⟨u7, rfl, ho9⟩ := hv7
 replace S := S.take hn7 hz9 ho9
 refine lv S (rn_move (S.tm rfl)) rfl ?_; clear S; intro a S
 refine lv S (rn_extract (S.tm rfl) rfl) rfl ?_; clear S; intro a S
 refine lv S (rn_extract (S.tm rfl) rfl) rfl ?_; clear S; intro a S
 refine lv S (rn_assign (S.tm rfl)) rfl ?_; clear S; intro a S
 refine lv S (rn_assign (S.tm rfl)) rfl ?_; clear S; intro a S
 refine l_done ?_
 replace S := S.nk [.own u7 9 1 r7.1.length (r7.1.flatMap eStr)] [(5, v1), (6, v2), (7, v3), (8, v4), (9, v5), (10, v6), (11, u7)] [true, false] rfl (subR rfl)
 refine then_n (f_seq (f_region (lv S (rn_move (S.tm rfl)) rfl ?_))); clear S; intro a S
 obtain ⟨r8, hr12, h⟩ := bindE h
 refine l_enterO 0 S rfl (fun _ => .own u7 9 1 r8.length (r8.flatMap eStr)) (fun _ => run_call (vs := [u7]) ⟨(S.tm rfl), trivial⟩ Tryd.call8) (tumbkeep2_spoil_string_ok _ u7 r7.1 (S.holds _ (List.mem_of_getElem? (i := 0) rfl)) _ hr12) rfl (fun _ _ _ h => ⟨h.1, fun _ hc => hc⟩) ?_; clear S; intro v8 a w10 hv8 hk10 hn8 S
 replace hv8 := hv8.2
 subst hv8
 refine l_done (then_n (f_seq (f_region (lv S (rn_move (S.tm rfl)) rfl ?_)))); clear S; intro a S
 obtain ⟨r9, hr13, h⟩ := bindE h
 refine l_enter S (fun _ => run_call (vs := [v2, sV k_ra, sV k_ann, iV 0, iV 10]) ⟨(S.tm rfl), rfl, rfl, rfl, rfl, trivial⟩ Tryd.call9) (swimmer_Best_ok _ v2 r2.1 ((ownV_slcT GMark.enc_ok hs2).mono (View.le_trans (View.le_trans (View.le_trans (View.le_trans hl3 hl4) hl5) hl6) (S.le_new nil_sub))) k_ra k_ann 0 10 _ hr13) rfl ?_; clear S; intro v9 a w11 hv9 hk11 hn9 S
 subst hv9
 refine lv S (rn_move (S.tm rfl)) rfl ?_; clear S; intro a S
 iterate 3 (refine lv S (rn_extract (S.tm rfl) rfl) rfl ?_; clear S; intro a S)
 refine l_done ?_
 replace S := S.nk [] [(5, v1), (6, v2), (7, v3), (8, v4), (9, v5), (10, v6)] [false] rfl (subR rfl)
 refine then_n (f_seq (f_region (lv S (rn_move (S.tm rfl)) rfl ?_))); clear S; intro a S
 obtain ⟨r10, hr14, h⟩ := bindE h
 have hz10 := S.keep.size
 refine l_enter S (fun _ => run_call (vs := [v3, iV 0]) ⟨(S.tm rfl), rfl, trivial⟩ Tryd.call10) (swimmer_Fastest_ok _ v3 r3.1 rs1 ((ownV_slcT R49.enc_ok hs3).mono (View.le_trans (View.le_trans (View.le_trans hl4 hl5) hl6) (S.le_new nil_sub))) (rels_49 (View.le_trans (View.le_trans (View.le_trans hl4 hl5) hl6) (S.le_new nil_sub)) hr5) 0 _ hr14) rfl ?_; clear S; intro v10 a w12 hv10 hk12 hn10 S
 obtain ⟨u8, rfl, ho10⟩ := hv10
 replace S := S.take hn10 hz10 ho10
 refine lv S (rn_move (S.tm rfl)) rfl ?_; clear S; intro a S
 iterate 4 (refine lv S (rn_extract (S.tm rfl) rfl) rfl ?_; clear S; intro a S)
 iterate 4 (refine lv S (rn_assign (S.tm rfl)) rfl ?_; clear S; intro a S)
 refine l_done ?_
 replace S := S.nk [.own u8 9 1 r10.1.length (r10.1.flatMap eStr)] [(5, v1), (6, v2), (7, v3), (8, v4), (9, v5), (10, v6), (13, u8)] [true] rfl (subR rfl)
 refine then_n (f_seq (f_region (lv S (rn_move (S.tm rfl)) rfl ?_))); clear S; intro a S
 obtain ⟨r11, hr15, h⟩ := bindE h
 refine l_enterO 0 S rfl (fun _ => .own u8 9 1 r11.length (r11.flatMap eStr)) (fun _ => run_call (vs := [u8]) ⟨(S.tm rfl), trivial⟩ Tryd.call8) (tumbkeep2_spoil_string_ok _ u8 r10.1 (S.holds _ (List.mem_of_getElem? (i := 0) rfl)) _ hr15) rfl (fun _ _ _ h => ⟨h.1, fun _ hc => hc⟩) ?_; clear S; intro v11 a w13 hv11 hk13 hn11 S
 replace hv11 := hv11.2
 subst hv11
 refine l_done (then_n (f_seq (f_region (lv S (rn_move (S.tm rfl)) rfl ?_)))); clear S; intro a S
 refine lv S (rn_move (S.tm rfl)) rfl ?_; clear S; intro a S
 obtain ⟨r12, hr16, h⟩ := bindE h
 refine l_enter S (fun _ => run_call (vs := [v1, v4]) ⟨(S.tm rfl), (S.tm rfl), trivial⟩ Tryd.call11) (slices_Equal_Move_ok _ v1 r1.1 ((ownV_slcT GMove.enc_ok hs1).mono (View.le_trans (View.le_trans (View.le_trans (View.le_trans (View.le_trans hl2 hl3) hl4) hl5) hl6) (S.le_new nil_sub))) v4 r4.1 ((ownV_slcT GMove.enc_ok hs4).mono (View.le_trans (View.le_trans hl5 hl6) (S.le_new nil_sub))) _ hr16) rfl ?_; clear S; intro v12 a w14 hv12 hk14 hn12 S
 subst hv12
 refine lv S (rn_move (S.tm rfl)) rfl ?_; clear S; intro a S
 obtain ⟨j1, hj1, h⟩ := joinE h
 refine f_cutm 4 (fun a w' => ∃ c1, j1 c1 = some r ∧ Keep [] w14 w' ∧ Sx w [] φ6 [.own u8 9 1 r11.length (r11.flatMap eStr)] [(7, v3), (10, v6), (64, bV c1)] 73 a w') ?_ ?_
 ·rcases Bool.eq_false_or_eq_true r12 with hb1 | hb1
  ·replace h := iteT h hb1
   refine l_want S rfl rfl rfl hb1 (lv S (rn_move (S.tm rfl)) rfl ?_); clear S; intro a S
   refine l_want S rfl rfl rfl hb1 (lv S (rn_move (S.tm rfl)) rfl ?_); clear S; intro a S
   refine l_want S rfl rfl rfl hb1 ?_
   obtain ⟨r13, hr17, h⟩ := bindE h
   refine l_enter S (fun _ => run_call (vs := [v2, v5]) ⟨(S.tm rfl), (S.tm rfl), trivial⟩ Tryd.call12) (slices_Equal_Mark_ok _ v2 r2.1 ((ownV_slcT GMark.enc_ok hs2).mono (View.le_trans (View.le_trans (View.le_trans (View.le_trans hl3 hl4) hl5) hl6) (S.le_new nil_sub))) v5 r5.1 ((ownV_slcT GMark.enc_ok hs5).mono (View.le_trans hl6 (S.le_new nil_sub))) _ hr17) rfl ?_; clear S; intro v13 a w16 hv13 hk15 hn13 S
   subst hv13
   refine lv S (rn_and_t hb1 (S.tm rfl) (S.tm rfl)) rfl ?_; clear S; intro a S
   refine l_done (then_n ?_)
   exact ⟨_, h, hk15, S.nf [true] rfl (subR rfl)⟩
  ·replace h := iteF h hb1
   iterate 3 (refine l_skip S rfl rfl rfl (neq_f hb1) rfl ?_ rfl; clear S; intro a S)
   refine lv S (rn_and_f true hb1 (S.tm rfl) rfl) rfl ?_; clear S; intro a S
   refine l_done (then_n ?_)
   exact ⟨_, h, Keep.refl _ _, S.nf [true] rfl (subR rfl)⟩
 clear S h; rintro a w15 ⟨c1, h, hk16, S⟩; rw [hj1] at h; clear hj1 j1
 refine lv S (rn_move (S.tm rfl)) rfl ?_; clear S; intro a S
 obtain ⟨j2, hj2, h⟩ := joinE h
 refine f_cutm 4 (fun a w' => ∃ c2, j2 c2 = some r ∧ Keep [] w15 w' ∧ Sx w [] φ6 [.own u8 9 1 r11.length (r11.flatMap eStr)] [(69, bV c2)] 73 a w') ?_ ?_
 ·rcases Bool.eq_false_or_eq_true c1 with hb2 | hb2
  ·replace h := iteT h hb2
   refine l_want S rfl rfl rfl hb2 (lv S (rn_move (S.tm rfl)) rfl ?_); clear S; intro a S
   refine l_want S rfl rfl rfl hb2 (lv S (rn_move (S.tm rfl)) rfl ?_); clear S; intro a S
   refine l_want S rfl rfl rfl hb2 ?_
   obtain ⟨r14, hr18, h⟩ := bindE h
   refine l_enter S (fun _ => run_call (vs := [v3, v6, .func (.func 14) #[] #[]]) ⟨(S.tm rfl), (S.tm rfl), rfl, trivial⟩ Tryd.call13) (slices_EqualFunc_Leg_tumbkeep2_SwimmersStay_c1_ok _ v3 r3.1 rs1 ((ownV_slcT R49.enc_ok hs3).mono (View.le_trans (View.le_trans (View.le_trans hl4 hl5) hl6) (S.le_new nil_sub))) (rels_49 (View.le_trans (View.le_trans (View.le_trans hl4 hl5) hl6) (S.le_new nil_sub)) hr5) v6 r6.1 rs2 ((ownV_slcT R49.enc_ok hs6).mono (S.le_new nil_sub)) (rels_49 (S.le_new nil_sub) hr10) _ hr18) rfl ?_; clear S; intro v14 a w18 hv14 hk17 hn14 S
   subst hv14
   refine lv S (rn_and_t hb2 (S.tm rfl) (S.tm rfl)) rfl ?_; clear S; intro a S
   refine l_done (then_n ?_)
   exact ⟨_, h, hk17, S.nf [true] rfl ⟨rfl, trivial⟩⟩
  ·replace h := iteF h hb2
   iterate 3 (refine l_skip S rfl rfl rfl (neq_f hb2) rfl ?_ rfl; clear S; intro a S)
   refine lv S (rn_and_f true hb2 (S.tm rfl) rfl) rfl ?_; clear S; intro a S
   refine l_done (then_n ?_)
   exact ⟨_, h, Keep.refl _ _, S.nf [true] rfl ⟨rfl, trivial⟩⟩
 clear S h; rintro a w17 ⟨c2, h, hk18, S⟩; rw [hj2] at h; clear hj2 j2
 refine lv S (rn_move (S.tm rfl)) rfl ?_; clear S; intro a S
 obtain ⟨j3, hj3, h⟩ := joinE h
 refine f_cutm 2 (fun a w' => ∃ c3, j3 c3 = some r ∧ Keep [] w17 w' ∧ Sx w [] φ6 [.own u8 9 1 r11.length (r11.flatMap eStr)] [(72, bV c3)] 73 a w') ?_ ?_
 ·rcases Bool.eq_false_or_eq_true c2 with hb3 | hb3
  ·replace h := iteT h hb3
   refine l_want S rfl rfl rfl hb3 ?_
   obtain ⟨r15, hr19, h⟩ := bindE h
   refine l_enter S (fun _ => run_call (vs := []) trivial Tryd.call16) (tumbkeep2_ready_ok _ _ hr19) rfl ?_; clear S; intro v15 a w20 hv15 hk19 hn15 S
   subst hv15
   refine lv S (rn_and_t hb3 (S.tm rfl) (S.tm rfl)) rfl ?_; clear S; intro a S
   refine l_done (then_n ?_)
   exact ⟨_, h, hk19, S.nf [true] rfl ⟨rfl, trivial⟩⟩
  ·replace h := iteF h hb3
   refine l_skip S rfl rfl rfl (neq_f hb3) rfl ?_ rfl; clear S; intro a S
   refine lv S (rn_and_f true hb3 (S.tm rfl) rfl) rfl ?_; clear S; intro a S
   refine l_done (then_n ?_)
   exact ⟨_, h, Keep.refl _ _, S.nf [true] rfl ⟨rfl, trivial⟩⟩
 clear S h; rintro a w19 ⟨c3, h, hk20, S⟩; rw [hj3] at h; clear hj3 j3
 refine lv S (rn_assign (S.tm rfl)) rfl ?_; clear S; intro a S
 refine l_done (then_n (wp_ret ?_))
 obtain rfl := Option.some.inj h
 exact f_ret S Tryd.results3 rfl rfl
end Go.Proofs.YtmoigiaomdkfiaaDoor
