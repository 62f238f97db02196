/- Each Go function computes its plain twin, by program. -/
import Derived.Test.YtdkpfiinkodbfaaGreatDoorWk1
namespace Go.Proofs.YtdkpfiinkodbfaaGreatDoor
open Go
theorem record_checkStep_ok (w : World) (p_x : GStep) (r : Int) (h : record_checkStep p_x = some r) :
    Calls Tryz.prog 78 [.agg (GStep.enc p_x).toArray].toArray w (Ret w [] fun _ v _ => v = iV r) := by
 refine f_enter [] [] Tryz.func78 rfl Tryz.ntmps78 rfl (by simp) (by simp [fps]) (by simp [fps]) fun a S => ?_
 unfold record_checkStep at h
 replace S := S.nk [] [(0, .agg (GStep.enc p_x).toArray)] [] rfl ⟨rfl, trivial⟩
 refine f_seq (f_region (l_box S (S.tm rfl) (cs := (GStep.enc p_x)) rfl rfl ?_)); clear S; intro a w1 b1 hz1 hk1 S
 refine lv S (rn_assign rfl) rfl ?_; clear S; intro a S
 refine l_done (then_n (f_seq ?_))
 obtain ⟨j1, hj1, h⟩ := joinE h
 refine f_join (fun a w' => j1 = some r ∧ Sx w [] nov [] [] 64 a w') ?_ ?_
 ·refine wp_block (f_seq (f_region (lv S (rn_fld fa_34_0 (S.tm rfl)) rfl ?_))); clear S; intro a S
  refine lv S (rn_load Tryz.isAgg3 (S.tm rfl) (S.cell (i := 0) rfl rfl)) rfl ?_; clear S; intro a S
  refine l_enter S (fun _ => run_call (vs := [iV p_x.At]) ⟨(S.tm rfl), trivial⟩ Tryz.call39) (words_IsMoment_ok _ p_x.At _ rfl) rfl ?_; clear S; intro v1 a w3 hv1 hk2 hn1 S
  subst hv1
  refine lv S (rn_not (S.tm rfl)) rfl ?_; clear S; intro a S
  refine lv S (rn_assign (S.tm rfl)) rfl ?_; clear S; intro a S
  refine l_done (then_n (f_cond (S.tm rfl) (fun hb1 => ?_) (fun hb1 => ?_)))
  ·replace h := iteT h hb1
   refine f_seq (f_region (lv S (rn_assign rfl) rfl ?_)); clear S; intro a S
   refine l_done (then_n (wp_ret (blk_r (then_r (then_r ?_)))))
   obtain rfl := Option.some.inj h
   exact f_ret S Tryz.results78 rfl rfl
  ·replace h := iteF h hb1
   refine f_seq (f_region (lv S (rn_fld fa_34_1 (S.tm rfl)) rfl ?_)); clear S; intro a S
   refine lv S (rn_load Tryz.isAgg3 (S.tm rfl) (S.cell (i := 0) rfl rfl)) rfl ?_; clear S; intro a S
   refine l_enter S (fun _ => run_call (vs := [iV p_x.Kind, iV 1, iV 3]) ⟨(S.tm rfl), rfl, rfl, trivial⟩ Tryz.call80) (words_Within_ok _ p_x.Kind 1 3 _ rfl) rfl ?_; clear S; intro v2 a w4 hv2 hk3 hn2 S
   subst hv2
   refine lv S (rn_not (S.tm rfl)) rfl ?_; clear S; intro a S
   refine lv S (rn_assign (S.tm rfl)) rfl ?_; clear S; intro a S
   refine l_done (then_n (f_cond (S.tm rfl) (fun hb2 => ?_) (fun hb2 => ?_)))
   ·replace h := iteT h hb2
    refine f_seq (f_region (lv S (rn_assign rfl) rfl ?_)); clear S; intro a S
    refine l_done (then_n (wp_ret (blk_r (then_r (then_r ?_)))))
    obtain rfl := Option.some.inj h
    exact f_ret S Tryz.results78 rfl rfl
   ·replace h := iteF h hb2
    refine f_seq (f_region (lv S (rn_fld fa_34_2 (S.tm rfl)) rfl ?_)); clear S; intro a S
    refine lv S (rn_load Tryz.isAgg9 (S.tm rfl) (S.cell (i := 0) rfl rfl)) rfl ?_; clear S; intro a S
    obtain ⟨r1, hr1, h⟩ := bindE h
    refine l_enter S (fun _ => run_call (vs := [sV p_x.Id]) ⟨(S.tm rfl), trivial⟩ Tryz.call93) (words_IsKey_ok _ p_x.Id _ hr1) rfl ?_; clear S; intro v3 a w5 hv3 hk4 hn3 S
    subst hv3
    refine lv S (rn_not (S.tm rfl)) rfl ?_; clear S; intro a S
    refine lv S (rn_assign (S.tm rfl)) rfl ?_; clear S; intro a S
    refine l_done ?_
    replace S := S.nk [.blk b1 (GStep.enc p_x) 34] [(1, .pointer (some ⟨b1, 0, none⟩)), (13, bV (!r1))] [true] rfl (subR rfl)
    refine then_n (f_cond (S.tm rfl) (fun hb3 => ?_) (fun hb3 => ?_))
    ·replace h := iteT h hb3
     refine f_seq (f_region (lv S (rn_assign rfl) rfl ?_)); clear S; intro a S
     refine l_done (then_n (wp_ret (blk_r (then_r (then_r ?_)))))
     obtain rfl := Option.some.inj h
     exact f_ret S Tryz.results78 rfl rfl
    ·replace h := iteF h hb3
     refine f_seq (f_region (lv S (rn_fld fa_34_1 (S.tm rfl)) rfl ?_)); clear S; intro a S
     refine lv S (rn_load Tryz.isAgg3 (S.tm rfl) (S.cell (i := 0) rfl rfl)) rfl ?_; clear S; intro a S
     refine lv S (rn_neq (S.tm rfl) rfl) rfl ?_; clear S; intro a S
     refine lv S (rn_assign (S.tm rfl)) rfl ?_; clear S; intro a S
     refine l_done (then_n ?_)
     obtain ⟨j2, hj2, h⟩ := joinE h
     refine f_join (fun a w' => j2 = some r ∧ Sx w [] nov [] [] 64 a w') ?_ ?_
     ·refine f_cond (S.tm rfl) (fun hb4 => ?_) (fun hb4 => ?_)
      ·replace h := iteT h hb4
       refine f_seq (f_region (lv S (rn_ldA Tryz.isAgg34 Tryz.sizeOf34 (off := 0) (o := 0) (part := (GStep.enc p_x)) rfl rfl (S.tm rfl) (S.cellsAt (i := 0) rfl)) rfl ?_)); clear S; intro a S
       refine lv S (rn_fld fa_34_0 (S.tm rfl)) rfl ?_; clear S; intro a S
       refine lv S (rn_load Tryz.isAgg3 (S.tm rfl) (S.cell (i := 0) rfl rfl)) rfl ?_; clear S; intro a S
       refine lv S (rn_fld fa_34_1 (S.tm rfl)) rfl ?_; clear S; intro a S
       refine lv S (rn_load Tryz.isAgg3 (S.tm rfl) (S.cell (i := 0) rfl rfl)) rfl ?_; clear S; intro a S
       refine lv S (rn_fld fa_34_2 (S.tm rfl)) rfl ?_; clear S; intro a S
       refine lv S (rn_load Tryz.isAgg9 (S.tm rfl) (S.cell (i := 0) rfl rfl)) rfl ?_; clear S; intro a S
       refine lv S (rn_bld bt_34 (pv := [(0, iV p_x.At), (1, iV p_x.Kind), (2, sV p_x.Id)]) ⟨rfl, (S.tm rfl), rfl, (S.tm rfl), rfl, (S.tm rfl), trivial⟩ (cs := [iV p_x.At, iV p_x.Kind, sV p_x.Id, sV k_empty, sV k_empty, sV k_empty, iV 0, iV 0]) (by kernel_rfl)) rfl ?_; clear S; intro a S
       refine lv S (rn_neq_34 (m := p_x) (n := (GStep.mk p_x.At p_x.Kind p_x.Id k_empty k_empty k_empty 0 0)) (S.tm rfl) (S.tm rfl)) rfl ?_; clear S; intro a S
       refine l_done ?_
       replace S := S.nk [] [(30, bV (!decide (p_x = (GStep.mk p_x.At p_x.Kind p_x.Id k_empty k_empty k_empty 0 0))))] [false] rfl ⟨rfl, trivial⟩
       refine then_n (f_cond (S.tm rfl) (fun hb5 => ?_) (fun hb5 => ?_))
       ·replace h := iteT h hb5
        refine f_seq (f_region (lv S (rn_assign rfl) rfl ?_)); clear S; intro a S
        refine l_done (then_n (wp_ret (then_r (blk_r (then_r (then_r ?_))))))
        obtain rfl := Option.some.inj h
        exact f_ret S Tryz.results78 rfl rfl
       ·replace h := iteF h hb5
        refine wp_skip (then_n ?_)
        exact ⟨h, S.nf [] rfl trivial⟩
      ·replace h := iteF h hb4
       refine f_seq (f_region (lv S (rn_fld fa_34_3 (S.tm rfl)) rfl ?_)); clear S; intro a S
       refine lv S (rn_load Tryz.isAgg9 (S.tm rfl) (S.cell (i := 0) rfl rfl)) rfl ?_; clear S; intro a S
       obtain ⟨r2, hr2, h⟩ := bindE h
       refine l_enter S (fun _ => run_call (vs := [sV p_x.Who]) ⟨(S.tm rfl), trivial⟩ Tryz.call93) (words_IsKey_ok _ p_x.Who _ hr2) rfl ?_; clear S; intro v4 a w7 hv4 hk5 hn4 S
       subst hv4
       refine lv S (rn_not (S.tm rfl)) rfl ?_; clear S; intro a S
       refine lv S (rn_move (S.tm rfl)) rfl ?_; clear S; intro a S
       obtain ⟨j3, hj3, h⟩ := joinE h
       refine f_cutm 5 (fun a w' => ∃ c1, j3 c1 = some r ∧ Keep [] w7 w' ∧ Sx w [] nov [.blk b1 (GStep.enc p_x) 34] [(1, .pointer (some ⟨b1, 0, none⟩)), (41, bV c1)] 64 a w') ?_ ?_
       ·rcases Bool.eq_false_or_eq_true (!r2) with hb6 | hb6
        ·replace h := iteT h hb6
         iterate 4 (refine l_skip S rfl rfl rfl (neq_t hb6) rfl ?_ rfl; clear S; intro a S)
         refine lv S (rn_or_t true hb6 (S.tm rfl) rfl) rfl ?_; clear S; intro a S
         refine l_done (then_n ?_)
         exact ⟨_, h, Keep.refl _ _, S.nf [true] rfl (subR rfl)⟩
        ·replace h := iteF h hb6
         refine l_want S rfl rfl rfl hb6 (lv S (rn_fld fa_34_5 (S.tm rfl)) rfl ?_); clear S; intro a S
         refine l_want S rfl rfl rfl hb6 (lv S (rn_load Tryz.isAgg9 (S.tm rfl) (S.cell (i := 0) rfl rfl)) rfl ?_); clear S; intro a S
         refine l_want S rfl rfl rfl hb6 ?_
         obtain ⟨r3, hr3, h⟩ := bindE h
         refine l_enter S (fun _ => run_call (vs := [sV p_x.Race]) ⟨(S.tm rfl), trivial⟩ Tryz.call93) (words_IsKey_ok _ p_x.Race _ hr3) rfl ?_; clear S; intro v5 a w9 hv5 hk6 hn5 S
         subst hv5
         refine l_want S rfl rfl rfl hb6 (lv S (rn_not (S.tm rfl)) rfl ?_); clear S; intro a S
         refine lv S (rn_or_f hb6 (S.tm rfl) (S.tm rfl)) rfl ?_; clear S; intro a S
         refine l_done (then_n ?_)
         exact ⟨_, h, hk6, S.nf [true] rfl (subR rfl)⟩
       clear S h; rintro a w8 ⟨c1, h, hk7, S⟩; rw [hj3] at h; clear hj3 j3
       refine lv S (rn_move (S.tm rfl)) rfl ?_; clear S; intro a S
       obtain ⟨j4, hj4, h⟩ := joinE h
       refine f_cutm 10 (fun a w' => ∃ c2, j4 c2 = some r ∧ Keep [] w8 w' ∧ Sx w [] nov [.blk b1 (GStep.enc p_x) 34] [(1, .pointer (some ⟨b1, 0, none⟩)), (52, bV c2)] 64 a w') ?_ ?_
       ·rcases Bool.eq_false_or_eq_true c1 with hb7 | hb7
        ·replace h := iteT h hb7
         iterate 4 (refine l_skip S rfl rfl rfl (neq_t hb7) rfl ?_ rfl; clear S; intro a S)
         iterate 4 (refine l_skipU S rfl rfl rfl rfl ?_; clear S; intro a S)
         refine l_skip S rfl rfl rfl (neq_t hb7) rfl ?_ rfl; clear S; intro a S
         refine lv S (rn_or_t true hb7 (S.tm rfl) rfl) rfl ?_; clear S; intro a S
         refine l_done (then_n ?_)
         exact ⟨_, h, Keep.refl _ _, S.nf [true] rfl (subR rfl)⟩
        ·replace h := iteF h hb7
         refine l_want S rfl rfl rfl hb7 (lv S (rn_fld fa_34_4 (S.tm rfl)) rfl ?_); clear S; intro a S
         refine l_want S rfl rfl rfl hb7 (lv S (rn_load Tryz.isAgg9 (S.tm rfl) (S.cell (i := 0) rfl rfl)) rfl ?_); clear S; intro a S
         refine l_want S rfl rfl rfl hb7 (lv S (rn_sneq (S.tm rfl) rfl) rfl ?_); clear S; intro a S
         refine l_want S rfl rfl rfl hb7 (lv S (rn_move (S.tm rfl)) rfl ?_); clear S; intro a S
         obtain ⟨j5, hj5, h⟩ := joinE h
         refine f_cutm 5 (fun a w' => ∃ c3, j5 c3 = some r ∧ Keep [] w8 w' ∧ Sx w [] nov [.blk b1 (GStep.enc p_x) 34] [(1, .pointer (some ⟨b1, 0, none⟩)), (42, bV c1), (51, bV c3)] 64 a w') ?_ ?_
         ·rcases Bool.eq_false_or_eq_true (!decide (p_x.Club = k_empty)) with hb8 | hb8
          ·replace h := iteT h hb8
           refine l_want S rfl rfl rfl hb8 (lv S (rn_fld fa_34_4 (S.tm rfl)) rfl ?_); clear S; intro a S
           refine l_want S rfl rfl rfl hb8 (lv S (rn_load Tryz.isAgg9 (S.tm rfl) (S.cell (i := 0) rfl rfl)) rfl ?_); clear S; intro a S
           refine l_want S rfl rfl rfl hb8 ?_
           obtain ⟨r4, hr4, h⟩ := bindE h
           refine l_enter S (fun _ => run_call (vs := [sV p_x.Club]) ⟨(S.tm rfl), trivial⟩ Tryz.call93) (words_IsKey_ok _ p_x.Club _ hr4) rfl ?_; clear S; intro v6 a w12 hv6 hk8 hn6 S
           subst hv6
           refine l_want S rfl rfl rfl hb8 (lv S (rn_not (S.tm rfl)) rfl ?_); clear S; intro a S
           refine l_want S rfl rfl rfl hb7 (lv S (rn_and_t hb8 (S.tm rfl) (S.tm rfl)) rfl ?_); clear S; intro a S
           refine l_done (then_n ?_)
           exact ⟨_, h, hk8, S.nf [true] rfl (subR rfl)⟩
          ·replace h := iteF h hb8
           iterate 4 (refine l_skip S rfl rfl rfl (neq_f hb8) rfl ?_ rfl; clear S; intro a S)
           refine l_want S rfl rfl rfl hb7 (lv S (rn_and_f true hb8 (S.tm rfl) rfl) rfl ?_); clear S; intro a S
           refine l_done (then_n ?_)
           exact ⟨_, h, Keep.refl _ _, S.nf [true] rfl (subR rfl)⟩
         clear S h; rintro a w11 ⟨c3, h, hk9, S⟩; rw [hj5] at h; clear hj5 j5
         refine lv S (rn_or_f hb7 (S.tm rfl) (S.tm rfl)) rfl ?_; clear S; intro a S
         refine l_done (then_n ?_)
         exact ⟨_, h, hk9, S.nf [true] rfl (subR rfl)⟩
       clear S h; rintro a w10 ⟨c2, h, hk10, S⟩; rw [hj4] at h; clear hj4 j4
       refine lv S (rn_assign (S.tm rfl)) rfl ?_; clear S; intro a S
       refine l_done (then_n (f_cond (S.tm rfl) (fun hb9 => ?_) (fun hb9 => ?_)))
       ·replace h := iteT h hb9
        refine f_seq (f_region (lv S (rn_assign rfl) rfl ?_)); clear S; intro a S
        refine l_done (then_n (wp_ret (then_r (blk_r (then_r (then_r ?_))))))
        obtain rfl := Option.some.inj h
        exact f_ret S Tryz.results78 rfl rfl
       ·replace h := iteF h hb9
        refine f_seq (f_region (lv S (rn_fld fa_34_6 (S.tm rfl)) rfl ?_)); clear S; intro a S
        refine lv S (rn_load Tryz.isAgg3 (S.tm rfl) (S.cell (i := 0) rfl rfl)) rfl ?_; clear S; intro a S
        refine l_enter S (fun _ => run_call (vs := [iV p_x.Age, iV 0, iV 150]) ⟨(S.tm rfl), rfl, rfl, trivial⟩ Tryz.call80) (words_Within_ok _ p_x.Age 0 150 _ rfl) rfl ?_; clear S; intro v7 a w13 hv7 hk11 hn7 S
        subst hv7
        refine lv S (rn_not (S.tm rfl)) rfl ?_; clear S; intro a S
        refine lv S (rn_move (S.tm rfl)) rfl ?_; clear S; intro a S
        refine f_cutm 5 (fun a w' => Keep [] w13 w' ∧ Sx w [] nov [.blk b1 (GStep.enc p_x) 34] [(63, bV ((!(words_Within p_x.Age 0 150)) || (!(timing_IsTime p_x.Time))))] 64 a w') ?_ ?_
        ·rcases Bool.eq_false_or_eq_true (!(words_Within p_x.Age 0 150)) with hb10 | hb10
         ·iterate 4 (refine l_skip S rfl rfl rfl (neq_t hb10) rfl ?_ rfl; clear S; intro a S)
          refine lv S (rn_or_t (!(timing_IsTime p_x.Time)) hb10 (S.tm rfl) rfl) rfl ?_; clear S; intro a S
          refine l_done (then_n ?_)
          exact ⟨Keep.refl _ _, S.nf [true] rfl ⟨rfl, trivial⟩⟩
         ·refine l_want S rfl rfl rfl hb10 (lv S (rn_fld fa_34_7 (S.tm rfl)) rfl ?_); clear S; intro a S
          refine l_want S rfl rfl rfl hb10 (lv S (rn_load Tryz.isAgg3 (S.tm rfl) (S.cell (i := 0) rfl rfl)) rfl ?_); clear S; intro a S
          refine l_want S rfl rfl rfl hb10 (l_enter S (fun _ => run_call (vs := [iV p_x.Time]) ⟨(S.tm rfl), trivial⟩ Tryz.call96) (timing_IsTime_ok _ p_x.Time _ rfl) rfl ?_); clear S; intro v8 a w15 hv8 hk12 hn8 S
          subst hv8
          refine l_want S rfl rfl rfl hb10 (lv S (rn_not (S.tm rfl)) rfl ?_); clear S; intro a S
          refine lv S (rn_or_f hb10 (S.tm rfl) (S.tm rfl)) rfl ?_; clear S; intro a S
          refine l_done (then_n ?_)
          exact ⟨hk12, S.nf [true] rfl ⟨rfl, trivial⟩⟩
        clear S; rintro a w14 ⟨hk13, S⟩
        refine lv S (rn_assign (S.tm rfl)) rfl ?_; clear S; intro a S
        refine l_done (then_n (f_cond (S.tm rfl) (fun hb11 => ?_) (fun hb11 => ?_)))
        ·replace h := iteT h hb11
         refine f_seq (f_region (lv S (rn_assign rfl) rfl ?_)); clear S; intro a S
         refine l_done (then_n (wp_ret (then_r (blk_r (then_r (then_r ?_))))))
         obtain rfl := Option.some.inj h
         exact f_ret S Tryz.results78 rfl rfl
        ·replace h := iteF h hb11
         refine wp_skip (then_n ?_)
         exact ⟨h, S.nf [false] rfl trivial⟩
     clear S h; rintro a w6 ⟨h, S⟩; rw [hj2] at h; clear hj2 j2
     refine blk_n (then_n ?_)
     exact ⟨h, S.nf [] rfl trivial⟩
 clear S h; rintro a w2 ⟨h, S⟩; rw [hj1] at h; clear hj1 j1
 refine then_n (f_seq (f_region (lv S (rn_assign rfl) rfl ?_))); clear S; intro a S
 refine l_done (then_n (wp_ret ?_))
 obtain rfl := Option.some.inj h
 exact f_ret S Tryz.results78 rfl rfl
theorem cmp_isNaN_int_ok (w : World) (p_x : Int) (r : Bool) (h : cmp_isNaN_int p_x = r) :
    Calls Tryz.prog 114 [iV p_x].toArray w (Ret w [] fun _ v _ => v = bV r) := by
 refine f_enter [] [] Tryz.func114 rfl Tryz.ntmps114 rfl (by simp) (by simp [fps]) (by simp [fps]) fun a S => ?_
 unfold cmp_isNaN_int at h
 replace S := S.nk [] [(0, iV p_x)] [] rfl ⟨rfl, trivial⟩
 refine f_seq (f_region (lv S (rn_assign rfl) rfl ?_)); clear S; intro a S
 refine l_done (then_n (f_seq (f_region (lv S (rn_move (S.tm rfl)) rfl ?_)))); clear S; intro a S
 refine lv S (rn_move (S.tm rfl)) rfl ?_; clear S; intro a S
 refine lv S (rn_neq (S.tm rfl) (S.tm rfl)) rfl ?_; clear S; intro a S
 refine lv S (rn_assign (S.tm rfl)) rfl ?_; clear S; intro a S
 refine l_done (then_n (wp_ret ?_))
 subst h
 exact f_ret S Tryz.results114 rfl rfl
theorem cmp_Compare_int_ok (w : World) (p_x : Int) (p_y : Int) (r : Int) (h : cmp_Compare_int p_x p_y = r) :
    Calls Tryz.prog 104 [iV p_x, iV p_y].toArray w (Ret w [] fun _ v _ => v = iV r) := by
 refine f_enter [] [] Tryz.func104 rfl Tryz.ntmps104 rfl (by simp) (by simp [fps]) (by simp [fps]) fun a S => ?_
 unfold cmp_Compare_int at h
 replace S := S.nk [] [(0, iV p_x), (1, iV p_y)] [] rfl (subR rfl)
 refine f_seq (f_region (lv S (rn_assign rfl) rfl ?_)); clear S; intro a S
 refine l_done (then_n (f_seq (f_region (lv S (rn_move (S.tm rfl)) rfl ?_)))); clear S; intro a S
 refine l_enter S (fun _ => run_call (vs := [iV p_x]) ⟨(S.tm rfl), trivial⟩ Tryz.call114) (cmp_isNaN_int_ok _ p_x _ rfl) rfl ?_; clear S; intro v1 a w1 hv1 hk1 hn1 S
 subst hv1
 refine lv S (rn_assign (S.tm rfl)) rfl ?_; clear S; intro a S
 refine l_done (then_n (f_seq (f_region (lv S (rn_move (S.tm rfl)) rfl ?_)))); clear S; intro a S
 refine l_enter S (fun _ => run_call (vs := [iV p_y]) ⟨(S.tm rfl), trivial⟩ Tryz.call114) (cmp_isNaN_int_ok _ p_y _ rfl) rfl ?_; clear S; intro v2 a w2 hv2 hk2 hn2 S
 subst hv2
 refine lv S (rn_assign (S.tm rfl)) rfl ?_; clear S; intro a S
 refine l_done (then_n (f_seq (f_seq (f_region (lv S (rn_move (S.tm rfl)) rfl ?_))))); clear S; intro a S
 refine l_done (then_n (f_cond (S.tm rfl) (fun hb1 => ?_) (fun hb1 => ?_)))
 ·replace h := iteT h hb1
  refine f_seq (f_seq (f_region (lv S (rn_move (S.tm rfl)) rfl ?_))); clear S; intro a S
  refine l_done (then_n (f_cond (S.tm rfl) (fun hb2 => ?_) (fun hb2 => ?_)))
  ·replace h := iteT h hb2
   refine f_seq (f_region (lv S (rn_assign rfl) rfl ?_)); clear S; intro a S
   refine l_done (then_n (wp_ret (then_r (then_r ?_))))
   subst h
   exact f_ret S Tryz.results104 rfl rfl
  ·replace h := iteF h hb2
   refine wp_skip (then_n (f_seq (f_region (lv S (rn_assign rfl) rfl ?_)))); clear S; intro a S
   refine l_done (then_n (wp_ret (then_r ?_)))
   subst h
   exact f_ret S Tryz.results104 rfl rfl
 ·replace h := iteF h hb1
  refine wp_skip (then_n (f_seq (f_seq (f_region (lv S (rn_move (S.tm rfl)) rfl ?_))))); clear S; intro a S
  refine l_done (then_n (f_cond (S.tm rfl) (fun hb3 => ?_) (fun hb3 => ?_)))
  ·replace h := iteT h hb3
   refine f_seq (f_region (lv S (rn_assign rfl) rfl ?_)); clear S; intro a S
   refine l_done (then_n (wp_ret (then_r ?_)))
   subst h
   exact f_ret S Tryz.results104 rfl rfl
  ·replace h := iteF h hb3
   refine wp_skip (then_n (f_seq (f_seq (f_region (lv S (rn_move (S.tm rfl)) rfl ?_))))); clear S; intro a S
   refine lv S (rn_move (S.tm rfl)) rfl ?_; clear S; intro a S
   refine lv S (rn_lss (S.tm rfl) (S.tm rfl)) rfl ?_; clear S; intro a S
   refine l_done (then_n (f_cond (S.tm rfl) (fun hb4 => ?_) (fun hb4 => ?_)))
   ·replace h := iteT h hb4
    refine f_seq (f_region (lv S (rn_assign rfl) rfl ?_)); clear S; intro a S
    refine l_done (then_n (wp_ret (then_r ?_)))
    subst h
    exact f_ret S Tryz.results104 rfl rfl
   ·replace h := iteF h hb4
    refine wp_skip (then_n (f_seq (f_seq (f_region (lv S (rn_move (S.tm rfl)) rfl ?_))))); clear S; intro a S
    refine lv S (rn_move (S.tm rfl)) rfl ?_; clear S; intro a S
    refine lv S (rn_gtr (S.tm rfl) (S.tm rfl)) rfl ?_; clear S; intro a S
    refine l_done ?_
    replace S := S.nk [] [(19, bV (decide (p_y < p_x)))] [] rfl ⟨rfl, trivial⟩
    refine then_n (f_cond (S.tm rfl) (fun hb5 => ?_) (fun hb5 => ?_))
    ·replace h := iteT h hb5
     refine f_seq (f_region (lv S (rn_assign rfl) rfl ?_)); clear S; intro a S
     refine l_done (then_n (wp_ret (then_r ?_)))
     subst h
     exact f_ret S Tryz.results104 rfl rfl
    ·replace h := iteF h hb5
     refine wp_skip (then_n (f_seq (f_region (lv S (rn_assign rfl) rfl ?_)))); clear S; intro a S
     refine l_done (then_n (wp_ret ?_))
     subst h
     exact f_ret S Tryz.results104 rfl rfl
theorem cmp_Or_int_ok (w : World) (v_p_vals : Value) (p_vals : List Int) (hs_p_vals : Slc (view w []) 1 v_p_vals (p_vals.map eInt)) (r : Int) (h : cmp_Or_int p_vals = r) :
    Calls Tryz.prog 103 [v_p_vals].toArray w (Ret w [] fun _ v _ => v = iV r) := by
 refine f_enter [] [] Tryz.func103 rfl Tryz.ntmps103 rfl (by simp) (by simp [fps]) (by simp [fps]) fun a S => ?_
 unfold cmp_Or_int at h
 replace S := S.nk [] [(0, v_p_vals)] [] rfl ⟨rfl, trivial⟩
 refine f_seq (f_region (lv S (rn_assign rfl) rfl ?_)); clear S; intro a S
 refine l_done (then_n (f_seq (f_region (lv S (rn_assign rfl) rfl ?_)))); clear S; intro a S
 refine l_done (then_n (f_seq (f_seq (f_region (lv S (rn_move (S.tm rfl)) rfl ?_))))); clear S; intro a S
 refine lv S (rn_lenT sl_22 (S.tm rfl) (slc_len hs_p_vals)) rfl ?_; clear S; intro a S
 refine lv S (rn_move rfl) rfl ?_; clear S; intro a S
 refine l_done (then_n ?_)
 replace S := S.nk [] [(3, iV 0), (6, v_p_vals), (7, iV (p_vals.length : Int)), (8, iV 0)] [] rfl (subR rfl)
 obtain ⟨j1, hj1, h⟩ := joinE h
 refine f_join (fun a w' => j1 = r ∧ Sx w [] nov [] [(3, iV 0)] 18 a w') ?_ ?_
 ·refine wp_block (f_loop (fun (ys1 : List Int) a w' => ∃ i1 : Nat, (∃ dn, p_vals = dn ++ ys1 ∧ dn.length = i1) ∧ cmp_Or_int_l1 j1 ys1 i1 = r ∧ Sx w [] nov [] [(3, iV 0), (6, v_p_vals), (7, iV (p_vals.length : Int)), (8, iV (i1 : Int))] 18 a w') List.length p_vals ⟨0, ⟨[], rfl, rfl⟩, h, S.nf [] rfl (subR rfl)⟩ ?_)
  clear S h; rintro ys1 a w1 ⟨i1, ⟨dn, hd1, hi1⟩, h, S⟩
  cases ys1 with
  | nil =>
   rw [cmp_Or_int_l1.eq_1] at h
   refine f_seq (f_region (lv S (rn_lss (S.tm rfl) (S.tm rfl)) rfl ?_)); clear S; intro a S
   refine l_done ?_
   replace S := S.nk [] [(3, iV 0), (6, v_p_vals), (7, iV (p_vals.length : Int)), (8, iV (i1 : Int)), (9, bV (decide ((i1 : Int) < (p_vals.length : Int))))] [] rfl (subR rfl)
   refine then_n (f_seq (wp_cond_false ((S.tm rfl).trans (congrArg Value.bool (rng_nil hd1 hi1))) (wp_exit (then_x (then_x (x_same ?_))))))
   refine then_n ?_
   exact ⟨h, S.nf [] rfl ⟨rfl, trivial⟩⟩
  | cons y1 ys1 =>
   rw [cmp_Or_int_l1.eq_2] at h
   refine f_seq (f_region (lv S (rn_lss (S.tm rfl) (S.tm rfl)) rfl ?_)); clear S; intro a S
   refine l_done ?_
   replace S := S.nk [] [(3, iV 0), (6, v_p_vals), (7, iV (p_vals.length : Int)), (8, iV (i1 : Int)), (9, bV (decide ((i1 : Int) < (p_vals.length : Int))))] [] rfl (subR rfl)
   refine then_n (f_seq (wp_cond_true ((S.tm rfl).trans (congrArg Value.bool (rng_cons hd1 hi1))) (wp_skip (then_n (f_seq (wp_block ?_))))))
   refine f_seq (f_region ?_)
   obtain ⟨b1, o1, hm1, hr1⟩ := rn_indexT (a := a) (x := .tmp 6) (y := .tmp 8) (ty := 0) sl_22 hs_p_vals (get_mid hd1 hi1) rfl (S.tm rfl) (S.tm rfl)
   refine lv S (hr1 _) rfl ?_; clear S; intro a S
   clear hr1
   refine lv S (rn_ld Tryz.isAgg3 (off := o1) (o := 0) (S.tm rfl) (hm1.at S.emb0) rfl) rfl ?_; clear S; intro a S
   refine lv S (rn_assign (S.tm rfl)) rfl ?_; clear S; intro a S
   refine l_done (then_n (f_seq (f_region (lv S (rn_move (S.tm rfl)) rfl ?_)))); clear S; intro a S
   refine lv S (rn_move (S.tm rfl)) rfl ?_; clear S; intro a S
   refine lv S (rn_neq (S.tm rfl) (S.tm rfl)) rfl ?_; clear S; intro a S
   refine l_done (then_n (f_cond (S.tm rfl) (fun hb1 => ?_) (fun hb1 => ?_)))
   ·replace h := iteT h hb1
    refine f_seq (f_region (lv S (rn_move (S.tm rfl)) rfl ?_)); clear S; intro a S
    refine lv S (rn_assign (S.tm rfl)) rfl ?_; clear S; intro a S
    refine l_done (then_n (wp_ret (blk_r (then_r (then_r (blk_r ?_))))))
    refine then_r (then_r ?_)
    subst h
    exact f_ret S Tryz.results103 rfl rfl
   ·replace h := iteF h hb1
    refine wp_skip (blk_n (then_n (f_region (lv S (rn_add (S.tm rfl) rfl) rfl ?_)))); clear S; intro a S
    refine lv S (rn_move (S.tm rfl)) rfl ?_; clear S; intro a S
    refine l_done (then_n ?_)
    exact ⟨ys1, ⟨i1 + 1, ⟨_, (hd1).trans (List.append_cons _ _ _), by simp [hi1]⟩, h, S.nf [] rfl ⟨rfl, rfl, rfl, (congrArg (fun z => some (Value.int .i64 z)) (rng_next hd1 hi1 (slc_max hs_p_vals))), trivial⟩⟩, Nat.lt_succ_self _⟩
 clear S h; rintro a w2 ⟨h, S⟩; rw [hj1] at h; clear hj1 j1
 refine then_n (f_seq (f_region (lv S (rn_move (S.tm rfl)) rfl ?_))); clear S; intro a S
 refine lv S (rn_assign (S.tm rfl)) rfl ?_; clear S; intro a S
 refine l_done (then_n (wp_ret ?_))
 subst h
 exact f_ret S Tryz.results103 rfl rfl
set_option maxRecDepth 20000 in
theorem record_compare_ok (w : World) (p_a : GStep) (p_b : GStep) (r : Int) (h : record_compare p_a p_b = r) :
    Calls Tryz.prog 94 [.agg (GStep.enc p_a).toArray, .agg (GStep.enc p_b).toArray].toArray w (Ret w [] fun _ v _ => v = iV r) := by
 refine f_enter [] [] Tryz.func94 rfl Tryz.ntmps94 rfl (by simp) (by simp [fps]) (by simp [fps]) fun a S => ?_
 unfold record_compare at h
 replace S := S.nk [] [(0, .agg (GStep.enc p_a).toArray), (1, .agg (GStep.enc p_b).toArray)] [] rfl (subR rfl)
 refine f_seq (f_region (l_box S (S.tm rfl) (cs := (GStep.enc p_a)) rfl rfl ?_)); clear S; intro a w1 b1 hz1 hk1 S
 refine l_box S (S.tm rfl) (cs := (GStep.enc p_b)) rfl rfl ?_; clear S; intro a w2 b2 hz2 hk2 S
 refine lv S (rn_assign rfl) rfl ?_; clear S; intro a S
 refine l_done (then_n (f_seq (d_region [] ([]) Tryz.mixed S rfl (by kernel_rfl) ?_))); clear S; intro w8 hk8 hsel S
 refine d_quiet 0 S hsel rfl rfl rfl (by kernel_rfl) (by kernel_rfl) rfl (fun _ hw => (rn_fld fa_34_0 (S.tm rfl))) ?_; clear S; intro a S
 refine d_quiet 1 S hsel rfl rfl rfl (by kernel_rfl) (by kernel_rfl) rfl (fun _ hw => (rn_ld Tryz.isAgg3 (off := 0) (o := 0) (S.tm rfl) ((S.blk_mem (i := 1) (cells := (GStep.enc p_a)) (b := b1) (T := 34) rfl (ne_nil (e' := .blk b1 (GStep.enc p_a) 34))).kept hw) rfl)) ?_; clear S; intro a S
 refine d_quiet 2 S hsel rfl rfl rfl (by kernel_rfl) (by kernel_rfl) rfl (fun _ hw => (rn_fld fa_34_0 (S.tm rfl))) ?_; clear S; intro a S
 refine d_quiet 3 S hsel rfl rfl rfl (by kernel_rfl) (by kernel_rfl) rfl (fun _ hw => (rn_ld Tryz.isAgg3 (off := 0) (o := 0) (S.tm rfl) ((S.blk_mem (i := 0) (cells := (GStep.enc p_b)) (b := b2) (T := 34) rfl (ne_nil (e' := .blk b2 (GStep.enc p_b) 34))).kept hw) rfl)) ?_; clear S; intro a S
 refine d_quiet 5 S hsel rfl rfl rfl (by kernel_rfl) (by kernel_rfl) rfl (fun _ hw => (rn_fld fa_34_2 (S.tm rfl))) ?_; clear S; intro a S
 refine d_quiet 6 S hsel rfl rfl rfl (by kernel_rfl) (by kernel_rfl) rfl (fun _ hw => (rn_ld Tryz.isAgg9 (off := 0) (o := 2) (S.tm rfl) ((S.blk_mem (i := 1) (cells := (GStep.enc p_a)) (b := b1) (T := 34) rfl (ne_nil (e' := .blk b1 (GStep.enc p_a) 34))).kept hw) rfl)) ?_; clear S; intro a S
 refine d_quiet 7 S hsel rfl rfl rfl (by kernel_rfl) (by kernel_rfl) rfl (fun _ hw => (rn_fld fa_34_2 (S.tm rfl))) ?_; clear S; intro a S
 refine d_quiet 8 S hsel rfl rfl rfl (by kernel_rfl) (by kernel_rfl) rfl (fun _ hw => (rn_ld Tryz.isAgg9 (off := 0) (o := 2) (S.tm rfl) ((S.blk_mem (i := 0) (cells := (GStep.enc p_b)) (b := b2) (T := 34) rfl (ne_nil (e' := .blk b2 (GStep.enc p_b) 34))).kept hw) rfl)) ?_; clear S; intro a S
 refine d_quiet 10 S hsel rfl rfl rfl (by kernel_rfl) (by kernel_rfl) rfl (fun _ hw => (rn_fld fa_34_1 (S.tm rfl))) ?_; clear S; intro a S
 refine d_quiet 11 S hsel rfl rfl rfl (by kernel_rfl) (by kernel_rfl) rfl (fun _ hw => (rn_ld Tryz.isAgg3 (off := 0) (o := 1) (S.tm rfl) ((S.blk_mem (i := 1) (cells := (GStep.enc p_a)) (b := b1) (T := 34) rfl (ne_nil (e' := .blk b1 (GStep.enc p_a) 34))).kept hw) rfl)) ?_; clear S; intro a S
 refine d_quiet 12 S hsel rfl rfl rfl (by kernel_rfl) (by kernel_rfl) rfl (fun _ hw => (rn_fld fa_34_1 (S.tm rfl))) ?_; clear S; intro a S
 refine d_quiet 13 S hsel rfl rfl rfl (by kernel_rfl) (by kernel_rfl) rfl (fun _ hw => (rn_ld Tryz.isAgg3 (off := 0) (o := 1) (S.tm rfl) ((S.blk_mem (i := 0) (cells := (GStep.enc p_b)) (b := b2) (T := 34) rfl (ne_nil (e' := .blk b2 (GStep.enc p_b) 34))).kept hw) rfl)) ?_; clear S; intro a S
 refine d_loud1 4 (by kernel_rfl) rfl (l_enter S (fun _ => run_call (vs := [iV p_a.At, iV p_b.At]) ⟨(S.tm rfl), (S.tm rfl), trivial⟩ Tryz.call104) (cmp_Compare_int_ok _ p_a.At p_b.At _ rfl) rfl ?_); clear S; intro v5 a w9 hv5 hk9 hn5 S
 subst hv5
 refine l_done (d_next hk9 (d_loud1 9 (by kernel_rfl) rfl (l_enter S (fun _ => run_call (vs := [sV p_a.Id, sV p_b.Id]) ⟨(S.tm rfl), (S.tm rfl), trivial⟩ Tryz.call71) (strings_Compare_ok _ p_a.Id p_b.Id _ rfl) rfl ?_))); clear S; intro v6 a w10 hv6 hk10 hn6 S
 subst hv6
 refine l_done (d_next hk10 (d_loud1 14 (by kernel_rfl) rfl (l_enter S (fun _ => run_call (vs := [iV p_a.Kind, iV p_b.Kind]) ⟨(S.tm rfl), (S.tm rfl), trivial⟩ Tryz.call104) (cmp_Compare_int_ok _ p_a.Kind p_b.Kind _ rfl) rfl ?_))); clear S; intro v7 a w11 hv7 hk11 hn7 S
 subst hv7
 refine l_done (d_next hk11 (d_loud1 15 (by kernel_rfl) rfl (l_buildSlice S Tryz.underlying22 Tryz.sizeOf3 Tryz.zeroValue3 rfl rfl (pv := [(0, iV (cmp_Compare_int p_a.At p_b.At)), (1, iV (strings_Compare p_a.Id p_b.Id)), (2, iV (cmp_Compare_int p_a.Kind p_b.Kind))]) ⟨rfl, (S.tm rfl), rfl, (S.tm rfl), rfl, (S.tm rfl), trivial⟩ (cs := [iV (cmp_Compare_int p_a.At p_b.At), iV (strings_Compare p_a.Id p_b.Id), iV (cmp_Compare_int p_a.Kind p_b.Kind)]) (by kernel_rfl) rfl ?_))); clear S; intro a w12 b4 hz4 hk12 S
 refine l_done (d_next hk12 (d_loud1 16 (by kernel_rfl) rfl (l_enter S (fun _ => run_call (vs := [.slice (some ⟨b4, 0, none⟩) 3 3]) ⟨(S.tm rfl), trivial⟩ Tryz.call103) (cmp_Or_int_ok _ (.slice (some ⟨b4, 0, none⟩) 3 3) [(cmp_Compare_int p_a.At p_b.At), (strings_Compare p_a.Id p_b.Id), (cmp_Compare_int p_a.Kind p_b.Kind)] (lit_slcT enc_int S (i := 0) rfl rfl rfl rfl ((ne_nil (e' := .blk b4 [iV (cmp_Compare_int p_a.At p_b.At), iV (strings_Compare p_a.Id p_b.Id), iV (cmp_Compare_int p_a.Kind p_b.Kind)] 3)) _ rfl)) _ rfl) rfl ?_))); clear S; intro v8 a w13 hv8 hk13 hn8 S
 subst hv8
 refine l_done (d_next hk13 (d_rest [17] hsel (by kernel_rfl) rfl ?_))
 clear hsel
 refine s_lv S rfl (rn_assign (S.tm rfl)) rfl ?_; clear S; intro a S
 refine s_done ?_
 replace S := S.nk [] [(4, iV (cmp_Or_int [(cmp_Compare_int p_a.At p_b.At), (strings_Compare p_a.Id p_b.Id), (cmp_Compare_int p_a.Kind p_b.Kind)]))] [false, false, false] rfl ⟨rfl, trivial⟩
 refine then_n (wp_ret ?_)
 subst h
 exact f_ret S Tryz.results94 rfl rfl
set_option maxRecDepth 20000 in
theorem record_CheckSteps_ok (w : World) (v_p_l : Value) (p_l : List GStep) (hs_p_l : Slc (view w []) 8 v_p_l (p_l.map GStep.enc)) (r : Int) (h : record_CheckSteps p_l = some r) :
    Calls Tryz.prog 73 [v_p_l].toArray w (Ret w [] fun _ v _ => v = iV r) := by
 refine f_enter [] [] Tryz.func73 rfl Tryz.ntmps73 rfl (by simp) (by simp [fps]) (by simp [fps]) fun a S => ?_
 unfold record_CheckSteps at h
 replace S := S.nk [] [(0, v_p_l)] [] rfl ⟨rfl, trivial⟩
 refine f_seq (f_region (lv S (rn_assign rfl) rfl ?_)); clear S; intro a S
 refine l_done (then_n (f_seq (f_seq (f_region (lv S (rn_move (S.tm rfl)) rfl ?_))))); clear S; intro a S
 refine lv S (rn_lenT sl_28 (S.tm rfl) (slc_len hs_p_l)) rfl ?_; clear S; intro a S
 refine lv S (rn_gtr (S.tm rfl) rfl) rfl ?_; clear S; intro a S
 refine l_done (then_n (f_cond (S.tm rfl) (fun hb1 => ?_) (fun hb1 => ?_)))
 ·replace h := iteT h hb1
  refine f_seq (f_region (lv S (rn_assign rfl) rfl ?_)); clear S; intro a S
  refine l_done (then_n (wp_ret (then_r ?_)))
  obtain rfl := Option.some.inj h
  exact f_ret S Tryz.results73 rfl rfl
 ·replace h := iteF h hb1
  refine wp_skip (then_n (f_seq (f_seq (f_region (lv S (rn_move (S.tm rfl)) rfl ?_))))); clear S; intro a S
  refine lv S (rn_lenT sl_28 (S.tm rfl) (slc_len hs_p_l)) rfl ?_; clear S; intro a S
  refine lv S (rn_move rfl) rfl ?_; clear S; intro a S
  refine l_done (then_n ?_)
  replace S := S.nk [] [(0, v_p_l), (9, v_p_l), (10, iV (p_l.length : Int)), (11, iV 0)] [] rfl (subR rfl)
  obtain ⟨j1, hj1, h⟩ := joinE h
  refine f_join (fun a w' => j1 = some r ∧ Sx w [] nov [] [] 34 a w') ?_ ?_
  ·refine wp_block (f_loop (fun (ys1 : List GStep) a w' => ∃ i1 : Nat, (∃ dn, p_l = dn ++ ys1 ∧ dn.length = i1) ∧ record_CheckSteps_l1 p_l j1 ys1 i1 = some r ∧ Sx w [] nov [] [(0, v_p_l), (9, v_p_l), (10, iV (p_l.length : Int)), (11, iV (i1 : Int))] 34 a w') List.length p_l ⟨0, ⟨[], rfl, rfl⟩, h, S.nf [] rfl (subR rfl)⟩ ?_)
   clear S h; rintro ys1 a w1 ⟨i1, ⟨dn, hd1, hi1⟩, h, S⟩
   cases ys1 with
   | nil =>
    rw [record_CheckSteps_l1.eq_1] at h
    refine f_seq (f_region (lv S (rn_lss (S.tm rfl) (S.tm rfl)) rfl ?_)); clear S; intro a S
    refine l_done ?_
    replace S := S.nk [] [(0, v_p_l), (9, v_p_l), (10, iV (p_l.length : Int)), (11, iV (i1 : Int)), (12, bV (decide ((i1 : Int) < (p_l.length : Int))))] [] rfl (subR rfl)
    refine then_n (f_seq (wp_cond_false ((S.tm rfl).trans (congrArg Value.bool (rng_nil hd1 hi1))) (wp_exit (then_x (then_x (x_same ?_))))))
    refine then_n ?_
    exact ⟨h, S.nf [] rfl trivial⟩
   | cons y1 ys1 =>
    rw [record_CheckSteps_l1.eq_2] at h
    refine f_seq (f_region (lv S (rn_lss (S.tm rfl) (S.tm rfl)) rfl ?_)); clear S; intro a S
    refine l_done ?_
    replace S := S.nk [] [(0, v_p_l), (9, v_p_l), (10, iV (p_l.length : Int)), (11, iV (i1 : Int)), (12, bV (decide ((i1 : Int) < (p_l.length : Int))))] [] rfl (subR rfl)
    refine then_n (f_seq (wp_cond_true ((S.tm rfl).trans (congrArg Value.bool (rng_cons hd1 hi1))) (wp_skip (then_n (f_seq (wp_block ?_))))))
    refine f_seq (f_region (lv S (rn_move (S.tm rfl)) rfl ?_)); clear S; intro a S
    obtain ⟨b1, o1, hm1, hr1⟩ := rn_indexT (a := a) (x := .tmp 9) (y := .tmp 11) (ty := 0) sl_28 hs_p_l (get_mid hd1 hi1) rfl (S.tm rfl) (S.tm rfl)
    refine lv S (hr1 _) rfl ?_; clear S; intro a S
    clear hr1
    refine lv S (rn_ldA Tryz.isAgg34 Tryz.sizeOf34 (off := o1) (o := 0) (part := (GStep.enc y1)) rfl rfl (S.tm rfl) (hm1.at S.emb0)) rfl ?_; clear S; intro a S
    refine l_alloc S Tryz.zeroValue34 (cs := [iV 0, iV 0, sV k_empty, sV k_empty, sV k_empty, sV k_empty, iV 0, iV 0]) rfl rfl ?_; clear S; intro a w3 b2 hz1 hk1 S
    refine lv S (rn_assign (S.tm rfl)) rfl ?_; clear S; intro a S
    refine l_store S (S.tm rfl) (S.tm rfl) (i := 0) (off := 0) rfl Tryz.sizeOf34 (vs := (GStep.enc y1)) rfl rfl rfl rfl ?_; clear S; intro w4 hk2 S
    refine l_done (then_n (f_seq (f_seq (f_region (lv S (rn_ldA Tryz.isAgg34 Tryz.sizeOf34 (off := 0) (o := 0) (part := (GStep.enc y1)) rfl rfl (S.tm rfl) (S.cellsAt (i := 0) rfl)) rfl ?_))))); clear S; intro a S
    obtain ⟨r1, hr2, h⟩ := bindE h
    refine l_enter S (fun _ => run_call (vs := [.agg (GStep.enc y1).toArray]) ⟨(S.tm rfl), trivial⟩ Tryz.call78) (record_checkStep_ok _ y1 _ hr2) rfl ?_; clear S; intro v1 a w5 hv1 hk3 hn1 S
    subst hv1
    refine lv S (rn_assign (S.tm rfl)) rfl ?_; clear S; intro a S
    refine l_done (then_n (f_seq (f_region (lv S (rn_move (S.tm rfl)) rfl ?_)))); clear S; intro a S
    refine lv S (rn_neq (S.tm rfl) rfl) rfl ?_; clear S; intro a S
    refine l_done ?_
    replace S := S.nk [.blk b2 (GStep.enc y1) 34] [(0, v_p_l), (3, iV (i1 : Int)), (4, .pointer (some ⟨b2, 0, none⟩)), (5, iV r1), (9, v_p_l), (10, iV (p_l.length : Int)), (11, iV (i1 : Int)), (19, bV (!decide (r1 = 0)))] [true] rfl (subR rfl)
    refine then_n (f_cond (S.tm rfl) (fun hb2 => ?_) (fun hb2 => ?_))
    ·replace h := iteT h hb2
     refine f_seq (f_region (lv S (rn_move (S.tm rfl)) rfl ?_)); clear S; intro a S
     refine lv S (rn_assign (S.tm rfl)) rfl ?_; clear S; intro a S
     refine l_done (then_n (wp_ret (then_r (blk_r (then_r (then_r ?_))))))
     refine blk_r (then_r (then_r ?_))
     obtain rfl := Option.some.inj h
     exact f_ret S Tryz.results73 rfl rfl
    ·replace h := iteF h hb2
     refine wp_skip (then_n (f_seq ?_))
     obtain ⟨j2, hj2, h⟩ := joinE h
     refine f_join (fun a w' => ∃ x1 : Bool, j2 x1 = some r ∧ Sx w [] nov [] [(0, v_p_l), (9, v_p_l), (10, iV (p_l.length : Int)), (11, iV (i1 : Int)), (32, bV x1)] 34 a w') ?_ ?_
     ·rcases Bool.eq_false_or_eq_true (decide (0 < (i1 : Int))) with hb3 | hb3
      ·replace h := iteT h hb3
       obtain ⟨hc1, h⟩ := chkE h
       refine d_region [] ([]) Tryz.mixed S rfl (by kernel_rfl) ?_; clear S; intro w8 hk5 hsel S
       refine d_quiet 0 S hsel rfl rfl rfl (by kernel_rfl) (by kernel_rfl) rfl (fun _ hw => (rn_move (S.tm rfl))) ?_; clear S; intro a S
       refine d_quiet 1 S hsel rfl rfl rfl (by kernel_rfl) (by kernel_rfl) rfl (fun _ hw => (rn_gtr (S.tm rfl) rfl)) ?_; clear S; intro a S
       refine d_quiet 2 S hsel rfl rfl rfl (by kernel_rfl) (by kernel_rfl) rfl (fun _ hw => (rn_move (S.tm rfl))) ?_; clear S; intro a S
       refine d_quiet_g 3 S hsel rfl rfl rfl rfl hb3 rfl rfl (by kernel_rfl) (by kernel_rfl) rfl (fun _ hw => (rn_move (S.tm rfl))) ?_; clear S; intro a S
       refine d_quiet_g 4 S hsel rfl rfl rfl rfl hb3 rfl rfl (by kernel_rfl) (by kernel_rfl) rfl (fun _ hw => (rn_move (S.tm rfl))) ?_; clear S; intro a S
       refine d_quiet_g 5 S hsel rfl rfl rfl rfl hb3 rfl rfl (by kernel_rfl) (by kernel_rfl) rfl (fun _ hw => (rn_sub (S.tm rfl) rfl)) ?_; clear S; intro a S
       obtain ⟨b4, o3, hm3, hr4⟩ := rn_indexT (a := a) (x := .tmp 24) (y := .tmp 26) (ty := 0) sl_28 (hs_p_l.mono (S.le_arg nil_sub)) (inB_get hc1).1 (inB_get hc1).2 (S.tm rfl) (S.tm rfl)
       refine d_quiet_g 6 S hsel rfl rfl rfl rfl hb3 rfl rfl (by kernel_rfl) (by kernel_rfl) rfl (fun _ hw => hr4 _) ?_; clear S; intro a S
       clear hr4
       refine d_quiet_g 7 S hsel rfl rfl rfl rfl hb3 rfl rfl (by kernel_rfl) (by kernel_rfl) rfl (fun _ hw => (rn_ldA Tryz.isAgg34 Tryz.sizeOf34 (off := o3) (o := 0) (part := (GStep.enc (nth p_l (W ((i1 : Int) - 1))))) rfl rfl (S.tm rfl) (hm3.kept hw))) ?_; clear S; intro a S
       refine d_quiet_g 8 S hsel rfl rfl rfl rfl hb3 rfl rfl (by kernel_rfl) (by kernel_rfl) rfl (fun _ hw => (rn_ldA Tryz.isAgg34 Tryz.sizeOf34 (off := 0) (o := 0) (part := (GStep.enc y1)) rfl rfl (S.tm rfl) ((S.blk_mem (i := 0) (cells := (GStep.enc y1)) (b := b2) (T := 34) rfl (ne_nil (e' := .blk b2 (GStep.enc y1) 34))).kept hw))) ?_; clear S; intro a S
       refine d_loud1 9 (by kernel_rfl) rfl (l_want S rfl rfl rfl hb3 (l_enter S (fun _ => run_call (vs := [.agg (GStep.enc (nth p_l (W ((i1 : Int) - 1)))).toArray, .agg (GStep.enc y1).toArray]) ⟨(S.tm rfl), (S.tm rfl), trivial⟩ Tryz.call94) (record_compare_ok _ (nth p_l (W ((i1 : Int) - 1))) y1 _ rfl) rfl ?_)); clear S; intro v3 a w9 hv3 hk6 hn3 S
       subst hv3
       refine l_done (d_next hk6 (d_rest [10, 11] hsel (by kernel_rfl) rfl ?_))
       clear hsel
       refine s_want S rfl rfl rfl rfl hb3 (s_lv0 S (rn_geq (S.tm rfl) rfl) rfl ?_); clear S; intro a S
       refine s_lv S rfl (rn_pick_b hb3 (S.tm rfl) (S.tm rfl)) rfl ?_; clear S; intro a S
       refine s_done ?_
       replace S := S.nk [] [(0, v_p_l), (9, v_p_l), (10, iV (p_l.length : Int)), (11, iV (i1 : Int)), (24, v_p_l), (25, iV (i1 : Int)), (26, iV (W ((i1 : Int) - 1))), (27, .pointer (some ⟨b4, o3, none⟩)), (28, .agg (GStep.enc (nth p_l (W ((i1 : Int) - 1)))).toArray), (29, .agg (GStep.enc y1).toArray), (30, iV (record_compare (nth p_l (W ((i1 : Int) - 1))) y1)), (31, bV (decide (0 ≤ (record_compare (nth p_l (W ((i1 : Int) - 1))) y1)))), (32, bV (decide (0 ≤ (record_compare (nth p_l (W ((i1 : Int) - 1))) y1))))] [false] rfl (subR rfl)
       refine then_n ?_
       exact ⟨decide (0 ≤ (record_compare (nth p_l (W ((i1 : Int) - 1))) y1)), h, S.nf [] rfl (subR rfl)⟩
      ·replace h := iteF h hb3
       refine d_region [] ([]) Tryz.mixed S rfl (by kernel_rfl) ?_; clear S; intro w10 hk7 hsel S
       refine d_rest [0, 1, 2, 3, 4, 5, 6, 7, 8, 9, 10, 11] hsel (by kernel_rfl) rfl ?_
       clear hsel
       refine s_lv S rfl (rn_move (S.tm rfl)) rfl ?_; clear S; intro a S
       refine s_lv S rfl (rn_gtr (S.tm rfl) rfl) rfl ?_; clear S; intro a S
       refine s_lv S rfl (rn_move (S.tm rfl)) rfl ?_; clear S; intro a S
       iterate 8 (refine s_skip S rfl rfl rfl rfl (neq_f hb3) rfl ?_ rfl; clear S; intro a S)
       refine s_lv S rfl (rn_pick_c hb3 (S.tm rfl) rfl) rfl ?_; clear S; intro a S
       refine s_done ?_
       replace S := S.nk [] [(0, v_p_l), (9, v_p_l), (10, iV (p_l.length : Int)), (11, iV (i1 : Int)), (32, bV false)] [false] rfl (subR rfl)
       refine then_n ?_
       exact ⟨false, h, S.nf [] rfl (subR rfl)⟩
     clear S h; rintro a w6 ⟨x1, h, S⟩; rw [hj2] at h; clear hj2 j2
     refine then_n (f_cond (S.tm rfl) (fun hb4 => ?_) (fun hb4 => ?_))
     ·replace h := iteT h hb4
      refine f_seq (f_region (lv S (rn_assign rfl) rfl ?_)); clear S; intro a S
      refine l_done (then_n (wp_ret (blk_r (then_r (then_r (blk_r ?_))))))
      refine then_r (then_r ?_)
      obtain rfl := Option.some.inj h
      exact f_ret S Tryz.results73 rfl rfl
     ·replace h := iteF h hb4
      refine wp_skip (blk_n (then_n (f_region (lv S (rn_add (S.tm rfl) rfl) rfl ?_)))); clear S; intro a S
      refine lv S (rn_move (S.tm rfl)) rfl ?_; clear S; intro a S
      refine l_done (then_n ?_)
      exact ⟨ys1, ⟨i1 + 1, ⟨_, (hd1).trans (List.append_cons _ _ _), by simp [hi1]⟩, h, S.nf [] rfl ⟨rfl, rfl, rfl, (congrArg (fun z => some (Value.int .i64 z)) (rng_next hd1 hi1 (slc_max hs_p_l))), trivial⟩⟩, Nat.lt_succ_self _⟩
  clear S h; rintro a w2 ⟨h, S⟩; rw [hj1] at h; clear hj1 j1
  refine then_n (f_seq (f_region (lv S (rn_assign rfl) rfl ?_))); clear S; intro a S
  refine l_done (then_n (wp_ret ?_))
  obtain rfl := Option.some.inj h
  exact f_ret S Tryz.results73 rfl rfl
theorem record_checkBoth_ok (w : World) (v_p_k : Value) (p_k : List GKind) (rs_p_k : List R57) (hs_p_k : Slc (view w []) 5 v_p_k (rs_p_k.map R57.enc)) (hr_p_k : All2 (rel_57 (view w [])) p_k rs_p_k) (v_p_l : Value) (p_l : List GStep) (hs_p_l : Slc (view w []) 8 v_p_l (p_l.map GStep.enc)) (r : Int) (h : record_checkBoth p_k p_l = some r) :
    Calls Tryz.prog 38 [v_p_k, v_p_l].toArray w (Ret w [] fun _ v _ => v = iV r) := by
 refine f_enter [] [] Tryz.func38 rfl Tryz.ntmps38 rfl (by simp) (by simp [fps]) (by simp [fps]) fun a S => ?_
 unfold record_checkBoth at h
 replace S := S.nk [] [(0, v_p_k), (1, v_p_l)] [] rfl (subR rfl)
 refine f_seq (f_region (lv S (rn_assign rfl) rfl ?_)); clear S; intro a S
 refine l_done (then_n (f_seq (f_seq (f_region (lv S (rn_move (S.tm rfl)) rfl ?_))))); clear S; intro a S
 obtain ⟨r1, hr1, h⟩ := bindE h
 refine l_enter S (fun _ => run_call (vs := [v_p_k]) ⟨(S.tm rfl), trivial⟩ Tryz.call72) (record_CheckKinds_ok _ v_p_k p_k rs_p_k (hs_p_k.mono (S.le_arg nil_sub)) (rels_57 (S.le_arg nil_sub) hr_p_k) _ hr1) rfl ?_; clear S; intro v1 a w1 hv1 hk1 hn1 S
 subst hv1
 refine lv S (rn_assign (S.tm rfl)) rfl ?_; clear S; intro a S
 refine l_done (then_n (f_seq (f_region (lv S (rn_move (S.tm rfl)) rfl ?_)))); clear S; intro a S
 refine lv S (rn_neq (S.tm rfl) rfl) rfl ?_; clear S; intro a S
 refine l_done (then_n (f_cond (S.tm rfl) (fun hb1 => ?_) (fun hb1 => ?_)))
 ·replace h := iteT h hb1
  refine f_seq (f_region (lv S (rn_move (S.tm rfl)) rfl ?_)); clear S; intro a S
  refine lv S (rn_assign (S.tm rfl)) rfl ?_; clear S; intro a S
  refine l_done (then_n (wp_ret (then_r ?_)))
  obtain rfl := Option.some.inj h
  exact f_ret S Tryz.results38 rfl rfl
 ·replace h := iteF h hb1
  refine wp_skip (then_n (f_seq (f_region (lv S (rn_move (S.tm rfl)) rfl ?_)))); clear S; intro a S
  obtain ⟨r2, hr2, h⟩ := bindE h
  refine l_enter S (fun _ => run_call (vs := [v_p_l]) ⟨(S.tm rfl), trivial⟩ Tryz.call73) (record_CheckSteps_ok _ v_p_l p_l (hs_p_l.mono (S.le_arg nil_sub)) _ hr2) rfl ?_; clear S; intro v2 a w2 hv2 hk2 hn2 S
  subst hv2
  refine lv S (rn_assign (S.tm rfl)) rfl ?_; clear S; intro a S
  refine l_done (then_n (wp_ret ?_))
  obtain rfl := Option.some.inj h
  exact f_ret S Tryz.results38 rfl rfl
set_option maxRecDepth 20000 in
theorem record_follow_ok (w : World) (v_p_l : Value) (p_l : List GStep) (hs_p_l : Slc (view w []) 8 v_p_l (p_l.map GStep.enc)) (p_at : Int) (r : (List Grecord_swum) × (List Int)) (h : record_follow p_l p_at = some r) :
    Calls Tryz.prog 40 [v_p_l, iV p_at].toArray w (Ret w [] fun τ v _ => ∃ u1 : Value, ∃ u2 : Value, v = .tuple #[u1, u2] ∧ SlcD τ 1 RP.enc rel_100 u1 r.1 ∧ OwnV τ 3 1 u2 r.2.length (r.2.flatMap eInt)) := by
 refine f_enter [] [] Tryz.func40 rfl Tryz.ntmps40 rfl (by simp) (by simp [fps]) (by simp [fps]) fun a S => ?_
 unfold record_follow at h
 replace S := S.nk [] [(0, v_p_l), (1, iV p_at)] [] rfl (subR rfl)
 refine f_seq (f_region (lv S (rn_assign rfl) rfl ?_)); clear S; intro a S
 refine lv S (rn_assign rfl) rfl ?_; clear S; intro a S
 refine l_done ?_
 replace S := S.nk [] [(0, v_p_l), (1, iV p_at)] [] rfl (subR rfl)
 refine then_n (f_seq (f_region (lv S (rn_assign rfl) rfl ?_))); clear S; intro a S
 replace S := S.nil 100 1
 refine l_done ?_
 replace S := S.nk [.own (.slice none 0 0) 100 1 ([] : List Nat).length (([] : List Nat).flatMap RP.enc)] [(0, v_p_l), (1, iV p_at), (6, (.slice none 0 0))] [true] rfl (subR rfl)
 refine then_n (f_seq (f_region (lv S (rn_assign rfl) rfl ?_))); clear S; intro a S
 replace S := S.nil 3 1
 refine l_done ?_
 replace S := S.nk [.own (.slice none 0 0) 3 1 ([] : List Int).length (([] : List Int).flatMap eInt), .own (.slice none 0 0) 100 1 ([] : List Nat).length (([] : List Nat).flatMap RP.enc)] [(0, v_p_l), (1, iV p_at), (6, (.slice none 0 0)), (7, (.slice none 0 0))] [true, true] rfl (subR rfl)
 refine then_n (f_seq (f_region (l_makeMap (κ := ByteArray) (ν := Option Nat) S rfl Value.string PV ?_))); clear S; intro a w1 b1 hz1 hk1 S
 refine lv S (rn_assign (S.tm rfl)) rfl ?_; clear S; intro a S
 refine l_done ?_
 replace S := S.nk ([.map b1 (ments Value.string PV (idm (([] : List Grecord_swum).map fun x => x.s_.Id) ([] : List Nat))) (idm (([] : List Grecord_swum).map fun x => x.s_.Id) ([] : List Nat)).length, .own (.slice none 0 0) 3 1 ([] : List Int).length (([] : List Int).flatMap eInt), .own (.slice none 0 0) 100 1 ([] : List Nat).length (([] : List Nat).flatMap RP.enc)] ++ arena 102 Grecord_swum.enc ([] : List Nat) ([] : List Grecord_swum)) [(0, v_p_l), (1, iV p_at), (6, (.slice none 0 0)), (7, (.slice none 0 0)), (8, .map (some b1))] [true, true, true] rfl (subR rfl)
 refine then_n (f_seq (f_seq (f_region (lv S (rn_move (S.tm rfl)) rfl ?_)))); clear S; intro a S
 refine lv S (rn_lenT sl_28 (S.tm rfl) (slc_len hs_p_l)) rfl ?_; clear S; intro a S
 refine lv S (rn_move rfl) rfl ?_; clear S; intro a S
 refine l_done ?_
 replace S := S.nk ([.map b1 (ments Value.string PV (idm (([] : List Grecord_swum).map fun x => x.s_.Id) ([] : List Nat))) (idm (([] : List Grecord_swum).map fun x => x.s_.Id) ([] : List Nat)).length, .own (.slice none 0 0) 3 1 ([] : List Int).length (([] : List Int).flatMap eInt), .own (.slice none 0 0) 100 1 ([] : List Nat).length (([] : List Nat).flatMap RP.enc)] ++ arena 102 Grecord_swum.enc ([] : List Nat) ([] : List Grecord_swum)) [(1, iV p_at), (6, (.slice none 0 0)), (7, (.slice none 0 0)), (8, .map (some b1)), (13, v_p_l), (14, iV (p_l.length : Int)), (15, iV 0)] [true, true, true] rfl (subR rfl)
 refine then_n ?_
 obtain ⟨j1, hj1, h⟩ := joinE h
 refine f_join (fun a w' => ∃ x1 : List Grecord_swum, ∃ x2 : List Int, ∃ bs1 : List Nat, ∃ v1 : Value, ∃ v2 : Value, j1 x1 x2 = some r ∧ bs1.length = x1.length ∧ Sx w [] nov ([.map b1 (ments Value.string PV (idm (x1.map fun x => x.s_.Id) bs1)) (idm (x1.map fun x => x.s_.Id) bs1).length, .own v1 3 1 x2.length (x2.flatMap eInt), .own v2 100 1 bs1.length (bs1.flatMap RP.enc)] ++ arena 102 Grecord_swum.enc bs1 x1) [(6, v2), (7, v1)] 97 a w') ?_ ?_
 ·refine wp_block (f_loop (fun (ys1 : List GStep) a w' => ∃ i1 : Nat, ∃ x1 : List Grecord_swum, ∃ x2 : List Int, ∃ bs1 : List Nat, ∃ v1 : Value, ∃ v2 : Value, (∃ dn, p_l = dn ++ ys1 ∧ dn.length = i1) ∧ record_follow_l1 p_at j1 ys1 i1 x1 x2 = some r ∧ bs1.length = x1.length ∧ Sx w [] nov ([.map b1 (ments Value.string PV (idm (x1.map fun x => x.s_.Id) bs1)) (idm (x1.map fun x => x.s_.Id) bs1).length, .own v1 3 1 x2.length (x2.flatMap eInt), .own v2 100 1 bs1.length (bs1.flatMap RP.enc)] ++ arena 102 Grecord_swum.enc bs1 x1) [(1, iV p_at), (6, v2), (7, v1), (8, .map (some b1)), (13, v_p_l), (14, iV (p_l.length : Int)), (15, iV (i1 : Int))] 97 a w') List.length p_l ⟨0, ([] : List Grecord_swum), ([] : List Int), ([] : List Nat), (.slice none 0 0), (.slice none 0 0), ⟨[], rfl, rfl⟩, h, (rfl : ([] : List Nat).length = ([] : List Grecord_swum).length), S.nf [true, true, true] rfl (subR rfl)⟩ ?_)
  clear S h; rintro ys1 a w2 ⟨i1, x1, x2, bs1, v1, v2, ⟨dn, hd1, hi1⟩, h, hl1, S⟩
  cases ys1 with
  | nil =>
   rw [record_follow_l1.eq_1] at h
   refine f_seq (f_region (lv S (rn_lss (S.tm rfl) (S.tm rfl)) rfl ?_)); clear S; intro a S
   refine l_done ?_
   replace S := S.nk ([.map b1 (ments Value.string PV (idm (x1.map fun x => x.s_.Id) bs1)) (idm (x1.map fun x => x.s_.Id) bs1).length, .own v1 3 1 x2.length (x2.flatMap eInt), .own v2 100 1 bs1.length (bs1.flatMap RP.enc)] ++ arena 102 Grecord_swum.enc bs1 x1) [(1, iV p_at), (6, v2), (7, v1), (8, .map (some b1)), (13, v_p_l), (14, iV (p_l.length : Int)), (15, iV (i1 : Int)), (16, bV (decide ((i1 : Int) < (p_l.length : Int))))] [true, true, true] rfl (subR rfl)
   refine then_n (f_seq (wp_cond_false ((S.tm rfl).trans (congrArg Value.bool (rng_nil hd1 hi1))) (wp_exit (then_x (then_x (x_same ?_))))))
   refine then_n ?_
   exact ⟨x1, x2, bs1, v1, v2, h, hl1, S.nf [true, true, true] rfl (subR rfl)⟩
  | cons y1 ys1 =>
   rw [record_follow_l1.eq_2] at h
   refine f_seq (f_region (lv S (rn_lss (S.tm rfl) (S.tm rfl)) rfl ?_)); clear S; intro a S
   refine l_done ?_
   replace S := S.nk ([.map b1 (ments Value.string PV (idm (x1.map fun x => x.s_.Id) bs1)) (idm (x1.map fun x => x.s_.Id) bs1).length, .own v1 3 1 x2.length (x2.flatMap eInt), .own v2 100 1 bs1.length (bs1.flatMap RP.enc)] ++ arena 102 Grecord_swum.enc bs1 x1) [(1, iV p_at), (6, v2), (7, v1), (8, .map (some b1)), (13, v_p_l), (14, iV (p_l.length : Int)), (15, iV (i1 : Int)), (16, bV (decide ((i1 : Int) < (p_l.length : Int))))] [true, true, true] rfl (subR rfl)
   refine then_n (f_seq (wp_cond_true ((S.tm rfl).trans (congrArg Value.bool (rng_cons hd1 hi1))) (wp_skip (then_n (f_seq (wp_block ?_))))))
   refine f_seq (f_region (lv S (rn_move (S.tm rfl)) rfl ?_)); clear S; intro a S
   obtain ⟨b2, o1, hm1, hr1⟩ := rn_indexT (a := a) (x := .tmp 13) (y := .tmp 15) (ty := 0) sl_28 hs_p_l (get_mid hd1 hi1) rfl (S.tm rfl) (S.tm rfl)
   refine lv S (hr1 _) rfl ?_; clear S; intro a S
   clear hr1
   refine lv S (rn_ldA Tryz.isAgg34 Tryz.sizeOf34 (off := o1) (o := 0) (part := (GStep.enc y1)) rfl rfl (S.tm rfl) (hm1.at S.emb0)) rfl ?_; clear S; intro a S
   refine l_alloc S Tryz.zeroValue34 (cs := [iV 0, iV 0, sV k_empty, sV k_empty, sV k_empty, sV k_empty, iV 0, iV 0]) rfl rfl ?_; clear S; intro a w4 b3 hz2 hk2 S
   refine lv S (rn_assign (S.tm rfl)) rfl ?_; clear S; intro a S
   refine l_store S (S.tm rfl) (S.tm rfl) (i := 0) (off := 0) rfl Tryz.sizeOf34 (vs := (GStep.enc y1)) rfl rfl rfl rfl ?_; clear S; intro w5 hk3 S
   refine l_done ?_
   replace S := S.nk ([.blk b3 (GStep.enc y1) 34, .map b1 (ments Value.string PV (idm (x1.map fun x => x.s_.Id) bs1)) (idm (x1.map fun x => x.s_.Id) bs1).length, .own v1 3 1 x2.length (x2.flatMap eInt), .own v2 100 1 bs1.length (bs1.flatMap RP.enc)] ++ arena 102 Grecord_swum.enc bs1 x1) [(1, iV p_at), (6, v2), (7, v1), (8, .map (some b1)), (9, iV (i1 : Int)), (10, .pointer (some ⟨b3, 0, none⟩)), (13, v_p_l), (14, iV (p_l.length : Int)), (15, iV (i1 : Int))] [true, true, true, true] rfl (subR rfl)
   refine then_n (f_seq (f_seq (f_region (lv S (rn_fld fa_34_0 (S.tm rfl)) rfl ?_)))); clear S; intro a S
   refine lv S (rn_load Tryz.isAgg3 (S.tm rfl) (S.cell (i := 0) rfl rfl)) rfl ?_; clear S; intro a S
   refine lv S (rn_move (S.tm rfl)) rfl ?_; clear S; intro a S
   refine lv S (rn_gtr (S.tm rfl) (S.tm rfl)) rfl ?_; clear S; intro a S
   refine l_done ?_
   replace S := S.nk ([.blk b3 (GStep.enc y1) 34, .map b1 (ments Value.string PV (idm (x1.map fun x => x.s_.Id) bs1)) (idm (x1.map fun x => x.s_.Id) bs1).length, .own v1 3 1 x2.length (x2.flatMap eInt), .own v2 100 1 bs1.length (bs1.flatMap RP.enc)] ++ arena 102 Grecord_swum.enc bs1 x1) [(1, iV p_at), (6, v2), (7, v1), (8, .map (some b1)), (9, iV (i1 : Int)), (10, .pointer (some ⟨b3, 0, none⟩)), (13, v_p_l), (14, iV (p_l.length : Int)), (15, iV (i1 : Int)), (23, bV (decide (p_at < y1.At)))] [true, true, true, true] rfl (subR rfl)
   refine then_n (f_cond (S.tm rfl) (fun hb1 => ?_) (fun hb1 => ?_))
   ·replace h := iteT h hb1
    refine wp_exit (then_x (x_other rfl (then_x (then_x (x_same (then_n ?_))))))
    exact ⟨x1, x2, bs1, v1, v2, h, hl1, S.nf [false, true, true, true] rfl (subR rfl)⟩
   ·replace h := iteF h hb1
    refine wp_skip (then_n (f_seq (f_region (lv S (rn_move (S.tm rfl)) rfl ?_)))); clear S; intro a S
    refine lv S (rn_fld fa_34_2 (S.tm rfl)) rfl ?_; clear S; intro a S
    refine lv S (rn_load Tryz.isAgg9 (S.tm rfl) (S.cell (i := 0) rfl rfl)) rfl ?_; clear S; intro a S
    refine lv S (rn_lookup (kv := Value.string) (vv := PV) (m := idm (x1.map fun x => x.s_.Id) bs1) (key := y1.Id) (z := none) (S.map_at (i := 1) rfl) Tryz.underlying99 (keyT_str Tryz.underlying9) Tryz.zeroValue100 (S.tm rfl) (S.tm rfl)) rfl ?_; clear S; intro a S
    generalize ho : mgetD (idm (x1.map fun x => x.s_.Id) bs1) y1.Id none = o2 at S
    obtain ⟨hN, hS⟩ : (swFind x1 y1.Id).isNone = o2.isNone ∧ (swFind x1 y1.Id).isSome = o2.isSome := find_o hl1 ho
    simp only [hN, hS] at h
    refine lv S (rn_assign (S.tm rfl)) rfl ?_; clear S; intro a S
    refine l_done ?_
    replace S := S.nk ([.blk b3 (GStep.enc y1) 34, .map b1 (ments Value.string PV (idm (x1.map fun x => x.s_.Id) bs1)) (idm (x1.map fun x => x.s_.Id) bs1).length, .own v1 3 1 x2.length (x2.flatMap eInt), .own v2 100 1 bs1.length (bs1.flatMap RP.enc)] ++ arena 102 Grecord_swum.enc bs1 x1) [(1, iV p_at), (6, v2), (7, v1), (8, .map (some b1)), (9, iV (i1 : Int)), (10, .pointer (some ⟨b3, 0, none⟩)), (11, PV o2), (13, v_p_l), (14, iV (p_l.length : Int)), (15, iV (i1 : Int))] [true, true, true, true] rfl (subR rfl)
    refine then_n ?_
    obtain ⟨j2, hj2, h⟩ := joinE h
    refine f_join (fun a w' => ∃ x3 : List Grecord_swum, ∃ x4 : List Int, ∃ bs2 : List Nat, ∃ v3 : Value, ∃ v4 : Value, j2 x3 x4 = some r ∧ bs2.length = x3.length ∧ Sx w [] nov ([.map b1 (ments Value.string PV (idm (x3.map fun x => x.s_.Id) bs2)) (idm (x3.map fun x => x.s_.Id) bs2).length, .own v3 3 1 x4.length (x4.flatMap eInt), .own v4 100 1 bs2.length (bs2.flatMap RP.enc)] ++ arena 102 Grecord_swum.enc bs2 x3) [(1, iV p_at), (6, v4), (7, v3), (8, .map (some b1)), (13, v_p_l), (14, iV (p_l.length : Int)), (15, iV (i1 : Int))] 97 a w') ?_ ?_
    ·refine wp_block (f_seq (f_region (lv S (rn_fld fa_34_1 (S.tm rfl)) rfl ?_))); clear S; intro a S
     refine lv S (rn_load Tryz.isAgg3 (S.tm rfl) (S.cell (i := 0) rfl rfl)) rfl ?_; clear S; intro a S
     refine lv S (rn_eql (S.tm rfl) rfl) rfl ?_; clear S; intro a S
     refine lv S (rn_move (S.tm rfl)) rfl ?_; clear S; intro a S
     refine f_cutm 3 (fun a w' => Keep [] w5 w' ∧ Sx w [] nov ([.blk b3 (GStep.enc y1) 34, .map b1 (ments Value.string PV (idm (x1.map fun x => x.s_.Id) bs1)) (idm (x1.map fun x => x.s_.Id) bs1).length, .own v1 3 1 x2.length (x2.flatMap eInt), .own v2 100 1 bs1.length (bs1.flatMap RP.enc)] ++ arena 102 Grecord_swum.enc bs1 x1) [(1, iV p_at), (6, v2), (7, v1), (8, .map (some b1)), (9, iV (i1 : Int)), (10, .pointer (some ⟨b3, 0, none⟩)), (11, PV o2), (13, v_p_l), (14, iV (p_l.length : Int)), (15, iV (i1 : Int)), (39, bV ((decide (y1.Kind = 1)) && o2.isNone))] 97 a w') ?_ ?_
     ·rcases Bool.eq_false_or_eq_true (decide (y1.Kind = 1)) with hb2 | hb2
      ·refine l_want S rfl rfl rfl hb2 (lv S (rn_move (S.tm rfl)) rfl ?_); clear S; intro a S
       refine l_want S rfl rfl rfl hb2 (lv S (rn_peql Tryz.underlying100 (S.tm rfl) rfl) rfl ?_); clear S; intro a S
       refine lv S (rn_and_t hb2 (S.tm rfl) (S.tm rfl)) rfl ?_; clear S; intro a S
       refine l_done (then_n ?_)
       exact ⟨Keep.refl _ _, S.nf [true, true, true, true] rfl (subR rfl)⟩
      ·refine l_skip S rfl rfl rfl (neq_f hb2) rfl ?_ rfl; clear S; intro a S
       refine l_skip S rfl rfl rfl (neq_f hb2) rfl ?_ rfl; clear S; intro a S
       refine lv S (rn_and_f o2.isNone hb2 (S.tm rfl) rfl) rfl ?_; clear S; intro a S
       refine l_done (then_n ?_)
       exact ⟨Keep.refl _ _, S.nf [true, true, true, true] rfl (subR rfl)⟩
     clear S; rintro a w7 ⟨hk4, S⟩
     refine lv S (rn_assign (S.tm rfl)) rfl ?_; clear S; intro a S
     refine l_done ?_
     replace S := S.nk ([.blk b3 (GStep.enc y1) 34, .map b1 (ments Value.string PV (idm (x1.map fun x => x.s_.Id) bs1)) (idm (x1.map fun x => x.s_.Id) bs1).length, .own v1 3 1 x2.length (x2.flatMap eInt), .own v2 100 1 bs1.length (bs1.flatMap RP.enc)] ++ arena 102 Grecord_swum.enc bs1 x1) [(1, iV p_at), (6, v2), (7, v1), (8, .map (some b1)), (9, iV (i1 : Int)), (10, .pointer (some ⟨b3, 0, none⟩)), (11, PV o2), (13, v_p_l), (14, iV (p_l.length : Int)), (15, iV (i1 : Int)), (32, bV ((decide (y1.Kind = 1)) && o2.isNone))] [true, true, true, true] rfl (subR rfl)
     refine then_n ?_
     obtain ⟨j3, hj3, h⟩ := joinE h
     refine f_join (fun a w' => ∃ x5 : List Grecord_swum, ∃ x6 : List Int, ∃ bs3 : List Nat, ∃ v5 : Value, ∃ v6 : Value, j3 x5 x6 = some r ∧ bs3.length = x5.length ∧ Sx w [] nov ([.map b1 (ments Value.string PV (idm (x5.map fun x => x.s_.Id) bs3)) (idm (x5.map fun x => x.s_.Id) bs3).length, .own v5 3 1 x6.length (x6.flatMap eInt), .own v6 100 1 bs3.length (bs3.flatMap RP.enc)] ++ arena 102 Grecord_swum.enc bs3 x5) [(1, iV p_at), (6, v6), (7, v5), (8, .map (some b1)), (13, v_p_l), (14, iV (p_l.length : Int)), (15, iV (i1 : Int))] 97 a w') ?_ ?_
     ·refine f_cond (S.tm rfl) (fun hb3 => ?_) (fun hb3 => ?_)
      ·replace h := iteT h hb3
       refine f_seq (f_region (lv S (rn_ldA Tryz.isAgg34 Tryz.sizeOf34 (off := 0) (o := 0) (part := (GStep.enc y1)) rfl rfl (S.tm rfl) (S.cellsAt (i := 0) rfl)) rfl ?_)); clear S; intro a S
       refine lv S (rn_bld bt_102 (pv := [(0, .agg (GStep.enc y1).toArray)]) ⟨rfl, (S.tm rfl), trivial⟩ (cs := [iV y1.At, iV y1.Kind, sV y1.Id, sV y1.Who, sV y1.Club, sV y1.Race, iV y1.Age, iV y1.Time, bV false, bV false]) (by kernel_rfl)) rfl ?_; clear S; intro a S
       refine l_box S (S.tm rfl) (cs := [iV y1.At, iV y1.Kind, sV y1.Id, sV y1.Who, sV y1.Club, sV y1.Race, iV y1.Age, iV y1.Time, bV false, bV false]) rfl rfl ?_; clear S; intro a w9 b4 hz3 hk5 S
       refine lv S (rn_assign (S.tm rfl)) rfl ?_; clear S; intro a S
       refine l_done ?_
       replace S := S.nk ([.blk b4 (Grecord_swum.enc (Grecord_swum.mk y1 false false)) 102, .blk b3 (GStep.enc y1) 34, .map b1 (ments Value.string PV (idm (x1.map fun x => x.s_.Id) bs1)) (idm (x1.map fun x => x.s_.Id) bs1).length, .own v1 3 1 x2.length (x2.flatMap eInt), .own v2 100 1 bs1.length (bs1.flatMap RP.enc)] ++ arena 102 Grecord_swum.enc bs1 x1) [(1, iV p_at), (6, v2), (7, v1), (8, .map (some b1)), (10, .pointer (some ⟨b3, 0, none⟩)), (11, .pointer (some ⟨b4, 0, none⟩)), (13, v_p_l), (14, iV (p_l.length : Int)), (15, iV (i1 : Int))] [true, true, true, true, true] rfl (subR rfl)
       refine then_n ?_
       obtain ⟨hc1, h⟩ := chkE h
       refine d_region [] (v2.ownBlock.toList ++ [b1]) Tryz.mixed S rfl (by kernel_rfl) ?_; clear S; intro w13 hk9 hsel S
       refine d_quiet 0 S hsel rfl rfl rfl (by kernel_rfl) (by kernel_rfl) rfl (fun _ hw => (rn_move (S.tm rfl))) ?_; clear S; intro a S
       refine d_quiet 1 S hsel rfl rfl rfl (by kernel_rfl) (by kernel_rfl) rfl (fun _ hw => (rn_fld fa_34_2 (S.tm rfl))) ?_; clear S; intro a S
       refine d_quiet 2 S hsel rfl rfl rfl (by kernel_rfl) (by kernel_rfl) rfl (fun _ hw => (rn_ld Tryz.isAgg9 (off := 0) (o := 2) (S.tm rfl) ((S.blk_mem (i := 1) (cells := (GStep.enc y1)) (b := b3) (T := 34) rfl (ne_app (ne_fp (i := 4) (j := 1) (e := .own v2 100 1 bs1.length (bs1.flatMap RP.enc)) (e' := .blk b3 (GStep.enc y1) 34) S rfl rfl rfl) (ne_fp (i := 2) (j := 1) (e := (_)) (e' := .blk b3 (GStep.enc y1) 34) S rfl rfl rfl))).kept hw) rfl)) ?_; clear S; intro a S
       refine d_quiet 3 S hsel rfl rfl rfl (by kernel_rfl) (by kernel_rfl) rfl (fun _ hw => (rn_move (S.tm rfl))) ?_; clear S; intro a S
       refine d_quiet 4 S hsel rfl rfl rfl (by kernel_rfl) (by kernel_rfl) rfl (fun _ hw => (rn_move (S.tm rfl))) ?_; clear S; intro a S
       refine d_quiet 5 S hsel rfl rfl rfl (by kernel_rfl) (by kernel_rfl) rfl (fun _ hw => (rn_move (S.tm rfl))) ?_; clear S; intro a S
       refine d_loud1 6 (by kernel_rfl) rfl (l_buildSlice S Tryz.underlying73 Tryz.sizeOf100 Tryz.zeroValue100 rfl rfl (pv := [(0, .pointer (some ⟨b4, 0, none⟩))]) ⟨rfl, (S.tm rfl), trivial⟩ (cs := [.pointer (some ⟨b4, 0, none⟩)]) (by kernel_rfl) rfl ?_); clear S; intro a w14 b6 hz5 hk10 S
       refine l_done (d_next (Keep.none hk10) (d_loud1 7 (by kernel_rfl) rfl ?_))
       refine l_appendT sl_73 RP.enc_ok S (S.tm rfl) (i := 5) rfl (S.tm rfl) (j := 0) rfl (ys := [b4]) rfl rfl rfl rfl (by have := room_lt hc1; omega) rfl ?_; clear S; intro v8 a w15 hk11 S
       refine l_done ?_
       refine d_next (hk11.sub (by intro y hy; simp at hy ⊢; simp [hy])) ?_
       refine d_loud1 8 (by kernel_rfl) rfl (l_mapUpdate (kv := Value.string) (vv := PV) (m := idm (x1.map fun x => x.s_.Id) bs1) (key := y1.Id) (val := some b4) S (i := 3) rfl Tryz.underlying99 (keyT_str Tryz.underlying9) (S.tm rfl) (S.tm rfl) (S.tm rfl) ?_); clear S; intro w16 hk12 S
       refine l_done ?_
       refine d_next (hk12.sub (by intro y hy; simp at hy ⊢; simp [hy])) ?_
       refine d_rest [9] hsel (by kernel_rfl) rfl ?_
       clear hsel
       refine s_lv S rfl (rn_assign (S.tm rfl)) rfl ?_; clear S; intro a S
       refine s_done ?_
       replace S := S.nk ([.blk b4 (Grecord_swum.enc (Grecord_swum.mk y1 false false)) 102, .map b1 (ments Value.string PV (mput (idm (x1.map fun x => x.s_.Id) bs1) y1.Id (some b4))) (mput (idm (x1.map fun x => x.s_.Id) bs1) y1.Id (some b4)).length, .own v1 3 1 x2.length (x2.flatMap eInt), .own v8 100 1 (bs1 ++ [b4]).length ((bs1 ++ [b4]).flatMap RP.enc)] ++ arena 102 Grecord_swum.enc bs1 x1) [(1, iV p_at), (6, v8), (7, v1), (8, .map (some b1)), (13, v_p_l), (14, iV (p_l.length : Int)), (15, iV (i1 : Int))] [false, true, false, true, true, true] rfl (subR rfl)
       replace S := S.join_arena (enc := Grecord_swum.enc) (x := (Grecord_swum.mk y1 false false)) hl1
       rw [idm_add (key := fun x : Grecord_swum => x.s_.Id) ((Grecord_swum.mk y1 false false)) hl1 (find_none hl1 ho (by simp only [Bool.and_eq_true] at hb3; simp [hb3])) rfl] at S
       replace S := S.nk ([.map b1 (ments Value.string PV (idm ((x1 ++ [(Grecord_swum.mk y1 false false)]).map fun x => x.s_.Id) (bs1 ++ [b4]))) (idm ((x1 ++ [(Grecord_swum.mk y1 false false)]).map fun x => x.s_.Id) (bs1 ++ [b4])).length, .own v1 3 1 x2.length (x2.flatMap eInt), .own v8 100 1 (bs1 ++ [b4]).length ((bs1 ++ [b4]).flatMap RP.enc)] ++ arena 102 Grecord_swum.enc (bs1 ++ [b4]) (x1 ++ [(Grecord_swum.mk y1 false false)])) [(1, iV p_at), (6, v8), (7, v1), (8, .map (some b1)), (13, v_p_l), (14, iV (p_l.length : Int)), (15, iV (i1 : Int))] [true, true, true] rfl (subR rfl)
       refine then_n ?_
       exact ⟨(x1 ++ [(Grecord_swum.mk y1 false false)]), x2, (bs1 ++ [b4]), v1, v8, h, (by rw [List.length_append, List.length_append, hl1]; rfl), S.nf [true, true, true] rfl (subR rfl)⟩
      ·replace h := iteF h hb3
       refine f_seq (f_region (lv S (rn_fld fa_34_1 (S.tm rfl)) rfl ?_)); clear S; intro a S
       refine lv S (rn_load Tryz.isAgg3 (S.tm rfl) (S.cell (i := 0) rfl rfl)) rfl ?_; clear S; intro a S
       refine lv S (rn_eql (S.tm rfl) rfl) rfl ?_; clear S; intro a S
       refine lv S (rn_move (S.tm rfl)) rfl ?_; clear S; intro a S
       refine f_cutm 3 (fun a w' => Keep [] w7 w' ∧ Sx w [] nov ([.blk b3 (GStep.enc y1) 34, .map b1 (ments Value.string PV (idm (x1.map fun x => x.s_.Id) bs1)) (idm (x1.map fun x => x.s_.Id) bs1).length, .own v1 3 1 x2.length (x2.flatMap eInt), .own v2 100 1 bs1.length (bs1.flatMap RP.enc)] ++ arena 102 Grecord_swum.enc bs1 x1) [(1, iV p_at), (6, v2), (7, v1), (8, .map (some b1)), (9, iV (i1 : Int)), (10, .pointer (some ⟨b3, 0, none⟩)), (11, PV o2), (13, v_p_l), (14, iV (p_l.length : Int)), (15, iV (i1 : Int)), (58, bV ((decide (y1.Kind = 2)) && o2.isSome))] 97 a w') ?_ ?_
       ·rcases Bool.eq_false_or_eq_true (decide (y1.Kind = 2)) with hb4 | hb4
        ·refine l_want S rfl rfl rfl hb4 (lv S (rn_move (S.tm rfl)) rfl ?_); clear S; intro a S
         refine l_want S rfl rfl rfl hb4 (lv S (rn_pneq Tryz.underlying100 (S.tm rfl) rfl) rfl ?_); clear S; intro a S
         refine lv S (rn_and_t hb4 (S.tm rfl) (S.tm rfl)) rfl ?_; clear S; intro a S
         refine l_done (then_n ?_)
         exact ⟨Keep.refl _ _, S.nf [true, true, true, true] rfl (subR rfl)⟩
        ·refine l_skip S rfl rfl rfl (neq_f hb4) rfl ?_ rfl; clear S; intro a S
         refine l_skip S rfl rfl rfl (neq_f hb4) rfl ?_ rfl; clear S; intro a S
         refine lv S (rn_and_f o2.isSome hb4 (S.tm rfl) rfl) rfl ?_; clear S; intro a S
         refine l_done (then_n ?_)
         exact ⟨Keep.refl _ _, S.nf [true, true, true, true] rfl (subR rfl)⟩
       clear S; rintro a w17 ⟨hk13, S⟩
       refine lv S (rn_move (S.tm rfl)) rfl ?_; clear S; intro a S
       refine f_cutm 6 (fun a w' => Keep [] w17 w' ∧ Sx w [] nov ([.blk b3 (GStep.enc y1) 34, .map b1 (ments Value.string PV (idm (x1.map fun x => x.s_.Id) bs1)) (idm (x1.map fun x => x.s_.Id) bs1).length, .own v1 3 1 x2.length (x2.flatMap eInt), .own v2 100 1 bs1.length (bs1.flatMap RP.enc)] ++ arena 102 Grecord_swum.enc bs1 x1) [(1, iV p_at), (6, v2), (7, v1), (8, .map (some b1)), (9, iV (i1 : Int)), (10, .pointer (some ⟨b3, 0, none⟩)), (11, PV o2), (13, v_p_l), (14, iV (p_l.length : Int)), (15, iV (i1 : Int)), (65, bV (((decide (y1.Kind = 2)) && o2.isSome) && (!((swAt x1 y1.Id).sure_))))] 97 a w') ?_ ?_
       ·rcases Bool.eq_false_or_eq_true ((decide (y1.Kind = 2)) && o2.isSome) with hb5 | hb5
        ·refine l_want S rfl rfl rfl hb5 (lv S (rn_move (S.tm rfl)) rfl ?_); clear S; intro a S
         refine l_want S rfl rfl rfl hb5 ?_
         obtain ⟨bo, ho', hbj, hxj⟩ := find_at hl1 ho (by simp only [Bool.and_eq_true] at hb5; simp [hb5])
         have hpv : PV o2 = .pointer (some ⟨bo, 0, none⟩) := by rw [ho']; rfl
         refine lv S (rn_nilCheck ((S.tm rfl).trans hpv)) rfl ?_; clear S; intro a S
         refine l_want S rfl rfl rfl hb5 (lv S (rn_fld fa_102_1 (S.tm rfl)) rfl ?_); clear S; intro a S
         refine l_want S rfl rfl rfl hb5 (lv S (rn_load Tryz.isAgg4 (S.tm rfl) (S.cell (arena_ix hbj hxj) rfl)) rfl ?_); clear S; intro a S
         refine l_want S rfl rfl rfl hb5 (lv S (rn_not (S.tm rfl)) rfl ?_); clear S; intro a S
         refine lv S (rn_and_t hb5 (S.tm rfl) (S.tm rfl)) rfl ?_; clear S; intro a S
         refine l_done (then_n ?_)
         exact ⟨Keep.refl _ _, S.nf [true, true, true, true] rfl (subR rfl)⟩
        ·iterate 5 (refine l_skip S rfl rfl rfl (neq_f hb5) rfl ?_ rfl; clear S; intro a S)
         refine lv S (rn_and_f (!((swAt x1 y1.Id).sure_)) hb5 (S.tm rfl) rfl) rfl ?_; clear S; intro a S
         refine l_done (then_n ?_)
         exact ⟨Keep.refl _ _, S.nf [true, true, true, true] rfl (subR rfl)⟩
       clear S; rintro a w18 ⟨hk14, S⟩
       refine lv S (rn_move (S.tm rfl)) rfl ?_; clear S; intro a S
       refine f_cutm 6 (fun a w' => Keep [] w18 w' ∧ Sx w [] nov ([.blk b3 (GStep.enc y1) 34, .map b1 (ments Value.string PV (idm (x1.map fun x => x.s_.Id) bs1)) (idm (x1.map fun x => x.s_.Id) bs1).length, .own v1 3 1 x2.length (x2.flatMap eInt), .own v2 100 1 bs1.length (bs1.flatMap RP.enc)] ++ arena 102 Grecord_swum.enc bs1 x1) [(1, iV p_at), (6, v2), (7, v1), (8, .map (some b1)), (9, iV (i1 : Int)), (10, .pointer (some ⟨b3, 0, none⟩)), (11, PV o2), (13, v_p_l), (14, iV (p_l.length : Int)), (15, iV (i1 : Int)), (72, bV ((((decide (y1.Kind = 2)) && o2.isSome) && (!((swAt x1 y1.Id).sure_))) && (!((swAt x1 y1.Id).void_))))] 97 a w') ?_ ?_
       ·rcases Bool.eq_false_or_eq_true (((decide (y1.Kind = 2)) && o2.isSome) && (!((swAt x1 y1.Id).sure_))) with hb6 | hb6
        ·refine l_want S rfl rfl rfl hb6 (lv S (rn_move (S.tm rfl)) rfl ?_); clear S; intro a S
         refine l_want S rfl rfl rfl hb6 ?_
         obtain ⟨bo, ho', hbj, hxj⟩ := find_at hl1 ho (by simp only [Bool.and_eq_true] at hb6; simp [hb6])
         have hpv : PV o2 = .pointer (some ⟨bo, 0, none⟩) := by rw [ho']; rfl
         refine lv S (rn_nilCheck ((S.tm rfl).trans hpv)) rfl ?_; clear S; intro a S
         refine l_want S rfl rfl rfl hb6 (lv S (rn_fld fa_102_2 (S.tm rfl)) rfl ?_); clear S; intro a S
         refine l_want S rfl rfl rfl hb6 (lv S (rn_load Tryz.isAgg4 (S.tm rfl) (S.cell (arena_ix hbj hxj) rfl)) rfl ?_); clear S; intro a S
         refine l_want S rfl rfl rfl hb6 (lv S (rn_not (S.tm rfl)) rfl ?_); clear S; intro a S
         refine lv S (rn_and_t hb6 (S.tm rfl) (S.tm rfl)) rfl ?_; clear S; intro a S
         refine l_done (then_n ?_)
         exact ⟨Keep.refl _ _, S.nf [true, true, true, true] rfl (subR rfl)⟩
        ·iterate 5 (refine l_skip S rfl rfl rfl (neq_f hb6) rfl ?_ rfl; clear S; intro a S)
         refine lv S (rn_and_f (!((swAt x1 y1.Id).void_)) hb6 (S.tm rfl) rfl) rfl ?_; clear S; intro a S
         refine l_done (then_n ?_)
         exact ⟨Keep.refl _ _, S.nf [true, true, true, true] rfl (subR rfl)⟩
       clear S; rintro a w19 ⟨hk15, S⟩
       refine lv S (rn_assign (S.tm rfl)) rfl ?_; clear S; intro a S
       refine l_done ?_
       replace S := S.nk ([.blk b3 (GStep.enc y1) 34, .map b1 (ments Value.string PV (idm (x1.map fun x => x.s_.Id) bs1)) (idm (x1.map fun x => x.s_.Id) bs1).length, .own v1 3 1 x2.length (x2.flatMap eInt), .own v2 100 1 bs1.length (bs1.flatMap RP.enc)] ++ arena 102 Grecord_swum.enc bs1 x1) [(1, iV p_at), (6, v2), (7, v1), (8, .map (some b1)), (9, iV (i1 : Int)), (10, .pointer (some ⟨b3, 0, none⟩)), (11, PV o2), (13, v_p_l), (14, iV (p_l.length : Int)), (15, iV (i1 : Int)), (51, bV ((((decide (y1.Kind = 2)) && o2.isSome) && (!((swAt x1 y1.Id).sure_))) && (!((swAt x1 y1.Id).void_))))] [true, true, true, true] rfl (subR rfl)
       refine then_n ?_
       obtain ⟨j4, hj4, h⟩ := joinE h
       refine f_join (fun a w' => ∃ x7 : List Grecord_swum, ∃ x8 : List Int, ∃ v9 : Value, j4 x7 x8 = some r ∧ bs1.length = x7.length ∧ Sx w [] nov ([.map b1 (ments Value.string PV (idm (x7.map fun x => x.s_.Id) bs1)) (idm (x7.map fun x => x.s_.Id) bs1).length, .own v9 3 1 x8.length (x8.flatMap eInt), .own v2 100 1 bs1.length (bs1.flatMap RP.enc)] ++ arena 102 Grecord_swum.enc bs1 x7) [(1, iV p_at), (6, v2), (7, v9), (8, .map (some b1)), (13, v_p_l), (14, iV (p_l.length : Int)), (15, iV (i1 : Int))] 97 a w') ?_ ?_
       ·refine f_cond (S.tm rfl) (fun hb7 => ?_) (fun hb7 => ?_)
        ·replace h := iteT h hb7
         refine f_region (lv S (rn_move (S.tm rfl)) rfl ?_); clear S; intro a S
         obtain ⟨bo, ho', hbj, hxj⟩ := find_at hl1 ho (by simp only [Bool.and_eq_true] at hb7; simp [hb7])
         have hpv : PV o2 = .pointer (some ⟨bo, 0, none⟩) := by rw [ho']; rfl
         refine lv S (rn_nilCheck ((S.tm rfl).trans hpv)) rfl ?_; clear S; intro a S
         refine lv S (rn_fld fa_102_1 (S.tm rfl)) rfl ?_; clear S; intro a S
         refine l_store S (S.tm rfl) rfl (off := 8) (arena_ix hbj hxj) Tryz.sizeOf4 (vs := [.bool true]) rfl rfl rfl rfl ?_; clear S; intro w21 hk16 S
         replace S := S.arena_store (y := (Grecord_swum.mk (swAt x1 y1.Id).s_ true (swAt x1 y1.Id).void_)) hbj rfl
         rw [keys_set (key := fun x : Grecord_swum => x.s_.Id) (y := (Grecord_swum.mk (swAt x1 y1.Id).s_ true (swAt x1 y1.Id).void_)) hxj rfl] at S
         refine l_done ?_
         replace S := S.nk ([.map b1 (ments Value.string PV (idm ((x1.set (swPos x1 y1.Id) (Grecord_swum.mk (swAt x1 y1.Id).s_ true (swAt x1 y1.Id).void_)).map fun x => x.s_.Id) bs1)) (idm ((x1.set (swPos x1 y1.Id) (Grecord_swum.mk (swAt x1 y1.Id).s_ true (swAt x1 y1.Id).void_)).map fun x => x.s_.Id) bs1).length, .own v1 3 1 x2.length (x2.flatMap eInt), .own v2 100 1 bs1.length (bs1.flatMap RP.enc)] ++ arena 102 Grecord_swum.enc bs1 (x1.set (swPos x1 y1.Id) (Grecord_swum.mk (swAt x1 y1.Id).s_ true (swAt x1 y1.Id).void_))) [(1, iV p_at), (6, v2), (7, v1), (8, .map (some b1)), (13, v_p_l), (14, iV (p_l.length : Int)), (15, iV (i1 : Int))] [false, true, true, true] rfl (subR rfl)
         refine then_n ?_
         exact ⟨(x1.set (swPos x1 y1.Id) (Grecord_swum.mk (swAt x1 y1.Id).s_ true (swAt x1 y1.Id).void_)), x2, v1, h, (by rw [List.length_set]; exact hl1), S.nf [true, true, true] rfl (subR rfl)⟩
        ·replace h := iteF h hb7
         refine f_seq (f_region (lv S (rn_fld fa_34_1 (S.tm rfl)) rfl ?_)); clear S; intro a S
         refine lv S (rn_load Tryz.isAgg3 (S.tm rfl) (S.cell (i := 0) rfl rfl)) rfl ?_; clear S; intro a S
         refine lv S (rn_eql (S.tm rfl) rfl) rfl ?_; clear S; intro a S
         refine lv S (rn_move (S.tm rfl)) rfl ?_; clear S; intro a S
         refine f_cutm 3 (fun a w' => Keep [] w19 w' ∧ Sx w [] nov ([.blk b3 (GStep.enc y1) 34, .map b1 (ments Value.string PV (idm (x1.map fun x => x.s_.Id) bs1)) (idm (x1.map fun x => x.s_.Id) bs1).length, .own v1 3 1 x2.length (x2.flatMap eInt), .own v2 100 1 bs1.length (bs1.flatMap RP.enc)] ++ arena 102 Grecord_swum.enc bs1 x1) [(1, iV p_at), (6, v2), (7, v1), (8, .map (some b1)), (9, iV (i1 : Int)), (11, PV o2), (13, v_p_l), (14, iV (p_l.length : Int)), (15, iV (i1 : Int)), (83, bV ((decide (y1.Kind = 3)) && o2.isSome))] 97 a w') ?_ ?_
         ·rcases Bool.eq_false_or_eq_true (decide (y1.Kind = 3)) with hb8 | hb8
          ·refine l_want S rfl rfl rfl hb8 (lv S (rn_move (S.tm rfl)) rfl ?_); clear S; intro a S
           refine l_want S rfl rfl rfl hb8 (lv S (rn_pneq Tryz.underlying100 (S.tm rfl) rfl) rfl ?_); clear S; intro a S
           refine lv S (rn_and_t hb8 (S.tm rfl) (S.tm rfl)) rfl ?_; clear S; intro a S
           refine l_done (then_n ?_)
           exact ⟨Keep.refl _ _, S.nf [true, true, true, true] rfl (subR rfl)⟩
          ·refine l_skip S rfl rfl rfl (neq_f hb8) rfl ?_ rfl; clear S; intro a S
           refine l_skip S rfl rfl rfl (neq_f hb8) rfl ?_ rfl; clear S; intro a S
           refine lv S (rn_and_f o2.isSome hb8 (S.tm rfl) rfl) rfl ?_; clear S; intro a S
           refine l_done (then_n ?_)
           exact ⟨Keep.refl _ _, S.nf [true, true, true, true] rfl (subR rfl)⟩
         clear S; rintro a w22 ⟨hk17, S⟩
         refine lv S (rn_move (S.tm rfl)) rfl ?_; clear S; intro a S
         refine f_cutm 6 (fun a w' => Keep [] w22 w' ∧ Sx w [] nov ([.blk b3 (GStep.enc y1) 34, .map b1 (ments Value.string PV (idm (x1.map fun x => x.s_.Id) bs1)) (idm (x1.map fun x => x.s_.Id) bs1).length, .own v1 3 1 x2.length (x2.flatMap eInt), .own v2 100 1 bs1.length (bs1.flatMap RP.enc)] ++ arena 102 Grecord_swum.enc bs1 x1) [(1, iV p_at), (6, v2), (7, v1), (8, .map (some b1)), (9, iV (i1 : Int)), (11, PV o2), (13, v_p_l), (14, iV (p_l.length : Int)), (15, iV (i1 : Int)), (90, bV (((decide (y1.Kind = 3)) && o2.isSome) && (!((swAt x1 y1.Id).void_))))] 97 a w') ?_ ?_
         ·rcases Bool.eq_false_or_eq_true ((decide (y1.Kind = 3)) && o2.isSome) with hb9 | hb9
          ·refine l_want S rfl rfl rfl hb9 (lv S (rn_move (S.tm rfl)) rfl ?_); clear S; intro a S
           refine l_want S rfl rfl rfl hb9 ?_
           obtain ⟨bo, ho', hbj, hxj⟩ := find_at hl1 ho (by simp only [Bool.and_eq_true] at hb9; simp [hb9])
           have hpv : PV o2 = .pointer (some ⟨bo, 0, none⟩) := by rw [ho']; rfl
           refine lv S (rn_nilCheck ((S.tm rfl).trans hpv)) rfl ?_; clear S; intro a S
           refine l_want S rfl rfl rfl hb9 (lv S (rn_fld fa_102_2 (S.tm rfl)) rfl ?_); clear S; intro a S
           refine l_want S rfl rfl rfl hb9 (lv S (rn_load Tryz.isAgg4 (S.tm rfl) (S.cell (arena_ix hbj hxj) rfl)) rfl ?_); clear S; intro a S
           refine l_want S rfl rfl rfl hb9 (lv S (rn_not (S.tm rfl)) rfl ?_); clear S; intro a S
           refine lv S (rn_and_t hb9 (S.tm rfl) (S.tm rfl)) rfl ?_; clear S; intro a S
           refine l_done (then_n ?_)
           exact ⟨Keep.refl _ _, S.nf [true, true, true, true] rfl (subR rfl)⟩
          ·iterate 5 (refine l_skip S rfl rfl rfl (neq_f hb9) rfl ?_ rfl; clear S; intro a S)
           refine lv S (rn_and_f (!((swAt x1 y1.Id).void_)) hb9 (S.tm rfl) rfl) rfl ?_; clear S; intro a S
           refine l_done (then_n ?_)
           exact ⟨Keep.refl _ _, S.nf [true, true, true, true] rfl (subR rfl)⟩
         clear S; rintro a w23 ⟨hk18, S⟩
         refine lv S (rn_assign (S.tm rfl)) rfl ?_; clear S; intro a S
         refine l_done ?_
         replace S := S.nk ([.map b1 (ments Value.string PV (idm (x1.map fun x => x.s_.Id) bs1)) (idm (x1.map fun x => x.s_.Id) bs1).length, .own v1 3 1 x2.length (x2.flatMap eInt), .own v2 100 1 bs1.length (bs1.flatMap RP.enc)] ++ arena 102 Grecord_swum.enc bs1 x1) [(1, iV p_at), (6, v2), (7, v1), (8, .map (some b1)), (9, iV (i1 : Int)), (11, PV o2), (13, v_p_l), (14, iV (p_l.length : Int)), (15, iV (i1 : Int)), (76, bV (((decide (y1.Kind = 3)) && o2.isSome) && (!((swAt x1 y1.Id).void_))))] [false, true, true, true] rfl (subR rfl)
         refine then_n ?_
         obtain ⟨j5, hj5, h⟩ := joinE h
         refine f_join (fun a w' => ∃ x9 : List Grecord_swum, ∃ x10 : List Int, ∃ v10 : Value, j5 x9 x10 = some r ∧ bs1.length = x9.length ∧ Sx w [] nov ([.map b1 (ments Value.string PV (idm (x9.map fun x => x.s_.Id) bs1)) (idm (x9.map fun x => x.s_.Id) bs1).length, .own v10 3 1 x10.length (x10.flatMap eInt), .own v2 100 1 bs1.length (bs1.flatMap RP.enc)] ++ arena 102 Grecord_swum.enc bs1 x9) [(1, iV p_at), (6, v2), (7, v10), (8, .map (some b1)), (13, v_p_l), (14, iV (p_l.length : Int)), (15, iV (i1 : Int))] 97 a w') ?_ ?_
         ·refine f_cond (S.tm rfl) (fun hb10 => ?_) (fun hb10 => ?_)
          ·replace h := iteT h hb10
           refine f_region (lv S (rn_move (S.tm rfl)) rfl ?_); clear S; intro a S
           obtain ⟨bo, ho', hbj, hxj⟩ := find_at hl1 ho (by simp only [Bool.and_eq_true] at hb10; simp [hb10])
           have hpv : PV o2 = .pointer (some ⟨bo, 0, none⟩) := by rw [ho']; rfl
           refine lv S (rn_nilCheck ((S.tm rfl).trans hpv)) rfl ?_; clear S; intro a S
           refine lv S (rn_fld fa_102_2 (S.tm rfl)) rfl ?_; clear S; intro a S
           refine l_store S (S.tm rfl) rfl (off := 9) (arena_ix hbj hxj) Tryz.sizeOf4 (vs := [.bool true]) rfl rfl rfl rfl ?_; clear S; intro w25 hk19 S
           replace S := S.arena_store (y := (Grecord_swum.mk (swAt x1 y1.Id).s_ (swAt x1 y1.Id).sure_ true)) hbj rfl
           rw [keys_set (key := fun x : Grecord_swum => x.s_.Id) (y := (Grecord_swum.mk (swAt x1 y1.Id).s_ (swAt x1 y1.Id).sure_ true)) hxj rfl] at S
           refine l_done ?_
           replace S := S.nk ([.map b1 (ments Value.string PV (idm ((x1.set (swPos x1 y1.Id) (Grecord_swum.mk (swAt x1 y1.Id).s_ (swAt x1 y1.Id).sure_ true)).map fun x => x.s_.Id) bs1)) (idm ((x1.set (swPos x1 y1.Id) (Grecord_swum.mk (swAt x1 y1.Id).s_ (swAt x1 y1.Id).sure_ true)).map fun x => x.s_.Id) bs1).length, .own v1 3 1 x2.length (x2.flatMap eInt), .own v2 100 1 bs1.length (bs1.flatMap RP.enc)] ++ arena 102 Grecord_swum.enc bs1 (x1.set (swPos x1 y1.Id) (Grecord_swum.mk (swAt x1 y1.Id).s_ (swAt x1 y1.Id).sure_ true))) [(1, iV p_at), (6, v2), (7, v1), (8, .map (some b1)), (13, v_p_l), (14, iV (p_l.length : Int)), (15, iV (i1 : Int))] [true, true, true] rfl (subR rfl)
           refine then_n ?_
           exact ⟨(x1.set (swPos x1 y1.Id) (Grecord_swum.mk (swAt x1 y1.Id).s_ (swAt x1 y1.Id).sure_ true)), x2, v1, h, (by rw [List.length_set]; exact hl1), S.nf [true, true, true] rfl (subR rfl)⟩
          ·replace h := iteF h hb10
           refine f_region (lv S (rn_move (S.tm rfl)) rfl ?_); clear S; intro a S
           refine lv S (rn_move (S.tm rfl)) rfl ?_; clear S; intro a S
           refine l_buildSlice S Tryz.underlying22 Tryz.sizeOf3 Tryz.zeroValue3 rfl rfl (pv := [(0, iV (i1 : Int))]) ⟨rfl, (S.tm rfl), trivial⟩ (cs := [iV (i1 : Int)]) (by kernel_rfl) rfl ?_; clear S; intro a w26 b7 hz6 hk20 S
           obtain ⟨hc2, h⟩ := chkE h
           refine l_appendT sl_22 enc_int S (S.tm rfl) (i := 2) rfl (S.tm rfl) (j := 0) rfl (ys := [(i1 : Int)]) rfl rfl rfl rfl (by have := room_lt hc2; omega) rfl ?_; clear S; intro v11 a w27 hk21 S
           refine lv S (rn_assign (S.tm rfl)) rfl ?_; clear S; intro a S
           refine l_done ?_
           replace S := S.nk ([.map b1 (ments Value.string PV (idm (x1.map fun x => x.s_.Id) bs1)) (idm (x1.map fun x => x.s_.Id) bs1).length, .own v11 3 1 (x2 ++ [(i1 : Int)]).length ((x2 ++ [(i1 : Int)]).flatMap eInt), .own v2 100 1 bs1.length (bs1.flatMap RP.enc)] ++ arena 102 Grecord_swum.enc bs1 x1) [(1, iV p_at), (6, v2), (7, v11), (8, .map (some b1)), (13, v_p_l), (14, iV (p_l.length : Int)), (15, iV (i1 : Int))] [false, true, true, true] rfl (subR rfl)
           refine then_n ?_
           exact ⟨x1, (x2 ++ [(i1 : Int)]), v11, h, hl1, S.nf [true, true, true] rfl (subR rfl)⟩
         clear S h; rintro a w24 ⟨x9, x10, v10, h, hl5, S⟩; rw [hj5] at h; clear hj5 j5
         refine then_n ?_
         exact ⟨x9, x10, v10, h, hl5, S.nf [true, true, true] rfl (subR rfl)⟩
       clear S h; rintro a w20 ⟨x7, x8, v9, h, hl4, S⟩; rw [hj4] at h; clear hj4 j4
       refine then_n ?_
       exact ⟨x7, x8, bs1, v9, v2, h, hl4, S.nf [true, true, true] rfl (subR rfl)⟩
     clear S h; rintro a w8 ⟨x5, x6, bs3, v5, v6, h, hl3, S⟩; rw [hj3] at h; clear hj3 j3
     refine blk_n (then_n ?_)
     exact ⟨x5, x6, bs3, v5, v6, h, hl3, S.nf [true, true, true] rfl (subR rfl)⟩
    clear S h; rintro a w6 ⟨x3, x4, bs2, v3, v4, h, hl2, S⟩; rw [hj2] at h; clear hj2 j2
    refine blk_n (then_n (f_region (lv S (rn_add (S.tm rfl) rfl) rfl ?_))); clear S; intro a S
    refine lv S (rn_move (S.tm rfl)) rfl ?_; clear S; intro a S
    refine l_done ?_
    replace S := S.nk ([.map b1 (ments Value.string PV (idm (x3.map fun x => x.s_.Id) bs2)) (idm (x3.map fun x => x.s_.Id) bs2).length, .own v3 3 1 x4.length (x4.flatMap eInt), .own v4 100 1 bs2.length (bs2.flatMap RP.enc)] ++ arena 102 Grecord_swum.enc bs2 x3) [(1, iV p_at), (6, v4), (7, v3), (8, .map (some b1)), (13, v_p_l), (14, iV (p_l.length : Int)), (15, iV (W ((i1 : Int) + 1)))] [true, true, true] rfl (subR rfl)
    refine then_n ?_
    exact ⟨ys1, ⟨i1 + 1, x3, x4, bs2, v3, v4, ⟨_, (hd1).trans (List.append_cons _ _ _), by simp [hi1]⟩, h, hl2, S.nf [true, true, true] rfl ⟨rfl, rfl, rfl, rfl, rfl, rfl, (congrArg (fun z => some (Value.int .i64 z)) (rng_next hd1 hi1 (slc_max hs_p_l))), trivial⟩⟩, Nat.lt_succ_self _⟩
 clear S h; rintro a w3 ⟨x1, x2, bs1, v1, v2, h, hl1, S⟩; rw [hj1] at h; clear hj1 j1
 refine then_n (f_seq (f_region (lv S (rn_move (S.tm rfl)) rfl ?_))); clear S; intro a S
 refine lv S (rn_move (S.tm rfl)) rfl ?_; clear S; intro a S
 refine lv S (rn_assign (S.tm rfl)) rfl ?_; clear S; intro a S
 refine lv S (rn_assign (S.tm rfl)) rfl ?_; clear S; intro a S
 refine l_done ?_
 replace S := S.nk ([.map b1 (ments Value.string PV (idm (x1.map fun x => x.s_.Id) bs1)) (idm (x1.map fun x => x.s_.Id) bs1).length, .own v1 3 1 x2.length (x2.flatMap eInt), .own v2 100 1 bs1.length (bs1.flatMap RP.enc)] ++ arena 102 Grecord_swum.enc bs1 x1) [(4, v2), (5, v1)] [true, true, true] rfl (subR rfl)
 refine then_n (wp_ret ?_)
 obtain rfl := Option.some.inj h
 obtain ⟨φA, lA, hA, S⟩ := S.seeArena rfl hl1
 exact f_ret2 S Tryz.results40 rfl rfl ⟨_, _, rfl, ⟨_, ownV_slcT RP.enc_ok (own_retT S (i := 2) rfl rfl), rels_100 S.le_newer hA⟩, (own_retT S (i := 1) rfl rfl)⟩
set_option maxRecDepth 20000 in
theorem record_has_c1_ok (w : World) (b_p_x : Nat) (p_x_s : GStep) (p_x_sure : Bool) (p_x_void : Bool) (hb_b_p_x : (view w []) b_p_x = some (.cells [iV p_x_s.At, iV p_x_s.Kind, sV p_x_s.Id, sV p_x_s.Who, sV p_x_s.Club, sV p_x_s.Race, iV p_x_s.Age, iV p_x_s.Time, bV p_x_sure, bV p_x_void].toArray 102 (0, 0))) (b_p_a1 : Nat) (p_a1 : ByteArray) (hb_b_p_a1 : (view w []) b_p_a1 = some (.cells [sV p_a1].toArray 9 (0, 0))) (r : Bool) (h : record_has_c1 p_x_s p_x_sure p_x_void p_a1 = r) :
    Calls Tryz.prog 75 [.pointer (some ⟨b_p_x, 0, none⟩), .pointer (some ⟨b_p_a1, 0, none⟩)].toArray w (Ret w [] fun _ v _ => v = bV r) := by
 refine f_enter [] [] Tryz.func75 rfl Tryz.ntmps75 rfl (by simp) (by simp [fps]) (by simp [fps]) fun a S => ?_
 unfold record_has_c1 at h
 replace S := S.nk [] [(0, .pointer (some ⟨b_p_x, 0, none⟩)), (1, .pointer (some ⟨b_p_a1, 0, none⟩))] [] rfl (subR rfl)
 refine f_seq (f_region (lv S (rn_assign rfl) rfl ?_)); clear S; intro a S
 refine l_done (then_n (f_seq (d_region [] ([]) Tryz.mixed S rfl (by kernel_rfl) ?_))); clear S; intro w1 hk1 hsel S
 refine d_rest [0, 1, 2, 3, 4, 5, 6, 7] hsel (by kernel_rfl) rfl ?_
 clear hsel
 refine s_lv S rfl (rn_move (S.tm rfl)) rfl ?_; clear S; intro a S
 refine s_lv S rfl (rn_nilCheck (S.tm rfl)) rfl ?_; clear S; intro a S
 refine s_lv S rfl (rn_fld fa_102_0 (S.tm rfl)) rfl ?_; clear S; intro a S
 refine s_lv S rfl (rn_fld fa_34_2 (S.tm rfl)) rfl ?_; clear S; intro a S
 refine s_lv S rfl (rn_ld Tryz.isAgg9 (off := 0) (o := 2) (S.tm rfl) ((mem_blk hb_b_p_x).at S.emb0) rfl) rfl ?_; clear S; intro a S
 refine s_lv S rfl (rn_ld Tryz.isAgg9 (off := 0) (o := 0) (S.tm rfl) ((mem_blk hb_b_p_a1).at S.emb0) rfl) rfl ?_; clear S; intro a S
 refine s_lv S rfl (rn_seql (S.tm rfl) (S.tm rfl)) rfl ?_; clear S; intro a S
 refine s_lv S rfl (rn_assign (S.tm rfl)) rfl ?_; clear S; intro a S
 refine s_done ?_
 replace S := S.nk [] [(3, bV (decide (p_x_s.Id = p_a1)))] [] rfl ⟨rfl, trivial⟩
 refine then_n (wp_ret ?_)
 subst h
 exact f_ret S Tryz.results75 rfl rfl
theorem slices_IndexFunc_swum_record_has_c1_ok (w : World) (v_p_s : Value) (p_s : List Grecord_swum) (rs_p_s : List Nat) (hs_p_s : Slc (view w []) 1 v_p_s (rs_p_s.map RP.enc)) (hr_p_s : All2 (rel_100 (view w [])) p_s rs_p_s) (b_p_f_0 : Nat) (p_f_0 : ByteArray) (hb_b_p_f_0 : (view w []) b_p_f_0 = some (.cells [sV p_f_0].toArray 9 (0, 0))) (r : Int) (h : slices_IndexFunc_swum_record_has_c1 p_s p_f_0 = r) :
    Calls Tryz.prog 95 [v_p_s, .func (.func 75) #[] #[.pointer (some ⟨b_p_f_0, 0, none⟩)]].toArray w (Ret w [] fun _ v _ => v = iV r) := by
 refine f_enter [] [] Tryz.func95 rfl Tryz.ntmps95 rfl (by simp) (by simp [fps]) (by simp [fps]) fun a S => ?_
 unfold slices_IndexFunc_swum_record_has_c1 at h
 replace S := S.nk [] [(0, v_p_s), (1, .func (.func 75) #[] #[.pointer (some ⟨b_p_f_0, 0, none⟩)])] [] rfl (subR rfl)
 refine f_seq (f_region (lv S (rn_assign rfl) rfl ?_)); clear S; intro a S
 refine l_done (then_n (f_seq (f_seq (f_region (lv S (rn_move (S.tm rfl)) rfl ?_))))); clear S; intro a S
 refine lv S (rn_lenT sl_73 (S.tm rfl) (slc_lenD hs_p_s hr_p_s)) rfl ?_; clear S; intro a S
 refine lv S (rn_move rfl) rfl ?_; clear S; intro a S
 refine l_done (then_n ?_)
 replace S := S.nk [] [(0, v_p_s), (1, .func (.func 75) #[] #[.pointer (some ⟨b_p_f_0, 0, none⟩)]), (7, iV (p_s.length : Int)), (8, iV 0)] [] rfl (subR rfl)
 obtain ⟨j1, hj1, h⟩ := joinE h
 refine f_join (fun a w' => j1 = r ∧ Sx w [] nov [] [] 19 a w') ?_ ?_
 ·refine wp_block (f_loop (fun (ys1 : List Grecord_swum) a w' => ∃ i1 : Nat, (∃ dn, p_s = dn ++ ys1 ∧ dn.length = i1) ∧ slices_IndexFunc_swum_record_has_c1_l1 p_f_0 j1 ys1 i1 = r ∧ Sx w [] nov [] [(0, v_p_s), (1, .func (.func 75) #[] #[.pointer (some ⟨b_p_f_0, 0, none⟩)]), (7, iV (p_s.length : Int)), (8, iV (i1 : Int))] 19 a w') List.length p_s ⟨0, ⟨[], rfl, rfl⟩, h, S.nf [] rfl (subR rfl)⟩ ?_)
  clear S h; rintro ys1 a w1 ⟨i1, ⟨dn, hd1, hi1⟩, h, S⟩
  cases ys1 with
  | nil =>
   rw [slices_IndexFunc_swum_record_has_c1_l1.eq_1] at h
   refine f_seq (f_region (lv S (rn_lss (S.tm rfl) (S.tm rfl)) rfl ?_)); clear S; intro a S
   refine l_done ?_
   replace S := S.nk [] [(0, v_p_s), (1, .func (.func 75) #[] #[.pointer (some ⟨b_p_f_0, 0, none⟩)]), (7, iV (p_s.length : Int)), (8, iV (i1 : Int)), (9, bV (decide ((i1 : Int) < (p_s.length : Int))))] [] rfl (subR rfl)
   refine then_n (f_seq (wp_cond_false ((S.tm rfl).trans (congrArg Value.bool (rng_nil hd1 hi1))) (wp_exit (then_x (then_x (x_same ?_))))))
   refine then_n ?_
   exact ⟨h, S.nf [] rfl trivial⟩
  | cons y1 ys1 =>
   rw [slices_IndexFunc_swum_record_has_c1_l1.eq_2] at h
   refine f_seq (f_region (lv S (rn_lss (S.tm rfl) (S.tm rfl)) rfl ?_)); clear S; intro a S
   refine l_done ?_
   replace S := S.nk [] [(0, v_p_s), (1, .func (.func 75) #[] #[.pointer (some ⟨b_p_f_0, 0, none⟩)]), (7, iV (p_s.length : Int)), (8, iV (i1 : Int)), (9, bV (decide ((i1 : Int) < (p_s.length : Int))))] [] rfl (subR rfl)
   refine then_n (f_seq (wp_cond_true ((S.tm rfl).trans (congrArg Value.bool (rng_cons hd1 hi1))) (wp_skip (then_n (f_seq (wp_block ?_))))))
   refine f_seq (f_region (lv S (rn_move (S.tm rfl)) rfl ?_)); clear S; intro a S
   refine lv S (rn_assign (S.tm rfl)) rfl ?_; clear S; intro a S
   refine l_done (then_n (f_seq (f_region (lv S (rn_move (S.tm rfl)) rfl ?_)))); clear S; intro a S
   refine lv S (rn_move (S.tm rfl)) rfl ?_; clear S; intro a S
   refine lv S (rn_move (S.tm rfl)) rfl ?_; clear S; intro a S
   obtain ⟨r1, hg1, hl1⟩ := All2.at hr_p_s (get_mid hd1 hi1)
   have hb1 := hl1
   obtain ⟨b1, o1, hm1, hr1⟩ := rn_indexT (a := a) (x := .tmp 12) (y := .tmp 13) (ty := 0) sl_73 hs_p_s hg1 rfl (S.tm rfl) (S.tm rfl)
   refine lv S (hr1 _) rfl ?_; clear S; intro a S
   clear hr1
   refine lv S (rn_ld Tryz.isAgg100 (off := o1) (o := 0) (S.tm rfl) (hm1.at S.emb0) rfl) rfl ?_; clear S; intro a S
   refine l_enter S (fun _ => run_callV (cap := [.pointer (some ⟨b_p_f_0, 0, none⟩)]) (S.tm rfl) (vs := [.pointer (some ⟨r1, 0, none⟩)]) ⟨(S.tm rfl), trivial⟩ Tryz.call75) (record_has_c1_ok _ r1 y1.s_ y1.sure_ y1.void_ ((S.le_arg nil_sub) _ _ hb1) b_p_f_0 p_f_0 ((S.le_arg nil_sub) _ _ hb_b_p_f_0) _ rfl) rfl ?_; clear S; intro v1 a w3 hv1 hk1 hn1 S
   subst hv1
   refine l_done (then_n (f_cond (S.tm rfl) (fun hb2 => ?_) (fun hb2 => ?_)))
   ·replace h := iteT h hb2
    refine f_seq (f_region (lv S (rn_move (S.tm rfl)) rfl ?_)); clear S; intro a S
    refine lv S (rn_assign (S.tm rfl)) rfl ?_; clear S; intro a S
    refine l_done ?_
    replace S := S.nk [] [(4, iV (i1 : Int))] [] rfl ⟨rfl, trivial⟩
    refine then_n (wp_ret (blk_r (then_r (then_r (blk_r (then_r ?_))))))
    refine then_r ?_
    subst h
    exact f_ret S Tryz.results95 rfl rfl
   ·replace h := iteF h hb2
    refine wp_skip (blk_n (then_n (f_region (lv S (rn_add (S.tm rfl) rfl) rfl ?_)))); clear S; intro a S
    refine lv S (rn_move (S.tm rfl)) rfl ?_; clear S; intro a S
    refine l_done (then_n ?_)
    exact ⟨ys1, ⟨i1 + 1, ⟨_, (hd1).trans (List.append_cons _ _ _), by simp [hi1]⟩, h, S.nf [] rfl ⟨rfl, rfl, rfl, (congrArg (fun z => some (Value.int .i64 z)) (rng_next hd1 hi1 (slc_maxD hs_p_s hr_p_s))), trivial⟩⟩, Nat.lt_succ_self _⟩
 clear S h; rintro a w2 ⟨h, S⟩; rw [hj1] at h; clear hj1 j1
 refine then_n (f_seq (f_region (lv S (rn_assign rfl) rfl ?_))); clear S; intro a S
 refine l_done (then_n (wp_ret ?_))
 subst h
 exact f_ret S Tryz.results95 rfl rfl
theorem slices_ContainsFunc_swum_record_has_c1_ok (w : World) (v_p_s : Value) (p_s : List Grecord_swum) (rs_p_s : List Nat) (hs_p_s : Slc (view w []) 1 v_p_s (rs_p_s.map RP.enc)) (hr_p_s : All2 (rel_100 (view w [])) p_s rs_p_s) (b_p_f_0 : Nat) (p_f_0 : ByteArray) (hb_b_p_f_0 : (view w []) b_p_f_0 = some (.cells [sV p_f_0].toArray 9 (0, 0))) (r : Bool) (h : slices_ContainsFunc_swum_record_has_c1 p_s p_f_0 = r) :
    Calls Tryz.prog 74 [v_p_s, .func (.func 75) #[] #[.pointer (some ⟨b_p_f_0, 0, none⟩)]].toArray w (Ret w [] fun _ v _ => v = bV r) := by
 refine f_enter [] [] Tryz.func74 rfl Tryz.ntmps74 rfl (by simp) (by simp [fps]) (by simp [fps]) fun a S => ?_
 unfold slices_ContainsFunc_swum_record_has_c1 at h
 replace S := S.nk [] [(0, v_p_s), (1, .func (.func 75) #[] #[.pointer (some ⟨b_p_f_0, 0, none⟩)])] [] rfl (subR rfl)
 refine f_seq (f_region (lv S (rn_assign rfl) rfl ?_)); clear S; intro a S
 refine l_done (then_n (f_seq (f_region (lv S (rn_move (S.tm rfl)) rfl ?_)))); clear S; intro a S
 refine lv S (rn_move (S.tm rfl)) rfl ?_; clear S; intro a S
 refine l_enter S (fun _ => run_call (vs := [v_p_s, .func (.func 75) #[] #[.pointer (some ⟨b_p_f_0, 0, none⟩)]]) ⟨(S.tm rfl), (S.tm rfl), trivial⟩ Tryz.call95) (slices_IndexFunc_swum_record_has_c1_ok _ v_p_s p_s rs_p_s (hs_p_s.mono (S.le_arg nil_sub)) (rels_100 (S.le_arg nil_sub) hr_p_s) b_p_f_0 p_f_0 ((S.le_arg nil_sub) _ _ hb_b_p_f_0) _ rfl) rfl ?_; clear S; intro v1 a w1 hv1 hk1 hn1 S
 subst hv1
 refine lv S (rn_geq (S.tm rfl) rfl) rfl ?_; clear S; intro a S
 refine lv S (rn_assign (S.tm rfl)) rfl ?_; clear S; intro a S
 refine l_done (then_n (wp_ret ?_))
 subst h
 exact f_ret S Tryz.results74 rfl rfl
theorem record_has_ok (w : World) (v_p_all : Value) (p_all : List Grecord_swum) (rs_p_all : List Nat) (hs_p_all : Slc (view w []) 1 v_p_all (rs_p_all.map RP.enc)) (hr_p_all : All2 (rel_100 (view w [])) p_all rs_p_all) (p_id : ByteArray) (r : Bool) (h : record_has p_all p_id = r) :
    Calls Tryz.prog 41 [v_p_all, sV p_id].toArray w (Ret w [] fun _ v _ => v = bV r) := by
 refine f_enter [] [] Tryz.func41 rfl Tryz.ntmps41 rfl (by simp) (by simp [fps]) (by simp [fps]) fun a S => ?_
 unfold record_has at h
 replace S := S.nk [] [(0, v_p_all), (1, sV p_id)] [] rfl (subR rfl)
 refine f_seq (f_region (l_box S (S.tm rfl) (cs := [sV p_id]) rfl rfl ?_)); clear S; intro a w1 b1 hz1 hk1 S
 refine lv S (rn_assign rfl) rfl ?_; clear S; intro a S
 refine l_done (then_n (f_seq (f_region (lv S (rn_move (S.tm rfl)) rfl ?_)))); clear S; intro a S
 refine lv S (rn_makeFunc (us := #[]) (xs := [].toArray) (ys := [.tmp 3].toArray) (by simp) (evA ⟨(S.tm rfl), trivial⟩ (vs := [.pointer (some ⟨b1, 0, none⟩)]))) rfl ?_; clear S; intro a S
 refine l_enter S (fun _ => run_call (vs := [v_p_all, .func (.func 75) #[] #[.pointer (some ⟨b1, 0, none⟩)]]) ⟨(S.tm rfl), (S.tm rfl), trivial⟩ Tryz.call74) (slices_ContainsFunc_swum_record_has_c1_ok _ v_p_all p_all rs_p_all (hs_p_all.mono (S.le_arg nil_sub)) (rels_100 (S.le_arg nil_sub) hr_p_all) b1 p_id (S.blk_view (i := 0) rfl ((ne_nil (e' := .blk b1 [sV p_id] 9)) _ rfl)) _ rfl) rfl ?_; clear S; intro v1 a w2 hv1 hk2 hn1 S
 subst hv1
 refine lv S (rn_assign (S.tm rfl)) rfl ?_; clear S; intro a S
 refine l_done (then_n (wp_ret ?_))
 subst h
 exact f_ret S Tryz.results41 rfl rfl
theorem slices_Index_string_ok (w : World) (v_p_s : Value) (p_s : List ByteArray) (hs_p_s : Slc (view w []) 1 v_p_s (p_s.map eStr)) (p_v : ByteArray) (r : Int) (h : slices_Index_string p_s p_v = r) :
    Calls Tryz.prog 97 [v_p_s, sV p_v].toArray w (Ret w [] fun _ v _ => v = iV r) := by
 refine f_enter [] [] Tryz.func97 rfl Tryz.ntmps97 rfl (by simp) (by simp [fps]) (by simp [fps]) fun a S => ?_
 unfold slices_Index_string at h
 replace S := S.nk [] [(0, v_p_s), (1, sV p_v)] [] rfl (subR rfl)
 refine f_seq (f_region (lv S (rn_assign rfl) rfl ?_)); clear S; intro a S
 refine l_done (then_n (f_seq (f_seq (f_region (lv S (rn_move (S.tm rfl)) rfl ?_))))); clear S; intro a S
 refine lv S (rn_lenT sl_37 (S.tm rfl) (slc_len hs_p_s)) rfl ?_; clear S; intro a S
 refine lv S (rn_move rfl) rfl ?_; clear S; intro a S
 refine l_done (then_n ?_)
 replace S := S.nk [] [(0, v_p_s), (1, sV p_v), (7, iV (p_s.length : Int)), (8, iV 0)] [] rfl (subR rfl)
 obtain ⟨j1, hj1, h⟩ := joinE h
 refine f_join (fun a w' => j1 = r ∧ Sx w [] nov [] [] 19 a w') ?_ ?_
 ·refine wp_block (f_loop (fun (ys1 : List ByteArray) a w' => ∃ i1 : Nat, (∃ dn, p_s = dn ++ ys1 ∧ dn.length = i1) ∧ slices_Index_string_l1 p_v j1 ys1 i1 = r ∧ Sx w [] nov [] [(0, v_p_s), (1, sV p_v), (7, iV (p_s.length : Int)), (8, iV (i1 : Int))] 19 a w') List.length p_s ⟨0, ⟨[], rfl, rfl⟩, h, S.nf [] rfl (subR rfl)⟩ ?_)
  clear S h; rintro ys1 a w1 ⟨i1, ⟨dn, hd1, hi1⟩, h, S⟩
  cases ys1 with
  | nil =>
   rw [slices_Index_string_l1.eq_1] at h
   refine f_seq (f_region (lv S (rn_lss (S.tm rfl) (S.tm rfl)) rfl ?_)); clear S; intro a S
   refine l_done ?_
   replace S := S.nk [] [(0, v_p_s), (1, sV p_v), (7, iV (p_s.length : Int)), (8, iV (i1 : Int)), (9, bV (decide ((i1 : Int) < (p_s.length : Int))))] [] rfl (subR rfl)
   refine then_n (f_seq (wp_cond_false ((S.tm rfl).trans (congrArg Value.bool (rng_nil hd1 hi1))) (wp_exit (then_x (then_x (x_same ?_))))))
   refine then_n ?_
   exact ⟨h, S.nf [] rfl trivial⟩
  | cons y1 ys1 =>
   rw [slices_Index_string_l1.eq_2] at h
   refine f_seq (f_region (lv S (rn_lss (S.tm rfl) (S.tm rfl)) rfl ?_)); clear S; intro a S
   refine l_done ?_
   replace S := S.nk [] [(0, v_p_s), (1, sV p_v), (7, iV (p_s.length : Int)), (8, iV (i1 : Int)), (9, bV (decide ((i1 : Int) < (p_s.length : Int))))] [] rfl (subR rfl)
   refine then_n (f_seq (wp_cond_true ((S.tm rfl).trans (congrArg Value.bool (rng_cons hd1 hi1))) (wp_skip (then_n (f_seq (wp_block ?_))))))
   refine f_seq (f_region (lv S (rn_move (S.tm rfl)) rfl ?_)); clear S; intro a S
   refine lv S (rn_assign (S.tm rfl)) rfl ?_; clear S; intro a S
   refine l_done (then_n (f_seq (f_region (lv S (rn_move (S.tm rfl)) rfl ?_)))); clear S; intro a S
   refine lv S (rn_move (S.tm rfl)) rfl ?_; clear S; intro a S
   refine lv S (rn_move (S.tm rfl)) rfl ?_; clear S; intro a S
   obtain ⟨b1, o1, hm1, hr1⟩ := rn_indexT (a := a) (x := .tmp 12) (y := .tmp 13) (ty := 0) sl_37 hs_p_s (get_mid hd1 hi1) rfl (S.tm rfl) (S.tm rfl)
   refine lv S (hr1 _) rfl ?_; clear S; intro a S
   clear hr1
   refine lv S (rn_ld Tryz.isAgg9 (off := o1) (o := 0) (S.tm rfl) (hm1.at S.emb0) rfl) rfl ?_; clear S; intro a S
   refine lv S (rn_seql (S.tm rfl) (S.tm rfl)) rfl ?_; clear S; intro a S
   refine l_done (then_n (f_cond (S.tm rfl) (fun hb1 => ?_) (fun hb1 => ?_)))
   ·replace h := iteT h hb1
    refine f_seq (f_region (lv S (rn_move (S.tm rfl)) rfl ?_)); clear S; intro a S
    refine lv S (rn_assign (S.tm rfl)) rfl ?_; clear S; intro a S
    refine l_done ?_
    replace S := S.nk [] [(4, iV (i1 : Int))] [] rfl ⟨rfl, trivial⟩
    refine then_n (wp_ret (blk_r (then_r (then_r (blk_r (then_r ?_))))))
    refine then_r ?_
    subst h
    exact f_ret S Tryz.results97 rfl rfl
   ·replace h := iteF h hb1
    refine wp_skip (blk_n (then_n (f_region (lv S (rn_add (S.tm rfl) rfl) rfl ?_)))); clear S; intro a S
    refine lv S (rn_move (S.tm rfl)) rfl ?_; clear S; intro a S
    refine l_done (then_n ?_)
    exact ⟨ys1, ⟨i1 + 1, ⟨_, (hd1).trans (List.append_cons _ _ _), by simp [hi1]⟩, h, S.nf [] rfl ⟨rfl, rfl, rfl, (congrArg (fun z => some (Value.int .i64 z)) (rng_next hd1 hi1 (slc_max hs_p_s))), trivial⟩⟩, Nat.lt_succ_self _⟩
 clear S h; rintro a w2 ⟨h, S⟩; rw [hj1] at h; clear hj1 j1
 refine then_n (f_seq (f_region (lv S (rn_assign rfl) rfl ?_))); clear S; intro a S
 refine l_done (then_n (wp_ret ?_))
 subst h
 exact f_ret S Tryz.results97 rfl rfl
theorem slices_Contains_string_ok (w : World) (v_p_s : Value) (p_s : List ByteArray) (hs_p_s : Slc (view w []) 1 v_p_s (p_s.map eStr)) (p_v : ByteArray) (r : Bool) (h : slices_Contains_string p_s p_v = r) :
    Calls Tryz.prog 79 [v_p_s, sV p_v].toArray w (Ret w [] fun _ v _ => v = bV r) := by
 refine f_enter [] [] Tryz.func79 rfl Tryz.ntmps79 rfl (by simp) (by simp [fps]) (by simp [fps]) fun a S => ?_
 unfold slices_Contains_string at h
 replace S := S.nk [] [(0, v_p_s), (1, sV p_v)] [] rfl (subR rfl)
 refine f_seq (f_region (lv S (rn_assign rfl) rfl ?_)); clear S; intro a S
 refine l_done (then_n (f_seq (f_region (lv S (rn_move (S.tm rfl)) rfl ?_)))); clear S; intro a S
 refine lv S (rn_move (S.tm rfl)) rfl ?_; clear S; intro a S
 refine l_enter S (fun _ => run_call (vs := [v_p_s, sV p_v]) ⟨(S.tm rfl), (S.tm rfl), trivial⟩ Tryz.call97) (slices_Index_string_ok _ v_p_s p_s (hs_p_s.mono (S.le_arg nil_sub)) p_v _ rfl) rfl ?_; clear S; intro v1 a w1 hv1 hk1 hn1 S
 subst hv1
 refine lv S (rn_geq (S.tm rfl) rfl) rfl ?_; clear S; intro a S
 refine lv S (rn_assign (S.tm rfl)) rfl ?_; clear S; intro a S
 refine l_done (then_n (wp_ret ?_))
 subst h
 exact f_ret S Tryz.results79 rfl rfl
theorem record_isFor_ok (w : World) (p_k : GKind) (q_p_k : R57) (hq_p_k : rel_57 (view w []) p_k q_p_k) (p_s : GStep) (r : Bool) (h : record_isFor p_k p_s = r) :
    Calls Tryz.prog 50 [.agg (R57.enc q_p_k).toArray, .agg (GStep.enc p_s).toArray].toArray w (Ret w [] fun _ v _ => v = bV r) := by
 obtain ⟨u1, rfl, hs1⟩ := hq_p_k
 refine f_enter [] [] Tryz.func50 rfl Tryz.ntmps50 rfl (by simp) (by simp [fps]) (by simp [fps]) fun a S => ?_
 unfold record_isFor at h
 replace S := S.nk [] [(0, .agg #[sV p_k.Key, sV p_k.Race, u1.val, iV p_k.Young, iV p_k.Old]), (1, .agg (GStep.enc p_s).toArray)] [] rfl (subR rfl)
 refine f_seq (f_region (l_box S (S.tm rfl) (cs := [sV p_k.Key, sV p_k.Race, u1.val, iV p_k.Young, iV p_k.Old]) rfl rfl ?_)); clear S; intro a w1 b1 hz1 hk1 S
 refine l_box S (S.tm rfl) (cs := (GStep.enc p_s)) rfl rfl ?_; clear S; intro a w2 b2 hz2 hk2 S
 refine lv S (rn_assign rfl) rfl ?_; clear S; intro a S
 refine l_done (then_n (f_seq (f_region (lv S (rn_fld fa_34_5 (S.tm rfl)) rfl ?_)))); clear S; intro a S
 refine lv S (rn_load Tryz.isAgg9 (S.tm rfl) (S.cell (i := 0) rfl rfl)) rfl ?_; clear S; intro a S
 refine lv S (rn_fld fa_57_1 (S.tm rfl)) rfl ?_; clear S; intro a S
 refine lv S (rn_load Tryz.isAgg9 (S.tm rfl) (S.cell (i := 1) rfl rfl)) rfl ?_; clear S; intro a S
 refine lv S (rn_seql (S.tm rfl) (S.tm rfl)) rfl ?_; clear S; intro a S
 refine lv S (rn_move (S.tm rfl)) rfl ?_; clear S; intro a S
 refine f_cutm 12 (fun a w' => Keep [] w2 w' ∧ Sx w [] nov [.blk b2 (GStep.enc p_s) 34, .blk b1 [sV p_k.Key, sV p_k.Race, u1.val, iV p_k.Young, iV p_k.Old] 57] [(2, .pointer (some ⟨b1, 0, none⟩)), (3, .pointer (some ⟨b2, 0, none⟩)), (22, bV ((decide (p_s.Race = p_k.Race)) && ((decide ((p_k.Clubs.length : Int) = 0)) || (slices_Contains_string p_k.Clubs p_s.Club))))] 32 a w') ?_ ?_
 ·rcases Bool.eq_false_or_eq_true (decide (p_s.Race = p_k.Race)) with hb1 | hb1
  ·refine l_want S rfl rfl rfl hb1 (lv S (rn_fld fa_57_2 (S.tm rfl)) rfl ?_); clear S; intro a S
   refine l_want S rfl rfl rfl hb1 (lv S (rn_load Tryz.isAgg37 (S.tm rfl) (S.cell (i := 1) rfl rfl)) rfl ?_); clear S; intro a S
   refine l_want S rfl rfl rfl hb1 (lv S (rn_lenT sl_37 (S.tm rfl) (slc_len hs1)) rfl ?_); clear S; intro a S
   refine l_want S rfl rfl rfl hb1 (lv S (rn_eql (S.tm rfl) rfl) rfl ?_); clear S; intro a S
   refine l_want S rfl rfl rfl hb1 (lv S (rn_move (S.tm rfl)) rfl ?_); clear S; intro a S
   refine f_cutm 6 (fun a w' => Keep [] w2 w' ∧ Sx w [] nov [.blk b2 (GStep.enc p_s) 34, .blk b1 [sV p_k.Key, sV p_k.Race, u1.val, iV p_k.Young, iV p_k.Old] 57] [(2, .pointer (some ⟨b1, 0, none⟩)), (3, .pointer (some ⟨b2, 0, none⟩)), (10, bV (decide (p_s.Race = p_k.Race))), (21, bV ((decide ((p_k.Clubs.length : Int) = 0)) || (slices_Contains_string p_k.Clubs p_s.Club)))] 32 a w') ?_ ?_
   ·rcases Bool.eq_false_or_eq_true (decide ((p_k.Clubs.length : Int) = 0)) with hb2 | hb2
    ·iterate 5 (refine l_skip S rfl rfl rfl (neq_t hb2) rfl ?_ rfl; clear S; intro a S)
     refine l_want S rfl rfl rfl hb1 (lv S (rn_or_t (slices_Contains_string p_k.Clubs p_s.Club) hb2 (S.tm rfl) rfl) rfl ?_); clear S; intro a S
     refine l_done (then_n ?_)
     exact ⟨Keep.refl _ _, S.nf [true, true] rfl (subR rfl)⟩
    ·refine l_want S rfl rfl rfl hb2 (lv S (rn_fld fa_57_2 (S.tm rfl)) rfl ?_); clear S; intro a S
     refine l_want S rfl rfl rfl hb2 (lv S (rn_load Tryz.isAgg37 (S.tm rfl) (S.cell (i := 1) rfl rfl)) rfl ?_); clear S; intro a S
     refine l_want S rfl rfl rfl hb2 (lv S (rn_fld fa_34_4 (S.tm rfl)) rfl ?_); clear S; intro a S
     refine l_want S rfl rfl rfl hb2 (lv S (rn_load Tryz.isAgg9 (S.tm rfl) (S.cell (i := 0) rfl rfl)) rfl ?_); clear S; intro a S
     refine l_want S rfl rfl rfl hb2 (l_enter S (fun _ => run_call (vs := [u1.val, sV p_s.Club]) ⟨(S.tm rfl), (S.tm rfl), trivial⟩ Tryz.call79) (slices_Contains_string_ok _ u1.val p_k.Clubs (hs1.mono (S.le_arg nil_sub)) p_s.Club _ rfl) rfl ?_); clear S; intro v1 a w5 hv1 hk3 hn1 S
     subst hv1
     refine l_want S rfl rfl rfl hb1 (lv S (rn_or_f hb2 (S.tm rfl) (S.tm rfl)) rfl ?_); clear S; intro a S
     refine l_done (then_n ?_)
     exact ⟨hk3, S.nf [true, true] rfl (subR rfl)⟩
   clear S; rintro a w4 ⟨hk4, S⟩
   refine lv S (rn_and_t hb1 (S.tm rfl) (S.tm rfl)) rfl ?_; clear S; intro a S
   refine l_done (then_n ?_)
   exact ⟨hk4, S.nf [true, true] rfl (subR rfl)⟩
  ·iterate 5 (refine l_skip S rfl rfl rfl (neq_f hb1) rfl ?_ rfl; clear S; intro a S)
   iterate 5 (refine l_skipU S rfl rfl rfl rfl ?_; clear S; intro a S)
   refine l_skip S rfl rfl rfl (neq_f hb1) rfl ?_ rfl; clear S; intro a S
   refine lv S (rn_and_f ((decide ((p_k.Clubs.length : Int) = 0)) || (slices_Contains_string p_k.Clubs p_s.Club)) hb1 (S.tm rfl) rfl) rfl ?_; clear S; intro a S
   refine l_done (then_n ?_)
   exact ⟨Keep.refl _ _, S.nf [true, true] rfl (subR rfl)⟩
 clear S; rintro a w3 ⟨hk5, S⟩
 refine lv S (rn_move (S.tm rfl)) rfl ?_; clear S; intro a S
 refine f_cutm 8 (fun a w' => Keep [] w3 w' ∧ Sx w [] nov [.blk b2 (GStep.enc p_s) 34, .blk b1 [sV p_k.Key, sV p_k.Race, u1.val, iV p_k.Young, iV p_k.Old] 57] [(31, bV (((decide (p_s.Race = p_k.Race)) && ((decide ((p_k.Clubs.length : Int) = 0)) || (slices_Contains_string p_k.Clubs p_s.Club))) && (words_Within p_s.Age p_k.Young p_k.Old)))] 32 a w') ?_ ?_
 ·rcases Bool.eq_false_or_eq_true ((decide (p_s.Race = p_k.Race)) && ((decide ((p_k.Clubs.length : Int) = 0)) || (slices_Contains_string p_k.Clubs p_s.Club))) with hb3 | hb3
  ·refine l_want S rfl rfl rfl hb3 (lv S (rn_fld fa_34_6 (S.tm rfl)) rfl ?_); clear S; intro a S
   refine l_want S rfl rfl rfl hb3 (lv S (rn_load Tryz.isAgg3 (S.tm rfl) (S.cell (i := 0) rfl rfl)) rfl ?_); clear S; intro a S
   refine l_want S rfl rfl rfl hb3 (lv S (rn_fld fa_57_3 (S.tm rfl)) rfl ?_); clear S; intro a S
   refine l_want S rfl rfl rfl hb3 (lv S (rn_load Tryz.isAgg3 (S.tm rfl) (S.cell (i := 1) rfl rfl)) rfl ?_); clear S; intro a S
   refine l_want S rfl rfl rfl hb3 (lv S (rn_fld fa_57_4 (S.tm rfl)) rfl ?_); clear S; intro a S
   refine l_want S rfl rfl rfl hb3 (lv S (rn_load Tryz.isAgg3 (S.tm rfl) (S.cell (i := 1) rfl rfl)) rfl ?_); clear S; intro a S
   refine l_want S rfl rfl rfl hb3 (l_enter S (fun _ => run_call (vs := [iV p_s.Age, iV p_k.Young, iV p_k.Old]) ⟨(S.tm rfl), (S.tm rfl), (S.tm rfl), trivial⟩ Tryz.call80) (words_Within_ok _ p_s.Age p_k.Young p_k.Old _ rfl) rfl ?_); clear S; intro v2 a w7 hv2 hk6 hn2 S
   subst hv2
   refine lv S (rn_and_t hb3 (S.tm rfl) (S.tm rfl)) rfl ?_; clear S; intro a S
   refine l_done (then_n ?_)
   exact ⟨hk6, S.nf [true, true] rfl ⟨rfl, trivial⟩⟩
  ·iterate 7 (refine l_skip S rfl rfl rfl (neq_f hb3) rfl ?_ rfl; clear S; intro a S)
   refine lv S (rn_and_f (words_Within p_s.Age p_k.Young p_k.Old) hb3 (S.tm rfl) rfl) rfl ?_; clear S; intro a S
   refine l_done (then_n ?_)
   exact ⟨Keep.refl _ _, S.nf [true, true] rfl ⟨rfl, trivial⟩⟩
 clear S; rintro a w6 ⟨hk7, S⟩
 refine lv S (rn_assign (S.tm rfl)) rfl ?_; clear S; intro a S
 refine l_done (then_n (wp_ret ?_))
 subst h
 exact f_ret S Tryz.results50 rfl rfl
theorem record_best_ok (w : World) (p_k : GKind) (q_p_k : R57) (hq_p_k : rel_57 (view w []) p_k q_p_k) (b_p_x : Nat) (p_x_s : GStep) (p_x_sure : Bool) (p_x_void : Bool) (hb_b_p_x : (view w []) b_p_x = some (.cells [iV p_x_s.At, iV p_x_s.Kind, sV p_x_s.Id, sV p_x_s.Who, sV p_x_s.Club, sV p_x_s.Race, iV p_x_s.Age, iV p_x_s.Time, bV p_x_sure, bV p_x_void].toArray 102 (0, 0))) (r : GBest) (h : record_best p_k p_x_s p_x_sure p_x_void = r) :
    Calls Tryz.prog 77 [.agg (R57.enc q_p_k).toArray, .pointer (some ⟨b_p_x, 0, none⟩)].toArray w (Ret w [] fun _ v _ => v = .agg (GBest.enc r).toArray) := by
 obtain ⟨u1, rfl, hs1⟩ := hq_p_k
 refine f_enter [] [] Tryz.func77 rfl Tryz.ntmps77 rfl (by simp) (by simp [fps]) (by simp [fps]) fun a S => ?_
 unfold record_best at h
 replace S := S.nk [] [(0, .agg #[sV p_k.Key, sV p_k.Race, u1.val, iV p_k.Young, iV p_k.Old]), (1, .pointer (some ⟨b_p_x, 0, none⟩))] [] rfl (subR rfl)
 refine f_seq (f_region (l_box S (S.tm rfl) (cs := [sV p_k.Key, sV p_k.Race, u1.val, iV p_k.Young, iV p_k.Old]) rfl rfl ?_)); clear S; intro a w1 b1 hz1 hk1 S
 refine l_alloc S Tryz.zeroValue80 (cs := [sV k_empty, sV k_empty, sV k_empty, iV 0, iV 0, bV false]) rfl rfl ?_; clear S; intro a w2 b2 hz2 hk2 S
 refine l_done (then_n (f_seq (d_region [] ([b2]) Tryz.mixed S rfl (by kernel_rfl) ?_))); clear S; intro w4 hk4 hsel S
 refine d_quiet 0 S hsel rfl rfl rfl (by kernel_rfl) (by kernel_rfl) rfl (fun _ hw => (rn_fld fa_57_0 (S.tm rfl))) ?_; clear S; intro a S
 refine d_quiet 1 S hsel rfl rfl rfl (by kernel_rfl) (by kernel_rfl) rfl (fun _ hw => (rn_ld Tryz.isAgg9 (off := 0) (o := 0) (S.tm rfl) ((S.blk_mem (i := 1) (cells := [sV p_k.Key, sV p_k.Race, u1.val, iV p_k.Young, iV p_k.Old]) (b := b1) (T := 57) rfl (ne_fp (i := 0) (j := 1) (e := .blk b2 (GBest.enc (GBest.mk k_empty k_empty k_empty 0 0 false)) 80) (e' := .blk b1 [sV p_k.Key, sV p_k.Race, u1.val, iV p_k.Young, iV p_k.Old] 57) S rfl rfl rfl)).kept hw) rfl)) ?_; clear S; intro a S
 refine d_quiet 2 S hsel rfl rfl rfl (by kernel_rfl) (by kernel_rfl) rfl (fun _ hw => (rn_move (S.tm rfl))) ?_; clear S; intro a S
 refine d_quiet 3 S hsel rfl rfl rfl (by kernel_rfl) (by kernel_rfl) rfl (fun _ hw => (rn_nilCheck (S.tm rfl))) ?_; clear S; intro a S
 refine d_quiet 4 S hsel rfl rfl rfl (by kernel_rfl) (by kernel_rfl) rfl (fun _ hw => (rn_fld fa_102_0 (S.tm rfl))) ?_; clear S; intro a S
 refine d_quiet 5 S hsel rfl rfl rfl (by kernel_rfl) (by kernel_rfl) rfl (fun _ hw => (rn_fld fa_34_2 (S.tm rfl))) ?_; clear S; intro a S
 refine d_quiet 6 S hsel rfl rfl rfl (by kernel_rfl) (by kernel_rfl) rfl (fun _ hw => (rn_ld Tryz.isAgg9 (off := 0) (o := 2) (S.tm rfl) (((mem_blk hb_b_p_x).mono (S.le_arg (fp_sub (i := 0) (e := .blk b2 (GBest.enc (GBest.mk k_empty k_empty k_empty 0 0 false)) 80) rfl))).kept hw) rfl)) ?_; clear S; intro a S
 refine d_quiet 7 S hsel rfl rfl rfl (by kernel_rfl) (by kernel_rfl) rfl (fun _ hw => (rn_move (S.tm rfl))) ?_; clear S; intro a S
 refine d_quiet 8 S hsel rfl rfl rfl (by kernel_rfl) (by kernel_rfl) rfl (fun _ hw => (rn_nilCheck (S.tm rfl))) ?_; clear S; intro a S
 refine d_quiet 9 S hsel rfl rfl rfl (by kernel_rfl) (by kernel_rfl) rfl (fun _ hw => (rn_fld fa_102_0 (S.tm rfl))) ?_; clear S; intro a S
 refine d_quiet 10 S hsel rfl rfl rfl (by kernel_rfl) (by kernel_rfl) rfl (fun _ hw => (rn_fld fa_34_3 (S.tm rfl))) ?_; clear S; intro a S
 refine d_quiet 11 S hsel rfl rfl rfl (by kernel_rfl) (by kernel_rfl) rfl (fun _ hw => (rn_ld Tryz.isAgg9 (off := 0) (o := 3) (S.tm rfl) (((mem_blk hb_b_p_x).mono (S.le_arg (fp_sub (i := 0) (e := .blk b2 (GBest.enc (GBest.mk k_empty k_empty k_empty 0 0 false)) 80) rfl))).kept hw) rfl)) ?_; clear S; intro a S
 refine d_quiet 12 S hsel rfl rfl rfl (by kernel_rfl) (by kernel_rfl) rfl (fun _ hw => (rn_move (S.tm rfl))) ?_; clear S; intro a S
 refine d_quiet 13 S hsel rfl rfl rfl (by kernel_rfl) (by kernel_rfl) rfl (fun _ hw => (rn_nilCheck (S.tm rfl))) ?_; clear S; intro a S
 refine d_quiet 14 S hsel rfl rfl rfl (by kernel_rfl) (by kernel_rfl) rfl (fun _ hw => (rn_fld fa_102_0 (S.tm rfl))) ?_; clear S; intro a S
 refine d_quiet 15 S hsel rfl rfl rfl (by kernel_rfl) (by kernel_rfl) rfl (fun _ hw => (rn_fld fa_34_7 (S.tm rfl))) ?_; clear S; intro a S
 refine d_quiet 16 S hsel rfl rfl rfl (by kernel_rfl) (by kernel_rfl) rfl (fun _ hw => (rn_ld Tryz.isAgg3 (off := 0) (o := 7) (S.tm rfl) (((mem_blk hb_b_p_x).mono (S.le_arg (fp_sub (i := 0) (e := .blk b2 (GBest.enc (GBest.mk k_empty k_empty k_empty 0 0 false)) 80) rfl))).kept hw) rfl)) ?_; clear S; intro a S
 refine d_quiet 17 S hsel rfl rfl rfl (by kernel_rfl) (by kernel_rfl) rfl (fun _ hw => (rn_move (S.tm rfl))) ?_; clear S; intro a S
 refine d_quiet 18 S hsel rfl rfl rfl (by kernel_rfl) (by kernel_rfl) rfl (fun _ hw => (rn_nilCheck (S.tm rfl))) ?_; clear S; intro a S
 refine d_quiet 19 S hsel rfl rfl rfl (by kernel_rfl) (by kernel_rfl) rfl (fun _ hw => (rn_fld fa_102_0 (S.tm rfl))) ?_; clear S; intro a S
 refine d_quiet 20 S hsel rfl rfl rfl (by kernel_rfl) (by kernel_rfl) rfl (fun _ hw => (rn_fld fa_34_0 (S.tm rfl))) ?_; clear S; intro a S
 refine d_quiet 21 S hsel rfl rfl rfl (by kernel_rfl) (by kernel_rfl) rfl (fun _ hw => (rn_ld Tryz.isAgg3 (off := 0) (o := 0) (S.tm rfl) (((mem_blk hb_b_p_x).mono (S.le_arg (fp_sub (i := 0) (e := .blk b2 (GBest.enc (GBest.mk k_empty k_empty k_empty 0 0 false)) 80) rfl))).kept hw) rfl)) ?_; clear S; intro a S
 refine d_quiet 22 S hsel rfl rfl rfl (by kernel_rfl) (by kernel_rfl) rfl (fun _ hw => (rn_move (S.tm rfl))) ?_; clear S; intro a S
 refine d_quiet 23 S hsel rfl rfl rfl (by kernel_rfl) (by kernel_rfl) rfl (fun _ hw => (rn_nilCheck (S.tm rfl))) ?_; clear S; intro a S
 refine d_quiet 24 S hsel rfl rfl rfl (by kernel_rfl) (by kernel_rfl) rfl (fun _ hw => (rn_fld fa_102_1 (S.tm rfl))) ?_; clear S; intro a S
 refine d_quiet 25 S hsel rfl rfl rfl (by kernel_rfl) (by kernel_rfl) rfl (fun _ hw => (rn_ld Tryz.isAgg4 (off := 0) (o := 8) (S.tm rfl) (((mem_blk hb_b_p_x).mono (S.le_arg (fp_sub (i := 0) (e := .blk b2 (GBest.enc (GBest.mk k_empty k_empty k_empty 0 0 false)) 80) rfl))).kept hw) rfl)) ?_; clear S; intro a S
 refine d_quiet 26 S hsel rfl rfl rfl (by kernel_rfl) (by kernel_rfl) rfl (fun _ hw => (rn_bld bt_80 (pv := [(0, sV p_k.Key), (1, sV p_x_s.Id), (2, sV p_x_s.Who), (3, iV p_x_s.Time), (4, iV p_x_s.At), (5, bV p_x_sure)]) ⟨rfl, (S.tm rfl), rfl, (S.tm rfl), rfl, (S.tm rfl), rfl, (S.tm rfl), rfl, (S.tm rfl), rfl, (S.tm rfl), trivial⟩ (cs := [sV p_k.Key, sV p_x_s.Id, sV p_x_s.Who, iV p_x_s.Time, iV p_x_s.At, bV p_x_sure]) (by kernel_rfl))) ?_; clear S; intro a S
 refine d_loud1 27 (by kernel_rfl) rfl (l_store S (S.tm rfl) (S.tm rfl) (i := 0) (off := 0) rfl Tryz.sizeOf80 (vs := (GBest.enc (GBest.mk p_k.Key p_x_s.Id p_x_s.Who p_x_s.Time p_x_s.At p_x_sure))) rfl rfl rfl rfl ?_); clear S; intro w5 hk5 S
 refine l_done (d_next hk5 (d_end (by kernel_rfl) ?_))
 clear hsel
 replace S := S.nk [.blk b2 (GBest.enc (GBest.mk p_k.Key p_x_s.Id p_x_s.Who p_x_s.Time p_x_s.At p_x_sure)) 80] [(4, .pointer (some ⟨b2, 0, none⟩))] [true, false] rfl ⟨rfl, trivial⟩
 refine then_n (wp_ret ?_)
 subst h
 exact f_retG S (rs := [.cell 4 80]) (vs := [.agg #[sV p_k.Key, sV p_x_s.Id, sV p_x_s.Who, iV p_x_s.Time, iV p_x_s.At, bV p_x_sure]]) Tryz.results77 ⟨(res_cell (off := 0) S rfl Tryz.isAgg80 Tryz.sizeOf80 rfl (S.cellsAt (i := 0) rfl)), trivial⟩ rfl rfl
set_option maxRecDepth 20000 in
theorem record_history_ok (w : World) (p_k : GKind) (q_p_k : R57) (hq_p_k : rel_57 (view w []) p_k q_p_k) (v_p_all : Value) (p_all : List Grecord_swum) (rs_p_all : List Nat) (hs_p_all : Slc (view w []) 1 v_p_all (rs_p_all.map RP.enc)) (hr_p_all : All2 (rel_100 (view w [])) p_all rs_p_all) (r : (List GBest)) (h : record_history p_k p_all = some r) :
    Calls Tryz.prog 46 [.agg (R57.enc q_p_k).toArray, v_p_all].toArray w (Ret w [] fun τ v _ => OwnV τ 80 6 v r.length (r.flatMap GBest.enc)) := by
 obtain ⟨u1, rfl, hs1⟩ := hq_p_k
 refine f_enter [] [] Tryz.func46 rfl Tryz.ntmps46 rfl (by simp) (by simp [fps]) (by simp [fps]) fun a S => ?_
 unfold record_history at h
 replace S := S.nk [] [(0, .agg #[sV p_k.Key, sV p_k.Race, u1.val, iV p_k.Young, iV p_k.Old]), (1, v_p_all)] [] rfl (subR rfl)
 refine f_seq (f_region (l_box S (S.tm rfl) (cs := [sV p_k.Key, sV p_k.Race, u1.val, iV p_k.Young, iV p_k.Old]) rfl rfl ?_)); clear S; intro a w1 b1 hz1 hk1 S
 refine lv S (rn_assign rfl) rfl ?_; clear S; intro a S
 refine l_done (then_n (f_seq (f_region (lv S (rn_assign rfl) rfl ?_)))); clear S; intro a S
 replace S := S.nil 80 6
 refine l_done (then_n (f_seq (f_seq (f_region (lv S (rn_move (S.tm rfl)) rfl ?_))))); clear S; intro a S
 refine lv S (rn_lenT sl_73 (S.tm rfl) (slc_lenD hs_p_all hr_p_all)) rfl ?_; clear S; intro a S
 refine lv S (rn_move rfl) rfl ?_; clear S; intro a S
 refine l_done (then_n ?_)
 replace S := S.nk [.own (.slice none 0 0) 80 6 ([] : List GBest).length (([] : List GBest).flatMap GBest.enc), .blk b1 [sV p_k.Key, sV p_k.Race, u1.val, iV p_k.Young, iV p_k.Old] 57] [(2, .pointer (some ⟨b1, 0, none⟩)), (5, (.slice none 0 0)), (9, v_p_all), (10, iV (p_all.length : Int)), (11, iV 0)] [true, true] rfl (subR rfl)
 obtain ⟨j1, hj1, h⟩ := joinE h
 refine f_join (fun a w' => ∃ x1 : List GBest, ∃ v1 : Value, j1 x1 = some r ∧ Sx w [] nov [.own v1 80 6 x1.length (x1.flatMap GBest.enc), .blk b1 [sV p_k.Key, sV p_k.Race, u1.val, iV p_k.Young, iV p_k.Old] 57] [(5, v1)] 54 a w') ?_ ?_
 ·refine wp_block (f_loop (fun (ys1 : List Grecord_swum) a w' => ∃ i1 : Nat, ∃ x1 : List GBest, ∃ v1 : Value, (∃ dn, p_all = dn ++ ys1 ∧ dn.length = i1) ∧ record_history_l1 p_k j1 ys1 i1 x1 = some r ∧ Sx w [] nov [.own v1 80 6 x1.length (x1.flatMap GBest.enc), .blk b1 [sV p_k.Key, sV p_k.Race, u1.val, iV p_k.Young, iV p_k.Old] 57] [(2, .pointer (some ⟨b1, 0, none⟩)), (5, v1), (9, v_p_all), (10, iV (p_all.length : Int)), (11, iV (i1 : Int))] 54 a w') List.length p_all ⟨0, ([] : List GBest), (.slice none 0 0), ⟨[], rfl, rfl⟩, h, S.nf [true, true] rfl (subR rfl)⟩ ?_)
  clear S h; rintro ys1 a w2 ⟨i1, x1, v1, ⟨dn, hd1, hi1⟩, h, S⟩
  cases ys1 with
  | nil =>
   rw [record_history_l1.eq_1] at h
   refine f_seq (f_region (lv S (rn_lss (S.tm rfl) (S.tm rfl)) rfl ?_)); clear S; intro a S
   refine l_done ?_
   replace S := S.nk [.own v1 80 6 x1.length (x1.flatMap GBest.enc), .blk b1 [sV p_k.Key, sV p_k.Race, u1.val, iV p_k.Young, iV p_k.Old] 57] [(2, .pointer (some ⟨b1, 0, none⟩)), (5, v1), (9, v_p_all), (10, iV (p_all.length : Int)), (11, iV (i1 : Int)), (12, bV (decide ((i1 : Int) < (p_all.length : Int))))] [true, true] rfl (subR rfl)
   refine then_n (f_seq (wp_cond_false ((S.tm rfl).trans (congrArg Value.bool (rng_nil hd1 hi1))) (wp_exit (then_x (then_x (x_same ?_))))))
   refine then_n ?_
   exact ⟨x1, v1, h, S.nf [true, true] rfl ⟨rfl, trivial⟩⟩
  | cons y1 ys1 =>
   rw [record_history_l1.eq_2] at h
   refine f_seq (f_region (lv S (rn_lss (S.tm rfl) (S.tm rfl)) rfl ?_)); clear S; intro a S
   refine l_done ?_
   replace S := S.nk [.own v1 80 6 x1.length (x1.flatMap GBest.enc), .blk b1 [sV p_k.Key, sV p_k.Race, u1.val, iV p_k.Young, iV p_k.Old] 57] [(2, .pointer (some ⟨b1, 0, none⟩)), (5, v1), (9, v_p_all), (10, iV (p_all.length : Int)), (11, iV (i1 : Int)), (12, bV (decide ((i1 : Int) < (p_all.length : Int))))] [true, true] rfl (subR rfl)
   refine then_n (f_seq (wp_cond_true ((S.tm rfl).trans (congrArg Value.bool (rng_cons hd1 hi1))) (wp_skip (then_n (f_seq ?_)))))
   obtain ⟨j2, hj2, h⟩ := joinE h
   refine f_join (fun a w' => ∃ x2 : List GBest, ∃ v2 : Value, j2 x2 = some r ∧ Sx w [] nov [.own v2 80 6 x2.length (x2.flatMap GBest.enc), .blk b1 [sV p_k.Key, sV p_k.Race, u1.val, iV p_k.Young, iV p_k.Old] 57] [(2, .pointer (some ⟨b1, 0, none⟩)), (5, v2), (9, v_p_all), (10, iV (p_all.length : Int)), (11, iV (i1 : Int))] 54 a w') ?_ ?_
   ·refine wp_block (f_seq (f_region ?_))
    obtain ⟨r1, hg1, hl1⟩ := All2.at hr_p_all (get_mid hd1 hi1)
    have hb1 := hl1
    obtain ⟨b2, o1, hm1, hr1⟩ := rn_indexT (a := a) (x := .tmp 9) (y := .tmp 11) (ty := 0) sl_73 hs_p_all hg1 rfl (S.tm rfl) (S.tm rfl)
    refine lv S (hr1 _) rfl ?_; clear S; intro a S
    clear hr1
    refine lv S (rn_ld Tryz.isAgg100 (off := o1) (o := 0) (S.tm rfl) (hm1.at S.emb0) rfl) rfl ?_; clear S; intro a S
    refine lv S (rn_assign (S.tm rfl)) rfl ?_; clear S; intro a S
    refine l_done (then_n (f_seq (f_seq ?_)))
    obtain ⟨j3, hj3, h⟩ := joinE h
    refine f_join (fun a w' => ∃ x3 : Bool, j3 x3 = some r ∧ Sx w [] nov [.own v1 80 6 x1.length (x1.flatMap GBest.enc), .blk b1 [sV p_k.Key, sV p_k.Race, u1.val, iV p_k.Young, iV p_k.Old] 57] [(2, .pointer (some ⟨b1, 0, none⟩)), (5, v1), (7, .pointer (some ⟨r1, 0, none⟩)), (9, v_p_all), (10, iV (p_all.length : Int)), (11, iV (i1 : Int)), (27, bV x3)] 54 a w') ?_ ?_
    ·rcases Bool.eq_false_or_eq_true y1.void_ with hb2 | hb2
     ·replace h := iteT h hb2
      refine d_region [] ([]) Tryz.mixed S rfl (by kernel_rfl) ?_; clear S; intro w6 hk2 hsel S
      refine d_rest [0, 1, 2, 3, 4, 5, 6, 7, 8, 9, 10, 11, 12] hsel (by kernel_rfl) rfl ?_
      clear hsel
      refine s_lv S rfl (rn_move (S.tm rfl)) rfl ?_; clear S; intro a S
      refine s_lv S rfl (rn_nilCheck (S.tm rfl)) rfl ?_; clear S; intro a S
      refine s_lv S rfl (rn_fld fa_102_2 (S.tm rfl)) rfl ?_; clear S; intro a S
      refine s_lv S rfl (rn_ld Tryz.isAgg4 (off := 0) (o := 9) (S.tm rfl) ((mem_blk hb1).at S.emb0) rfl) rfl ?_; clear S; intro a S
      refine s_lv S rfl (rn_move (S.tm rfl)) rfl ?_; clear S; intro a S
      iterate 7 (refine s_skip S rfl rfl rfl rfl (neq_t hb2) rfl ?_ rfl; clear S; intro a S)
      refine s_lv S rfl (rn_pick_b hb2 (S.tm rfl) rfl) rfl ?_; clear S; intro a S
      refine s_done ?_
      replace S := S.nk [.own v1 80 6 x1.length (x1.flatMap GBest.enc), .blk b1 [sV p_k.Key, sV p_k.Race, u1.val, iV p_k.Young, iV p_k.Old] 57] [(2, .pointer (some ⟨b1, 0, none⟩)), (5, v1), (7, .pointer (some ⟨r1, 0, none⟩)), (9, v_p_all), (10, iV (p_all.length : Int)), (11, iV (i1 : Int)), (27, bV true)] [true, true] rfl (subR rfl)
      refine then_n ?_
      exact ⟨true, h, S.nf [true, true] rfl (subR rfl)⟩
     ·replace h := iteF h hb2
      refine d_region [] ([]) Tryz.mixed S rfl (by kernel_rfl) ?_; clear S; intro w8 hk4 hsel S
      refine d_quiet 0 S hsel rfl rfl rfl (by kernel_rfl) (by kernel_rfl) rfl (fun _ hw => (rn_move (S.tm rfl))) ?_; clear S; intro a S
      refine d_quiet 1 S hsel rfl rfl rfl (by kernel_rfl) (by kernel_rfl) rfl (fun _ hw => (rn_nilCheck (S.tm rfl))) ?_; clear S; intro a S
      refine d_quiet 2 S hsel rfl rfl rfl (by kernel_rfl) (by kernel_rfl) rfl (fun _ hw => (rn_fld fa_102_2 (S.tm rfl))) ?_; clear S; intro a S
      refine d_quiet 3 S hsel rfl rfl rfl (by kernel_rfl) (by kernel_rfl) rfl (fun _ hw => (rn_ld Tryz.isAgg4 (off := 0) (o := 9) (S.tm rfl) (((mem_blk hb1).mono (S.le_arg nil_sub)).kept hw) rfl)) ?_; clear S; intro a S
      refine d_quiet 4 S hsel rfl rfl rfl (by kernel_rfl) (by kernel_rfl) rfl (fun _ hw => (rn_move (S.tm rfl))) ?_; clear S; intro a S
      refine d_quiet_g 5 S hsel rfl rfl rfl rfl hb2 rfl rfl (by kernel_rfl) (by kernel_rfl) rfl (fun _ hw => (rn_ldA Tryz.isAgg57 Tryz.sizeOf57 (off := 0) (o := 0) (part := [sV p_k.Key, sV p_k.Race, u1.val, iV p_k.Young, iV p_k.Old]) rfl rfl (S.tm rfl) ((S.blk_mem (i := 1) (cells := [sV p_k.Key, sV p_k.Race, u1.val, iV p_k.Young, iV p_k.Old]) (b := b1) (T := 57) rfl (ne_nil (e' := .blk b1 [sV p_k.Key, sV p_k.Race, u1.val, iV p_k.Young, iV p_k.Old] 57))).kept hw))) ?_; clear S; intro a S
      refine d_quiet_g 6 S hsel rfl rfl rfl rfl hb2 rfl rfl (by kernel_rfl) (by kernel_rfl) rfl (fun _ hw => (rn_move (S.tm rfl))) ?_; clear S; intro a S
      refine d_quiet_g 7 S hsel rfl rfl rfl rfl hb2 rfl rfl (by kernel_rfl) (by kernel_rfl) rfl (fun _ hw => (rn_nilCheck (S.tm rfl))) ?_; clear S; intro a S
      refine d_quiet_g 8 S hsel rfl rfl rfl rfl hb2 rfl rfl (by kernel_rfl) (by kernel_rfl) rfl (fun _ hw => (rn_fld fa_102_0 (S.tm rfl))) ?_; clear S; intro a S
      refine d_quiet_g 9 S hsel rfl rfl rfl rfl hb2 rfl rfl (by kernel_rfl) (by kernel_rfl) rfl (fun _ hw => (rn_ldA Tryz.isAgg34 Tryz.sizeOf34 (off := 0) (o := 0) (part := (GStep.enc y1.s_)) rfl rfl (S.tm rfl) (((mem_blk hb1).mono (S.le_arg nil_sub)).kept hw))) ?_; clear S; intro a S
      refine d_loud1 10 (by kernel_rfl) rfl (l_want S rfl rfl rfl hb2 (l_enter S (fun _ => run_call (vs := [.agg (R57.enc (R57.mk p_k.Key p_k.Race u1 p_k.Young p_k.Old)).toArray, .agg (GStep.enc y1.s_).toArray]) ⟨(S.tm rfl), (S.tm rfl), trivial⟩ Tryz.call50) (record_isFor_ok _ p_k (R57.mk p_k.Key p_k.Race u1 p_k.Young p_k.Old) ⟨u1, rfl, (hs1.mono (S.le_arg nil_sub))⟩ y1.s_ _ rfl) rfl ?_)); clear S; intro v4 a w9 hv2 hk5 hn2 S
      subst hv2
      refine l_done (d_next hk5 (d_rest [11, 12] hsel (by kernel_rfl) rfl ?_))
      clear hsel
      refine s_want S rfl rfl rfl rfl hb2 (s_lv0 S (rn_not (S.tm rfl)) rfl ?_); clear S; intro a S
      refine s_lv S rfl (rn_pick_c hb2 (S.tm rfl) (S.tm rfl)) rfl ?_; clear S; intro a S
      refine s_done ?_
      replace S := S.nk [.own v1 80 6 x1.length (x1.flatMap GBest.enc), .blk b1 [sV p_k.Key, sV p_k.Race, u1.val, iV p_k.Young, iV p_k.Old] 57] [(2, .pointer (some ⟨b1, 0, none⟩)), (5, v1), (7, .pointer (some ⟨r1, 0, none⟩)), (9, v_p_all), (10, iV (p_all.length : Int)), (11, iV (i1 : Int)), (20, .agg #[sV p_k.Key, sV p_k.Race, u1.val, iV p_k.Young, iV p_k.Old]), (21, .pointer (some ⟨r1, 0, none⟩)), (22, .pointer (some ⟨r1, 0, none⟩)), (23, .pointer (some ⟨r1, 0, none⟩)), (24, .agg (GStep.enc y1.s_).toArray), (25, bV (record_isFor p_k y1.s_)), (26, bV (!(record_isFor p_k y1.s_))), (27, bV (!(record_isFor p_k y1.s_)))] [true, true] rfl (subR rfl)
      refine then_n ?_
      exact ⟨!(record_isFor p_k y1.s_), h, S.nf [true, true] rfl (subR rfl)⟩
    clear S h; rintro a w5 ⟨x3, h, S⟩; rw [hj3] at h; clear hj3 j3
    refine then_n (f_cond (S.tm rfl) (fun hb3 => ?_) (fun hb3 => ?_))
    ·replace h := iteT h hb3
     refine wp_exit (then_x (x_same (then_n ?_)))
     exact ⟨x1, v1, h, S.nf [true, true] rfl (subR rfl)⟩
    ·replace h := iteF h hb3
     refine wp_skip (then_n (f_seq (f_region (lv S (rn_move (S.tm rfl)) rfl ?_)))); clear S; intro a S
     refine lv S (rn_lenT sl_78 (S.tm rfl) (own_len (S.own_at (i := 0) rfl))) rfl ?_; clear S; intro a S
     refine lv S (rn_assign (S.tm rfl)) rfl ?_; clear S; intro a S
     refine l_done (then_n (f_seq (d_region [] ([]) Tryz.mixed S rfl (by kernel_rfl) ?_))); clear S; intro w10 hk6 hsel S
     refine d_rest [0, 1, 2, 3, 4, 5, 6, 7, 8, 9, 10, 11, 12, 13, 14, 15] hsel (by kernel_rfl) rfl ?_
     clear hsel
     refine s_lv S rfl (rn_move (S.tm rfl)) rfl ?_; clear S; intro a S
     refine s_lv S rfl (rn_eql (S.tm rfl) rfl) rfl ?_; clear S; intro a S
     refine s_lv S rfl (rn_move (S.tm rfl)) rfl ?_; clear S; intro a S
     obtain ⟨j4, hj4, h⟩ := joinE h
     refine s_cutm 13 (fun a w' => ∃ c1, j4 c1 = some r ∧ Keep [] w10 w' ∧ Sx w [] nov [.own v1 80 6 x1.length (x1.flatMap GBest.enc), .blk b1 [sV p_k.Key, sV p_k.Race, u1.val, iV p_k.Young, iV p_k.Old] 57] [(2, .pointer (some ⟨b1, 0, none⟩)), (5, v1), (7, .pointer (some ⟨r1, 0, none⟩)), (9, v_p_all), (10, iV (p_all.length : Int)), (11, iV (i1 : Int)), (45, bV c1)] 54 a w') ?_ ?_
     ·rcases Bool.eq_false_or_eq_true (decide ((x1.length : Int) = 0)) with hb4 | hb4
      ·replace h := iteT h hb4
       iterate 12 (refine s_skip S rfl rfl rfl rfl (neq_t hb4) rfl ?_ rfl; clear S; intro a S)
       refine s_lv S rfl (rn_or_t true hb4 (S.tm rfl) rfl) rfl ?_; clear S; intro a S
       refine s_done ?_
       exact ⟨_, h, Keep.refl _ _, S.nf [true, true] rfl (subR rfl)⟩
      ·replace h := iteF h hb4
       refine s_want S rfl rfl rfl rfl hb4 (s_lv0 S (rn_move (S.tm rfl)) rfl ?_); clear S; intro a S
       refine s_want S rfl rfl rfl rfl hb4 (s_lv0 S (rn_nilCheck (S.tm rfl)) rfl ?_); clear S; intro a S
       refine s_want S rfl rfl rfl rfl hb4 (s_lv0 S (rn_fld fa_102_0 (S.tm rfl)) rfl ?_); clear S; intro a S
       refine s_want S rfl rfl rfl rfl hb4 (s_lv0 S (rn_fld fa_34_7 (S.tm rfl)) rfl ?_); clear S; intro a S
       refine s_want S rfl rfl rfl rfl hb4 (s_lv0 S (rn_ld Tryz.isAgg3 (off := 0) (o := 7) (S.tm rfl) ((mem_blk hb1).at S.emb0) rfl) rfl ?_); clear S; intro a S
       refine s_want S rfl rfl rfl rfl hb4 (s_lv0 S (rn_move (S.tm rfl)) rfl ?_); clear S; intro a S
       refine s_want S rfl rfl rfl rfl hb4 (s_lv0 S (rn_move (S.tm rfl)) rfl ?_); clear S; intro a S
       refine s_want S rfl rfl rfl rfl hb4 (s_lv0 S (rn_sub (S.tm rfl) rfl) rfl ?_); clear S; intro a S
       refine s_want S rfl rfl rfl rfl hb4 ?_
       obtain ⟨hc1, h⟩ := chkE h
       obtain ⟨b3, hg2, hr2⟩ := rn_indexS (a := a) (x := .tmp 38) (y := .tmp 40) (ty := 0) sl_78 GBest.enc_ok S (i := 0) rfl (inB_get hc1).1 (inB_get hc1).2 (S.tm rfl) (S.tm rfl)
       refine s_lv0 S (hr2 _) rfl ?_; clear S; intro a S
       clear hr2
       refine s_want S rfl rfl rfl rfl hb4 (s_lv0 S (rn_fld fa_80_3 (S.tm rfl)) rfl ?_); clear S; intro a S
       refine s_want S rfl rfl rfl rfl hb4 (s_lv0 S (rn_ld Tryz.isAgg3 (off := ((W ((x1.length : Int) - 1)).toNat) * 6) (o := 3) (S.tm rfl) (own_cells GBest.enc_ok S (i := 0) rfl hg2 (inB_get hc1).1) rfl) rfl ?_); clear S; intro a S
       refine s_want S rfl rfl rfl rfl hb4 (s_lv0 S (rn_leq (S.tm rfl) (S.tm rfl)) rfl ?_); clear S; intro a S
       refine s_lv S rfl (rn_or_f hb4 (S.tm rfl) (S.tm rfl)) rfl ?_; clear S; intro a S
       refine s_done ?_
       exact ⟨_, h, Keep.refl _ _, S.nf [true, true] rfl (subR rfl)⟩
     clear S h; rintro a w11 ⟨c1, h, hk7, S⟩; rw [hj4] at h; clear hj4 j4
     refine s_done ?_
     replace S := S.nk [.own v1 80 6 x1.length (x1.flatMap GBest.enc), .blk b1 [sV p_k.Key, sV p_k.Race, u1.val, iV p_k.Young, iV p_k.Old] 57] [(2, .pointer (some ⟨b1, 0, none⟩)), (5, v1), (7, .pointer (some ⟨r1, 0, none⟩)), (9, v_p_all), (10, iV (p_all.length : Int)), (11, iV (i1 : Int)), (45, bV c1)] [true, true] rfl (subR rfl)
     refine then_n ?_
     obtain ⟨j5, hj5, h⟩ := joinE h
     refine f_join (fun a w' => ∃ x4 : List GBest, ∃ v5 : Value, j5 x4 = some r ∧ Sx w [] nov [.own v5 80 6 x4.length (x4.flatMap GBest.enc), .blk b1 [sV p_k.Key, sV p_k.Race, u1.val, iV p_k.Young, iV p_k.Old] 57] [(2, .pointer (some ⟨b1, 0, none⟩)), (5, v5), (9, v_p_all), (10, iV (p_all.length : Int)), (11, iV (i1 : Int))] 54 a w') ?_ ?_
     ·refine f_cond (S.tm rfl) (fun hb5 => ?_) (fun hb5 => ?_)
      ·replace h := iteT h hb5
       refine f_region (lv S (rn_move (S.tm rfl)) rfl ?_); clear S; intro a S
       refine lv S (rn_ldA Tryz.isAgg57 Tryz.sizeOf57 (off := 0) (o := 0) (part := [sV p_k.Key, sV p_k.Race, u1.val, iV p_k.Young, iV p_k.Old]) rfl rfl (S.tm rfl) (S.cellsAt (i := 1) rfl)) rfl ?_; clear S; intro a S
       refine lv S (rn_move (S.tm rfl)) rfl ?_; clear S; intro a S
       refine l_enter S (fun _ => run_call (vs := [.agg (R57.enc (R57.mk p_k.Key p_k.Race u1 p_k.Young p_k.Old)).toArray, .pointer (some ⟨r1, 0, none⟩)]) ⟨(S.tm rfl), (S.tm rfl), trivial⟩ Tryz.call77) (record_best_ok _ p_k (R57.mk p_k.Key p_k.Race u1 p_k.Young p_k.Old) ⟨u1, rfl, (hs1.mono (S.le_arg nil_sub))⟩ r1 y1.s_ y1.sure_ y1.void_ ((S.le_arg nil_sub) _ _ hb1) _ rfl) rfl ?_; clear S; intro v6 a w13 hv3 hk8 hn3 S
       subst hv3
       refine l_buildSlice S Tryz.underlying78 Tryz.sizeOf80 Tryz.zeroValue80 rfl rfl (pv := [(0, .agg (GBest.enc (record_best p_k y1.s_ y1.sure_ y1.void_)).toArray)]) ⟨rfl, (S.tm rfl), trivial⟩ (cs := [sV ((record_best p_k y1.s_ y1.sure_ y1.void_).Kind), sV ((record_best p_k y1.s_ y1.sure_ y1.void_).Id), sV ((record_best p_k y1.s_ y1.sure_ y1.void_).Who), iV ((record_best p_k y1.s_ y1.sure_ y1.void_).Time), iV ((record_best p_k y1.s_ y1.sure_ y1.void_).Since), bV ((record_best p_k y1.s_ y1.sure_ y1.void_).Sure)]) (by kernel_rfl) rfl ?_; clear S; intro a w14 b4 hz2 hk9 S
       obtain ⟨hc2, h⟩ := chkE h
       refine l_appendT sl_78 GBest.enc_ok S (S.tm rfl) (i := 1) rfl (S.tm rfl) (j := 0) rfl (ys := [(record_best p_k y1.s_ y1.sure_ y1.void_)]) rfl rfl rfl rfl (by have := room_lt hc2; omega) rfl ?_; clear S; intro v7 a w15 hk10 S
       refine lv S (rn_assign (S.tm rfl)) rfl ?_; clear S; intro a S
       refine l_done (then_n ?_)
       exact ⟨(x1 ++ [(record_best p_k y1.s_ y1.sure_ y1.void_)]), v7, h, S.nf [false, true, true] rfl (subR rfl)⟩
      ·replace h := iteF h hb5
       refine wp_skip (then_n ?_)
       exact ⟨x1, v1, h, S.nf [true, true] rfl (subR rfl)⟩
     clear S h; rintro a w12 ⟨x4, v5, h, S⟩; rw [hj5] at h; clear hj5 j5
     refine blk_n (then_n ?_)
     exact ⟨x4, v5, h, S.nf [true, true] rfl (subR rfl)⟩
   clear S h; rintro a w4 ⟨x2, v2, h, S⟩; rw [hj2] at h; clear hj2 j2
   refine then_n (f_region (lv S (rn_add (S.tm rfl) rfl) rfl ?_)); clear S; intro a S
   refine lv S (rn_move (S.tm rfl)) rfl ?_; clear S; intro a S
   refine l_done (then_n ?_)
   exact ⟨ys1, ⟨i1 + 1, x2, v2, ⟨_, (hd1).trans (List.append_cons _ _ _), by simp [hi1]⟩, h, S.nf [true, true] rfl ⟨rfl, rfl, rfl, rfl, (congrArg (fun z => some (Value.int .i64 z)) (rng_next hd1 hi1 (slc_maxD hs_p_all hr_p_all))), trivial⟩⟩, Nat.lt_succ_self _⟩
 clear S h; rintro a w3 ⟨x1, v1, h, S⟩; rw [hj1] at h; clear hj1 j1
 refine then_n (f_seq (f_region (lv S (rn_move (S.tm rfl)) rfl ?_))); clear S; intro a S
 refine lv S (rn_assign (S.tm rfl)) rfl ?_; clear S; intro a S
 refine l_done (then_n (wp_ret ?_))
 obtain rfl := Option.some.inj h
 exact f_ret S Tryz.results46 rfl (own_retT S (i := 0) rfl rfl)
set_option maxRecDepth 20000 in
theorem record_record_ok (w : World) (p_k : GKind) (q_p_k : R57) (hq_p_k : rel_57 (view w []) p_k q_p_k) (v_p_all : Value) (p_all : List Grecord_swum) (rs_p_all : List Nat) (hs_p_all : Slc (view w []) 1 v_p_all (rs_p_all.map RP.enc)) (hr_p_all : All2 (rel_100 (view w [])) p_all rs_p_all) (r : (List GBest)) (h : record_record p_k p_all = some r) :
    Calls Tryz.prog 43 [.agg (R57.enc q_p_k).toArray, v_p_all].toArray w (Ret w [] fun τ v _ => Slc τ 6 v (r.map GBest.enc)) := by
 obtain ⟨u1, rfl, hs1⟩ := hq_p_k
 refine f_enter [] [] Tryz.func43 rfl Tryz.ntmps43 rfl (by simp) (by simp [fps]) (by simp [fps]) fun a S => ?_
 unfold record_record at h
 replace S := S.nk [] [(0, .agg #[sV p_k.Key, sV p_k.Race, u1.val, iV p_k.Young, iV p_k.Old]), (1, v_p_all)] [] rfl (subR rfl)
 refine f_seq (f_region (l_box S (S.tm rfl) (cs := [sV p_k.Key, sV p_k.Race, u1.val, iV p_k.Young, iV p_k.Old]) rfl rfl ?_)); clear S; intro a w1 b1 hz1 hk1 S
 refine lv S (rn_assign rfl) rfl ?_; clear S; intro a S
 refine l_done (then_n (f_seq (f_region (lv S (rn_ldA Tryz.isAgg57 Tryz.sizeOf57 (off := 0) (o := 0) (part := [sV p_k.Key, sV p_k.Race, u1.val, iV p_k.Young, iV p_k.Old]) rfl rfl (S.tm rfl) (S.cellsAt (i := 0) rfl)) rfl ?_)))); clear S; intro a S
 refine lv S (rn_move (S.tm rfl)) rfl ?_; clear S; intro a S
 obtain ⟨r1, hr1, h⟩ := bindE h
 have hz2 := S.keep.size
 refine l_enter S (fun _ => run_call (vs := [.agg (R57.enc (R57.mk p_k.Key p_k.Race u1 p_k.Young p_k.Old)).toArray, v_p_all]) ⟨(S.tm rfl), (S.tm rfl), trivial⟩ Tryz.call46) (record_history_ok _ p_k (R57.mk p_k.Key p_k.Race u1 p_k.Young p_k.Old) ⟨u1, rfl, (hs1.mono (S.le_arg nil_sub))⟩ v_p_all p_all rs_p_all (hs_p_all.mono (S.le_arg nil_sub)) (rels_100 (S.le_arg nil_sub) hr_p_all) _ hr1) rfl ?_; clear S; intro v1 a w2 hv1 hk2 hn1 S
 obtain ⟨φ1, hl1, hm1, S⟩ := S.see' hn1 hz2
 have hs2 := hv1.mono hm1
 refine lv S (rn_assign (S.tm rfl)) rfl ?_; clear S; intro a S
 refine l_done (then_n (f_seq (f_seq (f_region (lv S (rn_move (S.tm rfl)) rfl ?_))))); clear S; intro a S
 refine lv S (rn_lenT sl_78 (S.tm rfl) (slc_len (ownV_slcT GBest.enc_ok hs2))) rfl ?_; clear S; intro a S
 refine lv S (rn_move rfl) rfl ?_; clear S; intro a S
 refine l_done (then_n ?_)
 replace S := S.nk [] [(5, v1), (11, v1), (12, iV (r1.length : Int)), (13, iV 0)] [false] rfl (subR rfl)
 obtain ⟨j1, hj1, h⟩ := joinE h
 refine f_join (fun a w' => j1 = some r ∧ Sx w [] φ1 [] [] 32 a w') ?_ ?_
 ·refine wp_block (f_loop (fun (ys1 : List GBest) a w' => ∃ i1 : Nat, (∃ dn, r1 = dn ++ ys1 ∧ dn.length = i1) ∧ record_record_l1 r1 j1 ys1 i1 = some r ∧ Sx w [] φ1 [] [(5, v1), (11, v1), (12, iV (r1.length : Int)), (13, iV (i1 : Int))] 32 a w') List.length r1 ⟨0, ⟨[], rfl, rfl⟩, h, S.nf [] rfl (subR rfl)⟩ ?_)
  clear S h; rintro ys1 a w3 ⟨i1, ⟨dn, hd1, hi1⟩, h, S⟩
  cases ys1 with
  | nil =>
   rw [record_record_l1.eq_1] at h
   refine f_seq (f_region (lv S (rn_lss (S.tm rfl) (S.tm rfl)) rfl ?_)); clear S; intro a S
   refine l_done ?_
   replace S := S.nk [] [(5, v1), (11, v1), (12, iV (r1.length : Int)), (13, iV (i1 : Int)), (14, bV (decide ((i1 : Int) < (r1.length : Int))))] [] rfl (subR rfl)
   refine then_n (f_seq (wp_cond_false ((S.tm rfl).trans (congrArg Value.bool (rng_nil hd1 hi1))) (wp_exit (then_x (then_x (x_same ?_))))))
   refine then_n ?_
   exact ⟨h, S.nf [] rfl trivial⟩
  | cons y1 ys1 =>
   rw [record_record_l1.eq_2] at h
   refine f_seq (f_region (lv S (rn_lss (S.tm rfl) (S.tm rfl)) rfl ?_)); clear S; intro a S
   refine l_done ?_
   replace S := S.nk [] [(5, v1), (11, v1), (12, iV (r1.length : Int)), (13, iV (i1 : Int)), (14, bV (decide ((i1 : Int) < (r1.length : Int))))] [] rfl (subR rfl)
   refine then_n (f_seq (wp_cond_true ((S.tm rfl).trans (congrArg Value.bool (rng_cons hd1 hi1))) (wp_skip (then_n (f_seq (wp_block ?_))))))
   refine f_seq (f_region (lv S (rn_move (S.tm rfl)) rfl ?_)); clear S; intro a S
   obtain ⟨b2, o1, hm2, hr2⟩ := rn_indexT (a := a) (x := .tmp 11) (y := .tmp 13) (ty := 0) sl_78 (ownV_slcT GBest.enc_ok hs2) (get_mid hd1 hi1) rfl (S.tm rfl) (S.tm rfl)
   refine lv S (hr2 _) rfl ?_; clear S; intro a S
   clear hr2
   refine lv S (rn_ldA Tryz.isAgg80 Tryz.sizeOf80 (off := o1) (o := 0) (part := (GBest.enc y1)) rfl rfl (S.tm rfl) (hm2.at S.emb)) rfl ?_; clear S; intro a S
   refine l_alloc S Tryz.zeroValue80 (cs := [sV k_empty, sV k_empty, sV k_empty, iV 0, iV 0, bV false]) rfl rfl ?_; clear S; intro a w5 b3 hz3 hk3 S
   refine lv S (rn_assign (S.tm rfl)) rfl ?_; clear S; intro a S
   refine l_store S (S.tm rfl) (S.tm rfl) (i := 0) (off := 0) rfl Tryz.sizeOf80 (vs := (GBest.enc y1)) rfl rfl rfl rfl ?_; clear S; intro w6 hk4 S
   refine l_done (then_n (f_seq (d_region [] ([]) Tryz.mixed S rfl (by kernel_rfl) ?_))); clear S; intro w7 hk5 hsel S
   refine d_rest [0, 1, 2, 3, 4, 5, 6, 7, 8, 9] hsel (by kernel_rfl) rfl ?_
   clear hsel
   refine s_lv S rfl (rn_fld fa_80_3 (S.tm rfl)) rfl ?_; clear S; intro a S
   refine s_lv S rfl (rn_load Tryz.isAgg3 (S.tm rfl) (S.cell (i := 0) rfl rfl)) rfl ?_; clear S; intro a S
   refine s_lv S rfl (rn_move (S.tm rfl)) rfl ?_; clear S; intro a S
   refine s_lv S rfl (rn_move (S.tm rfl)) rfl ?_; clear S; intro a S
   refine s_lv S rfl (rn_lenT sl_78 (S.tm rfl) (slc_len (ownV_slcT GBest.enc_ok hs2))) rfl ?_; clear S; intro a S
   refine s_lv S rfl (rn_sub (S.tm rfl) rfl) rfl ?_; clear S; intro a S
   obtain ⟨hc1, h⟩ := chkE h
   obtain ⟨b4, o2, hm3, hr3⟩ := rn_indexT (a := a) (x := .tmp 20) (y := .tmp 23) (ty := 0) sl_78 (ownV_slcT GBest.enc_ok hs2) (inB_get hc1).1 (inB_get hc1).2 (S.tm rfl) (S.tm rfl)
   refine s_lv S rfl (hr3 _) rfl ?_; clear S; intro a S
   clear hr3
   refine s_lv S rfl (rn_fld fa_80_3 (S.tm rfl)) rfl ?_; clear S; intro a S
   refine s_lv S rfl (rn_ld Tryz.isAgg3 (off := o2) (o := 3) (S.tm rfl) (hm3.at S.emb) rfl) rfl ?_; clear S; intro a S
   refine s_lv S rfl (rn_eql (S.tm rfl) (S.tm rfl)) rfl ?_; clear S; intro a S
   refine s_done ?_
   replace S := S.nk [] [(5, v1), (6, iV (i1 : Int)), (11, v1), (12, iV (r1.length : Int)), (13, iV (i1 : Int)), (27, bV (decide (y1.Time = ((nth r1 (W ((r1.length : Int) - 1))).Time))))] [false] rfl (subR rfl)
   refine then_n (f_cond (S.tm rfl) (fun hb1 => ?_) (fun hb1 => ?_))
   ·replace h := iteT h hb1
    refine f_seq (f_region (lv S (rn_move (S.tm rfl)) rfl ?_)); clear S; intro a S
    refine lv S (rn_move (S.tm rfl)) rfl ?_; clear S; intro a S
    obtain ⟨hc2, h⟩ := chkE h
    obtain ⟨v2, hs3, hr4⟩ := rn_cutTl (a := a) (x := .tmp 28) (y := .tmp 29) (ty := 78) sl_78 (ownV_slcT GBest.enc_ok hs2) (S.tm rfl) (S.tm rfl) hc2
    refine lv S (hr4 _) rfl ?_; clear S; intro a S
    clear hr4
    refine lv S (rn_assign (S.tm rfl)) rfl ?_; clear S; intro a S
    refine l_done (then_n (wp_ret (blk_r (then_r (then_r (blk_r ?_))))))
    refine then_r (then_r ?_)
    obtain rfl := Option.some.inj h
    exact f_ret S Tryz.results43 rfl ((hs3).mono S.le_newer)
   ·replace h := iteF h hb1
    refine wp_skip (blk_n (then_n (f_region (lv S (rn_add (S.tm rfl) rfl) rfl ?_)))); clear S; intro a S
    refine lv S (rn_move (S.tm rfl)) rfl ?_; clear S; intro a S
    refine l_done (then_n ?_)
    exact ⟨ys1, ⟨i1 + 1, ⟨_, (hd1).trans (List.append_cons _ _ _), by simp [hi1]⟩, h, S.nf [] rfl ⟨rfl, rfl, rfl, (congrArg (fun z => some (Value.int .i64 z)) (rng_next hd1 hi1 (slc_max (ownV_slcT GBest.enc_ok hs2)))), trivial⟩⟩, Nat.lt_succ_self _⟩
 clear S h; rintro a w4 ⟨h, S⟩; rw [hj1] at h; clear hj1 j1
 refine then_n (f_seq (f_region (lv S (rn_assign rfl) rfl ?_))); clear S; intro a S
 refine l_done (then_n (wp_ret ?_))
 obtain rfl := Option.some.inj h
 exact f_ret S Tryz.results43 rfl (slc_nilT _ _)
theorem record_Held_c1_ok (w : World) (p_b : GBest) (b_p_a1 : Nat) (p_a1 : ByteArray) (hb_b_p_a1 : (view w []) b_p_a1 = some (.cells [sV p_a1].toArray 9 (0, 0))) (r : Bool) (h : record_Held_c1 p_b p_a1 = r) :
    Calls Tryz.prog 44 [.agg (GBest.enc p_b).toArray, .pointer (some ⟨b_p_a1, 0, none⟩)].toArray w (Ret w [] fun _ v _ => v = bV r) := by
 refine f_enter [] [] Tryz.func44 rfl Tryz.ntmps44 rfl (by simp) (by simp [fps]) (by simp [fps]) fun a S => ?_
 unfold record_Held_c1 at h
 replace S := S.nk [] [(0, .agg (GBest.enc p_b).toArray), (1, .pointer (some ⟨b_p_a1, 0, none⟩))] [] rfl (subR rfl)
 refine f_seq (f_region (l_box S (S.tm rfl) (cs := (GBest.enc p_b)) rfl rfl ?_)); clear S; intro a w1 b1 hz1 hk1 S
 refine lv S (rn_assign rfl) rfl ?_; clear S; intro a S
 refine l_done (then_n (f_seq (f_region (lv S (rn_fld fa_80_1 (S.tm rfl)) rfl ?_)))); clear S; intro a S
 refine lv S (rn_load Tryz.isAgg9 (S.tm rfl) (S.cell (i := 0) rfl rfl)) rfl ?_; clear S; intro a S
 refine lv S (rn_ld Tryz.isAgg9 (off := 0) (o := 0) (S.tm rfl) ((mem_blk hb_b_p_a1).at S.emb0) rfl) rfl ?_; clear S; intro a S
 refine lv S (rn_seql (S.tm rfl) (S.tm rfl)) rfl ?_; clear S; intro a S
 refine lv S (rn_assign (S.tm rfl)) rfl ?_; clear S; intro a S
 refine l_done (then_n (wp_ret ?_))
 subst h
 exact f_ret S Tryz.results44 rfl rfl
theorem slices_IndexFunc_Best_record_Held_c1_ok (w : World) (v_p_s : Value) (p_s : List GBest) (hs_p_s : Slc (view w []) 6 v_p_s (p_s.map GBest.enc)) (b_p_f_0 : Nat) (p_f_0 : ByteArray) (hb_b_p_f_0 : (view w []) b_p_f_0 = some (.cells [sV p_f_0].toArray 9 (0, 0))) (r : Int) (h : slices_IndexFunc_Best_record_Held_c1 p_s p_f_0 = r) :
    Calls Tryz.prog 47 [v_p_s, .func (.func 44) #[] #[.pointer (some ⟨b_p_f_0, 0, none⟩)]].toArray w (Ret w [] fun _ v _ => v = iV r) := by
 refine f_enter [] [] Tryz.func47 rfl Tryz.ntmps47 rfl (by simp) (by simp [fps]) (by simp [fps]) fun a S => ?_
 unfold slices_IndexFunc_Best_record_Held_c1 at h
 replace S := S.nk [] [(0, v_p_s), (1, .func (.func 44) #[] #[.pointer (some ⟨b_p_f_0, 0, none⟩)])] [] rfl (subR rfl)
 refine f_seq (f_region (lv S (rn_assign rfl) rfl ?_)); clear S; intro a S
 refine l_done (then_n (f_seq (f_seq (f_region (lv S (rn_move (S.tm rfl)) rfl ?_))))); clear S; intro a S
 refine lv S (rn_lenT sl_78 (S.tm rfl) (slc_len hs_p_s)) rfl ?_; clear S; intro a S
 refine lv S (rn_move rfl) rfl ?_; clear S; intro a S
 refine l_done (then_n ?_)
 replace S := S.nk [] [(0, v_p_s), (1, .func (.func 44) #[] #[.pointer (some ⟨b_p_f_0, 0, none⟩)]), (7, iV (p_s.length : Int)), (8, iV 0)] [] rfl (subR rfl)
 obtain ⟨j1, hj1, h⟩ := joinE h
 refine f_join (fun a w' => j1 = r ∧ Sx w [] nov [] [] 19 a w') ?_ ?_
 ·refine wp_block (f_loop (fun (ys1 : List GBest) a w' => ∃ i1 : Nat, (∃ dn, p_s = dn ++ ys1 ∧ dn.length = i1) ∧ slices_IndexFunc_Best_record_Held_c1_l1 p_f_0 j1 ys1 i1 = r ∧ Sx w [] nov [] [(0, v_p_s), (1, .func (.func 44) #[] #[.pointer (some ⟨b_p_f_0, 0, none⟩)]), (7, iV (p_s.length : Int)), (8, iV (i1 : Int))] 19 a w') List.length p_s ⟨0, ⟨[], rfl, rfl⟩, h, S.nf [] rfl (subR rfl)⟩ ?_)
  clear S h; rintro ys1 a w1 ⟨i1, ⟨dn, hd1, hi1⟩, h, S⟩
  cases ys1 with
  | nil =>
   rw [slices_IndexFunc_Best_record_Held_c1_l1.eq_1] at h
   refine f_seq (f_region (lv S (rn_lss (S.tm rfl) (S.tm rfl)) rfl ?_)); clear S; intro a S
   refine l_done ?_
   replace S := S.nk [] [(0, v_p_s), (1, .func (.func 44) #[] #[.pointer (some ⟨b_p_f_0, 0, none⟩)]), (7, iV (p_s.length : Int)), (8, iV (i1 : Int)), (9, bV (decide ((i1 : Int) < (p_s.length : Int))))] [] rfl (subR rfl)
   refine then_n (f_seq (wp_cond_false ((S.tm rfl).trans (congrArg Value.bool (rng_nil hd1 hi1))) (wp_exit (then_x (then_x (x_same ?_))))))
   refine then_n ?_
   exact ⟨h, S.nf [] rfl trivial⟩
  | cons y1 ys1 =>
   rw [slices_IndexFunc_Best_record_Held_c1_l1.eq_2] at h
   refine f_seq (f_region (lv S (rn_lss (S.tm rfl) (S.tm rfl)) rfl ?_)); clear S; intro a S
   refine l_done ?_
   replace S := S.nk [] [(0, v_p_s), (1, .func (.func 44) #[] #[.pointer (some ⟨b_p_f_0, 0, none⟩)]), (7, iV (p_s.length : Int)), (8, iV (i1 : Int)), (9, bV (decide ((i1 : Int) < (p_s.length : Int))))] [] rfl (subR rfl)
   refine then_n (f_seq (wp_cond_true ((S.tm rfl).trans (congrArg Value.bool (rng_cons hd1 hi1))) (wp_skip (then_n (f_seq (wp_block ?_))))))
   refine f_seq (f_region (lv S (rn_move (S.tm rfl)) rfl ?_)); clear S; intro a S
   refine lv S (rn_assign (S.tm rfl)) rfl ?_; clear S; intro a S
   refine l_done (then_n (f_seq (f_region (lv S (rn_move (S.tm rfl)) rfl ?_)))); clear S; intro a S
   refine lv S (rn_move (S.tm rfl)) rfl ?_; clear S; intro a S
   refine lv S (rn_move (S.tm rfl)) rfl ?_; clear S; intro a S
   obtain ⟨b1, o1, hm1, hr1⟩ := rn_indexT (a := a) (x := .tmp 12) (y := .tmp 13) (ty := 0) sl_78 hs_p_s (get_mid hd1 hi1) rfl (S.tm rfl) (S.tm rfl)
   refine lv S (hr1 _) rfl ?_; clear S; intro a S
   clear hr1
   refine lv S (rn_ldA Tryz.isAgg80 Tryz.sizeOf80 (off := o1) (o := 0) (part := (GBest.enc y1)) rfl rfl (S.tm rfl) (hm1.at S.emb0)) rfl ?_; clear S; intro a S
   refine l_enter S (fun _ => run_callV (cap := [.pointer (some ⟨b_p_f_0, 0, none⟩)]) (S.tm rfl) (vs := [.agg (GBest.enc y1).toArray]) ⟨(S.tm rfl), trivial⟩ Tryz.call44) (record_Held_c1_ok _ y1 b_p_f_0 p_f_0 ((S.le_arg nil_sub) _ _ hb_b_p_f_0) _ rfl) rfl ?_; clear S; intro v1 a w3 hv1 hk1 hn1 S
   subst hv1
   refine l_done (then_n (f_cond (S.tm rfl) (fun hb1 => ?_) (fun hb1 => ?_)))
   ·replace h := iteT h hb1
    refine f_seq (f_region (lv S (rn_move (S.tm rfl)) rfl ?_)); clear S; intro a S
    refine lv S (rn_assign (S.tm rfl)) rfl ?_; clear S; intro a S
    refine l_done ?_
    replace S := S.nk [] [(4, iV (i1 : Int))] [] rfl ⟨rfl, trivial⟩
    refine then_n (wp_ret (blk_r (then_r (then_r (blk_r (then_r ?_))))))
    refine then_r ?_
    subst h
    exact f_ret S Tryz.results47 rfl rfl
   ·replace h := iteF h hb1
    refine wp_skip (blk_n (then_n (f_region (lv S (rn_add (S.tm rfl) rfl) rfl ?_)))); clear S; intro a S
    refine lv S (rn_move (S.tm rfl)) rfl ?_; clear S; intro a S
    refine l_done (then_n ?_)
    exact ⟨ys1, ⟨i1 + 1, ⟨_, (hd1).trans (List.append_cons _ _ _), by simp [hi1]⟩, h, S.nf [] rfl ⟨rfl, rfl, rfl, (congrArg (fun z => some (Value.int .i64 z)) (rng_next hd1 hi1 (slc_max hs_p_s))), trivial⟩⟩, Nat.lt_succ_self _⟩
 clear S h; rintro a w2 ⟨h, S⟩; rw [hj1] at h; clear hj1 j1
 refine then_n (f_seq (f_region (lv S (rn_assign rfl) rfl ?_))); clear S; intro a S
 refine l_done (then_n (wp_ret ?_))
 subst h
 exact f_ret S Tryz.results47 rfl rfl
theorem slices_ContainsFunc_Best_record_Held_c1_ok (w : World) (v_p_s : Value) (p_s : List GBest) (hs_p_s : Slc (view w []) 6 v_p_s (p_s.map GBest.enc)) (b_p_f_0 : Nat) (p_f_0 : ByteArray) (hb_b_p_f_0 : (view w []) b_p_f_0 = some (.cells [sV p_f_0].toArray 9 (0, 0))) (r : Bool) (h : slices_ContainsFunc_Best_record_Held_c1 p_s p_f_0 = r) :
    Calls Tryz.prog 42 [v_p_s, .func (.func 44) #[] #[.pointer (some ⟨b_p_f_0, 0, none⟩)]].toArray w (Ret w [] fun _ v _ => v = bV r) := by
 refine f_enter [] [] Tryz.func42 rfl Tryz.ntmps42 rfl (by simp) (by simp [fps]) (by simp [fps]) fun a S => ?_
 unfold slices_ContainsFunc_Best_record_Held_c1 at h
 replace S := S.nk [] [(0, v_p_s), (1, .func (.func 44) #[] #[.pointer (some ⟨b_p_f_0, 0, none⟩)])] [] rfl (subR rfl)
 refine f_seq (f_region (lv S (rn_assign rfl) rfl ?_)); clear S; intro a S
 refine l_done (then_n (f_seq (f_region (lv S (rn_move (S.tm rfl)) rfl ?_)))); clear S; intro a S
 refine lv S (rn_move (S.tm rfl)) rfl ?_; clear S; intro a S
 refine l_enter S (fun _ => run_call (vs := [v_p_s, .func (.func 44) #[] #[.pointer (some ⟨b_p_f_0, 0, none⟩)]]) ⟨(S.tm rfl), (S.tm rfl), trivial⟩ Tryz.call47) (slices_IndexFunc_Best_record_Held_c1_ok _ v_p_s p_s (hs_p_s.mono (S.le_arg nil_sub)) b_p_f_0 p_f_0 ((S.le_arg nil_sub) _ _ hb_b_p_f_0) _ rfl) rfl ?_; clear S; intro v1 a w1 hv1 hk1 hn1 S
 subst hv1
 refine lv S (rn_geq (S.tm rfl) rfl) rfl ?_; clear S; intro a S
 refine lv S (rn_assign (S.tm rfl)) rfl ?_; clear S; intro a S
 refine l_done (then_n (wp_ret ?_))
 subst h
 exact f_ret S Tryz.results42 rfl rfl
theorem record_Held_ok (w : World) (v_p_k : Value) (p_k : List GKind) (rs_p_k : List R57) (hs_p_k : Slc (view w []) 5 v_p_k (rs_p_k.map R57.enc)) (hr_p_k : All2 (rel_57 (view w [])) p_k rs_p_k) (v_p_l : Value) (p_l : List GStep) (hs_p_l : Slc (view w []) 8 v_p_l (p_l.map GStep.enc)) (p_id : ByteArray) (p_at : Int) (r : (List ByteArray) × Int) (h : record_Held p_k p_l p_id p_at = some r) :
    Calls Tryz.prog 12 [v_p_k, v_p_l, sV p_id, iV p_at].toArray w (Ret w [] fun τ v _ => ∃ u1 : Value, v = .tuple #[u1, iV r.2] ∧ OwnV τ 9 1 u1 r.1.length (r.1.flatMap eStr)) := by
 refine f_enter [] [] Tryz.func12 rfl Tryz.ntmps12 rfl (by simp) (by simp [fps]) (by simp [fps]) fun a S => ?_
 unfold record_Held at h
 replace S := S.nk [] [(0, v_p_k), (1, v_p_l), (2, sV p_id), (3, iV p_at)] [] rfl (subR rfl)
 refine f_seq (f_region (l_box S (S.tm rfl) (cs := [sV p_id]) rfl rfl ?_)); clear S; intro a w1 b1 hz1 hk1 S
 refine lv S (rn_assign rfl) rfl ?_; clear S; intro a S
 refine lv S (rn_assign rfl) rfl ?_; clear S; intro a S
 refine l_done (then_n (f_seq (f_seq (f_region (lv S (rn_move (S.tm rfl)) rfl ?_))))); clear S; intro a S
 refine lv S (rn_move (S.tm rfl)) rfl ?_; clear S; intro a S
 obtain ⟨r1, hr1, h⟩ := bindE h
 refine l_enter S (fun _ => run_call (vs := [v_p_k, v_p_l]) ⟨(S.tm rfl), (S.tm rfl), trivial⟩ Tryz.call38) (record_checkBoth_ok _ v_p_k p_k rs_p_k (hs_p_k.mono (S.le_arg nil_sub)) (rels_57 (S.le_arg nil_sub) hr_p_k) v_p_l p_l (hs_p_l.mono (S.le_arg nil_sub)) _ hr1) rfl ?_; clear S; intro v1 a w2 hv1 hk2 hn1 S
 subst hv1
 refine lv S (rn_assign (S.tm rfl)) rfl ?_; clear S; intro a S
 refine l_done (then_n (f_seq (f_region (lv S (rn_move (S.tm rfl)) rfl ?_)))); clear S; intro a S
 refine lv S (rn_neq (S.tm rfl) rfl) rfl ?_; clear S; intro a S
 refine l_done (then_n (f_cond (S.tm rfl) (fun hb1 => ?_) (fun hb1 => ?_)))
 ·replace h := iteT h hb1
  refine f_seq (f_region (lv S (rn_move (S.tm rfl)) rfl ?_)); clear S; intro a S
  refine lv S (rn_assign rfl) rfl ?_; clear S; intro a S
  refine lv S (rn_assign (S.tm rfl)) rfl ?_; clear S; intro a S
  refine l_done (then_n (wp_ret (then_r ?_)))
  obtain rfl := Option.some.inj h
  exact f_ret2 S Tryz.results12 rfl rfl ⟨_, rfl, (ownV_nil _ _ _)⟩
 ·replace h := iteF h hb1
  refine wp_skip (then_n (f_seq (f_seq (f_region (lv S (rn_move (S.tm rfl)) rfl ?_))))); clear S; intro a S
  refine l_enter S (fun _ => run_call (vs := [iV p_at]) ⟨(S.tm rfl), trivial⟩ Tryz.call39) (words_IsMoment_ok _ p_at _ rfl) rfl ?_; clear S; intro v2 a w3 hv2 hk3 hn2 S
  subst hv2
  refine lv S (rn_not (S.tm rfl)) rfl ?_; clear S; intro a S
  refine l_done ?_
  replace S := S.nk [.blk b1 [sV p_id] 9] [(0, v_p_k), (1, v_p_l), (3, iV p_at), (6, .pointer (some ⟨b1, 0, none⟩)), (24, bV (!(words_IsMoment p_at)))] [true] rfl (subR rfl)
  refine then_n (f_cond (S.tm rfl) (fun hb2 => ?_) (fun hb2 => ?_))
  ·replace h := iteT h hb2
   refine f_seq (f_region (lv S (rn_assign rfl) rfl ?_)); clear S; intro a S
   refine lv S (rn_assign rfl) rfl ?_; clear S; intro a S
   refine l_done (then_n (wp_ret (then_r ?_)))
   obtain rfl := Option.some.inj h
   exact f_ret2 S Tryz.results12 rfl rfl ⟨_, rfl, (ownV_nil _ _ _)⟩
  ·replace h := iteF h hb2
   refine wp_skip (then_n (f_seq (f_region (lv S (rn_move (S.tm rfl)) rfl ?_)))); clear S; intro a S
   refine lv S (rn_move (S.tm rfl)) rfl ?_; clear S; intro a S
   obtain ⟨r2, hr2, h⟩ := bindE h
   have hz2 := S.keep.size
   refine l_enter S (fun _ => run_call (vs := [v_p_l, iV p_at]) ⟨(S.tm rfl), (S.tm rfl), trivial⟩ Tryz.call40) (record_follow_ok _ v_p_l p_l (hs_p_l.mono (S.le_arg nil_sub)) p_at _ hr2) rfl ?_; clear S; intro v3 a w4 hv3 hk4 hn3 S
   obtain ⟨u1, u2, rfl, ho1, ho2⟩ := hv3
   obtain ⟨rs1, ho3, hr3⟩ := ho1
   obtain ⟨φ1, hl1, hm1, S⟩ := S.see' hn3 hz2
   have hs1 := ho3.mono hm1
   have hr4 := rels_100 hm1 hr3
   have hs2 := ho2.mono hm1
   refine lv S (rn_move (S.tm rfl)) rfl ?_; clear S; intro a S
   refine lv S (rn_extract (S.tm rfl) rfl) rfl ?_; clear S; intro a S
   refine lv S (rn_extract (S.tm rfl) rfl) rfl ?_; clear S; intro a S
   refine lv S (rn_assign (S.tm rfl)) rfl ?_; clear S; intro a S
   refine lv S (rn_assign (S.tm rfl)) rfl ?_; clear S; intro a S
   refine l_done (then_n (f_seq (f_seq (f_region (lv S (rn_move (S.tm rfl)) rfl ?_))))); clear S; intro a S
   refine lv S (rn_load Tryz.isAgg9 (S.tm rfl) (S.cell (i := 0) rfl rfl)) rfl ?_; clear S; intro a S
   refine l_enter S (fun _ => run_call (vs := [u1, sV p_id]) ⟨(S.tm rfl), (S.tm rfl), trivial⟩ Tryz.call41) (record_has_ok _ u1 r2.1 rs1 (hs1.mono (S.le_new nil_sub)) (rels_100 (S.le_new nil_sub) hr4) p_id _ rfl) rfl ?_; clear S; intro v4 a w5 hv4 hk5 hn4 S
   subst hv4
   refine lv S (rn_not (S.tm rfl)) rfl ?_; clear S; intro a S
   refine l_done ?_
   replace S := S.nk [.blk b1 [sV p_id] 9] [(0, v_p_k), (6, .pointer (some ⟨b1, 0, none⟩)), (11, u1), (34, bV (!(record_has r2.1 p_id)))] [true] rfl (subR rfl)
   refine then_n (f_cond (S.tm rfl) (fun hb3 => ?_) (fun hb3 => ?_))
   ·replace h := iteT h hb3
    refine f_seq (f_region (lv S (rn_assign rfl) rfl ?_)); clear S; intro a S
    refine lv S (rn_assign rfl) rfl ?_; clear S; intro a S
    refine l_done (then_n (wp_ret (then_r ?_)))
    obtain rfl := Option.some.inj h
    exact f_ret2 S Tryz.results12 rfl rfl ⟨_, rfl, (ownV_nil _ _ _)⟩
   ·replace h := iteF h hb3
    refine wp_skip (then_n (f_seq (f_region (lv S (rn_assign rfl) rfl ?_)))); clear S; intro a S
    replace S := S.nil 9 1
    refine l_done (then_n (f_seq (f_seq (f_region (lv S (rn_move (S.tm rfl)) rfl ?_))))); clear S; intro a S
    refine lv S (rn_lenT sl_26 (S.tm rfl) (slc_lenD hs_p_k hr_p_k)) rfl ?_; clear S; intro a S
    refine lv S (rn_move rfl) rfl ?_; clear S; intro a S
    refine l_done (then_n ?_)
    replace S := S.nk [.own (.slice none 0 0) 9 1 ([] : List ByteArray).length (([] : List ByteArray).flatMap eStr), .blk b1 [sV p_id] 9] [(6, .pointer (some ⟨b1, 0, none⟩)), (11, u1), (13, (.slice none 0 0)), (35, v_p_k), (36, iV (p_k.length : Int)), (37, iV 0)] [true, true] rfl (subR rfl)
    obtain ⟨j1, hj1, h⟩ := joinE h
    refine f_join (fun a w' => ∃ x1 : List ByteArray, ∃ φ2 : View, ∃ v5 : Value, j1 x1 = some r ∧ View.le φ1 φ2 ∧ Sx w [] φ2 [.own v5 9 1 x1.length (x1.flatMap eStr), .blk b1 [sV p_id] 9] [(13, v5)] 53 a w') ?_ ?_
    ·refine wp_block (f_loop (fun (ys1 : List GKind) a w' => ∃ i1 : Nat, ∃ x1 : List ByteArray, ∃ φ2 : View, ∃ v5 : Value, (∃ dn, p_k = dn ++ ys1 ∧ dn.length = i1) ∧ record_Held_l1 r2 p_id j1 ys1 i1 x1 = some r ∧ View.le φ1 φ2 ∧ Sx w [] φ2 [.own v5 9 1 x1.length (x1.flatMap eStr), .blk b1 [sV p_id] 9] [(6, .pointer (some ⟨b1, 0, none⟩)), (11, u1), (13, v5), (35, v_p_k), (36, iV (p_k.length : Int)), (37, iV (i1 : Int))] 53 a w') List.length p_k ⟨0, ([] : List ByteArray), φ1, (.slice none 0 0), ⟨[], rfl, rfl⟩, h, View.le_refl _, S.nf [true, true] rfl (subR rfl)⟩ ?_)
     clear S h; rintro ys1 a w6 ⟨i1, x1, φ2, v5, ⟨dn, hd1, hi1⟩, h, hl2, S⟩
     cases ys1 with
     | nil =>
      rw [record_Held_l1.eq_1] at h
      refine f_seq (f_region (lv S (rn_lss (S.tm rfl) (S.tm rfl)) rfl ?_)); clear S; intro a S
      refine l_done ?_
      replace S := S.nk [.own v5 9 1 x1.length (x1.flatMap eStr), .blk b1 [sV p_id] 9] [(6, .pointer (some ⟨b1, 0, none⟩)), (11, u1), (13, v5), (35, v_p_k), (36, iV (p_k.length : Int)), (37, iV (i1 : Int)), (38, bV (decide ((i1 : Int) < (p_k.length : Int))))] [true, true] rfl (subR rfl)
      refine then_n (f_seq (wp_cond_false ((S.tm rfl).trans (congrArg Value.bool (rng_nil hd1 hi1))) (wp_exit (then_x (then_x (x_same ?_))))))
      refine then_n ?_
      exact ⟨x1, φ2, v5, h, hl2, S.nf [true, true] rfl ⟨rfl, trivial⟩⟩
     | cons y1 ys1 =>
      rw [record_Held_l1.eq_2] at h
      refine f_seq (f_region (lv S (rn_lss (S.tm rfl) (S.tm rfl)) rfl ?_)); clear S; intro a S
      refine l_done ?_
      replace S := S.nk [.own v5 9 1 x1.length (x1.flatMap eStr), .blk b1 [sV p_id] 9] [(6, .pointer (some ⟨b1, 0, none⟩)), (11, u1), (13, v5), (35, v_p_k), (36, iV (p_k.length : Int)), (37, iV (i1 : Int)), (38, bV (decide ((i1 : Int) < (p_k.length : Int))))] [true, true] rfl (subR rfl)
      refine then_n (f_seq (wp_cond_true ((S.tm rfl).trans (congrArg Value.bool (rng_cons hd1 hi1))) (wp_skip (then_n (f_seq ?_)))))
      obtain ⟨j2, hj2, h⟩ := joinE h
      refine f_join (fun a w' => ∃ x2 : List ByteArray, ∃ φ3 : View, ∃ v6 : Value, j2 x2 = some r ∧ View.le φ2 φ3 ∧ Sx w [] φ3 [.own v6 9 1 x2.length (x2.flatMap eStr), .blk b1 [sV p_id] 9] [(6, .pointer (some ⟨b1, 0, none⟩)), (11, u1), (13, v6), (35, v_p_k), (36, iV (p_k.length : Int)), (37, iV (i1 : Int))] 53 a w') ?_ ?_
      ·refine wp_block (f_seq (f_region ?_))
       obtain ⟨r3, hg1, hl4⟩ := All2.at hr_p_k (get_mid hd1 hi1)
       obtain ⟨u3, rfl, hs3⟩ := hl4
       obtain ⟨b2, o1, hm2, hr5⟩ := rn_indexT (a := a) (x := .tmp 35) (y := .tmp 37) (ty := 0) sl_26 hs_p_k hg1 rfl (S.tm rfl) (S.tm rfl)
       refine lv S (hr5 _) rfl ?_; clear S; intro a S
       clear hr5
       refine lv S (rn_ldA Tryz.isAgg57 Tryz.sizeOf57 (off := o1) (o := 0) (part := [sV y1.Key, sV y1.Race, u3.val, iV y1.Young, iV y1.Old]) rfl rfl (S.tm rfl) (hm2.at S.emb0)) rfl ?_; clear S; intro a S
       refine l_alloc S Tryz.zeroValue57 (cs := [sV k_empty, sV k_empty, .slice none 0 0, iV 0, iV 0]) rfl rfl ?_; clear S; intro a w9 b3 hz3 hk6 S
       refine l_store S (S.tm rfl) (S.tm rfl) (i := 0) (off := 0) rfl Tryz.sizeOf57 (vs := [sV y1.Key, sV y1.Race, u3.val, iV y1.Young, iV y1.Old]) rfl rfl rfl (all1 rfl (all1 rfl (all1 (SlcLen.one (slc_len hs3)) (all1 rfl (all1 rfl rfl))))) ?_; clear S; intro w10 hk7 S
       refine l_done (then_n (f_seq (f_region (lv S (rn_ldA Tryz.isAgg57 Tryz.sizeOf57 (off := 0) (o := 0) (part := [sV y1.Key, sV y1.Race, u3.val, iV y1.Young, iV y1.Old]) rfl rfl (S.tm rfl) (S.cellsAt (i := 0) rfl)) rfl ?_)))); clear S; intro a S
       refine lv S (rn_move (S.tm rfl)) rfl ?_; clear S; intro a S
       obtain ⟨r4, hr6, h⟩ := bindE h
       have hz4 := S.keep.size
       refine l_enter S (fun _ => run_call (vs := [.agg (R57.enc (R57.mk y1.Key y1.Race u3 y1.Young y1.Old)).toArray, u1]) ⟨(S.tm rfl), (S.tm rfl), trivial⟩ Tryz.call43) (record_record_ok _ y1 (R57.mk y1.Key y1.Race u3 y1.Young y1.Old) ⟨u3, rfl, (hs3.mono (S.le_arg nil_sub))⟩ u1 r2.1 rs1 (hs1.mono (View.le_trans hl2 (S.le_new nil_sub))) (rels_100 (View.le_trans hl2 (S.le_new nil_sub)) hr4) _ hr6) rfl ?_; clear S; intro v7 a w11 hv5 hk8 hn5 S
       obtain ⟨φ4, hl5, hm3, S⟩ := S.see' hn5 hz4
       have hs4 := hv5.mono hm3
       refine lv S (rn_makeFunc (us := #[]) (xs := [].toArray) (ys := [.tmp 6].toArray) (by simp) (evA ⟨(S.tm rfl), trivial⟩ (vs := [.pointer (some ⟨b1, 0, none⟩)]))) rfl ?_; clear S; intro a S
       refine l_enter S (fun _ => run_call (vs := [v7, .func (.func 44) #[] #[.pointer (some ⟨b1, 0, none⟩)]]) ⟨(S.tm rfl), (S.tm rfl), trivial⟩ Tryz.call42) (slices_ContainsFunc_Best_record_Held_c1_ok _ v7 r4 (hs4.mono (S.le_new nil_sub)) b1 p_id (S.blk_view (i := 2) rfl ((ne_nil (e' := .blk b1 [sV p_id] 9)) _ rfl)) _ rfl) rfl ?_; clear S; intro v8 a w12 hv6 hk9 hn6 S
       subst hv6
       refine l_done ?_
       replace S := S.nk [.blk b3 [sV y1.Key, sV y1.Race, u3.val, iV y1.Young, iV y1.Old] 57, .own v5 9 1 x1.length (x1.flatMap eStr), .blk b1 [sV p_id] 9] [(6, .pointer (some ⟨b1, 0, none⟩)), (11, u1), (13, v5), (15, .pointer (some ⟨b3, 0, none⟩)), (35, v_p_k), (36, iV (p_k.length : Int)), (37, iV (i1 : Int)), (45, bV (slices_ContainsFunc_Best_record_Held_c1 r4 p_id))] [true, true, true] rfl (subR rfl)
       refine then_n ?_
       obtain ⟨j3, hj3, h⟩ := joinE h
       refine f_join (fun a w' => ∃ x3 : List ByteArray, ∃ v9 : Value, j3 x3 = some r ∧ Sx w [] φ4 [.blk b3 [sV y1.Key, sV y1.Race, u3.val, iV y1.Young, iV y1.Old] 57, .own v9 9 1 x3.length (x3.flatMap eStr), .blk b1 [sV p_id] 9] [(6, .pointer (some ⟨b1, 0, none⟩)), (11, u1), (13, v9), (35, v_p_k), (36, iV (p_k.length : Int)), (37, iV (i1 : Int))] 53 a w') ?_ ?_
       ·refine f_cond (S.tm rfl) (fun hb4 => ?_) (fun hb4 => ?_)
        ·replace h := iteT h hb4
         refine f_region (lv S (rn_move (S.tm rfl)) rfl ?_); clear S; intro a S
         refine lv S (rn_fld fa_57_0 (S.tm rfl)) rfl ?_; clear S; intro a S
         refine lv S (rn_load Tryz.isAgg9 (S.tm rfl) (S.cell (i := 0) rfl rfl)) rfl ?_; clear S; intro a S
         refine l_buildSlice S Tryz.underlying37 Tryz.sizeOf9 Tryz.zeroValue9 rfl rfl (pv := [(0, sV y1.Key)]) ⟨rfl, (S.tm rfl), trivial⟩ (cs := [sV y1.Key]) (by kernel_rfl) rfl ?_; clear S; intro a w14 b4 hz5 hk10 S
         obtain ⟨hc1, h⟩ := chkE h
         refine l_appendT sl_37 enc_str S (S.tm rfl) (i := 2) rfl (S.tm rfl) (j := 0) rfl (ys := [y1.Key]) rfl rfl rfl rfl (by have := room_lt hc1; omega) rfl ?_; clear S; intro v10 a w15 hk11 S
         refine lv S (rn_assign (S.tm rfl)) rfl ?_; clear S; intro a S
         refine l_done (then_n ?_)
         exact ⟨(x1 ++ [y1.Key]), v10, h, S.nf [false, true, true, true] rfl (subR rfl)⟩
        ·replace h := iteF h hb4
         refine wp_skip (then_n ?_)
         exact ⟨x1, v5, h, S.nf [true, true, true] rfl (subR rfl)⟩
       clear S h; rintro a w13 ⟨x3, v9, h, S⟩; rw [hj3] at h; clear hj3 j3
       refine blk_n (then_n ?_)
       exact ⟨x3, φ4, v9, h, hl5, S.nf [false, true, true] rfl (subR rfl)⟩
      clear S h; rintro a w8 ⟨x2, φ3, v6, h, hl3, S⟩; rw [hj2] at h; clear hj2 j2
      refine then_n (f_region (lv S (rn_add (S.tm rfl) rfl) rfl ?_)); clear S; intro a S
      refine lv S (rn_move (S.tm rfl)) rfl ?_; clear S; intro a S
      refine l_done (then_n ?_)
      exact ⟨ys1, ⟨i1 + 1, x2, φ3, v6, ⟨_, (hd1).trans (List.append_cons _ _ _), by simp [hi1]⟩, h, (View.le_trans hl2 hl3), S.nf [true, true] rfl ⟨rfl, rfl, rfl, rfl, rfl, (congrArg (fun z => some (Value.int .i64 z)) (rng_next hd1 hi1 (slc_maxD hs_p_k hr_p_k))), trivial⟩⟩, Nat.lt_succ_self _⟩
    clear S h; rintro a w7 ⟨x1, φ2, v5, h, hl2, S⟩; rw [hj1] at h; clear hj1 j1
    refine then_n (f_seq (f_region (lv S (rn_move (S.tm rfl)) rfl ?_))); clear S; intro a S
    refine lv S (rn_assign (S.tm rfl)) rfl ?_; clear S; intro a S
    refine lv S (rn_assign rfl) rfl ?_; clear S; intro a S
    refine l_done (then_n (wp_ret ?_))
    obtain rfl := Option.some.inj h
    exact f_ret2 S Tryz.results12 rfl rfl ⟨_, rfl, (own_retT S (i := 0) rfl rfl)⟩
theorem record_kindAt_c1_ok (w : World) (p_x : GKind) (q_p_x : R57) (hq_p_x : rel_57 (view w []) p_x q_p_x) (b_p_a1 : Nat) (p_a1 : ByteArray) (hb_b_p_a1 : (view w []) b_p_a1 = some (.cells [sV p_a1].toArray 9 (0, 0))) (r : Bool) (h : record_kindAt_c1 p_x p_a1 = r) :
    Calls Tryz.prog 76 [.agg (R57.enc q_p_x).toArray, .pointer (some ⟨b_p_a1, 0, none⟩)].toArray w (Ret w [] fun _ v _ => v = bV r) := by
 obtain ⟨u1, rfl, hs1⟩ := hq_p_x
 refine f_enter [] [] Tryz.func76 rfl Tryz.ntmps76 rfl (by simp) (by simp [fps]) (by simp [fps]) fun a S => ?_
 unfold record_kindAt_c1 at h
 replace S := S.nk [] [(0, .agg #[sV p_x.Key, sV p_x.Race, u1.val, iV p_x.Young, iV p_x.Old]), (1, .pointer (some ⟨b_p_a1, 0, none⟩))] [] rfl (subR rfl)
 refine f_seq (f_region (l_box S (S.tm rfl) (cs := [sV p_x.Key, sV p_x.Race, u1.val, iV p_x.Young, iV p_x.Old]) rfl rfl ?_)); clear S; intro a w1 b1 hz1 hk1 S
 refine lv S (rn_assign rfl) rfl ?_; clear S; intro a S
 refine l_done (then_n (f_seq (f_region (lv S (rn_fld fa_57_0 (S.tm rfl)) rfl ?_)))); clear S; intro a S
 refine lv S (rn_load Tryz.isAgg9 (S.tm rfl) (S.cell (i := 0) rfl rfl)) rfl ?_; clear S; intro a S
 refine lv S (rn_ld Tryz.isAgg9 (off := 0) (o := 0) (S.tm rfl) ((mem_blk hb_b_p_a1).at S.emb0) rfl) rfl ?_; clear S; intro a S
 refine lv S (rn_seql (S.tm rfl) (S.tm rfl)) rfl ?_; clear S; intro a S
 refine lv S (rn_assign (S.tm rfl)) rfl ?_; clear S; intro a S
 refine l_done (then_n (wp_ret ?_))
 subst h
 exact f_ret S Tryz.results76 rfl rfl
theorem slices_IndexFunc_Kind_record_kindAt_c1_ok (w : World) (v_p_s : Value) (p_s : List GKind) (rs_p_s : List R57) (hs_p_s : Slc (view w []) 5 v_p_s (rs_p_s.map R57.enc)) (hr_p_s : All2 (rel_57 (view w [])) p_s rs_p_s) (b_p_f_0 : Nat) (p_f_0 : ByteArray) (hb_b_p_f_0 : (view w []) b_p_f_0 = some (.cells [sV p_f_0].toArray 9 (0, 0))) (r : Int) (h : slices_IndexFunc_Kind_record_kindAt_c1 p_s p_f_0 = r) :
    Calls Tryz.prog 62 [v_p_s, .func (.func 76) #[] #[.pointer (some ⟨b_p_f_0, 0, none⟩)]].toArray w (Ret w [] fun _ v _ => v = iV r) := by
 refine f_enter [] [] Tryz.func62 rfl Tryz.ntmps62 rfl (by simp) (by simp [fps]) (by simp [fps]) fun a S => ?_
 unfold slices_IndexFunc_Kind_record_kindAt_c1 at h
 replace S := S.nk [] [(0, v_p_s), (1, .func (.func 76) #[] #[.pointer (some ⟨b_p_f_0, 0, none⟩)])] [] rfl (subR rfl)
 refine f_seq (f_region (lv S (rn_assign rfl) rfl ?_)); clear S; intro a S
 refine l_done (then_n (f_seq (f_seq (f_region (lv S (rn_move (S.tm rfl)) rfl ?_))))); clear S; intro a S
 refine lv S (rn_lenT sl_26 (S.tm rfl) (slc_lenD hs_p_s hr_p_s)) rfl ?_; clear S; intro a S
 refine lv S (rn_move rfl) rfl ?_; clear S; intro a S
 refine l_done (then_n ?_)
 replace S := S.nk [] [(0, v_p_s), (1, .func (.func 76) #[] #[.pointer (some ⟨b_p_f_0, 0, none⟩)]), (7, iV (p_s.length : Int)), (8, iV 0)] [] rfl (subR rfl)
 obtain ⟨j1, hj1, h⟩ := joinE h
 refine f_join (fun a w' => j1 = r ∧ Sx w [] nov [] [] 19 a w') ?_ ?_
 ·refine wp_block (f_loop (fun (ys1 : List GKind) a w' => ∃ i1 : Nat, (∃ dn, p_s = dn ++ ys1 ∧ dn.length = i1) ∧ slices_IndexFunc_Kind_record_kindAt_c1_l1 p_f_0 j1 ys1 i1 = r ∧ Sx w [] nov [] [(0, v_p_s), (1, .func (.func 76) #[] #[.pointer (some ⟨b_p_f_0, 0, none⟩)]), (7, iV (p_s.length : Int)), (8, iV (i1 : Int))] 19 a w') List.length p_s ⟨0, ⟨[], rfl, rfl⟩, h, S.nf [] rfl (subR rfl)⟩ ?_)
  clear S h; rintro ys1 a w1 ⟨i1, ⟨dn, hd1, hi1⟩, h, S⟩
  cases ys1 with
  | nil =>
   rw [slices_IndexFunc_Kind_record_kindAt_c1_l1.eq_1] at h
   refine f_seq (f_region (lv S (rn_lss (S.tm rfl) (S.tm rfl)) rfl ?_)); clear S; intro a S
   refine l_done ?_
   replace S := S.nk [] [(0, v_p_s), (1, .func (.func 76) #[] #[.pointer (some ⟨b_p_f_0, 0, none⟩)]), (7, iV (p_s.length : Int)), (8, iV (i1 : Int)), (9, bV (decide ((i1 : Int) < (p_s.length : Int))))] [] rfl (subR rfl)
   refine then_n (f_seq (wp_cond_false ((S.tm rfl).trans (congrArg Value.bool (rng_nil hd1 hi1))) (wp_exit (then_x (then_x (x_same ?_))))))
   refine then_n ?_
   exact ⟨h, S.nf [] rfl trivial⟩
  | cons y1 ys1 =>
   rw [slices_IndexFunc_Kind_record_kindAt_c1_l1.eq_2] at h
   refine f_seq (f_region (lv S (rn_lss (S.tm rfl) (S.tm rfl)) rfl ?_)); clear S; intro a S
   refine l_done ?_
   replace S := S.nk [] [(0, v_p_s), (1, .func (.func 76) #[] #[.pointer (some ⟨b_p_f_0, 0, none⟩)]), (7, iV (p_s.length : Int)), (8, iV (i1 : Int)), (9, bV (decide ((i1 : Int) < (p_s.length : Int))))] [] rfl (subR rfl)
   refine then_n (f_seq (wp_cond_true ((S.tm rfl).trans (congrArg Value.bool (rng_cons hd1 hi1))) (wp_skip (then_n (f_seq (wp_block ?_))))))
   refine f_seq (f_region (lv S (rn_move (S.tm rfl)) rfl ?_)); clear S; intro a S
   refine lv S (rn_assign (S.tm rfl)) rfl ?_; clear S; intro a S
   refine l_done (then_n (f_seq (f_region (lv S (rn_move (S.tm rfl)) rfl ?_)))); clear S; intro a S
   refine lv S (rn_move (S.tm rfl)) rfl ?_; clear S; intro a S
   refine lv S (rn_move (S.tm rfl)) rfl ?_; clear S; intro a S
   obtain ⟨r1, hg1, hl1⟩ := All2.at hr_p_s (get_mid hd1 hi1)
   obtain ⟨u1, rfl, hs1⟩ := hl1
   obtain ⟨b1, o1, hm1, hr1⟩ := rn_indexT (a := a) (x := .tmp 12) (y := .tmp 13) (ty := 0) sl_26 hs_p_s hg1 rfl (S.tm rfl) (S.tm rfl)
   refine lv S (hr1 _) rfl ?_; clear S; intro a S
   clear hr1
   refine lv S (rn_ldA Tryz.isAgg57 Tryz.sizeOf57 (off := o1) (o := 0) (part := [sV y1.Key, sV y1.Race, u1.val, iV y1.Young, iV y1.Old]) rfl rfl (S.tm rfl) (hm1.at S.emb0)) rfl ?_; clear S; intro a S
   refine l_enter S (fun _ => run_callV (cap := [.pointer (some ⟨b_p_f_0, 0, none⟩)]) (S.tm rfl) (vs := [.agg (R57.enc (R57.mk y1.Key y1.Race u1 y1.Young y1.Old)).toArray]) ⟨(S.tm rfl), trivial⟩ Tryz.call76) (record_kindAt_c1_ok _ y1 (R57.mk y1.Key y1.Race u1 y1.Young y1.Old) ⟨u1, rfl, (hs1.mono (S.le_arg nil_sub))⟩ b_p_f_0 p_f_0 ((S.le_arg nil_sub) _ _ hb_b_p_f_0) _ rfl) rfl ?_; clear S; intro v1 a w3 hv1 hk1 hn1 S
   subst hv1
   refine l_done (then_n (f_cond (S.tm rfl) (fun hb1 => ?_) (fun hb1 => ?_)))
   ·replace h := iteT h hb1
    refine f_seq (f_region (lv S (rn_move (S.tm rfl)) rfl ?_)); clear S; intro a S
    refine lv S (rn_assign (S.tm rfl)) rfl ?_; clear S; intro a S
    refine l_done ?_
    replace S := S.nk [] [(4, iV (i1 : Int))] [] rfl ⟨rfl, trivial⟩
    refine then_n (wp_ret (blk_r (then_r (then_r (blk_r (then_r ?_))))))
    refine then_r ?_
    subst h
    exact f_ret S Tryz.results62 rfl rfl
   ·replace h := iteF h hb1
    refine wp_skip (blk_n (then_n (f_region (lv S (rn_add (S.tm rfl) rfl) rfl ?_)))); clear S; intro a S
    refine lv S (rn_move (S.tm rfl)) rfl ?_; clear S; intro a S
    refine l_done (then_n ?_)
    exact ⟨ys1, ⟨i1 + 1, ⟨_, (hd1).trans (List.append_cons _ _ _), by simp [hi1]⟩, h, S.nf [] rfl ⟨rfl, rfl, rfl, (congrArg (fun z => some (Value.int .i64 z)) (rng_next hd1 hi1 (slc_maxD hs_p_s hr_p_s))), trivial⟩⟩, Nat.lt_succ_self _⟩
 clear S h; rintro a w2 ⟨h, S⟩; rw [hj1] at h; clear hj1 j1
 refine then_n (f_seq (f_region (lv S (rn_assign rfl) rfl ?_))); clear S; intro a S
 refine l_done (then_n (wp_ret ?_))
 subst h
 exact f_ret S Tryz.results62 rfl rfl
theorem record_kindAt_ok (w : World) (v_p_k : Value) (p_k : List GKind) (rs_p_k : List R57) (hs_p_k : Slc (view w []) 5 v_p_k (rs_p_k.map R57.enc)) (hr_p_k : All2 (rel_57 (view w [])) p_k rs_p_k) (p_key : ByteArray) (r : Int) (h : record_kindAt p_k p_key = r) :
    Calls Tryz.prog 45 [v_p_k, sV p_key].toArray w (Ret w [] fun _ v _ => v = iV r) := by
 refine f_enter [] [] Tryz.func45 rfl Tryz.ntmps45 rfl (by simp) (by simp [fps]) (by simp [fps]) fun a S => ?_
 unfold record_kindAt at h
 replace S := S.nk [] [(0, v_p_k), (1, sV p_key)] [] rfl (subR rfl)
 refine f_seq (f_region (l_box S (S.tm rfl) (cs := [sV p_key]) rfl rfl ?_)); clear S; intro a w1 b1 hz1 hk1 S
 refine lv S (rn_assign rfl) rfl ?_; clear S; intro a S
 refine l_done (then_n (f_seq (f_region (lv S (rn_move (S.tm rfl)) rfl ?_)))); clear S; intro a S
 refine lv S (rn_makeFunc (us := #[]) (xs := [].toArray) (ys := [.tmp 3].toArray) (by simp) (evA ⟨(S.tm rfl), trivial⟩ (vs := [.pointer (some ⟨b1, 0, none⟩)]))) rfl ?_; clear S; intro a S
 refine l_enter S (fun _ => run_call (vs := [v_p_k, .func (.func 76) #[] #[.pointer (some ⟨b1, 0, none⟩)]]) ⟨(S.tm rfl), (S.tm rfl), trivial⟩ Tryz.call62) (slices_IndexFunc_Kind_record_kindAt_c1_ok _ v_p_k p_k rs_p_k (hs_p_k.mono (S.le_arg nil_sub)) (rels_57 (S.le_arg nil_sub) hr_p_k) b1 p_key (S.blk_view (i := 0) rfl ((ne_nil (e' := .blk b1 [sV p_key] 9)) _ rfl)) _ rfl) rfl ?_; clear S; intro v1 a w2 hv1 hk2 hn1 S
 subst hv1
 refine lv S (rn_assign (S.tm rfl)) rfl ?_; clear S; intro a S
 refine l_done (then_n (wp_ret ?_))
 subst h
 exact f_ret S Tryz.results45 rfl rfl
theorem record_Long_c1_ok (w : World) (p_b : GBest) (b_p_a1 : Nat) (p_a1 : ByteArray) (hb_b_p_a1 : (view w []) b_p_a1 = some (.cells [sV p_a1].toArray 9 (0, 0))) (r : Bool) (h : record_Long_c1 p_b p_a1 = r) :
    Calls Tryz.prog 48 [.agg (GBest.enc p_b).toArray, .pointer (some ⟨b_p_a1, 0, none⟩)].toArray w (Ret w [] fun _ v _ => v = bV r) := by
 refine f_enter [] [] Tryz.func48 rfl Tryz.ntmps48 rfl (by simp) (by simp [fps]) (by simp [fps]) fun a S => ?_
 unfold record_Long_c1 at h
 replace S := S.nk [] [(0, .agg (GBest.enc p_b).toArray), (1, .pointer (some ⟨b_p_a1, 0, none⟩))] [] rfl (subR rfl)
 refine f_seq (f_region (l_box S (S.tm rfl) (cs := (GBest.enc p_b)) rfl rfl ?_)); clear S; intro a w1 b1 hz1 hk1 S
 refine lv S (rn_assign rfl) rfl ?_; clear S; intro a S
 refine l_done (then_n (f_seq (f_region (lv S (rn_fld fa_80_1 (S.tm rfl)) rfl ?_)))); clear S; intro a S
 refine lv S (rn_load Tryz.isAgg9 (S.tm rfl) (S.cell (i := 0) rfl rfl)) rfl ?_; clear S; intro a S
 refine lv S (rn_ld Tryz.isAgg9 (off := 0) (o := 0) (S.tm rfl) ((mem_blk hb_b_p_a1).at S.emb0) rfl) rfl ?_; clear S; intro a S
 refine lv S (rn_seql (S.tm rfl) (S.tm rfl)) rfl ?_; clear S; intro a S
 refine lv S (rn_assign (S.tm rfl)) rfl ?_; clear S; intro a S
 refine l_done (then_n (wp_ret ?_))
 subst h
 exact f_ret S Tryz.results48 rfl rfl
theorem slices_IndexFunc_Best_record_Long_c1_ok (w : World) (v_p_s : Value) (p_s : List GBest) (hs_p_s : Slc (view w []) 6 v_p_s (p_s.map GBest.enc)) (b_p_f_0 : Nat) (p_f_0 : ByteArray) (hb_b_p_f_0 : (view w []) b_p_f_0 = some (.cells [sV p_f_0].toArray 9 (0, 0))) (r : Int) (h : slices_IndexFunc_Best_record_Long_c1 p_s p_f_0 = r) :
    Calls Tryz.prog 47 [v_p_s, .func (.func 48) #[] #[.pointer (some ⟨b_p_f_0, 0, none⟩)]].toArray w (Ret w [] fun _ v _ => v = iV r) := by
 refine f_enter [] [] Tryz.func47 rfl Tryz.ntmps47 rfl (by simp) (by simp [fps]) (by simp [fps]) fun a S => ?_
 unfold slices_IndexFunc_Best_record_Long_c1 at h
 replace S := S.nk [] [(0, v_p_s), (1, .func (.func 48) #[] #[.pointer (some ⟨b_p_f_0, 0, none⟩)])] [] rfl (subR rfl)
 refine f_seq (f_region (lv S (rn_assign rfl) rfl ?_)); clear S; intro a S
 refine l_done (then_n (f_seq (f_seq (f_region (lv S (rn_move (S.tm rfl)) rfl ?_))))); clear S; intro a S
 refine lv S (rn_lenT sl_78 (S.tm rfl) (slc_len hs_p_s)) rfl ?_; clear S; intro a S
 refine lv S (rn_move rfl) rfl ?_; clear S; intro a S
 refine l_done (then_n ?_)
 replace S := S.nk [] [(0, v_p_s), (1, .func (.func 48) #[] #[.pointer (some ⟨b_p_f_0, 0, none⟩)]), (7, iV (p_s.length : Int)), (8, iV 0)] [] rfl (subR rfl)
 obtain ⟨j1, hj1, h⟩ := joinE h
 refine f_join (fun a w' => j1 = r ∧ Sx w [] nov [] [] 19 a w') ?_ ?_
 ·refine wp_block (f_loop (fun (ys1 : List GBest) a w' => ∃ i1 : Nat, (∃ dn, p_s = dn ++ ys1 ∧ dn.length = i1) ∧ slices_IndexFunc_Best_record_Long_c1_l1 p_f_0 j1 ys1 i1 = r ∧ Sx w [] nov [] [(0, v_p_s), (1, .func (.func 48) #[] #[.pointer (some ⟨b_p_f_0, 0, none⟩)]), (7, iV (p_s.length : Int)), (8, iV (i1 : Int))] 19 a w') List.length p_s ⟨0, ⟨[], rfl, rfl⟩, h, S.nf [] rfl (subR rfl)⟩ ?_)
  clear S h; rintro ys1 a w1 ⟨i1, ⟨dn, hd1, hi1⟩, h, S⟩
  cases ys1 with
  | nil =>
   rw [slices_IndexFunc_Best_record_Long_c1_l1.eq_1] at h
   refine f_seq (f_region (lv S (rn_lss (S.tm rfl) (S.tm rfl)) rfl ?_)); clear S; intro a S
   refine l_done ?_
   replace S := S.nk [] [(0, v_p_s), (1, .func (.func 48) #[] #[.pointer (some ⟨b_p_f_0, 0, none⟩)]), (7, iV (p_s.length : Int)), (8, iV (i1 : Int)), (9, bV (decide ((i1 : Int) < (p_s.length : Int))))] [] rfl (subR rfl)
   refine then_n (f_seq (wp_cond_false ((S.tm rfl).trans (congrArg Value.bool (rng_nil hd1 hi1))) (wp_exit (then_x (then_x (x_same ?_))))))
   refine then_n ?_
   exact ⟨h, S.nf [] rfl trivial⟩
  | cons y1 ys1 =>
   rw [slices_IndexFunc_Best_record_Long_c1_l1.eq_2] at h
   refine f_seq (f_region (lv S (rn_lss (S.tm rfl) (S.tm rfl)) rfl ?_)); clear S; intro a S
   refine l_done ?_
   replace S := S.nk [] [(0, v_p_s), (1, .func (.func 48) #[] #[.pointer (some ⟨b_p_f_0, 0, none⟩)]), (7, iV (p_s.length : Int)), (8, iV (i1 : Int)), (9, bV (decide ((i1 : Int) < (p_s.length : Int))))] [] rfl (subR rfl)
   refine then_n (f_seq (wp_cond_true ((S.tm rfl).trans (congrArg Value.bool (rng_cons hd1 hi1))) (wp_skip (then_n (f_seq (wp_block ?_))))))
   refine f_seq (f_region (lv S (rn_move (S.tm rfl)) rfl ?_)); clear S; intro a S
   refine lv S (rn_assign (S.tm rfl)) rfl ?_; clear S; intro a S
   refine l_done (then_n (f_seq (f_region (lv S (rn_move (S.tm rfl)) rfl ?_)))); clear S; intro a S
   refine lv S (rn_move (S.tm rfl)) rfl ?_; clear S; intro a S
   refine lv S (rn_move (S.tm rfl)) rfl ?_; clear S; intro a S
   obtain ⟨b1, o1, hm1, hr1⟩ := rn_indexT (a := a) (x := .tmp 12) (y := .tmp 13) (ty := 0) sl_78 hs_p_s (get_mid hd1 hi1) rfl (S.tm rfl) (S.tm rfl)
   refine lv S (hr1 _) rfl ?_; clear S; intro a S
   clear hr1
   refine lv S (rn_ldA Tryz.isAgg80 Tryz.sizeOf80 (off := o1) (o := 0) (part := (GBest.enc y1)) rfl rfl (S.tm rfl) (hm1.at S.emb0)) rfl ?_; clear S; intro a S
   refine l_enter S (fun _ => run_callV (cap := [.pointer (some ⟨b_p_f_0, 0, none⟩)]) (S.tm rfl) (vs := [.agg (GBest.enc y1).toArray]) ⟨(S.tm rfl), trivial⟩ Tryz.call48) (record_Long_c1_ok _ y1 b_p_f_0 p_f_0 ((S.le_arg nil_sub) _ _ hb_b_p_f_0) _ rfl) rfl ?_; clear S; intro v1 a w3 hv1 hk1 hn1 S
   subst hv1
   refine l_done (then_n (f_cond (S.tm rfl) (fun hb1 => ?_) (fun hb1 => ?_)))
   ·replace h := iteT h hb1
    refine f_seq (f_region (lv S (rn_move (S.tm rfl)) rfl ?_)); clear S; intro a S
    refine lv S (rn_assign (S.tm rfl)) rfl ?_; clear S; intro a S
    refine l_done ?_
    replace S := S.nk [] [(4, iV (i1 : Int))] [] rfl ⟨rfl, trivial⟩
    refine then_n (wp_ret (blk_r (then_r (then_r (blk_r (then_r ?_))))))
    refine then_r ?_
    subst h
    exact f_ret S Tryz.results47 rfl rfl
   ·replace h := iteF h hb1
    refine wp_skip (blk_n (then_n (f_region (lv S (rn_add (S.tm rfl) rfl) rfl ?_)))); clear S; intro a S
    refine lv S (rn_move (S.tm rfl)) rfl ?_; clear S; intro a S
    refine l_done (then_n ?_)
    exact ⟨ys1, ⟨i1 + 1, ⟨_, (hd1).trans (List.append_cons _ _ _), by simp [hi1]⟩, h, S.nf [] rfl ⟨rfl, rfl, rfl, (congrArg (fun z => some (Value.int .i64 z)) (rng_next hd1 hi1 (slc_max hs_p_s))), trivial⟩⟩, Nat.lt_succ_self _⟩
 clear S h; rintro a w2 ⟨h, S⟩; rw [hj1] at h; clear hj1 j1
 refine then_n (f_seq (f_region (lv S (rn_assign rfl) rfl ?_))); clear S; intro a S
 refine l_done (then_n (wp_ret ?_))
 subst h
 exact f_ret S Tryz.results47 rfl rfl
set_option maxRecDepth 20000 in
theorem record_Long_ok (w : World) (v_p_k : Value) (p_k : List GKind) (rs_p_k : List R57) (hs_p_k : Slc (view w []) 5 v_p_k (rs_p_k.map R57.enc)) (hr_p_k : All2 (rel_57 (view w [])) p_k rs_p_k) (v_p_l : Value) (p_l : List GStep) (hs_p_l : Slc (view w []) 8 v_p_l (p_l.map GStep.enc)) (p_id : ByteArray) (p_kind : ByteArray) (p_at : Int) (r : Int × Int) (h : record_Long p_k p_l p_id p_kind p_at = some r) :
    Calls Tryz.prog 13 [v_p_k, v_p_l, sV p_id, sV p_kind, iV p_at].toArray w (Ret w [] fun _ v _ => v = .tuple #[iV r.1, iV r.2]) := by
 refine f_enter [] [] Tryz.func13 rfl Tryz.ntmps13 rfl (by simp) (by simp [fps]) (by simp [fps]) fun a S => ?_
 unfold record_Long at h
 replace S := S.nk [] [(0, v_p_k), (1, v_p_l), (2, sV p_id), (3, sV p_kind), (4, iV p_at)] [] rfl (subR rfl)
 refine f_seq (f_region (l_box S (S.tm rfl) (cs := [sV p_id]) rfl rfl ?_)); clear S; intro a w1 b1 hz1 hk1 S
 refine lv S (rn_assign rfl) rfl ?_; clear S; intro a S
 refine lv S (rn_assign rfl) rfl ?_; clear S; intro a S
 refine l_done (then_n (f_seq (f_seq (f_region (lv S (rn_move (S.tm rfl)) rfl ?_))))); clear S; intro a S
 refine lv S (rn_move (S.tm rfl)) rfl ?_; clear S; intro a S
 obtain ⟨r1, hr1, h⟩ := bindE h
 refine l_enter S (fun _ => run_call (vs := [v_p_k, v_p_l]) ⟨(S.tm rfl), (S.tm rfl), trivial⟩ Tryz.call38) (record_checkBoth_ok _ v_p_k p_k rs_p_k (hs_p_k.mono (S.le_arg nil_sub)) (rels_57 (S.le_arg nil_sub) hr_p_k) v_p_l p_l (hs_p_l.mono (S.le_arg nil_sub)) _ hr1) rfl ?_; clear S; intro v1 a w2 hv1 hk2 hn1 S
 subst hv1
 refine lv S (rn_assign (S.tm rfl)) rfl ?_; clear S; intro a S
 refine l_done (then_n (f_seq (f_region (lv S (rn_move (S.tm rfl)) rfl ?_)))); clear S; intro a S
 refine lv S (rn_neq (S.tm rfl) rfl) rfl ?_; clear S; intro a S
 refine l_done (then_n (f_cond (S.tm rfl) (fun hb1 => ?_) (fun hb1 => ?_)))
 ·replace h := iteT h hb1
  refine f_seq (f_region (lv S (rn_move (S.tm rfl)) rfl ?_)); clear S; intro a S
  refine lv S (rn_assign rfl) rfl ?_; clear S; intro a S
  refine lv S (rn_assign (S.tm rfl)) rfl ?_; clear S; intro a S
  refine l_done ?_
  replace S := S.nk [] [(10, iV 0), (11, iV r1)] [false] rfl (subR rfl)
  refine then_n (wp_ret (then_r ?_))
  obtain rfl := Option.some.inj h
  exact f_ret2 S Tryz.results13 rfl rfl rfl
 ·replace h := iteF h hb1
  refine wp_skip (then_n (f_seq (f_seq (f_region (lv S (rn_move (S.tm rfl)) rfl ?_))))); clear S; intro a S
  refine l_enter S (fun _ => run_call (vs := [iV p_at]) ⟨(S.tm rfl), trivial⟩ Tryz.call39) (words_IsMoment_ok _ p_at _ rfl) rfl ?_; clear S; intro v2 a w3 hv2 hk3 hn2 S
  subst hv2
  refine lv S (rn_not (S.tm rfl)) rfl ?_; clear S; intro a S
  refine l_done ?_
  replace S := S.nk [.blk b1 [sV p_id] 9] [(0, v_p_k), (1, v_p_l), (3, sV p_kind), (4, iV p_at), (7, .pointer (some ⟨b1, 0, none⟩)), (28, bV (!(words_IsMoment p_at)))] [true] rfl (subR rfl)
  refine then_n (f_cond (S.tm rfl) (fun hb2 => ?_) (fun hb2 => ?_))
  ·replace h := iteT h hb2
   refine f_seq (f_region (lv S (rn_assign rfl) rfl ?_)); clear S; intro a S
   refine lv S (rn_assign rfl) rfl ?_; clear S; intro a S
   refine l_done (then_n (wp_ret (then_r ?_)))
   obtain rfl := Option.some.inj h
   exact f_ret2 S Tryz.results13 rfl rfl rfl
  ·replace h := iteF h hb2
   refine wp_skip (then_n (f_seq (f_region (lv S (rn_move (S.tm rfl)) rfl ?_)))); clear S; intro a S
   refine lv S (rn_move (S.tm rfl)) rfl ?_; clear S; intro a S
   refine l_enter S (fun _ => run_call (vs := [v_p_k, sV p_kind]) ⟨(S.tm rfl), (S.tm rfl), trivial⟩ Tryz.call45) (record_kindAt_ok _ v_p_k p_k rs_p_k (hs_p_k.mono (S.le_arg nil_sub)) (rels_57 (S.le_arg nil_sub) hr_p_k) p_kind _ rfl) rfl ?_; clear S; intro v3 a w4 hv3 hk4 hn3 S
   subst hv3
   refine lv S (rn_assign (S.tm rfl)) rfl ?_; clear S; intro a S
   refine l_done (then_n (f_seq (f_seq (f_region (lv S (rn_move (S.tm rfl)) rfl ?_))))); clear S; intro a S
   refine lv S (rn_lss (S.tm rfl) rfl) rfl ?_; clear S; intro a S
   refine l_done (then_n (f_cond (S.tm rfl) (fun hb3 => ?_) (fun hb3 => ?_)))
   ·replace h := iteT h hb3
    refine f_seq (f_region (lv S (rn_assign rfl) rfl ?_)); clear S; intro a S
    refine lv S (rn_assign rfl) rfl ?_; clear S; intro a S
    refine l_done (then_n (wp_ret (then_r ?_)))
    obtain rfl := Option.some.inj h
    exact f_ret2 S Tryz.results13 rfl rfl rfl
   ·replace h := iteF h hb3
    refine wp_skip (then_n (f_seq (f_region (lv S (rn_move (S.tm rfl)) rfl ?_)))); clear S; intro a S
    refine lv S (rn_move (S.tm rfl)) rfl ?_; clear S; intro a S
    obtain ⟨r2, hr2, h⟩ := bindE h
    have hz2 := S.keep.size
    refine l_enter S (fun _ => run_call (vs := [v_p_l, iV p_at]) ⟨(S.tm rfl), (S.tm rfl), trivial⟩ Tryz.call40) (record_follow_ok _ v_p_l p_l (hs_p_l.mono (S.le_arg nil_sub)) p_at _ hr2) rfl ?_; clear S; intro v4 a w5 hv4 hk5 hn4 S
    obtain ⟨u1, u2, rfl, ho1, ho2⟩ := hv4
    obtain ⟨rs1, ho3, hr3⟩ := ho1
    obtain ⟨φ1, hl1, hm1, S⟩ := S.see' hn4 hz2
    have hs1 := ho3.mono hm1
    have hr4 := rels_100 hm1 hr3
    have hs2 := ho2.mono hm1
    refine lv S (rn_move (S.tm rfl)) rfl ?_; clear S; intro a S
    refine lv S (rn_extract (S.tm rfl) rfl) rfl ?_; clear S; intro a S
    refine lv S (rn_extract (S.tm rfl) rfl) rfl ?_; clear S; intro a S
    refine lv S (rn_assign (S.tm rfl)) rfl ?_; clear S; intro a S
    refine lv S (rn_assign (S.tm rfl)) rfl ?_; clear S; intro a S
    refine l_done ?_
    replace S := S.nk [.blk b1 [sV p_id] 9] [(0, v_p_k), (4, iV p_at), (7, .pointer (some ⟨b1, 0, none⟩)), (13, iV (record_kindAt p_k p_kind)), (14, u1)] [true] rfl (subR rfl)
    refine then_n (f_seq (f_seq (f_region (lv S (rn_move (S.tm rfl)) rfl ?_)))); clear S; intro a S
    refine lv S (rn_load Tryz.isAgg9 (S.tm rfl) (S.cell (i := 0) rfl rfl)) rfl ?_; clear S; intro a S
    refine l_enter S (fun _ => run_call (vs := [u1, sV p_id]) ⟨(S.tm rfl), (S.tm rfl), trivial⟩ Tryz.call41) (record_has_ok _ u1 r2.1 rs1 (hs1.mono (S.le_new nil_sub)) (rels_100 (S.le_new nil_sub) hr4) p_id _ rfl) rfl ?_; clear S; intro v5 a w6 hv5 hk6 hn5 S
    subst hv5
    refine lv S (rn_not (S.tm rfl)) rfl ?_; clear S; intro a S
    refine l_done (then_n (f_cond (S.tm rfl) (fun hb4 => ?_) (fun hb4 => ?_)))
    ·replace h := iteT h hb4
     refine f_seq (f_region (lv S (rn_assign rfl) rfl ?_)); clear S; intro a S
     refine lv S (rn_assign rfl) rfl ?_; clear S; intro a S
     refine l_done (then_n (wp_ret (then_r ?_)))
     obtain rfl := Option.some.inj h
     exact f_ret2 S Tryz.results13 rfl rfl rfl
    ·replace h := iteF h hb4
     refine wp_skip (then_n (f_seq (f_region (lv S (rn_move (S.tm rfl)) rfl ?_)))); clear S; intro a S
     refine lv S (rn_move (S.tm rfl)) rfl ?_; clear S; intro a S
     obtain ⟨hc1, h⟩ := chkE h
     obtain ⟨r3, hg1, hl2⟩ := all2_get hr_p_k hc1
     obtain ⟨u3, rfl, hs3⟩ := hl2
     obtain ⟨b2, o1, hm2, hr5⟩ := rn_indexT (a := a) (x := .tmp 44) (y := .tmp 45) (ty := 0) sl_26 hs_p_k hg1 (inB_get hc1).2 (S.tm rfl) (S.tm rfl)
     refine lv S (hr5 _) rfl ?_; clear S; intro a S
     clear hr5
     refine lv S (rn_ldA Tryz.isAgg57 Tryz.sizeOf57 (off := o1) (o := 0) (part := [sV ((nth p_k (record_kindAt p_k p_kind)).Key), sV ((nth p_k (record_kindAt p_k p_kind)).Race), u3.val, iV ((nth p_k (record_kindAt p_k p_kind)).Young), iV ((nth p_k (record_kindAt p_k p_kind)).Old)]) rfl rfl (S.tm rfl) (hm2.at S.emb0)) rfl ?_; clear S; intro a S
     refine lv S (rn_move (S.tm rfl)) rfl ?_; clear S; intro a S
     obtain ⟨r4, hr6, h⟩ := bindE h
     have hz3 := S.keep.size
     refine l_enter S (fun _ => run_call (vs := [.agg (R57.enc (R57.mk ((nth p_k (record_kindAt p_k p_kind)).Key) ((nth p_k (record_kindAt p_k p_kind)).Race) u3 ((nth p_k (record_kindAt p_k p_kind)).Young) ((nth p_k (record_kindAt p_k p_kind)).Old))).toArray, u1]) ⟨(S.tm rfl), (S.tm rfl), trivial⟩ Tryz.call46) (record_history_ok _ (nth p_k (record_kindAt p_k p_kind)) (R57.mk ((nth p_k (record_kindAt p_k p_kind)).Key) ((nth p_k (record_kindAt p_k p_kind)).Race) u3 ((nth p_k (record_kindAt p_k p_kind)).Young) ((nth p_k (record_kindAt p_k p_kind)).Old)) ⟨u3, rfl, (hs3.mono (S.le_arg nil_sub))⟩ u1 r2.1 rs1 (hs1.mono (S.le_new nil_sub)) (rels_100 (S.le_new nil_sub) hr4) _ hr6) rfl ?_; clear S; intro v6 a w7 hv6 hk7 hn6 S
     obtain ⟨φ2, hl3, hm3, S⟩ := S.see' hn6 hz3
     have hs4 := hv6.mono hm3
     refine lv S (rn_assign (S.tm rfl)) rfl ?_; clear S; intro a S
     refine l_done ?_
     replace S := S.nk [.blk b1 [sV p_id] 9] [(4, iV p_at), (7, .pointer (some ⟨b1, 0, none⟩)), (16, v6)] [true] rfl (subR rfl)
     refine then_n (f_seq (f_region (lv S (rn_move (S.tm rfl)) rfl ?_))); clear S; intro a S
     refine lv S (rn_makeFunc (us := #[]) (xs := [].toArray) (ys := [.tmp 7].toArray) (by simp) (evA ⟨(S.tm rfl), trivial⟩ (vs := [.pointer (some ⟨b1, 0, none⟩)]))) rfl ?_; clear S; intro a S
     refine l_enter S (fun _ => run_call (vs := [v6, .func (.func 48) #[] #[.pointer (some ⟨b1, 0, none⟩)]]) ⟨(S.tm rfl), (S.tm rfl), trivial⟩ Tryz.call47) (slices_IndexFunc_Best_record_Long_c1_ok _ v6 r4 ((ownV_slcT GBest.enc_ok hs4).mono (S.le_new nil_sub)) b1 p_id (S.blk_view (i := 0) rfl ((ne_nil (e' := .blk b1 [sV p_id] 9)) _ rfl)) _ rfl) rfl ?_; clear S; intro v7 a w8 hv7 hk8 hn7 S
     subst hv7
     refine lv S (rn_assign (S.tm rfl)) rfl ?_; clear S; intro a S
     refine l_done (then_n (f_seq (f_seq (f_region (lv S (rn_move (S.tm rfl)) rfl ?_))))); clear S; intro a S
     refine lv S (rn_lss (S.tm rfl) rfl) rfl ?_; clear S; intro a S
     refine l_done (then_n (f_cond (S.tm rfl) (fun hb5 => ?_) (fun hb5 => ?_)))
     ·replace h := iteT h hb5
      refine f_seq (f_region (lv S (rn_assign rfl) rfl ?_)); clear S; intro a S
      refine lv S (rn_assign rfl) rfl ?_; clear S; intro a S
      refine l_done (then_n (wp_ret (then_r ?_)))
      obtain rfl := Option.some.inj h
      exact f_ret2 S Tryz.results13 rfl rfl rfl
     ·replace h := iteF h hb5
      refine wp_skip (then_n (f_seq (f_seq (f_region (lv S (rn_move (S.tm rfl)) rfl ?_))))); clear S; intro a S
      refine lv S (rn_move (S.tm rfl)) rfl ?_; clear S; intro a S
      refine lv S (rn_add (S.tm rfl) rfl) rfl ?_; clear S; intro a S
      obtain ⟨hc2, h⟩ := chkE h
      obtain ⟨v8, hs5, hr7⟩ := rn_cutTl (a := a) (x := .tmp 55) (y := .tmp 57) (ty := 78) sl_78 (ownV_slcT GBest.enc_ok hs4) (S.tm rfl) (S.tm rfl) hc2
      refine lv S (hr7 _) rfl ?_; clear S; intro a S
      clear hr7
      refine lv S (rn_lenT sl_78 (S.tm rfl) (slc_len hs5)) rfl ?_; clear S; intro a S
      refine lv S (rn_move rfl) rfl ?_; clear S; intro a S
      refine l_done ?_
      replace S := S.nk [] [(4, iV p_at), (16, v6), (17, iV (slices_IndexFunc_Best_record_Long_c1 r4 p_id)), (58, v8), (59, iV ((cut r4 (W ((slices_IndexFunc_Best_record_Long_c1 r4 p_id) + 1)) r4.length).length : Int)), (60, iV 0)] [false] rfl (subR rfl)
      refine then_n ?_
      obtain ⟨j1, hj1, h⟩ := joinE h
      refine f_join (fun a w' => j1 = some r ∧ Sx w [] φ2 [] [(4, iV p_at), (16, v6), (17, iV (slices_IndexFunc_Best_record_Long_c1 r4 p_id))] 88 a w') ?_ ?_
      ·refine wp_block (f_loop (fun (ys1 : List GBest) a w' => ∃ i1 : Nat, (∃ dn, cut r4 (W ((slices_IndexFunc_Best_record_Long_c1 r4 p_id) + 1)) r4.length = dn ++ ys1 ∧ dn.length = i1) ∧ record_Long_l1 r4 p_id j1 ys1 i1 = some r ∧ Sx w [] φ2 [] [(4, iV p_at), (16, v6), (17, iV (slices_IndexFunc_Best_record_Long_c1 r4 p_id)), (58, v8), (59, iV ((cut r4 (W ((slices_IndexFunc_Best_record_Long_c1 r4 p_id) + 1)) r4.length).length : Int)), (60, iV (i1 : Int))] 88 a w') List.length (cut r4 (W ((slices_IndexFunc_Best_record_Long_c1 r4 p_id) + 1)) r4.length) ⟨0, ⟨[], rfl, rfl⟩, h, S.nf [] rfl (subR rfl)⟩ ?_)
       clear S h; rintro ys1 a w9 ⟨i1, ⟨dn, hd1, hi1⟩, h, S⟩
       cases ys1 with
       | nil =>
        rw [record_Long_l1.eq_1] at h
        refine f_seq (f_region (lv S (rn_lss (S.tm rfl) (S.tm rfl)) rfl ?_)); clear S; intro a S
        refine l_done ?_
        replace S := S.nk [] [(4, iV p_at), (16, v6), (17, iV (slices_IndexFunc_Best_record_Long_c1 r4 p_id)), (58, v8), (59, iV ((cut r4 (W ((slices_IndexFunc_Best_record_Long_c1 r4 p_id) + 1)) r4.length).length : Int)), (60, iV (i1 : Int)), (61, bV (decide ((i1 : Int) < ((cut r4 (W ((slices_IndexFunc_Best_record_Long_c1 r4 p_id) + 1)) r4.length).length : Int))))] [] rfl (subR rfl)
        refine then_n (f_seq (wp_cond_false ((S.tm rfl).trans (congrArg Value.bool (rng_nil hd1 hi1))) (wp_exit (then_x (then_x (x_same ?_))))))
        refine then_n ?_
        exact ⟨h, S.nf [] rfl (subR rfl)⟩
       | cons y1 ys1 =>
        rw [record_Long_l1.eq_2] at h
        refine f_seq (f_region (lv S (rn_lss (S.tm rfl) (S.tm rfl)) rfl ?_)); clear S; intro a S
        refine l_done ?_
        replace S := S.nk [] [(4, iV p_at), (16, v6), (17, iV (slices_IndexFunc_Best_record_Long_c1 r4 p_id)), (58, v8), (59, iV ((cut r4 (W ((slices_IndexFunc_Best_record_Long_c1 r4 p_id) + 1)) r4.length).length : Int)), (60, iV (i1 : Int)), (61, bV (decide ((i1 : Int) < ((cut r4 (W ((slices_IndexFunc_Best_record_Long_c1 r4 p_id) + 1)) r4.length).length : Int))))] [] rfl (subR rfl)
        refine then_n (f_seq (wp_cond_true ((S.tm rfl).trans (congrArg Value.bool (rng_cons hd1 hi1))) (wp_skip (then_n (f_seq (wp_block ?_))))))
        refine f_seq (f_region ?_)
        obtain ⟨b3, o2, hm4, hr8⟩ := rn_indexT (a := a) (x := .tmp 58) (y := .tmp 60) (ty := 0) sl_78 hs5 (get_mid hd1 hi1) rfl (S.tm rfl) (S.tm rfl)
        refine lv S (hr8 _) rfl ?_; clear S; intro a S
        clear hr8
        refine lv S (rn_ldA Tryz.isAgg80 Tryz.sizeOf80 (off := o2) (o := 0) (part := (GBest.enc y1)) rfl rfl (S.tm rfl) (hm4.at S.emb)) rfl ?_; clear S; intro a S
        refine l_alloc S Tryz.zeroValue80 (cs := [sV k_empty, sV k_empty, sV k_empty, iV 0, iV 0, bV false]) rfl rfl ?_; clear S; intro a w11 b4 hz4 hk9 S
        refine l_store S (S.tm rfl) (S.tm rfl) (i := 0) (off := 0) rfl Tryz.sizeOf80 (vs := (GBest.enc y1)) rfl rfl rfl rfl ?_; clear S; intro w12 hk10 S
        refine l_done (then_n (f_seq (d_region [] ([]) Tryz.mixed S rfl (by kernel_rfl) ?_))); clear S; intro w13 hk11 hsel S
        refine d_rest [0, 1, 2, 3, 4, 5, 6, 7] hsel (by kernel_rfl) rfl ?_
        clear hsel
        refine s_lv S rfl (rn_fld fa_80_3 (S.tm rfl)) rfl ?_; clear S; intro a S
        refine s_lv S rfl (rn_load Tryz.isAgg3 (S.tm rfl) (S.cell (i := 0) rfl rfl)) rfl ?_; clear S; intro a S
        refine s_lv S rfl (rn_move (S.tm rfl)) rfl ?_; clear S; intro a S
        refine s_lv S rfl (rn_move (S.tm rfl)) rfl ?_; clear S; intro a S
        obtain ⟨hc3, h⟩ := chkE h
        obtain ⟨b5, o3, hm5, hr9⟩ := rn_indexT (a := a) (x := .tmp 66) (y := .tmp 67) (ty := 0) sl_78 (ownV_slcT GBest.enc_ok hs4) (inB_get hc3).1 (inB_get hc3).2 (S.tm rfl) (S.tm rfl)
        refine s_lv S rfl (hr9 _) rfl ?_; clear S; intro a S
        clear hr9
        refine s_lv S rfl (rn_fld fa_80_3 (S.tm rfl)) rfl ?_; clear S; intro a S
        refine s_lv S rfl (rn_ld Tryz.isAgg3 (off := o3) (o := 3) (S.tm rfl) (hm5.at S.emb) rfl) rfl ?_; clear S; intro a S
        refine s_lv S rfl (rn_lss (S.tm rfl) (S.tm rfl)) rfl ?_; clear S; intro a S
        refine s_done ?_
        replace S := S.nk [.blk b4 (GBest.enc y1) 80] [(4, iV p_at), (16, v6), (17, iV (slices_IndexFunc_Best_record_Long_c1 r4 p_id)), (19, .pointer (some ⟨b4, 0, none⟩)), (58, v8), (59, iV ((cut r4 (W ((slices_IndexFunc_Best_record_Long_c1 r4 p_id) + 1)) r4.length).length : Int)), (60, iV (i1 : Int)), (71, bV (decide (y1.Time < ((nth r4 (slices_IndexFunc_Best_record_Long_c1 r4 p_id)).Time))))] [true] rfl (subR rfl)
        refine then_n (f_cond (S.tm rfl) (fun hb6 => ?_) (fun hb6 => ?_))
        ·replace h := iteT h hb6
         refine f_seq (d_region [] ([]) Tryz.mixed S rfl (by kernel_rfl) ?_); clear S; intro w14 hk12 hsel S
         refine d_rest [0, 1, 2, 3, 4, 5, 6, 7, 8, 9] hsel (by kernel_rfl) rfl ?_
         clear hsel
         refine s_lv S rfl (rn_fld fa_80_4 (S.tm rfl)) rfl ?_; clear S; intro a S
         refine s_lv S rfl (rn_load Tryz.isAgg3 (S.tm rfl) (S.cell (i := 0) rfl rfl)) rfl ?_; clear S; intro a S
         refine s_lv S rfl (rn_move (S.tm rfl)) rfl ?_; clear S; intro a S
         refine s_lv S rfl (rn_move (S.tm rfl)) rfl ?_; clear S; intro a S
         obtain ⟨hc4, h⟩ := chkE h
         obtain ⟨b6, o4, hm6, hr10⟩ := rn_indexT (a := a) (x := .tmp 74) (y := .tmp 75) (ty := 0) sl_78 (ownV_slcT GBest.enc_ok hs4) (inB_get hc4).1 (inB_get hc4).2 (S.tm rfl) (S.tm rfl)
         refine s_lv S rfl (hr10 _) rfl ?_; clear S; intro a S
         clear hr10
         refine s_lv S rfl (rn_fld fa_80_4 (S.tm rfl)) rfl ?_; clear S; intro a S
         refine s_lv S rfl (rn_ld Tryz.isAgg3 (off := o4) (o := 4) (S.tm rfl) (hm6.at S.emb) rfl) rfl ?_; clear S; intro a S
         refine s_lv S rfl (rn_sub (S.tm rfl) (S.tm rfl)) rfl ?_; clear S; intro a S
         refine s_lv S rfl (rn_assign (S.tm rfl)) rfl ?_; clear S; intro a S
         refine s_lv S rfl (rn_assign rfl) rfl ?_; clear S; intro a S
         refine s_done ?_
         replace S := S.nk [] [(10, iV (W (y1.Since - ((nth r4 (slices_IndexFunc_Best_record_Long_c1 r4 p_id)).Since)))), (11, iV 0)] [false] rfl (subR rfl)
         refine then_n (wp_ret (blk_r (then_r (then_r (blk_r (then_r ?_))))))
         refine then_r ?_
         obtain rfl := Option.some.inj h
         exact f_ret2 S Tryz.results13 rfl rfl rfl
        ·replace h := iteF h hb6
         refine wp_skip (blk_n (then_n (f_region (lv S (rn_add (S.tm rfl) rfl) rfl ?_)))); clear S; intro a S
         refine lv S (rn_move (S.tm rfl)) rfl ?_; clear S; intro a S
         refine l_done (then_n ?_)
         exact ⟨ys1, ⟨i1 + 1, ⟨_, (hd1).trans (List.append_cons _ _ _), by simp [hi1]⟩, h, S.nf [false] rfl ⟨rfl, rfl, rfl, rfl, rfl, (congrArg (fun z => some (Value.int .i64 z)) (rng_next hd1 hi1 (slc_max hs5))), trivial⟩⟩, Nat.lt_succ_self _⟩
      clear S h; rintro a w10 ⟨h, S⟩; rw [hj1] at h; clear hj1 j1
      refine then_n (f_seq (f_region (lv S (rn_move (S.tm rfl)) rfl ?_))); clear S; intro a S
      refine lv S (rn_move (S.tm rfl)) rfl ?_; clear S; intro a S
      refine lv S (rn_move (S.tm rfl)) rfl ?_; clear S; intro a S
      obtain ⟨hc5, h⟩ := chkE h
      obtain ⟨b7, o5, hm7, hr11⟩ := rn_indexT (a := a) (x := .tmp 82) (y := .tmp 83) (ty := 0) sl_78 (ownV_slcT GBest.enc_ok hs4) (inB_get hc5).1 (inB_get hc5).2 (S.tm rfl) (S.tm rfl)
      refine lv S (hr11 _) rfl ?_; clear S; intro a S
      clear hr11
      refine lv S (rn_fld fa_80_4 (S.tm rfl)) rfl ?_; clear S; intro a S
      refine lv S (rn_ld Tryz.isAgg3 (off := o5) (o := 4) (S.tm rfl) (hm7.at S.emb) rfl) rfl ?_; clear S; intro a S
      refine lv S (rn_sub (S.tm rfl) (S.tm rfl)) rfl ?_; clear S; intro a S
      refine lv S (rn_assign (S.tm rfl)) rfl ?_; clear S; intro a S
      refine lv S (rn_assign rfl) rfl ?_; clear S; intro a S
      refine l_done (then_n (wp_ret ?_))
      obtain rfl := Option.some.inj h
      exact f_ret2 S Tryz.results13 rfl rfl rfl
theorem record_checkSwum_ok (w : World) (p_s : GStep) (r : Int) (h : record_checkSwum p_s = some r) :
    Calls Tryz.prog 49 [.agg (GStep.enc p_s).toArray].toArray w (Ret w [] fun _ v _ => v = iV r) := by
 refine f_enter [] [] Tryz.func49 rfl Tryz.ntmps49 rfl (by simp) (by simp [fps]) (by simp [fps]) fun a S => ?_
 unfold record_checkSwum at h
 replace S := S.nk [] [(0, .agg (GStep.enc p_s).toArray)] [] rfl ⟨rfl, trivial⟩
 refine f_seq (f_region (l_box S (S.tm rfl) (cs := (GStep.enc p_s)) rfl rfl ?_)); clear S; intro a w1 b1 hz1 hk1 S
 refine lv S (rn_assign rfl) rfl ?_; clear S; intro a S
 refine l_done (then_n (f_seq (f_seq (f_region (lv S (rn_ldA Tryz.isAgg34 Tryz.sizeOf34 (off := 0) (o := 0) (part := (GStep.enc p_s)) rfl rfl (S.tm rfl) (S.cellsAt (i := 0) rfl)) rfl ?_))))); clear S; intro a S
 obtain ⟨r1, hr1, h⟩ := bindE h
 refine l_enter S (fun _ => run_call (vs := [.agg (GStep.enc p_s).toArray]) ⟨(S.tm rfl), trivial⟩ Tryz.call78) (record_checkStep_ok _ p_s _ hr1) rfl ?_; clear S; intro v1 a w2 hv1 hk2 hn1 S
 subst hv1
 refine lv S (rn_assign (S.tm rfl)) rfl ?_; clear S; intro a S
 refine l_done (then_n (f_seq (f_region (lv S (rn_move (S.tm rfl)) rfl ?_)))); clear S; intro a S
 refine lv S (rn_neq (S.tm rfl) rfl) rfl ?_; clear S; intro a S
 refine l_done (then_n (f_cond (S.tm rfl) (fun hb1 => ?_) (fun hb1 => ?_)))
 ·replace h := iteT h hb1
  refine f_seq (f_region (lv S (rn_move (S.tm rfl)) rfl ?_)); clear S; intro a S
  refine lv S (rn_assign (S.tm rfl)) rfl ?_; clear S; intro a S
  refine l_done (then_n (wp_ret (then_r ?_)))
  obtain rfl := Option.some.inj h
  exact f_ret S Tryz.results49 rfl rfl
 ·replace h := iteF h hb1
  refine wp_skip (then_n (f_seq (f_seq (f_region (lv S (rn_fld fa_34_1 (S.tm rfl)) rfl ?_))))); clear S; intro a S
  refine lv S (rn_load Tryz.isAgg3 (S.tm rfl) (S.cell (i := 0) rfl rfl)) rfl ?_; clear S; intro a S
  refine lv S (rn_neq (S.tm rfl) rfl) rfl ?_; clear S; intro a S
  refine l_done (then_n (f_cond (S.tm rfl) (fun hb2 => ?_) (fun hb2 => ?_)))
  ·replace h := iteT h hb2
   refine f_seq (f_region (lv S (rn_assign rfl) rfl ?_)); clear S; intro a S
   refine l_done (then_n (wp_ret (then_r ?_)))
   obtain rfl := Option.some.inj h
   exact f_ret S Tryz.results49 rfl rfl
  ·replace h := iteF h hb2
   refine wp_skip (then_n (f_seq (f_region (lv S (rn_assign rfl) rfl ?_)))); clear S; intro a S
   refine l_done (then_n (wp_ret ?_))
   obtain rfl := Option.some.inj h
   exact f_ret S Tryz.results49 rfl rfl
set_option maxRecDepth 20000 in
theorem record_Would_ok (w : World) (v_p_k : Value) (p_k : List GKind) (rs_p_k : List R57) (hs_p_k : Slc (view w []) 5 v_p_k (rs_p_k.map R57.enc)) (hr_p_k : All2 (rel_57 (view w [])) p_k rs_p_k) (v_p_l : Value) (p_l : List GStep) (hs_p_l : Slc (view w []) 8 v_p_l (p_l.map GStep.enc)) (p_s : GStep) (r : (List ByteArray) × Int) (h : record_Would p_k p_l p_s = some r) :
    Calls Tryz.prog 14 [v_p_k, v_p_l, .agg (GStep.enc p_s).toArray].toArray w (Ret w [] fun τ v _ => ∃ u1 : Value, v = .tuple #[u1, iV r.2] ∧ OwnV τ 9 1 u1 r.1.length (r.1.flatMap eStr)) := by
 refine f_enter [] [] Tryz.func14 rfl Tryz.ntmps14 rfl (by simp) (by simp [fps]) (by simp [fps]) fun a S => ?_
 unfold record_Would at h
 replace S := S.nk [] [(0, v_p_k), (1, v_p_l), (2, .agg (GStep.enc p_s).toArray)] [] rfl (subR rfl)
 refine f_seq (f_region (l_box S (S.tm rfl) (cs := (GStep.enc p_s)) rfl rfl ?_)); clear S; intro a w1 b1 hz1 hk1 S
 refine lv S (rn_assign rfl) rfl ?_; clear S; intro a S
 refine lv S (rn_assign rfl) rfl ?_; clear S; intro a S
 refine l_done (then_n (f_seq (f_seq (f_region (lv S (rn_move (S.tm rfl)) rfl ?_))))); clear S; intro a S
 refine lv S (rn_move (S.tm rfl)) rfl ?_; clear S; intro a S
 obtain ⟨r1, hr1, h⟩ := bindE h
 refine l_enter S (fun _ => run_call (vs := [v_p_k, v_p_l]) ⟨(S.tm rfl), (S.tm rfl), trivial⟩ Tryz.call38) (record_checkBoth_ok _ v_p_k p_k rs_p_k (hs_p_k.mono (S.le_arg nil_sub)) (rels_57 (S.le_arg nil_sub) hr_p_k) v_p_l p_l (hs_p_l.mono (S.le_arg nil_sub)) _ hr1) rfl ?_; clear S; intro v1 a w2 hv1 hk2 hn1 S
 subst hv1
 refine lv S (rn_assign (S.tm rfl)) rfl ?_; clear S; intro a S
 refine l_done (then_n (f_seq (f_region (lv S (rn_move (S.tm rfl)) rfl ?_)))); clear S; intro a S
 refine lv S (rn_neq (S.tm rfl) rfl) rfl ?_; clear S; intro a S
 refine l_done (then_n (f_cond (S.tm rfl) (fun hb1 => ?_) (fun hb1 => ?_)))
 ·replace h := iteT h hb1
  refine f_seq (f_region (lv S (rn_move (S.tm rfl)) rfl ?_)); clear S; intro a S
  refine lv S (rn_assign rfl) rfl ?_; clear S; intro a S
  refine lv S (rn_assign (S.tm rfl)) rfl ?_; clear S; intro a S
  refine l_done (then_n (wp_ret (then_r ?_)))
  obtain rfl := Option.some.inj h
  exact f_ret2 S Tryz.results14 rfl rfl ⟨_, rfl, (ownV_nil _ _ _)⟩
 ·replace h := iteF h hb1
  refine wp_skip (then_n (f_seq (f_seq (f_region (lv S (rn_ldA Tryz.isAgg34 Tryz.sizeOf34 (off := 0) (o := 0) (part := (GStep.enc p_s)) rfl rfl (S.tm rfl) (S.cellsAt (i := 0) rfl)) rfl ?_))))); clear S; intro a S
  obtain ⟨r2, hr2, h⟩ := bindE h
  refine l_enter S (fun _ => run_call (vs := [.agg (GStep.enc p_s).toArray]) ⟨(S.tm rfl), trivial⟩ Tryz.call49) (record_checkSwum_ok _ p_s _ hr2) rfl ?_; clear S; intro v2 a w3 hv2 hk3 hn2 S
  subst hv2
  refine lv S (rn_assign (S.tm rfl)) rfl ?_; clear S; intro a S
  refine l_done ?_
  replace S := S.nk [.blk b1 (GStep.enc p_s) 34] [(0, v_p_k), (1, v_p_l), (5, .pointer (some ⟨b1, 0, none⟩)), (9, iV r2)] [true] rfl (subR rfl)
  refine then_n (f_seq (f_region (lv S (rn_move (S.tm rfl)) rfl ?_))); clear S; intro a S
  refine lv S (rn_neq (S.tm rfl) rfl) rfl ?_; clear S; intro a S
  refine l_done (then_n (f_cond (S.tm rfl) (fun hb2 => ?_) (fun hb2 => ?_)))
  ·replace h := iteT h hb2
   refine f_seq (f_region (lv S (rn_move (S.tm rfl)) rfl ?_)); clear S; intro a S
   refine lv S (rn_assign rfl) rfl ?_; clear S; intro a S
   refine lv S (rn_assign (S.tm rfl)) rfl ?_; clear S; intro a S
   refine l_done (then_n (wp_ret (then_r ?_)))
   obtain rfl := Option.some.inj h
   exact f_ret2 S Tryz.results14 rfl rfl ⟨_, rfl, (ownV_nil _ _ _)⟩
  ·replace h := iteF h hb2
   refine wp_skip (then_n (f_seq (f_region (lv S (rn_move (S.tm rfl)) rfl ?_)))); clear S; intro a S
   obtain ⟨r3, hr3, h⟩ := bindE h
   have hz2 := S.keep.size
   refine l_enter S (fun _ => run_call (vs := [v_p_l, iV 345686400000]) ⟨(S.tm rfl), rfl, trivial⟩ Tryz.call40) (record_follow_ok _ v_p_l p_l (hs_p_l.mono (S.le_arg nil_sub)) 345686400000 _ hr3) rfl ?_; clear S; intro v3 a w4 hv3 hk4 hn3 S
   obtain ⟨u1, u2, rfl, ho1, ho2⟩ := hv3
   obtain ⟨rs1, ho3, hr4⟩ := ho1
   obtain ⟨φ1, hl1, hm1, S⟩ := S.see' hn3 hz2
   have hs1 := ho3.mono hm1
   have hr5 := rels_100 hm1 hr4
   have hs2 := ho2.mono hm1
   refine lv S (rn_move (S.tm rfl)) rfl ?_; clear S; intro a S
   refine lv S (rn_extract (S.tm rfl) rfl) rfl ?_; clear S; intro a S
   refine lv S (rn_extract (S.tm rfl) rfl) rfl ?_; clear S; intro a S
   refine lv S (rn_assign (S.tm rfl)) rfl ?_; clear S; intro a S
   refine lv S (rn_assign (S.tm rfl)) rfl ?_; clear S; intro a S
   refine l_done (then_n (f_seq (f_seq (f_region (lv S (rn_move (S.tm rfl)) rfl ?_))))); clear S; intro a S
   refine lv S (rn_fld fa_34_2 (S.tm rfl)) rfl ?_; clear S; intro a S
   refine lv S (rn_load Tryz.isAgg9 (S.tm rfl) (S.cell (i := 0) rfl rfl)) rfl ?_; clear S; intro a S
   refine l_enter S (fun _ => run_call (vs := [u1, sV p_s.Id]) ⟨(S.tm rfl), (S.tm rfl), trivial⟩ Tryz.call41) (record_has_ok _ u1 r3.1 rs1 (hs1.mono (S.le_new nil_sub)) (rels_100 (S.le_new nil_sub) hr5) p_s.Id _ rfl) rfl ?_; clear S; intro v4 a w5 hv4 hk5 hn4 S
   subst hv4
   refine l_done ?_
   replace S := S.nk [.blk b1 (GStep.enc p_s) 34] [(0, v_p_k), (5, .pointer (some ⟨b1, 0, none⟩)), (10, u1), (35, bV (record_has r3.1 p_s.Id))] [true] rfl (subR rfl)
   refine then_n (f_cond (S.tm rfl) (fun hb3 => ?_) (fun hb3 => ?_))
   ·replace h := iteT h hb3
    refine f_seq (f_region (lv S (rn_assign rfl) rfl ?_)); clear S; intro a S
    refine lv S (rn_assign rfl) rfl ?_; clear S; intro a S
    refine l_done (then_n (wp_ret (then_r ?_)))
    obtain rfl := Option.some.inj h
    exact f_ret2 S Tryz.results14 rfl rfl ⟨_, rfl, (ownV_nil _ _ _)⟩
   ·replace h := iteF h hb3
    refine wp_skip (then_n (f_seq (f_region (lv S (rn_assign rfl) rfl ?_)))); clear S; intro a S
    replace S := S.nil 9 1
    refine l_done (then_n (f_seq (f_seq (f_region (lv S (rn_move (S.tm rfl)) rfl ?_))))); clear S; intro a S
    refine lv S (rn_lenT sl_26 (S.tm rfl) (slc_lenD hs_p_k hr_p_k)) rfl ?_; clear S; intro a S
    refine lv S (rn_move rfl) rfl ?_; clear S; intro a S
    refine l_done (then_n ?_)
    replace S := S.nk [.own (.slice none 0 0) 9 1 ([] : List ByteArray).length (([] : List ByteArray).flatMap eStr), .blk b1 (GStep.enc p_s) 34] [(5, .pointer (some ⟨b1, 0, none⟩)), (10, u1), (12, (.slice none 0 0)), (36, v_p_k), (37, iV (p_k.length : Int)), (38, iV 0)] [true, true] rfl (subR rfl)
    obtain ⟨j1, hj1, h⟩ := joinE h
    refine f_join (fun a w' => ∃ x1 : List ByteArray, ∃ φ2 : View, ∃ v5 : Value, j1 x1 = some r ∧ View.le φ1 φ2 ∧ Sx w [] φ2 [.own v5 9 1 x1.length (x1.flatMap eStr), .blk b1 (GStep.enc p_s) 34] [(12, v5)] 69 a w') ?_ ?_
    ·refine wp_block (f_loop (fun (ys1 : List GKind) a w' => ∃ i1 : Nat, ∃ x1 : List ByteArray, ∃ φ2 : View, ∃ v5 : Value, (∃ dn, p_k = dn ++ ys1 ∧ dn.length = i1) ∧ record_Would_l1 r3 p_s j1 ys1 i1 x1 = some r ∧ View.le φ1 φ2 ∧ Sx w [] φ2 [.own v5 9 1 x1.length (x1.flatMap eStr), .blk b1 (GStep.enc p_s) 34] [(5, .pointer (some ⟨b1, 0, none⟩)), (10, u1), (12, v5), (36, v_p_k), (37, iV (p_k.length : Int)), (38, iV (i1 : Int))] 69 a w') List.length p_k ⟨0, ([] : List ByteArray), φ1, (.slice none 0 0), ⟨[], rfl, rfl⟩, h, View.le_refl _, S.nf [true, true] rfl (subR rfl)⟩ ?_)
     clear S h; rintro ys1 a w6 ⟨i1, x1, φ2, v5, ⟨dn, hd1, hi1⟩, h, hl2, S⟩
     cases ys1 with
     | nil =>
      rw [record_Would_l1.eq_1] at h
      refine f_seq (f_region (lv S (rn_lss (S.tm rfl) (S.tm rfl)) rfl ?_)); clear S; intro a S
      refine l_done ?_
      replace S := S.nk [.own v5 9 1 x1.length (x1.flatMap eStr), .blk b1 (GStep.enc p_s) 34] [(5, .pointer (some ⟨b1, 0, none⟩)), (10, u1), (12, v5), (36, v_p_k), (37, iV (p_k.length : Int)), (38, iV (i1 : Int)), (39, bV (decide ((i1 : Int) < (p_k.length : Int))))] [true, true] rfl (subR rfl)
      refine then_n (f_seq (wp_cond_false ((S.tm rfl).trans (congrArg Value.bool (rng_nil hd1 hi1))) (wp_exit (then_x (then_x (x_same ?_))))))
      refine then_n ?_
      exact ⟨x1, φ2, v5, h, hl2, S.nf [true, true] rfl ⟨rfl, trivial⟩⟩
     | cons y1 ys1 =>
      rw [record_Would_l1.eq_2] at h
      refine f_seq (f_region (lv S (rn_lss (S.tm rfl) (S.tm rfl)) rfl ?_)); clear S; intro a S
      refine l_done ?_
      replace S := S.nk [.own v5 9 1 x1.length (x1.flatMap eStr), .blk b1 (GStep.enc p_s) 34] [(5, .pointer (some ⟨b1, 0, none⟩)), (10, u1), (12, v5), (36, v_p_k), (37, iV (p_k.length : Int)), (38, iV (i1 : Int)), (39, bV (decide ((i1 : Int) < (p_k.length : Int))))] [true, true] rfl (subR rfl)
      refine then_n (f_seq (wp_cond_true ((S.tm rfl).trans (congrArg Value.bool (rng_cons hd1 hi1))) (wp_skip (then_n (f_seq ?_)))))
      obtain ⟨j2, hj2, h⟩ := joinE h
      refine f_join (fun a w' => ∃ x2 : List ByteArray, ∃ φ3 : View, ∃ v6 : Value, j2 x2 = some r ∧ View.le φ2 φ3 ∧ Sx w [] φ3 [.own v6 9 1 x2.length (x2.flatMap eStr), .blk b1 (GStep.enc p_s) 34] [(5, .pointer (some ⟨b1, 0, none⟩)), (10, u1), (12, v6), (36, v_p_k), (37, iV (p_k.length : Int)), (38, iV (i1 : Int))] 69 a w') ?_ ?_
      ·refine wp_block (f_seq (f_region ?_))
       obtain ⟨r4, hg1, hl4⟩ := All2.at hr_p_k (get_mid hd1 hi1)
       obtain ⟨u3, rfl, hs3⟩ := hl4
       obtain ⟨b2, o1, hm2, hr6⟩ := rn_indexT (a := a) (x := .tmp 36) (y := .tmp 38) (ty := 0) sl_26 hs_p_k hg1 rfl (S.tm rfl) (S.tm rfl)
       refine lv S (hr6 _) rfl ?_; clear S; intro a S
       clear hr6
       refine lv S (rn_ldA Tryz.isAgg57 Tryz.sizeOf57 (off := o1) (o := 0) (part := [sV y1.Key, sV y1.Race, u3.val, iV y1.Young, iV y1.Old]) rfl rfl (S.tm rfl) (hm2.at S.emb0)) rfl ?_; clear S; intro a S
       refine l_alloc S Tryz.zeroValue57 (cs := [sV k_empty, sV k_empty, .slice none 0 0, iV 0, iV 0]) rfl rfl ?_; clear S; intro a w9 b3 hz3 hk6 S
       refine l_store S (S.tm rfl) (S.tm rfl) (i := 0) (off := 0) rfl Tryz.sizeOf57 (vs := [sV y1.Key, sV y1.Race, u3.val, iV y1.Young, iV y1.Old]) rfl rfl rfl (all1 rfl (all1 rfl (all1 (SlcLen.one (slc_len hs3)) (all1 rfl (all1 rfl rfl))))) ?_; clear S; intro w10 hk7 S
       refine l_done (then_n (f_seq (f_region (lv S (rn_ldA Tryz.isAgg57 Tryz.sizeOf57 (off := 0) (o := 0) (part := [sV y1.Key, sV y1.Race, u3.val, iV y1.Young, iV y1.Old]) rfl rfl (S.tm rfl) (S.cellsAt (i := 0) rfl)) rfl ?_)))); clear S; intro a S
       refine lv S (rn_move (S.tm rfl)) rfl ?_; clear S; intro a S
       obtain ⟨r5, hr7, h⟩ := bindE h
       have hz4 := S.keep.size
       refine l_enter S (fun _ => run_call (vs := [.agg (R57.enc (R57.mk y1.Key y1.Race u3 y1.Young y1.Old)).toArray, u1]) ⟨(S.tm rfl), (S.tm rfl), trivial⟩ Tryz.call43) (record_record_ok _ y1 (R57.mk y1.Key y1.Race u3 y1.Young y1.Old) ⟨u3, rfl, (hs3.mono (S.le_arg nil_sub))⟩ u1 r3.1 rs1 (hs1.mono (View.le_trans hl2 (S.le_new nil_sub))) (rels_100 (View.le_trans hl2 (S.le_new nil_sub)) hr5) _ hr7) rfl ?_; clear S; intro v7 a w11 hv5 hk8 hn5 S
       obtain ⟨φ4, hl5, hm3, S⟩ := S.see' hn5 hz4
       have hs4 := hv5.mono hm3
       refine lv S (rn_assign (S.tm rfl)) rfl ?_; clear S; intro a S
       refine l_done (then_n (f_seq (d_region [] ([]) Tryz.mixed S rfl (by kernel_rfl) ?_))); clear S; intro w13 hk10 hsel S
       refine d_quiet 0 S hsel rfl rfl rfl (by kernel_rfl) (by kernel_rfl) rfl (fun _ hw => (rn_ldA Tryz.isAgg57 Tryz.sizeOf57 (off := 0) (o := 0) (part := [sV y1.Key, sV y1.Race, u3.val, iV y1.Young, iV y1.Old]) rfl rfl (S.tm rfl) ((S.blk_mem (i := 0) (cells := [sV y1.Key, sV y1.Race, u3.val, iV y1.Young, iV y1.Old]) (b := b3) (T := 57) rfl (ne_nil (e' := .blk b3 [sV y1.Key, sV y1.Race, u3.val, iV y1.Young, iV y1.Old] 57))).kept hw))) ?_; clear S; intro a S
       refine d_quiet 1 S hsel rfl rfl rfl (by kernel_rfl) (by kernel_rfl) rfl (fun _ hw => (rn_ldA Tryz.isAgg34 Tryz.sizeOf34 (off := 0) (o := 0) (part := (GStep.enc p_s)) rfl rfl (S.tm rfl) ((S.blk_mem (i := 2) (cells := (GStep.enc p_s)) (b := b1) (T := 34) rfl (ne_nil (e' := .blk b1 (GStep.enc p_s) 34))).kept hw))) ?_; clear S; intro a S
       refine d_loud1 2 (by kernel_rfl) rfl (l_enter S (fun _ => run_call (vs := [.agg (R57.enc (R57.mk y1.Key y1.Race u3 y1.Young y1.Old)).toArray, .agg (GStep.enc p_s).toArray]) ⟨(S.tm rfl), (S.tm rfl), trivial⟩ Tryz.call50) (record_isFor_ok _ y1 (R57.mk y1.Key y1.Race u3 y1.Young y1.Old) ⟨u3, rfl, (hs3.mono (S.le_arg nil_sub))⟩ p_s _ rfl) rfl ?_); clear S; intro v9 a w14 hv7 hk11 hn7 S
       subst hv7
       refine l_done (d_next hk11 (d_rest [3, 4, 5, 6, 7, 8, 9, 10, 11, 12, 13, 14, 15, 16] hsel (by kernel_rfl) rfl ?_))
       clear hsel
       refine s_lv S rfl (rn_move (S.tm rfl)) rfl ?_; clear S; intro a S
       obtain ⟨j3, hj3, h⟩ := joinE h
       refine s_cutm 13 (fun a w' => ∃ c1, j3 c1 = some r ∧ Keep [] w14 w' ∧ Sx w [] φ4 [.blk b3 [sV y1.Key, sV y1.Race, u3.val, iV y1.Young, iV y1.Old] 57, .own v5 9 1 x1.length (x1.flatMap eStr), .blk b1 (GStep.enc p_s) 34] [(5, .pointer (some ⟨b1, 0, none⟩)), (10, u1), (12, v5), (14, .pointer (some ⟨b3, 0, none⟩)), (36, v_p_k), (37, iV (p_k.length : Int)), (38, iV (i1 : Int)), (61, bV c1)] 69 a w') ?_ ?_
       ·rcases Bool.eq_false_or_eq_true (record_isFor y1 p_s) with hb4 | hb4
        ·replace h := iteT h hb4
         refine s_want S rfl rfl rfl rfl hb4 (s_lv0 S (rn_move (S.tm rfl)) rfl ?_); clear S; intro a S
         refine s_want S rfl rfl rfl rfl hb4 (s_lv0 S (rn_lenT sl_78 (S.tm rfl) (slc_len hs4)) rfl ?_); clear S; intro a S
         refine s_want S rfl rfl rfl rfl hb4 (s_lv0 S (rn_eql (S.tm rfl) rfl) rfl ?_); clear S; intro a S
         refine s_want S rfl rfl rfl rfl hb4 (s_lv0 S (rn_move (S.tm rfl)) rfl ?_); clear S; intro a S
         obtain ⟨j4, hj4, h⟩ := joinE h
         refine s_cutm 8 (fun a w' => ∃ c2, j4 c2 = some r ∧ Keep [] w14 w' ∧ Sx w [] φ4 [.blk b3 [sV y1.Key, sV y1.Race, u3.val, iV y1.Young, iV y1.Old] 57, .own v5 9 1 x1.length (x1.flatMap eStr), .blk b1 (GStep.enc p_s) 34] [(5, .pointer (some ⟨b1, 0, none⟩)), (10, u1), (12, v5), (14, .pointer (some ⟨b3, 0, none⟩)), (36, v_p_k), (37, iV (p_k.length : Int)), (38, iV (i1 : Int)), (48, bV (record_isFor y1 p_s)), (49, v7), (50, iV (r5.length : Int)), (51, bV (decide ((r5.length : Int) = 0))), (52, bV (decide ((r5.length : Int) = 0))), (60, bV c2)] 69 a w') ?_ ?_
         ·rcases Bool.eq_false_or_eq_true (decide ((r5.length : Int) = 0)) with hb5 | hb5
          ·replace h := iteT h hb5
           iterate 7 (refine s_skip S rfl rfl rfl rfl (neq_t hb5) rfl ?_ rfl; clear S; intro a S)
           refine s_want S rfl rfl rfl rfl hb4 (s_lv0 S (rn_or_t true hb5 (S.tm rfl) rfl) rfl ?_); clear S; intro a S
           refine s_done ?_
           exact ⟨_, h, Keep.refl _ _, S.nf [true, true, true] rfl (subR rfl)⟩
          ·replace h := iteF h hb5
           refine s_want S rfl rfl rfl rfl hb5 (s_lv0 S (rn_fld fa_34_7 (S.tm rfl)) rfl ?_); clear S; intro a S
           refine s_want S rfl rfl rfl rfl hb5 (s_lv0 S (rn_load Tryz.isAgg3 (S.tm rfl) (S.cell (i := 2) rfl rfl)) rfl ?_); clear S; intro a S
           refine s_want S rfl rfl rfl rfl hb5 (s_lv0 S (rn_move (S.tm rfl)) rfl ?_); clear S; intro a S
           refine s_want S rfl rfl rfl rfl hb5 ?_
           obtain ⟨hc1, h⟩ := chkE h
           obtain ⟨b4, o2, hm4, hr8⟩ := rn_indexT (a := a) (x := .tmp 55) (y := .const (iV 0)) (ty := 0) sl_78 hs4 (inB_get hc1).1 (inB_get hc1).2 (S.tm rfl) rfl
           refine s_lv0 S (hr8 _) rfl ?_; clear S; intro a S
           clear hr8
           refine s_want S rfl rfl rfl rfl hb5 (s_lv0 S (rn_fld fa_80_3 (S.tm rfl)) rfl ?_); clear S; intro a S
           refine s_want S rfl rfl rfl rfl hb5 (s_lv0 S (rn_ld Tryz.isAgg3 (off := o2) (o := 3) (S.tm rfl) (hm4.at S.emb) rfl) rfl ?_); clear S; intro a S
           refine s_want S rfl rfl rfl rfl hb5 (s_lv0 S (rn_leq (S.tm rfl) (S.tm rfl)) rfl ?_); clear S; intro a S
           refine s_want S rfl rfl rfl rfl hb4 (s_lv0 S (rn_or_f hb5 (S.tm rfl) (S.tm rfl)) rfl ?_); clear S; intro a S
           refine s_done ?_
           exact ⟨_, h, Keep.refl _ _, S.nf [true, true, true] rfl (subR rfl)⟩
         clear S h; rintro a w16 ⟨c2, h, hk12, S⟩; rw [hj4] at h; clear hj4 j4
         refine s_lv S rfl (rn_and_t hb4 (S.tm rfl) (S.tm rfl)) rfl ?_; clear S; intro a S
         refine s_done ?_
         exact ⟨_, h, hk12, S.nf [true, true, true] rfl (subR rfl)⟩
        ·replace h := iteF h hb4
         iterate 4 (refine s_skip S rfl rfl rfl rfl (neq_f hb4) rfl ?_ rfl; clear S; intro a S)
         iterate 7 (refine s_skipU S rfl rfl rfl rfl rfl ?_; clear S; intro a S)
         refine s_skip S rfl rfl rfl rfl (neq_f hb4) rfl ?_ rfl; clear S; intro a S
         refine s_lv S rfl (rn_and_f true hb4 (S.tm rfl) rfl) rfl ?_; clear S; intro a S
         refine s_done ?_
         exact ⟨_, h, Keep.refl _ _, S.nf [true, true, true] rfl (subR rfl)⟩
       clear S h; rintro a w15 ⟨c1, h, hk13, S⟩; rw [hj3] at h; clear hj3 j3
       refine s_done ?_
       replace S := S.nk [.blk b3 [sV y1.Key, sV y1.Race, u3.val, iV y1.Young, iV y1.Old] 57, .own v5 9 1 x1.length (x1.flatMap eStr), .blk b1 (GStep.enc p_s) 34] [(5, .pointer (some ⟨b1, 0, none⟩)), (10, u1), (12, v5), (14, .pointer (some ⟨b3, 0, none⟩)), (36, v_p_k), (37, iV (p_k.length : Int)), (38, iV (i1 : Int)), (61, bV c1)] [true, true, true] rfl (subR rfl)
       refine then_n ?_
       obtain ⟨j5, hj5, h⟩ := joinE h
       refine f_join (fun a w' => ∃ x3 : List ByteArray, ∃ v10 : Value, j5 x3 = some r ∧ Sx w [] φ4 [.blk b3 [sV y1.Key, sV y1.Race, u3.val, iV y1.Young, iV y1.Old] 57, .own v10 9 1 x3.length (x3.flatMap eStr), .blk b1 (GStep.enc p_s) 34] [(5, .pointer (some ⟨b1, 0, none⟩)), (10, u1), (12, v10), (36, v_p_k), (37, iV (p_k.length : Int)), (38, iV (i1 : Int))] 69 a w') ?_ ?_
       ·refine f_cond (S.tm rfl) (fun hb6 => ?_) (fun hb6 => ?_)
        ·replace h := iteT h hb6
         refine f_region (lv S (rn_move (S.tm rfl)) rfl ?_); clear S; intro a S
         refine lv S (rn_fld fa_57_0 (S.tm rfl)) rfl ?_; clear S; intro a S
         refine lv S (rn_load Tryz.isAgg9 (S.tm rfl) (S.cell (i := 0) rfl rfl)) rfl ?_; clear S; intro a S
         refine l_buildSlice S Tryz.underlying37 Tryz.sizeOf9 Tryz.zeroValue9 rfl rfl (pv := [(0, sV y1.Key)]) ⟨rfl, (S.tm rfl), trivial⟩ (cs := [sV y1.Key]) (by kernel_rfl) rfl ?_; clear S; intro a w18 b5 hz5 hk14 S
         obtain ⟨hc2, h⟩ := chkE h
         refine l_appendT sl_37 enc_str S (S.tm rfl) (i := 2) rfl (S.tm rfl) (j := 0) rfl (ys := [y1.Key]) rfl rfl rfl rfl (by have := room_lt hc2; omega) rfl ?_; clear S; intro v11 a w19 hk15 S
         refine lv S (rn_assign (S.tm rfl)) rfl ?_; clear S; intro a S
         refine l_done (then_n ?_)
         exact ⟨(x1 ++ [y1.Key]), v11, h, S.nf [false, true, true, true] rfl (subR rfl)⟩
        ·replace h := iteF h hb6
         refine wp_skip (then_n ?_)
         exact ⟨x1, v5, h, S.nf [true, true, true] rfl (subR rfl)⟩
       clear S h; rintro a w17 ⟨x3, v10, h, S⟩; rw [hj5] at h; clear hj5 j5
       refine blk_n (then_n ?_)
       exact ⟨x3, φ4, v10, h, hl5, S.nf [false, true, true] rfl (subR rfl)⟩
      clear S h; rintro a w8 ⟨x2, φ3, v6, h, hl3, S⟩; rw [hj2] at h; clear hj2 j2
      refine then_n (f_region (lv S (rn_add (S.tm rfl) rfl) rfl ?_)); clear S; intro a S
      refine lv S (rn_move (S.tm rfl)) rfl ?_; clear S; intro a S
      refine l_done (then_n ?_)
      exact ⟨ys1, ⟨i1 + 1, x2, φ3, v6, ⟨_, (hd1).trans (List.append_cons _ _ _), by simp [hi1]⟩, h, (View.le_trans hl2 hl3), S.nf [true, true] rfl ⟨rfl, rfl, rfl, rfl, rfl, (congrArg (fun z => some (Value.int .i64 z)) (rng_next hd1 hi1 (slc_maxD hs_p_k hr_p_k))), trivial⟩⟩, Nat.lt_succ_self _⟩
    clear S h; rintro a w7 ⟨x1, φ2, v5, h, hl2, S⟩; rw [hj1] at h; clear hj1 j1
    refine then_n (f_seq (f_region (lv S (rn_move (S.tm rfl)) rfl ?_))); clear S; intro a S
    refine lv S (rn_assign (S.tm rfl)) rfl ?_; clear S; intro a S
    refine lv S (rn_assign rfl) rfl ?_; clear S; intro a S
    refine l_done (then_n (wp_ret ?_))
    obtain rfl := Option.some.inj h
    exact f_ret2 S Tryz.results14 rfl rfl ⟨_, rfl, (own_retT S (i := 0) rfl rfl)⟩
theorem record_ask_ok (w : World) (ψ : View) (hψ : View.le ψ (view w [])) (v_p_k : Value) (p_k : List GKind) (rs_p_k : List R57) (hs_p_k : Slc ψ 5 v_p_k (rs_p_k.map R57.enc)) (hr_p_k : All2 (rel_57 ψ) p_k rs_p_k) (v_p_l : Value) (p_l : List GStep) (hs_p_l : Slc ψ 8 v_p_l (p_l.map GStep.enc)) (p_kind : ByteArray) (p_at : Int) (r : GKind × (List Grecord_swum) × Int) (h : record_ask p_k p_l p_kind p_at = some r) :
    Calls Tryz.prog 51 [v_p_k, v_p_l, sV p_kind, iV p_at].toArray w (Ret w [] fun τ v _ => ∃ u1 : Value, ∃ u2 : Value, v = .tuple #[u1, u2, iV r.2.2] ∧ (∃ q : R57, u1 = .agg (R57.enc q).toArray ∧ rel_57 (join ψ τ) r.1 q) ∧ SlcD τ 1 RP.enc rel_100 u2 r.2.1) := by
 refine f_enter [] [] Tryz.func51 rfl Tryz.ntmps51 rfl (by simp) (by simp [fps]) (by simp [fps]) fun a S => ?_
 unfold record_ask at h
 replace S := S.nk [] [(0, v_p_k), (1, v_p_l), (2, sV p_kind), (3, iV p_at)] [] rfl (subR rfl)
 refine f_seq (f_region (l_alloc S Tryz.zeroValue57 (cs := [sV k_empty, sV k_empty, .slice none 0 0, iV 0, iV 0]) rfl rfl ?_)); clear S; intro a w1 b1 hz1 hk1 S
 refine lv S (rn_assign rfl) rfl ?_; clear S; intro a S
 refine lv S (rn_assign rfl) rfl ?_; clear S; intro a S
 refine l_done (then_n (f_seq (f_seq (f_region (lv S (rn_move (S.tm rfl)) rfl ?_))))); clear S; intro a S
 refine lv S (rn_move (S.tm rfl)) rfl ?_; clear S; intro a S
 obtain ⟨r1, hr1, h⟩ := bindE h
 refine l_enter S (fun _ => run_call (vs := [v_p_k, v_p_l]) ⟨(S.tm rfl), (S.tm rfl), trivial⟩ Tryz.call38) (record_checkBoth_ok _ v_p_k p_k rs_p_k (hs_p_k.mono (View.le_trans hψ (S.le_arg nil_sub))) (rels_57 (View.le_trans hψ (S.le_arg nil_sub)) hr_p_k) v_p_l p_l (hs_p_l.mono (View.le_trans hψ (S.le_arg nil_sub))) _ hr1) rfl ?_; clear S; intro v1 a w2 hv1 hk2 hn1 S
 subst hv1
 refine lv S (rn_assign (S.tm rfl)) rfl ?_; clear S; intro a S
 refine l_done (then_n (f_seq (f_region (lv S (rn_move (S.tm rfl)) rfl ?_)))); clear S; intro a S
 refine lv S (rn_neq (S.tm rfl) rfl) rfl ?_; clear S; intro a S
 refine l_done (then_n (f_cond (S.tm rfl) (fun hb1 => ?_) (fun hb1 => ?_)))
 ·replace h := iteT h hb1
  refine f_seq (f_region (lv S (rn_bld bt_57 (pv := []) trivial (cs := [sV k_empty, sV k_empty, .slice none 0 0, iV 0, iV 0]) (by kernel_rfl)) rfl ?_)); clear S; intro a S
  refine lv S (rn_move (S.tm rfl)) rfl ?_; clear S; intro a S
  refine l_store S (S.tm rfl) (S.tm rfl) (i := 0) (off := 0) rfl Tryz.sizeOf57 (vs := [sV k_empty, sV k_empty, .slice none 0 0, iV 0, iV 0]) rfl rfl rfl rfl ?_; clear S; intro w3 hk3 S
  refine lv S (rn_assign rfl) rfl ?_; clear S; intro a S
  refine lv S (rn_assign (S.tm rfl)) rfl ?_; clear S; intro a S
  refine l_done ?_
  replace S := S.nk [.blk b1 [sV k_empty, sV k_empty, .slice none 0 0, iV 0, iV 0] 57] [(8, .pointer (some ⟨b1, 0, none⟩)), (9, .slice none 0 0), (10, iV r1)] [true] rfl (subR rfl)
  refine then_n (wp_ret (then_r ?_))
  obtain rfl := Option.some.inj h
  exact f_retG S (rs := [.cell 8 57, .tmp 9, .tmp 10]) (vs := [.agg (R57.enc (R57.mk k_empty k_empty ⟨.slice none 0 0, rfl⟩ 0 0)).toArray, .slice none 0 0, iV r1]) Tryz.results51 ⟨(res_cell (off := 0) S rfl Tryz.isAgg57 Tryz.sizeOf57 rfl (S.cellsAt (i := 0) rfl)), (res_tmp S rfl), (res_tmp S rfl), trivial⟩ rfl ⟨_, _, rfl, ⟨(R57.mk k_empty k_empty ⟨.slice none 0 0, rfl⟩ 0 0), rfl, rel_57_mono (all_out hψ S.le_newer) _ _ ⟨⟨.slice none 0 0, rfl⟩, rfl, (slc_nil _ _)⟩⟩, ⟨[], slc_nil _ _, .nil⟩⟩
 ·replace h := iteF h hb1
  refine wp_skip (then_n (f_seq (f_region (lv S (rn_move (S.tm rfl)) rfl ?_)))); clear S; intro a S
  refine lv S (rn_move (S.tm rfl)) rfl ?_; clear S; intro a S
  refine l_enter S (fun _ => run_call (vs := [v_p_k, sV p_kind]) ⟨(S.tm rfl), (S.tm rfl), trivial⟩ Tryz.call45) (record_kindAt_ok _ v_p_k p_k rs_p_k (hs_p_k.mono (View.le_trans hψ (S.le_arg nil_sub))) (rels_57 (View.le_trans hψ (S.le_arg nil_sub)) hr_p_k) p_kind _ rfl) rfl ?_; clear S; intro v2 a w4 hv2 hk4 hn2 S
  subst hv2
  refine lv S (rn_assign (S.tm rfl)) rfl ?_; clear S; intro a S
  refine l_done ?_
  replace S := S.nk [.blk b1 [sV k_empty, sV k_empty, .slice none 0 0, iV 0, iV 0] 57] [(0, v_p_k), (1, v_p_l), (3, iV p_at), (8, .pointer (some ⟨b1, 0, none⟩)), (12, iV (record_kindAt p_k p_kind))] [true] rfl (subR rfl)
  refine then_n (f_seq (f_seq (f_region (lv S (rn_move (S.tm rfl)) rfl ?_)))); clear S; intro a S
  refine lv S (rn_lss (S.tm rfl) rfl) rfl ?_; clear S; intro a S
  refine l_done (then_n (f_cond (S.tm rfl) (fun hb2 => ?_) (fun hb2 => ?_)))
  ·replace h := iteT h hb2
   refine f_seq (f_region (lv S (rn_bld bt_57 (pv := []) trivial (cs := [sV k_empty, sV k_empty, .slice none 0 0, iV 0, iV 0]) (by kernel_rfl)) rfl ?_)); clear S; intro a S
   refine l_store S (S.tm rfl) (S.tm rfl) (i := 0) (off := 0) rfl Tryz.sizeOf57 (vs := [sV k_empty, sV k_empty, .slice none 0 0, iV 0, iV 0]) rfl rfl rfl rfl ?_; clear S; intro w5 hk5 S
   refine lv S (rn_assign rfl) rfl ?_; clear S; intro a S
   refine lv S (rn_assign rfl) rfl ?_; clear S; intro a S
   refine l_done (then_n (wp_ret (then_r ?_)))
   obtain rfl := Option.some.inj h
   exact f_retG S (rs := [.cell 8 57, .tmp 9, .tmp 10]) (vs := [.agg (R57.enc (R57.mk k_empty k_empty ⟨.slice none 0 0, rfl⟩ 0 0)).toArray, .slice none 0 0, iV 8]) Tryz.results51 ⟨(res_cell (off := 0) S rfl Tryz.isAgg57 Tryz.sizeOf57 rfl (S.cellsAt (i := 0) rfl)), (res_tmp S rfl), (res_tmp S rfl), trivial⟩ rfl ⟨_, _, rfl, ⟨(R57.mk k_empty k_empty ⟨.slice none 0 0, rfl⟩ 0 0), rfl, rel_57_mono (all_out hψ S.le_newer) _ _ ⟨⟨.slice none 0 0, rfl⟩, rfl, (slc_nil _ _)⟩⟩, ⟨[], slc_nil _ _, .nil⟩⟩
  ·replace h := iteF h hb2
   refine wp_skip (then_n (f_seq (f_seq (f_region (lv S (rn_move (S.tm rfl)) rfl ?_))))); clear S; intro a S
   refine l_enter S (fun _ => run_call (vs := [iV p_at]) ⟨(S.tm rfl), trivial⟩ Tryz.call39) (words_IsMoment_ok _ p_at _ rfl) rfl ?_; clear S; intro v3 a w6 hv3 hk6 hn3 S
   subst hv3
   refine lv S (rn_not (S.tm rfl)) rfl ?_; clear S; intro a S
   refine l_done (then_n (f_cond (S.tm rfl) (fun hb3 => ?_) (fun hb3 => ?_)))
   ·replace h := iteT h hb3
    refine f_seq (f_region (lv S (rn_bld bt_57 (pv := []) trivial (cs := [sV k_empty, sV k_empty, .slice none 0 0, iV 0, iV 0]) (by kernel_rfl)) rfl ?_)); clear S; intro a S
    refine l_store S (S.tm rfl) (S.tm rfl) (i := 0) (off := 0) rfl Tryz.sizeOf57 (vs := [sV k_empty, sV k_empty, .slice none 0 0, iV 0, iV 0]) rfl rfl rfl rfl ?_; clear S; intro w7 hk7 S
    refine lv S (rn_assign rfl) rfl ?_; clear S; intro a S
    refine lv S (rn_assign rfl) rfl ?_; clear S; intro a S
    refine l_done (then_n (wp_ret (then_r ?_)))
    obtain rfl := Option.some.inj h
    exact f_retG S (rs := [.cell 8 57, .tmp 9, .tmp 10]) (vs := [.agg (R57.enc (R57.mk k_empty k_empty ⟨.slice none 0 0, rfl⟩ 0 0)).toArray, .slice none 0 0, iV 1]) Tryz.results51 ⟨(res_cell (off := 0) S rfl Tryz.isAgg57 Tryz.sizeOf57 rfl (S.cellsAt (i := 0) rfl)), (res_tmp S rfl), (res_tmp S rfl), trivial⟩ rfl ⟨_, _, rfl, ⟨(R57.mk k_empty k_empty ⟨.slice none 0 0, rfl⟩ 0 0), rfl, rel_57_mono (all_out hψ S.le_newer) _ _ ⟨⟨.slice none 0 0, rfl⟩, rfl, (slc_nil _ _)⟩⟩, ⟨[], slc_nil _ _, .nil⟩⟩
   ·replace h := iteF h hb3
    refine wp_skip (then_n (f_seq (f_region (lv S (rn_move (S.tm rfl)) rfl ?_)))); clear S; intro a S
    refine lv S (rn_move (S.tm rfl)) rfl ?_; clear S; intro a S
    obtain ⟨r2, hr2, h⟩ := bindE h
    have hz2 := S.keep.size
    refine l_enter S (fun _ => run_call (vs := [v_p_l, iV p_at]) ⟨(S.tm rfl), (S.tm rfl), trivial⟩ Tryz.call40) (record_follow_ok _ v_p_l p_l (hs_p_l.mono (View.le_trans hψ (S.le_arg nil_sub))) p_at _ hr2) rfl ?_; clear S; intro v4 a w8 hv4 hk8 hn4 S
    obtain ⟨u1, u2, rfl, ho1, ho2⟩ := hv4
    obtain ⟨rs1, ho3, hr3⟩ := ho1
    obtain ⟨φ1, hl1, hm1, S⟩ := S.see' hn4 hz2
    have hs1 := ho3.mono hm1
    have hr4 := rels_100 hm1 hr3
    have hs2 := ho2.mono hm1
    refine lv S (rn_move (S.tm rfl)) rfl ?_; clear S; intro a S
    refine lv S (rn_extract (S.tm rfl) rfl) rfl ?_; clear S; intro a S
    refine lv S (rn_extract (S.tm rfl) rfl) rfl ?_; clear S; intro a S
    refine lv S (rn_assign (S.tm rfl)) rfl ?_; clear S; intro a S
    refine lv S (rn_assign (S.tm rfl)) rfl ?_; clear S; intro a S
    refine l_done ?_
    replace S := S.nk [.blk b1 [sV k_empty, sV k_empty, .slice none 0 0, iV 0, iV 0] 57] [(0, v_p_k), (8, .pointer (some ⟨b1, 0, none⟩)), (12, iV (record_kindAt p_k p_kind)), (13, u1)] [true] rfl (subR rfl)
    refine then_n (f_seq (f_region (lv S (rn_move (S.tm rfl)) rfl ?_))); clear S; intro a S
    refine lv S (rn_move (S.tm rfl)) rfl ?_; clear S; intro a S
    obtain ⟨hc1, h⟩ := chkE h
    obtain ⟨r3, hg1, hl2⟩ := all2_get hr_p_k hc1
    obtain ⟨u3, rfl, hs3⟩ := hl2
    obtain ⟨b2, o1, hm2, hr5⟩ := rn_indexT (a := a) (x := .tmp 38) (y := .tmp 39) (ty := 0) sl_26 hs_p_k hg1 (inB_get hc1).2 (S.tm rfl) (S.tm rfl)
    refine lv S (hr5 _) rfl ?_; clear S; intro a S
    clear hr5
    refine lv S (rn_ldA Tryz.isAgg57 Tryz.sizeOf57 (off := o1) (o := 0) (part := [sV ((nth p_k (record_kindAt p_k p_kind)).Key), sV ((nth p_k (record_kindAt p_k p_kind)).Race), u3.val, iV ((nth p_k (record_kindAt p_k p_kind)).Young), iV ((nth p_k (record_kindAt p_k p_kind)).Old)]) rfl rfl (S.tm rfl) (hm2.at (emb_le hψ S.emb0))) rfl ?_; clear S; intro a S
    refine lv S (rn_move (S.tm rfl)) rfl ?_; clear S; intro a S
    refine l_store S (S.tm rfl) (S.tm rfl) (i := 0) (off := 0) rfl Tryz.sizeOf57 (vs := [sV ((nth p_k (record_kindAt p_k p_kind)).Key), sV ((nth p_k (record_kindAt p_k p_kind)).Race), u3.val, iV ((nth p_k (record_kindAt p_k p_kind)).Young), iV ((nth p_k (record_kindAt p_k p_kind)).Old)]) rfl rfl rfl (all1 rfl (all1 rfl (all1 (SlcLen.one (slc_len hs3)) (all1 rfl (all1 rfl rfl))))) ?_; clear S; intro w9 hk9 S
    refine lv S (rn_assign (S.tm rfl)) rfl ?_; clear S; intro a S
    refine lv S (rn_assign rfl) rfl ?_; clear S; intro a S
    refine l_done (then_n (wp_ret ?_))
    obtain rfl := Option.some.inj h
    exact f_retG S (rs := [.cell 8 57, .tmp 9, .tmp 10]) (vs := [.agg (R57.enc (R57.mk ((nth p_k (record_kindAt p_k p_kind)).Key) ((nth p_k (record_kindAt p_k p_kind)).Race) u3 ((nth p_k (record_kindAt p_k p_kind)).Young) ((nth p_k (record_kindAt p_k p_kind)).Old))).toArray, u1, iV 0]) Tryz.results51 ⟨(res_cell (off := 0) S rfl Tryz.isAgg57 Tryz.sizeOf57 rfl (S.cellsAt (i := 0) rfl)), (res_tmp S rfl), (res_tmp S rfl), trivial⟩ rfl ⟨_, _, rfl, ⟨(R57.mk ((nth p_k (record_kindAt p_k p_kind)).Key) ((nth p_k (record_kindAt p_k p_kind)).Race) u3 ((nth p_k (record_kindAt p_k p_kind)).Young) ((nth p_k (record_kindAt p_k p_kind)).Old)), rfl, rel_57_mono (all_out hψ S.le_newer) _ _ ⟨u3, rfl, (hs3.mono (le_join_left _ _))⟩⟩, ⟨_, ((hs1).mono S.le_newer), rels_100 S.le_newer hr4⟩⟩
theorem record_Needed_ok (w : World) (v_p_k : Value) (p_k : List GKind) (rs_p_k : List R57) (hs_p_k : Slc (view w []) 5 v_p_k (rs_p_k.map R57.enc)) (hr_p_k : All2 (rel_57 (view w [])) p_k rs_p_k) (v_p_l : Value) (p_l : List GStep) (hs_p_l : Slc (view w []) 8 v_p_l (p_l.map GStep.enc)) (p_kind : ByteArray) (p_at : Int) (r : Int × Bool × Int) (h : record_Needed p_k p_l p_kind p_at = some r) :
    Calls Tryz.prog 15 [v_p_k, v_p_l, sV p_kind, iV p_at].toArray w (Ret w [] fun _ v _ => v = .tuple #[iV r.1, bV r.2.1, iV r.2.2]) := by
 refine f_enter [] [] Tryz.func15 rfl Tryz.ntmps15 rfl (by simp) (by simp [fps]) (by simp [fps]) fun a S => ?_
 unfold record_Needed at h
 replace S := S.nk [] [(0, v_p_k), (1, v_p_l), (2, sV p_kind), (3, iV p_at)] [] rfl (subR rfl)
 refine f_seq (f_region (lv S (rn_assign rfl) rfl ?_)); clear S; intro a S
 refine lv S (rn_assign rfl) rfl ?_; clear S; intro a S
 refine lv S (rn_assign rfl) rfl ?_; clear S; intro a S
 refine l_done (then_n (f_seq (f_region (lv S (rn_move (S.tm rfl)) rfl ?_)))); clear S; intro a S
 iterate 3 (refine lv S (rn_move (S.tm rfl)) rfl ?_; clear S; intro a S)
 obtain ⟨r1, hr1, h⟩ := bindE h
 have hz1 := S.keep.size
 refine l_enter S (fun _ => run_call (vs := [v_p_k, v_p_l, sV p_kind, iV p_at]) ⟨(S.tm rfl), (S.tm rfl), (S.tm rfl), (S.tm rfl), trivial⟩ Tryz.call51) (record_ask_ok _ (join (view w []) nov) (join_le (S.le_arg nil_sub) (S.le_new nil_sub)) v_p_k p_k rs_p_k (hs_p_k.mono (le_join_left _ _)) (rels_57 (le_join_left _ _) hr_p_k) v_p_l p_l (hs_p_l.mono (le_join_left _ _)) p_kind p_at _ hr1) rfl ?_; clear S; intro v1 a w1 hv1 hk1 hn1 S
 obtain ⟨u1, u2, rfl, ho1, ho2⟩ := hv1
 obtain ⟨φ1, hl1, hm1, S⟩ := S.see' hn1 hz1
 obtain ⟨q1, rfl, hq1⟩ := ho1
 obtain ⟨u3, rfl, hs1⟩ := rel_57_mono (all_step hl1 hm1) _ _ hq1
 obtain ⟨rs1, ho3, hr2⟩ := ho2
 have hs2 := ho3.mono hm1
 have hr3 := rels_100 hm1 hr2
 refine lv S (rn_move (S.tm rfl)) rfl ?_; clear S; intro a S
 iterate 3 (refine lv S (rn_extract (S.tm rfl) rfl) rfl ?_; clear S; intro a S)
 refine l_alloc S Tryz.zeroValue57 (cs := [sV k_empty, sV k_empty, .slice none 0 0, iV 0, iV 0]) rfl rfl ?_; clear S; intro a w2 b1 hz2 hk2 S
 refine l_store S (S.tm rfl) (S.tm rfl) (i := 0) (off := 0) rfl Tryz.sizeOf57 (vs := [sV r1.1.Key, sV r1.1.Race, u3.val, iV r1.1.Young, iV r1.1.Old]) rfl rfl rfl (all1 rfl (all1 rfl (all1 (SlcLen.one (slc_len hs1)) (all1 rfl (all1 rfl rfl))))) ?_; clear S; intro w3 hk3 S
 refine lv S (rn_assign (S.tm rfl)) rfl ?_; clear S; intro a S
 refine lv S (rn_assign (S.tm rfl)) rfl ?_; clear S; intro a S
 refine l_done ?_
 replace S := S.nk [.blk b1 [sV r1.1.Key, sV r1.1.Race, u3.val, iV r1.1.Young, iV r1.1.Old] 57] [(11, .pointer (some ⟨b1, 0, none⟩)), (12, u2), (13, iV r1.2.2)] [true] rfl (subR rfl)
 refine then_n (f_seq (f_seq (f_region (lv S (rn_move (S.tm rfl)) rfl ?_)))); clear S; intro a S
 refine lv S (rn_neq (S.tm rfl) rfl) rfl ?_; clear S; intro a S
 refine l_done (then_n (f_cond (S.tm rfl) (fun hb1 => ?_) (fun hb1 => ?_)))
 ·replace h := iteT h hb1
  refine f_seq (f_region (lv S (rn_move (S.tm rfl)) rfl ?_)); clear S; intro a S
  refine lv S (rn_assign rfl) rfl ?_; clear S; intro a S
  refine lv S (rn_assign rfl) rfl ?_; clear S; intro a S
  refine lv S (rn_assign (S.tm rfl)) rfl ?_; clear S; intro a S
  refine l_done (then_n (wp_ret (then_r ?_)))
  obtain rfl := Option.some.inj h
  exact f_ret3 S Tryz.results15 rfl rfl rfl rfl
 ·replace h := iteF h hb1
  refine wp_skip (then_n (f_seq (f_region (lv S (rn_ldA Tryz.isAgg57 Tryz.sizeOf57 (off := 0) (o := 0) (part := [sV r1.1.Key, sV r1.1.Race, u3.val, iV r1.1.Young, iV r1.1.Old]) rfl rfl (S.tm rfl) (S.cellsAt (i := 0) rfl)) rfl ?_)))); clear S; intro a S
  refine lv S (rn_move (S.tm rfl)) rfl ?_; clear S; intro a S
  obtain ⟨r2, hr4, h⟩ := bindE h
  have hz3 := S.keep.size
  refine l_enter S (fun _ => run_call (vs := [.agg (R57.enc (R57.mk r1.1.Key r1.1.Race u3 r1.1.Young r1.1.Old)).toArray, u2]) ⟨(S.tm rfl), (S.tm rfl), trivial⟩ Tryz.call43) (record_record_ok _ r1.1 (R57.mk r1.1.Key r1.1.Race u3 r1.1.Young r1.1.Old) ⟨u3, rfl, (hs1.mono (join_le (S.le_arg nil_sub) (S.le_new nil_sub)))⟩ u2 r1.2.1 rs1 (hs2.mono (S.le_new nil_sub)) (rels_100 (S.le_new nil_sub) hr3) _ hr4) rfl ?_; clear S; intro v2 a w4 hv2 hk4 hn2 S
  obtain ⟨φ2, hl2, hm2, S⟩ := S.see' hn2 hz3
  have hs3 := hv2.mono hm2
  refine lv S (rn_assign (S.tm rfl)) rfl ?_; clear S; intro a S
  refine l_done (then_n (f_seq (f_seq (f_region (lv S (rn_move (S.tm rfl)) rfl ?_))))); clear S; intro a S
  refine lv S (rn_lenT sl_78 (S.tm rfl) (slc_len hs3)) rfl ?_; clear S; intro a S
  refine lv S (rn_eql (S.tm rfl) rfl) rfl ?_; clear S; intro a S
  refine lv S (rn_move (S.tm rfl)) rfl ?_; clear S; intro a S
  obtain ⟨j1, hj1, h⟩ := joinE h
  refine f_cutm 6 (fun a w' => ∃ c1, j1 c1 = some r ∧ Keep [] w4 w' ∧ Sx w [] φ2 [.blk b1 [sV r1.1.Key, sV r1.1.Race, u3.val, iV r1.1.Young, iV r1.1.Old] 57] [(14, v2), (39, bV c1)] 45 a w') ?_ ?_
  ·rcases Bool.eq_false_or_eq_true (decide ((r2.length : Int) = 0)) with hb2 | hb2
   ·replace h := iteT h hb2
    iterate 5 (refine l_skip S rfl rfl rfl (neq_t hb2) rfl ?_ rfl; clear S; intro a S)
    refine lv S (rn_or_t true hb2 (S.tm rfl) rfl) rfl ?_; clear S; intro a S
    refine l_done (then_n ?_)
    exact ⟨_, h, Keep.refl _ _, S.nf [true] rfl (subR rfl)⟩
   ·replace h := iteF h hb2
    refine l_want S rfl rfl rfl hb2 (lv S (rn_move (S.tm rfl)) rfl ?_); clear S; intro a S
    refine l_want S rfl rfl rfl hb2 ?_
    obtain ⟨hc1, h⟩ := chkE h
    obtain ⟨b2, o1, hm3, hr5⟩ := rn_indexT (a := a) (x := .tmp 34) (y := .const (iV 0)) (ty := 0) sl_78 hs3 (inB_get hc1).1 (inB_get hc1).2 (S.tm rfl) rfl
    refine lv S (hr5 _) rfl ?_; clear S; intro a S
    clear hr5
    refine l_want S rfl rfl rfl hb2 (lv S (rn_fld fa_80_3 (S.tm rfl)) rfl ?_); clear S; intro a S
    refine l_want S rfl rfl rfl hb2 (lv S (rn_ld Tryz.isAgg3 (off := o1) (o := 3) (S.tm rfl) (hm3.at S.emb) rfl) rfl ?_); clear S; intro a S
    refine l_want S rfl rfl rfl hb2 (lv S (rn_eql (S.tm rfl) rfl) rfl ?_); clear S; intro a S
    refine lv S (rn_or_f hb2 (S.tm rfl) (S.tm rfl)) rfl ?_; clear S; intro a S
    refine l_done (then_n ?_)
    exact ⟨_, h, Keep.refl _ _, S.nf [true] rfl (subR rfl)⟩
  clear S h; rintro a w5 ⟨c1, h, hk5, S⟩; rw [hj1] at h; clear hj1 j1
  refine l_done (then_n (f_cond (S.tm rfl) (fun hb3 => ?_) (fun hb3 => ?_)))
  ·replace h := iteT h hb3
   refine f_seq (f_region (lv S (rn_assign rfl) rfl ?_)); clear S; intro a S
   refine lv S (rn_assign rfl) rfl ?_; clear S; intro a S
   refine lv S (rn_assign rfl) rfl ?_; clear S; intro a S
   refine l_done (then_n (wp_ret (then_r ?_)))
   obtain rfl := Option.some.inj h
   exact f_ret3 S Tryz.results15 rfl rfl rfl rfl
  ·replace h := iteF h hb3
   refine wp_skip (then_n (f_seq (f_region (lv S (rn_move (S.tm rfl)) rfl ?_)))); clear S; intro a S
   obtain ⟨hc2, h⟩ := chkE h
   obtain ⟨b3, o2, hm4, hr6⟩ := rn_indexT (a := a) (x := .tmp 40) (y := .const (iV 0)) (ty := 0) sl_78 hs3 (inB_get hc2).1 (inB_get hc2).2 (S.tm rfl) rfl
   refine lv S (hr6 _) rfl ?_; clear S; intro a S
   clear hr6
   refine lv S (rn_fld fa_80_3 (S.tm rfl)) rfl ?_; clear S; intro a S
   refine lv S (rn_ld Tryz.isAgg3 (off := o2) (o := 3) (S.tm rfl) (hm4.at S.emb) rfl) rfl ?_; clear S; intro a S
   refine lv S (rn_sub (S.tm rfl) rfl) rfl ?_; clear S; intro a S
   refine lv S (rn_assign (S.tm rfl)) rfl ?_; clear S; intro a S
   refine lv S (rn_assign rfl) rfl ?_; clear S; intro a S
   refine lv S (rn_assign rfl) rfl ?_; clear S; intro a S
   refine l_done (then_n (wp_ret ?_))
   obtain rfl := Option.some.inj h
   exact f_ret3 S Tryz.results15 rfl rfl rfl rfl
theorem tumbref2_in_ok (w : World) (p_n : Int) (p_low : Int) (p_high : Int) (r : Bool) (h : tumbref2_in p_n p_low p_high = r) :
    Calls Tryz.prog 53 [iV p_n, iV p_low, iV p_high].toArray w (Ret w [] fun _ v _ => v = bV r) := by
 refine f_enter [] [] Tryz.func53 rfl Tryz.ntmps53 rfl (by simp) (by simp [fps]) (by simp [fps]) fun a S => ?_
 unfold tumbref2_in at h
 replace S := S.nk [] [(0, iV p_n), (1, iV p_low), (2, iV p_high)] [] rfl (subR rfl)
 refine f_seq (f_region (lv S (rn_assign rfl) rfl ?_)); clear S; intro a S
 refine l_done (then_n (f_seq (f_region (lv S (rn_move (S.tm rfl)) rfl ?_)))); clear S; intro a S
 refine lv S (rn_move (S.tm rfl)) rfl ?_; clear S; intro a S
 refine lv S (rn_leq (S.tm rfl) (S.tm rfl)) rfl ?_; clear S; intro a S
 refine lv S (rn_move (S.tm rfl)) rfl ?_; clear S; intro a S
 refine f_cutm 4 (fun a w' => Keep [] w w' ∧ Sx w [] nov [] [(14, bV ((decide (p_low ≤ p_n)) && (decide (p_n ≤ p_high))))] 15 a w') ?_ ?_
 ·rcases Bool.eq_false_or_eq_true (decide (p_low ≤ p_n)) with hb1 | hb1
  ·refine l_want S rfl rfl rfl hb1 (lv S (rn_move (S.tm rfl)) rfl ?_); clear S; intro a S
   refine l_want S rfl rfl rfl hb1 (lv S (rn_move (S.tm rfl)) rfl ?_); clear S; intro a S
   refine l_want S rfl rfl rfl hb1 (lv S (rn_leq (S.tm rfl) (S.tm rfl)) rfl ?_); clear S; intro a S
   refine lv S (rn_and_t hb1 (S.tm rfl) (S.tm rfl)) rfl ?_; clear S; intro a S
   refine l_done (then_n ?_)
   exact ⟨Keep.refl _ _, S.nf [] rfl ⟨rfl, trivial⟩⟩
  ·iterate 3 (refine l_skip S rfl rfl rfl (neq_f hb1) rfl ?_ rfl; clear S; intro a S)
   refine lv S (rn_and_f (decide (p_n ≤ p_high)) hb1 (S.tm rfl) rfl) rfl ?_; clear S; intro a S
   refine l_done (then_n ?_)
   exact ⟨Keep.refl _ _, S.nf [] rfl ⟨rfl, trivial⟩⟩
 clear S; rintro a w1 ⟨hk1, S⟩
 refine lv S (rn_assign (S.tm rfl)) rfl ?_; clear S; intro a S
 refine l_done (then_n (wp_ret ?_))
 subst h
 exact f_ret S Tryz.results53 rfl rfl
theorem strings_IndexByte_ok (w : World) (s : ByteArray) (c : Int) (r : Int) (h : strings_IndexByte s c = r) : Calls Tryz.prog 98 [.string s, .int .u8 c].toArray w (Ret w [] fun _ v _ => v = .int .i64 r) := by
  subst h
  exact ret_of_same (Any.strings_IndexByte Tryz.lays137 s c w)
theorem tumbref2_only_ok (w : World) (p_s : ByteArray) (p_some : ByteArray) (r : Bool) (h : tumbref2_only p_s p_some = some r) :
    Calls Tryz.prog 81 [sV p_s, sV p_some].toArray w (Ret w [] fun _ v _ => v = bV r) := by
 refine f_enter [] [] Tryz.func81 rfl Tryz.ntmps81 rfl (by simp) (by simp [fps]) (by simp [fps]) fun a S => ?_
 unfold tumbref2_only at h
 replace S := S.nk [] [(0, sV p_s), (1, sV p_some)] [] rfl (subR rfl)
 refine f_seq (f_region (lv S (rn_assign rfl) rfl ?_)); clear S; intro a S
 refine l_done (then_n (f_seq (f_seq (f_region (lv S (rn_move (S.tm rfl)) rfl ?_))))); clear S; intro a S
 refine lv S (rn_len_str Tryz.underlying9 (S.tm rfl)) rfl ?_; clear S; intro a S
 refine lv S (rn_move rfl) rfl ?_; clear S; intro a S
 refine l_done (then_n ?_)
 replace S := S.nk [] [(0, sV p_s), (1, sV p_some), (7, iV (p_s.size : Int)), (8, iV 0)] [] rfl (subR rfl)
 obtain ⟨j1, hj1, h⟩ := joinE h
 refine f_join (fun a w' => j1 = some r ∧ Sx w [] nov [] [] 18 a w') ?_ ?_
 ·refine wp_block (f_loop (fun (m1 : Nat) a w' => ∃ x1 : Int, tumbref2_only_l1 p_s p_some j1 m1 x1 = some r ∧ Sx w [] nov [] [(0, sV p_s), (1, sV p_some), (7, iV (p_s.size : Int)), (8, iV x1)] 18 a w') id (((p_s.size : Int) - 0).toNat + 2) ⟨0, h, S.nf [] rfl (subR rfl)⟩ ?_)
  clear S h; rintro m1 a w1 ⟨x1, h, S⟩
  cases m1 with
  | zero => rw [tumbref2_only_l1.eq_1] at h; cases h
  | succ m1 =>
   rw [tumbref2_only_l1.eq_2] at h
   refine f_seq (f_region (lv S (rn_lss (S.tm rfl) (S.tm rfl)) rfl ?_)); clear S; intro a S
   refine l_done (then_n (f_seq (f_cond (S.tm rfl) (fun hb1 => ?_) (fun hb1 => ?_))))
   ·replace h := iteT h hb1
    refine wp_skip (then_n (f_seq (wp_block (f_seq (f_region (lv S (rn_move (S.tm rfl)) rfl ?_)))))); clear S; intro a S
    refine lv S (rn_assign (S.tm rfl)) rfl ?_; clear S; intro a S
    refine l_done (then_n (f_seq (f_region (lv S (rn_move (S.tm rfl)) rfl ?_)))); clear S; intro a S
    refine lv S (rn_move (S.tm rfl)) rfl ?_; clear S; intro a S
    refine lv S (rn_move (S.tm rfl)) rfl ?_; clear S; intro a S
    obtain ⟨hc1, h⟩ := chkE h
    refine lv S (rn_sindexT Tryz.underlying9 (S.tm rfl) (S.tm rfl) hc1) rfl ?_; clear S; intro a S
    refine l_enter S (fun _ => run_call (vs := [sV p_some, .int .u8 (sbyte p_s x1)]) ⟨(S.tm rfl), (S.tm rfl), trivial⟩ Tryz.call98) (strings_IndexByte_ok _ p_some (sbyte p_s x1) _ rfl) rfl ?_; clear S; intro v1 a w3 hv1 hk1 hn1 S
    subst hv1
    refine lv S (rn_lss (S.tm rfl) rfl) rfl ?_; clear S; intro a S
    refine l_done (then_n (f_cond (S.tm rfl) (fun hb2 => ?_) (fun hb2 => ?_)))
    ·replace h := iteT h hb2
     refine f_seq (f_region (lv S (rn_assign rfl) rfl ?_)); clear S; intro a S
     refine l_done (then_n (wp_ret (blk_r (then_r (then_r (blk_r ?_))))))
     refine then_r (then_r ?_)
     obtain rfl := Option.some.inj h
     exact f_ret S Tryz.results81 rfl rfl
    ·replace h := iteF h hb2
     refine wp_skip (blk_n (then_n (f_region (lv S (rn_add (S.tm rfl) rfl) rfl ?_)))); clear S; intro a S
     refine lv S (rn_move (S.tm rfl)) rfl ?_; clear S; intro a S
     refine l_done (then_n ?_)
     exact ⟨m1, ⟨W (x1 + 1), h, S.nf [] rfl ⟨rfl, rfl, rfl, rfl, trivial⟩⟩, Nat.lt_succ_self _⟩
   ·replace h := iteF h hb1
    refine wp_exit (then_x (then_x (x_same (then_n ?_))))
    exact ⟨h, S.nf [] rfl trivial⟩
 clear S h; rintro a w2 ⟨h, S⟩; rw [hj1] at h; clear hj1 j1
 refine then_n (f_seq (f_region (lv S (rn_assign rfl) rfl ?_))); clear S; intro a S
 refine l_done (then_n (wp_ret ?_))
 obtain rfl := Option.some.inj h
 exact f_ret S Tryz.results81 rfl rfl
theorem tumbref2_Key_ok (w : World) (p_s : ByteArray) (r : Bool) (h : tumbref2_Key p_s = some r) :
    Calls Tryz.prog 52 [sV p_s].toArray w (Ret w [] fun _ v _ => v = bV r) := by
 refine f_enter [] [] Tryz.func52 rfl Tryz.ntmps52 rfl (by simp) (by simp [fps]) (by simp [fps]) fun a S => ?_
 unfold tumbref2_Key at h
 replace S := S.nk [] [(0, sV p_s)] [] rfl ⟨rfl, trivial⟩
 refine f_seq (f_region (lv S (rn_assign rfl) rfl ?_)); clear S; intro a S
 refine l_done (then_n (f_seq (f_region (lv S (rn_move (S.tm rfl)) rfl ?_)))); clear S; intro a S
 refine lv S (rn_len_str Tryz.underlying9 (S.tm rfl)) rfl ?_; clear S; intro a S
 refine l_enter S (fun _ => run_call (vs := [iV (p_s.size : Int), iV 1, iV 40]) ⟨(S.tm rfl), rfl, rfl, trivial⟩ Tryz.call53) (tumbref2_in_ok _ (p_s.size : Int) 1 40 _ rfl) rfl ?_; clear S; intro v1 a w1 hv1 hk1 hn1 S
 subst hv1
 refine lv S (rn_move (S.tm rfl)) rfl ?_; clear S; intro a S
 obtain ⟨j1, hj1, h⟩ := joinE h
 refine f_cutm 4 (fun a w' => ∃ c1, j1 c1 = some r ∧ Keep [] w1 w' ∧ Sx w [] nov [] [(0, sV p_s), (10, bV c1)] 15 a w') ?_ ?_
 ·rcases Bool.eq_false_or_eq_true (tumbref2_in (p_s.size : Int) 1 40) with hb1 | hb1
  ·replace h := iteT h hb1
   refine l_want S rfl rfl rfl hb1 (lv S (rn_move (S.tm rfl)) rfl ?_); clear S; intro a S
   refine l_want S rfl rfl rfl hb1 ?_
   obtain ⟨hc1, h⟩ := chkE h
   refine lv S (rn_scutTh Tryz.underlying9 (S.tm rfl) rfl hc1) rfl ?_; clear S; intro a S
   refine l_want S rfl rfl rfl hb1 ?_
   obtain ⟨r1, hr1, h⟩ := bindE h
   refine l_enter S (fun _ => run_call (vs := [sV (scut p_s 0 1), sV k_abcdefghijklmnopqrstuvwxyz]) ⟨(S.tm rfl), rfl, trivial⟩ Tryz.call81) (tumbref2_only_ok _ (scut p_s 0 1) k_abcdefghijklmnopqrstuvwxyz _ hr1) rfl ?_; clear S; intro v2 a w3 hv2 hk2 hn2 S
   subst hv2
   refine lv S (rn_and_t hb1 (S.tm rfl) (S.tm rfl)) rfl ?_; clear S; intro a S
   refine l_done (then_n ?_)
   exact ⟨_, h, hk2, S.nf [] rfl (subR rfl)⟩
  ·replace h := iteF h hb1
   iterate 3 (refine l_skip S rfl rfl rfl (neq_f hb1) rfl ?_ rfl; clear S; intro a S)
   refine lv S (rn_and_f true hb1 (S.tm rfl) rfl) rfl ?_; clear S; intro a S
   refine l_done (then_n ?_)
   exact ⟨_, h, Keep.refl _ _, S.nf [] rfl (subR rfl)⟩
 clear S h; rintro a w2 ⟨c1, h, hk3, S⟩; rw [hj1] at h; clear hj1 j1
 refine lv S (rn_move (S.tm rfl)) rfl ?_; clear S; intro a S
 obtain ⟨j2, hj2, h⟩ := joinE h
 refine f_cutm 3 (fun a w' => ∃ c2, j2 c2 = some r ∧ Keep [] w2 w' ∧ Sx w [] nov [] [(14, bV c2)] 15 a w') ?_ ?_
 ·rcases Bool.eq_false_or_eq_true c1 with hb2 | hb2
  ·replace h := iteT h hb2
   refine l_want S rfl rfl rfl hb2 (lv S (rn_move (S.tm rfl)) rfl ?_); clear S; intro a S
   refine l_want S rfl rfl rfl hb2 ?_
   obtain ⟨r2, hr2, h⟩ := bindE h
   refine l_enter S (fun _ => run_call (vs := [sV p_s, sV k_abcdefghijkl_h0e2e2c]) ⟨(S.tm rfl), rfl, trivial⟩ Tryz.call81) (tumbref2_only_ok _ p_s k_abcdefghijkl_h0e2e2c _ hr2) rfl ?_; clear S; intro v3 a w5 hv3 hk4 hn3 S
   subst hv3
   refine lv S (rn_and_t hb2 (S.tm rfl) (S.tm rfl)) rfl ?_; clear S; intro a S
   refine l_done (then_n ?_)
   exact ⟨_, h, hk4, S.nf [] rfl ⟨rfl, trivial⟩⟩
  ·replace h := iteF h hb2
   refine l_skip S rfl rfl rfl (neq_f hb2) rfl ?_ rfl; clear S; intro a S
   refine l_skip S rfl rfl rfl (neq_f hb2) rfl ?_ rfl; clear S; intro a S
   refine lv S (rn_and_f true hb2 (S.tm rfl) rfl) rfl ?_; clear S; intro a S
   refine l_done (then_n ?_)
   exact ⟨_, h, Keep.refl _ _, S.nf [] rfl ⟨rfl, trivial⟩⟩
 clear S h; rintro a w4 ⟨c2, h, hk5, S⟩; rw [hj2] at h; clear hj2 j2
 refine lv S (rn_assign (S.tm rfl)) rfl ?_; clear S; intro a S
 refine l_done (then_n (wp_ret ?_))
 obtain rfl := Option.some.inj h
 exact f_ret S Tryz.results52 rfl rfl
theorem tumbref2_KindsFault_ok (w : World) (v_p_l : Value) (p_l : List GKind) (rs_p_l : List R57) (hs_p_l : Slc (view w []) 5 v_p_l (rs_p_l.map R57.enc)) (hr_p_l : All2 (rel_57 (view w [])) p_l rs_p_l) (r : Int) (h : tumbref2_KindsFault p_l = some r) :
    Calls Tryz.prog 17 [v_p_l].toArray w (Ret w [] fun _ v _ => v = iV r) := by
 refine f_enter [] [] Tryz.func17 rfl Tryz.ntmps17 rfl (by simp) (by simp [fps]) (by simp [fps]) fun a S => ?_
 unfold tumbref2_KindsFault at h
 replace S := S.nk [] [(0, v_p_l)] [] rfl ⟨rfl, trivial⟩
 refine f_seq (f_region (lv S (rn_assign rfl) rfl ?_)); clear S; intro a S
 refine l_done (then_n (f_seq (f_seq (f_region (lv S (rn_move (S.tm rfl)) rfl ?_))))); clear S; intro a S
 refine lv S (rn_lenT sl_26 (S.tm rfl) (slc_lenD hs_p_l hr_p_l)) rfl ?_; clear S; intro a S
 refine lv S (rn_gtr (S.tm rfl) rfl) rfl ?_; clear S; intro a S
 refine l_done (then_n (f_cond (S.tm rfl) (fun hb1 => ?_) (fun hb1 => ?_)))
 ·replace h := iteT h hb1
  refine f_seq (f_region (lv S (rn_assign rfl) rfl ?_)); clear S; intro a S
  refine l_done (then_n (wp_ret (then_r ?_)))
  obtain rfl := Option.some.inj h
  exact f_ret S Tryz.results17 rfl rfl
 ·replace h := iteF h hb1
  refine wp_skip (then_n (f_seq (f_region (lv S (rn_assign rfl) rfl ?_)))); clear S; intro a S
  refine l_done (then_n (f_seq (f_seq (f_region (lv S (rn_move (S.tm rfl)) rfl ?_))))); clear S; intro a S
  refine lv S (rn_lenT sl_26 (S.tm rfl) (slc_lenD hs_p_l hr_p_l)) rfl ?_; clear S; intro a S
  refine lv S (rn_move rfl) rfl ?_; clear S; intro a S
  refine l_done (then_n ?_)
  replace S := S.nk [] [(3, sV k_empty), (11, v_p_l), (12, iV (p_l.length : Int)), (13, iV 0)] [] rfl (subR rfl)
  obtain ⟨j1, hj1, h⟩ := joinE h
  refine f_join (fun a w' => j1 = some r ∧ Sx w [] nov [] [] 76 a w') ?_ ?_
  ·refine wp_block (f_loop (fun (ys1 : List GKind) a w' => ∃ i1 : Nat, ∃ x1 : ByteArray, (∃ dn, p_l = dn ++ ys1 ∧ dn.length = i1) ∧ tumbref2_KindsFault_l1 j1 ys1 i1 x1 = some r ∧ Sx w [] nov [] [(3, sV x1), (11, v_p_l), (12, iV (p_l.length : Int)), (13, iV (i1 : Int))] 76 a w') List.length p_l ⟨0, k_empty, ⟨[], rfl, rfl⟩, h, S.nf [] rfl (subR rfl)⟩ ?_)
   clear S h; rintro ys1 a w1 ⟨i1, x1, ⟨dn, hd1, hi1⟩, h, S⟩
   cases ys1 with
   | nil =>
    rw [tumbref2_KindsFault_l1.eq_1] at h
    refine f_seq (f_region (lv S (rn_lss (S.tm rfl) (S.tm rfl)) rfl ?_)); clear S; intro a S
    refine l_done ?_
    replace S := S.nk [] [(3, sV x1), (11, v_p_l), (12, iV (p_l.length : Int)), (13, iV (i1 : Int)), (14, bV (decide ((i1 : Int) < (p_l.length : Int))))] [] rfl (subR rfl)
    refine then_n (f_seq (wp_cond_false ((S.tm rfl).trans (congrArg Value.bool (rng_nil hd1 hi1))) (wp_exit (then_x (then_x (x_same ?_))))))
    refine then_n ?_
    exact ⟨h, S.nf [] rfl trivial⟩
   | cons y1 ys1 =>
    rw [tumbref2_KindsFault_l1.eq_2] at h
    refine f_seq (f_region (lv S (rn_lss (S.tm rfl) (S.tm rfl)) rfl ?_)); clear S; intro a S
    refine l_done ?_
    replace S := S.nk [] [(3, sV x1), (11, v_p_l), (12, iV (p_l.length : Int)), (13, iV (i1 : Int)), (14, bV (decide ((i1 : Int) < (p_l.length : Int))))] [] rfl (subR rfl)
    refine then_n (f_seq (wp_cond_true ((S.tm rfl).trans (congrArg Value.bool (rng_cons hd1 hi1))) (wp_skip (then_n (f_seq (wp_block ?_))))))
    refine f_seq (f_region ?_)
    obtain ⟨r1, hg1, hl1⟩ := All2.at hr_p_l (get_mid hd1 hi1)
    obtain ⟨u1, rfl, hs1⟩ := hl1
    obtain ⟨b1, o1, hm1, hr1⟩ := rn_indexT (a := a) (x := .tmp 11) (y := .tmp 13) (ty := 0) sl_26 hs_p_l hg1 rfl (S.tm rfl) (S.tm rfl)
    refine lv S (hr1 _) rfl ?_; clear S; intro a S
    clear hr1
    refine lv S (rn_ldA Tryz.isAgg57 Tryz.sizeOf57 (off := o1) (o := 0) (part := [sV y1.Key, sV y1.Race, u1.val, iV y1.Young, iV y1.Old]) rfl rfl (S.tm rfl) (hm1.at S.emb0)) rfl ?_; clear S; intro a S
    refine l_alloc S Tryz.zeroValue57 (cs := [sV k_empty, sV k_empty, .slice none 0 0, iV 0, iV 0]) rfl rfl ?_; clear S; intro a w3 b2 hz1 hk1 S
    refine l_store S (S.tm rfl) (S.tm rfl) (i := 0) (off := 0) rfl Tryz.sizeOf57 (vs := [sV y1.Key, sV y1.Race, u1.val, iV y1.Young, iV y1.Old]) rfl rfl rfl (all1 rfl (all1 rfl (all1 (SlcLen.one (slc_len hs1)) (all1 rfl (all1 rfl rfl))))) ?_; clear S; intro w4 hk2 S
    refine l_done (then_n (f_seq (wp_block (f_seq (f_region (lv S (rn_fld fa_57_0 (S.tm rfl)) rfl ?_)))))); clear S; intro a S
    refine lv S (rn_load Tryz.isAgg9 (S.tm rfl) (S.cell (i := 0) rfl rfl)) rfl ?_; clear S; intro a S
    obtain ⟨r2, hr2, h⟩ := bindE h
    refine l_enter S (fun _ => run_call (vs := [sV y1.Key]) ⟨(S.tm rfl), trivial⟩ Tryz.call52) (tumbref2_Key_ok _ y1.Key _ hr2) rfl ?_; clear S; intro v1 a w5 hv1 hk3 hn1 S
    subst hv1
    refine lv S (rn_not (S.tm rfl)) rfl ?_; clear S; intro a S
    refine lv S (rn_move (S.tm rfl)) rfl ?_; clear S; intro a S
    obtain ⟨j2, hj2, h⟩ := joinE h
    refine f_cutm 5 (fun a w' => ∃ c1, j2 c1 = some r ∧ Keep [] w5 w' ∧ Sx w [] nov [.blk b2 [sV y1.Key, sV y1.Race, u1.val, iV y1.Young, iV y1.Old] 57] [(3, sV x1), (5, .pointer (some ⟨b2, 0, none⟩)), (11, v_p_l), (12, iV (p_l.length : Int)), (13, iV (i1 : Int)), (27, bV c1)] 76 a w') ?_ ?_
    ·rcases Bool.eq_false_or_eq_true (!r2) with hb2 | hb2
     ·replace h := iteT h hb2
      iterate 4 (refine l_skip S rfl rfl rfl (neq_t hb2) rfl ?_ rfl; clear S; intro a S)
      refine lv S (rn_or_t true hb2 (S.tm rfl) rfl) rfl ?_; clear S; intro a S
      refine l_done (then_n ?_)
      exact ⟨_, h, Keep.refl _ _, S.nf [true] rfl (subR rfl)⟩
     ·replace h := iteF h hb2
      refine l_want S rfl rfl rfl hb2 (lv S (rn_fld fa_57_1 (S.tm rfl)) rfl ?_); clear S; intro a S
      refine l_want S rfl rfl rfl hb2 (lv S (rn_load Tryz.isAgg9 (S.tm rfl) (S.cell (i := 0) rfl rfl)) rfl ?_); clear S; intro a S
      refine l_want S rfl rfl rfl hb2 ?_
      obtain ⟨r3, hr3, h⟩ := bindE h
      refine l_enter S (fun _ => run_call (vs := [sV y1.Race]) ⟨(S.tm rfl), trivial⟩ Tryz.call52) (tumbref2_Key_ok _ y1.Race _ hr3) rfl ?_; clear S; intro v2 a w7 hv2 hk4 hn2 S
      subst hv2
      refine l_want S rfl rfl rfl hb2 (lv S (rn_not (S.tm rfl)) rfl ?_); clear S; intro a S
      refine lv S (rn_or_f hb2 (S.tm rfl) (S.tm rfl)) rfl ?_; clear S; intro a S
      refine l_done (then_n ?_)
      exact ⟨_, h, hk4, S.nf [true] rfl (subR rfl)⟩
    clear S h; rintro a w6 ⟨c1, h, hk5, S⟩; rw [hj2] at h; clear hj2 j2
    refine lv S (rn_assign (S.tm rfl)) rfl ?_; clear S; intro a S
    refine l_done (then_n (f_cond (S.tm rfl) (fun hb3 => ?_) (fun hb3 => ?_)))
    ·replace h := iteT h hb3
     refine f_seq (f_region (lv S (rn_assign rfl) rfl ?_)); clear S; intro a S
     refine l_done (then_n (wp_ret (blk_r (then_r (blk_r (then_r ?_))))))
     refine then_r (blk_r (then_r (then_r ?_)))
     obtain rfl := Option.some.inj h
     exact f_ret S Tryz.results17 rfl rfl
    ·replace h := iteF h hb3
     refine f_seq (f_region (lv S (rn_fld fa_57_0 (S.tm rfl)) rfl ?_)); clear S; intro a S
     refine lv S (rn_load Tryz.isAgg9 (S.tm rfl) (S.cell (i := 0) rfl rfl)) rfl ?_; clear S; intro a S
     refine lv S (rn_move (S.tm rfl)) rfl ?_; clear S; intro a S
     refine lv S (rn_sleq (S.tm rfl) (S.tm rfl)) rfl ?_; clear S; intro a S
     refine lv S (rn_assign (S.tm rfl)) rfl ?_; clear S; intro a S
     refine l_done (then_n (f_cond (S.tm rfl) (fun hb4 => ?_) (fun hb4 => ?_)))
     ·replace h := iteT h hb4
      refine f_seq (f_region (lv S (rn_assign rfl) rfl ?_)); clear S; intro a S
      refine l_done (then_n (wp_ret (blk_r (then_r (blk_r (then_r ?_))))))
      refine then_r (blk_r (then_r (then_r ?_)))
      obtain rfl := Option.some.inj h
      exact f_ret S Tryz.results17 rfl rfl
     ·replace h := iteF h hb4
      refine f_seq (f_region (lv S (rn_fld fa_57_2 (S.tm rfl)) rfl ?_)); clear S; intro a S
      refine lv S (rn_load Tryz.isAgg37 (S.tm rfl) (S.cell (i := 0) rfl rfl)) rfl ?_; clear S; intro a S
      refine lv S (rn_lenT sl_37 (S.tm rfl) (slc_len hs1)) rfl ?_; clear S; intro a S
      refine lv S (rn_gtr (S.tm rfl) rfl) rfl ?_; clear S; intro a S
      refine lv S (rn_assign (S.tm rfl)) rfl ?_; clear S; intro a S
      refine l_done ?_
      replace S := S.nk [.blk b2 [sV y1.Key, sV y1.Race, u1.val, iV y1.Young, iV y1.Old] 57] [(5, .pointer (some ⟨b2, 0, none⟩)), (11, v_p_l), (12, iV (p_l.length : Int)), (13, iV (i1 : Int)), (33, bV (decide (100 < (y1.Clubs.length : Int))))] [true] rfl (subR rfl)
      refine then_n (f_cond (S.tm rfl) (fun hb5 => ?_) (fun hb5 => ?_))
      ·replace h := iteT h hb5
       refine f_seq (f_region (lv S (rn_assign rfl) rfl ?_)); clear S; intro a S
       refine l_done (then_n (wp_ret (blk_r (then_r (blk_r (then_r ?_))))))
       refine then_r (blk_r (then_r (then_r ?_)))
       obtain rfl := Option.some.inj h
       exact f_ret S Tryz.results17 rfl rfl
      ·replace h := iteF h hb5
       refine wp_skip (blk_n (then_n (f_seq (f_region (lv S (rn_fld fa_57_0 (S.tm rfl)) rfl ?_))))); clear S; intro a S
       refine lv S (rn_load Tryz.isAgg9 (S.tm rfl) (S.cell (i := 0) rfl rfl)) rfl ?_; clear S; intro a S
       refine lv S (rn_assign (S.tm rfl)) rfl ?_; clear S; intro a S
       refine l_done (then_n (f_seq (f_seq (f_region (lv S (rn_fld fa_57_2 (S.tm rfl)) rfl ?_))))); clear S; intro a S
       refine lv S (rn_load Tryz.isAgg37 (S.tm rfl) (S.cell (i := 0) rfl rfl)) rfl ?_; clear S; intro a S
       refine lv S (rn_lenT sl_37 (S.tm rfl) (slc_len hs1)) rfl ?_; clear S; intro a S
       refine lv S (rn_move rfl) rfl ?_; clear S; intro a S
       refine l_done (then_n ?_)
       replace S := S.nk [.blk b2 [sV y1.Key, sV y1.Race, u1.val, iV y1.Young, iV y1.Old] 57] [(3, sV y1.Key), (5, .pointer (some ⟨b2, 0, none⟩)), (11, v_p_l), (12, iV (p_l.length : Int)), (13, iV (i1 : Int)), (41, u1.val), (42, iV (y1.Clubs.length : Int)), (43, iV 0)] [true] rfl (subR rfl)
       obtain ⟨j3, hj3, h⟩ := joinE h
       refine f_join (fun a w' => j3 = some r ∧ Sx w [] nov [.blk b2 [sV y1.Key, sV y1.Race, u1.val, iV y1.Young, iV y1.Old] 57] [(3, sV y1.Key), (5, .pointer (some ⟨b2, 0, none⟩)), (11, v_p_l), (12, iV (p_l.length : Int)), (13, iV (i1 : Int))] 76 a w') ?_ ?_
       ·refine wp_block (f_loop (fun (ys2 : List ByteArray) a w' => ∃ i2 : Nat, (∃ dn, y1.Clubs = dn ++ ys2 ∧ dn.length = i2) ∧ tumbref2_KindsFault_l2 y1 j3 ys2 i2 = some r ∧ Sx w [] nov [.blk b2 [sV y1.Key, sV y1.Race, u1.val, iV y1.Young, iV y1.Old] 57] [(3, sV y1.Key), (5, .pointer (some ⟨b2, 0, none⟩)), (11, v_p_l), (12, iV (p_l.length : Int)), (13, iV (i1 : Int)), (41, u1.val), (42, iV (y1.Clubs.length : Int)), (43, iV (i2 : Int))] 76 a w') List.length y1.Clubs ⟨0, ⟨[], rfl, rfl⟩, h, S.nf [true] rfl (subR rfl)⟩ ?_)
        clear S h; rintro ys2 a w8 ⟨i2, ⟨dn, hd2, hi2⟩, h, S⟩
        cases ys2 with
        | nil =>
         rw [tumbref2_KindsFault_l2.eq_1] at h
         refine f_seq (f_region (lv S (rn_lss (S.tm rfl) (S.tm rfl)) rfl ?_)); clear S; intro a S
         refine l_done ?_
         replace S := S.nk [.blk b2 [sV y1.Key, sV y1.Race, u1.val, iV y1.Young, iV y1.Old] 57] [(3, sV y1.Key), (5, .pointer (some ⟨b2, 0, none⟩)), (11, v_p_l), (12, iV (p_l.length : Int)), (13, iV (i1 : Int)), (41, u1.val), (42, iV (y1.Clubs.length : Int)), (43, iV (i2 : Int)), (44, bV (decide ((i2 : Int) < (y1.Clubs.length : Int))))] [true] rfl (subR rfl)
         refine then_n (f_seq (wp_cond_false ((S.tm rfl).trans (congrArg Value.bool (rng_nil hd2 hi2))) (wp_exit (then_x (then_x (x_same ?_))))))
         refine then_n ?_
         exact ⟨h, S.nf [true] rfl (subR rfl)⟩
        | cons y2 ys2 =>
         rw [tumbref2_KindsFault_l2.eq_2] at h
         refine f_seq (f_region (lv S (rn_lss (S.tm rfl) (S.tm rfl)) rfl ?_)); clear S; intro a S
         refine l_done ?_
         replace S := S.nk [.blk b2 [sV y1.Key, sV y1.Race, u1.val, iV y1.Young, iV y1.Old] 57] [(3, sV y1.Key), (5, .pointer (some ⟨b2, 0, none⟩)), (11, v_p_l), (12, iV (p_l.length : Int)), (13, iV (i1 : Int)), (41, u1.val), (42, iV (y1.Clubs.length : Int)), (43, iV (i2 : Int)), (44, bV (decide ((i2 : Int) < (y1.Clubs.length : Int))))] [true] rfl (subR rfl)
         refine then_n (f_seq (wp_cond_true ((S.tm rfl).trans (congrArg Value.bool (rng_cons hd2 hi2))) (wp_skip (then_n (f_seq (wp_block ?_))))))
         refine f_seq (f_region (lv S (rn_move (S.tm rfl)) rfl ?_)); clear S; intro a S
         obtain ⟨b3, o2, hm2, hr4⟩ := rn_indexT (a := a) (x := .tmp 41) (y := .tmp 43) (ty := 0) sl_37 hs1 (get_mid hd2 hi2) rfl (S.tm rfl) (S.tm rfl)
         refine lv S (hr4 _) rfl ?_; clear S; intro a S
         clear hr4
         refine lv S (rn_ld Tryz.isAgg9 (off := o2) (o := 0) (S.tm rfl) (hm2.at S.emb0) rfl) rfl ?_; clear S; intro a S
         refine lv S (rn_assign (S.tm rfl)) rfl ?_; clear S; intro a S
         refine lv S (rn_assign (S.tm rfl)) rfl ?_; clear S; intro a S
         refine l_done (then_n (f_seq (f_seq (f_region (lv S (rn_move (S.tm rfl)) rfl ?_))))); clear S; intro a S
         obtain ⟨r4, hr5, h⟩ := bindE h
         refine l_enter S (fun _ => run_call (vs := [sV y2]) ⟨(S.tm rfl), trivial⟩ Tryz.call52) (tumbref2_Key_ok _ y2 _ hr5) rfl ?_; clear S; intro v3 a w10 hv3 hk6 hn3 S
         subst hv3
         refine lv S (rn_not (S.tm rfl)) rfl ?_; clear S; intro a S
         refine l_done ?_
         replace S := S.nk [.blk b2 [sV y1.Key, sV y1.Race, u1.val, iV y1.Young, iV y1.Old] 57] [(3, sV y1.Key), (5, .pointer (some ⟨b2, 0, none⟩)), (6, iV (i2 : Int)), (7, sV y2), (11, v_p_l), (12, iV (p_l.length : Int)), (13, iV (i1 : Int)), (41, u1.val), (42, iV (y1.Clubs.length : Int)), (43, iV (i2 : Int)), (50, bV (!r4))] [true] rfl (subR rfl)
         refine then_n (f_cond (S.tm rfl) (fun hb6 => ?_) (fun hb6 => ?_))
         ·replace h := iteT h hb6
          refine f_seq (f_region (lv S (rn_assign rfl) rfl ?_)); clear S; intro a S
          refine l_done (then_n (wp_ret (then_r (blk_r (then_r (then_r ?_))))))
          refine blk_r (then_r (then_r (blk_r (then_r (then_r (blk_r ?_))))))
          refine then_r (then_r ?_)
          obtain rfl := Option.some.inj h
          exact f_ret S Tryz.results17 rfl rfl
         ·replace h := iteF h hb6
          refine wp_skip (then_n (f_seq (f_region (lv S (rn_move (S.tm rfl)) rfl ?_)))); clear S; intro a S
          refine lv S (rn_gtr (S.tm rfl) rfl) rfl ?_; clear S; intro a S
          refine lv S (rn_move (S.tm rfl)) rfl ?_; clear S; intro a S
          obtain ⟨j4, hj4, h⟩ := joinE h
          refine f_cutm 9 (fun a w' => ∃ c2, j4 c2 = some r ∧ Keep [] w10 w' ∧ Sx w [] nov [.blk b2 [sV y1.Key, sV y1.Race, u1.val, iV y1.Young, iV y1.Old] 57] [(3, sV y1.Key), (5, .pointer (some ⟨b2, 0, none⟩)), (11, v_p_l), (12, iV (p_l.length : Int)), (13, iV (i1 : Int)), (41, u1.val), (42, iV (y1.Clubs.length : Int)), (43, iV (i2 : Int)), (62, bV c2)] 76 a w') ?_ ?_
          ·rcases Bool.eq_false_or_eq_true (decide (0 < (i2 : Int))) with hb7 | hb7
           ·replace h := iteT h hb7
            refine l_want S rfl rfl rfl hb7 (lv S (rn_move (S.tm rfl)) rfl ?_); clear S; intro a S
            refine l_want S rfl rfl rfl hb7 (lv S (rn_fld fa_57_2 (S.tm rfl)) rfl ?_); clear S; intro a S
            refine l_want S rfl rfl rfl hb7 (lv S (rn_load Tryz.isAgg37 (S.tm rfl) (S.cell (i := 0) rfl rfl)) rfl ?_); clear S; intro a S
            refine l_want S rfl rfl rfl hb7 (lv S (rn_move (S.tm rfl)) rfl ?_); clear S; intro a S
            refine l_want S rfl rfl rfl hb7 (lv S (rn_sub (S.tm rfl) rfl) rfl ?_); clear S; intro a S
            refine l_want S rfl rfl rfl hb7 ?_
            obtain ⟨hc1, h⟩ := chkE h
            obtain ⟨b4, o3, hm3, hr6⟩ := rn_indexT (a := a) (x := .tmp 56) (y := .tmp 58) (ty := 0) sl_37 hs1 (inB_get hc1).1 (inB_get hc1).2 (S.tm rfl) (S.tm rfl)
            refine lv S (hr6 _) rfl ?_; clear S; intro a S
            clear hr6
            refine l_want S rfl rfl rfl hb7 (lv S (rn_ld Tryz.isAgg9 (off := o3) (o := 0) (S.tm rfl) (hm3.at S.emb0) rfl) rfl ?_); clear S; intro a S
            refine l_want S rfl rfl rfl hb7 (lv S (rn_sleq (S.tm rfl) (S.tm rfl)) rfl ?_); clear S; intro a S
            refine lv S (rn_and_t hb7 (S.tm rfl) (S.tm rfl)) rfl ?_; clear S; intro a S
            refine l_done (then_n ?_)
            exact ⟨_, h, Keep.refl _ _, S.nf [true] rfl (subR rfl)⟩
           ·replace h := iteF h hb7
            iterate 8 (refine l_skip S rfl rfl rfl (neq_f hb7) rfl ?_ rfl; clear S; intro a S)
            refine lv S (rn_and_f true hb7 (S.tm rfl) rfl) rfl ?_; clear S; intro a S
            refine l_done (then_n ?_)
            exact ⟨_, h, Keep.refl _ _, S.nf [true] rfl (subR rfl)⟩
          clear S h; rintro a w11 ⟨c2, h, hk7, S⟩; rw [hj4] at h; clear hj4 j4
          refine l_done (then_n (f_cond (S.tm rfl) (fun hb8 => ?_) (fun hb8 => ?_)))
          ·replace h := iteT h hb8
           refine f_seq (f_region (lv S (rn_assign rfl) rfl ?_)); clear S; intro a S
           refine l_done (then_n (wp_ret (blk_r (then_r (then_r (blk_r ?_))))))
           refine then_r (then_r (blk_r (then_r (then_r (blk_r (then_r ?_))))))
           refine then_r ?_
           obtain rfl := Option.some.inj h
           exact f_ret S Tryz.results17 rfl rfl
          ·replace h := iteF h hb8
           refine wp_skip (blk_n (then_n (f_region (lv S (rn_add (S.tm rfl) rfl) rfl ?_)))); clear S; intro a S
           refine lv S (rn_move (S.tm rfl)) rfl ?_; clear S; intro a S
           refine l_done (then_n ?_)
           exact ⟨ys2, ⟨i2 + 1, ⟨_, (hd2).trans (List.append_cons _ _ _), by simp [hi2]⟩, h, S.nf [true] rfl ⟨rfl, rfl, rfl, rfl, rfl, rfl, rfl, (congrArg (fun z => some (Value.int .i64 z)) (rng_next hd2 hi2 (slc_max hs1))), trivial⟩⟩, Nat.lt_succ_self _⟩
       clear S h; rintro a w9 ⟨h, S⟩; rw [hj3] at h; clear hj3 j3
       refine then_n (f_seq (f_region (lv S (rn_fld fa_57_3 (S.tm rfl)) rfl ?_))); clear S; intro a S
       refine lv S (rn_load Tryz.isAgg3 (S.tm rfl) (S.cell (i := 0) rfl rfl)) rfl ?_; clear S; intro a S
       refine lv S (rn_fld fa_57_4 (S.tm rfl)) rfl ?_; clear S; intro a S
       refine lv S (rn_load Tryz.isAgg3 (S.tm rfl) (S.cell (i := 0) rfl rfl)) rfl ?_; clear S; intro a S
       refine l_enter S (fun _ => run_call (vs := [iV y1.Young, iV 0, iV y1.Old]) ⟨(S.tm rfl), rfl, (S.tm rfl), trivial⟩ Tryz.call53) (tumbref2_in_ok _ y1.Young 0 y1.Old _ rfl) rfl ?_; clear S; intro v4 a w12 hv4 hk8 hn4 S
       subst hv4
       refine lv S (rn_not (S.tm rfl)) rfl ?_; clear S; intro a S
       refine lv S (rn_move (S.tm rfl)) rfl ?_; clear S; intro a S
       refine f_cutm 4 (fun a w' => Keep [] w12 w' ∧ Sx w [] nov [.blk b2 [sV y1.Key, sV y1.Race, u1.val, iV y1.Young, iV y1.Old] 57] [(3, sV y1.Key), (11, v_p_l), (12, iV (p_l.length : Int)), (13, iV (i1 : Int)), (74, bV ((!(tumbref2_in y1.Young 0 y1.Old)) || (decide (150 < y1.Old))))] 76 a w') ?_ ?_
       ·rcases Bool.eq_false_or_eq_true (!(tumbref2_in y1.Young 0 y1.Old)) with hb9 | hb9
        ·iterate 3 (refine l_skip S rfl rfl rfl (neq_t hb9) rfl ?_ rfl; clear S; intro a S)
         refine lv S (rn_or_t (decide (150 < y1.Old)) hb9 (S.tm rfl) rfl) rfl ?_; clear S; intro a S
         refine l_done (then_n ?_)
         exact ⟨Keep.refl _ _, S.nf [true] rfl (subR rfl)⟩
        ·refine l_want S rfl rfl rfl hb9 (lv S (rn_fld fa_57_4 (S.tm rfl)) rfl ?_); clear S; intro a S
         refine l_want S rfl rfl rfl hb9 (lv S (rn_load Tryz.isAgg3 (S.tm rfl) (S.cell (i := 0) rfl rfl)) rfl ?_); clear S; intro a S
         refine l_want S rfl rfl rfl hb9 (lv S (rn_gtr (S.tm rfl) rfl) rfl ?_); clear S; intro a S
         refine lv S (rn_or_f hb9 (S.tm rfl) (S.tm rfl)) rfl ?_; clear S; intro a S
         refine l_done (then_n ?_)
         exact ⟨Keep.refl _ _, S.nf [true] rfl (subR rfl)⟩
       clear S; rintro a w13 ⟨hk9, S⟩
       refine l_done (then_n (f_cond (S.tm rfl) (fun hb10 => ?_) (fun hb10 => ?_)))
       ·replace h := iteT h hb10
        refine f_seq (f_region (lv S (rn_assign rfl) rfl ?_)); clear S; intro a S
        refine l_done (then_n (wp_ret (blk_r (then_r (then_r (blk_r ?_))))))
        refine then_r (then_r ?_)
        obtain rfl := Option.some.inj h
        exact f_ret S Tryz.results17 rfl rfl
       ·replace h := iteF h hb10
        refine wp_skip (blk_n (then_n (f_region (lv S (rn_add (S.tm rfl) rfl) rfl ?_)))); clear S; intro a S
        refine lv S (rn_move (S.tm rfl)) rfl ?_; clear S; intro a S
        refine l_done (then_n ?_)
        exact ⟨ys1, ⟨i1 + 1, y1.Key, ⟨_, (hd1).trans (List.append_cons _ _ _), by simp [hi1]⟩, h, S.nf [false] rfl ⟨rfl, rfl, rfl, (congrArg (fun z => some (Value.int .i64 z)) (rng_next hd1 hi1 (slc_maxD hs_p_l hr_p_l))), trivial⟩⟩, Nat.lt_succ_self _⟩
  clear S h; rintro a w2 ⟨h, S⟩; rw [hj1] at h; clear hj1 j1
  refine then_n (f_seq (f_region (lv S (rn_assign rfl) rfl ?_))); clear S; intro a S
  refine l_done (then_n (wp_ret ?_))
  obtain rfl := Option.some.inj h
  exact f_ret S Tryz.results17 rfl rfl
end Go.Proofs.YtdkpfiinkodbfaaGreatDoor
