/- Each Go function computes its plain twin, by program. -/
import Derived.Test.YtpfommakhgkmeaaGreatDoorWk1
namespace Go.Proofs.YtpfommakhgkmeaaGreatDoor
open Go
set_option maxRecDepth 20000 in
theorem meet_checkDeed_ok (w : World) (V : GDeed) (r : Int) (h : meet_checkDeed V = some r) :
    Calls Tryz.prog 53 [.agg (GDeed.enc V).toArray].toArray w (Ret w [] fun _ v _ => v = iV r) := by
 refine f_enter [] [] Tryz.func53 rfl Tryz.ntmps53 rfl (by simp) (by simp [fps]) (by simp [fps]) fun a S => ?_
 unfold meet_checkDeed at h
 replace S := S.nk [] [(0, .agg (GDeed.enc V).toArray)] [] rfl ⟨rfl, trivial⟩
 refine Fs (Fg (l_box S (S.tm rfl) (cs := (GDeed.enc V)) rfl rfl ?_));clear S;intro a w1 b1 hz1 hk1 S
 refine lv S (Ra rfl) rfl ?_;clear S;intro a S
 refine Ld (Tn (Fs (wp_block (Fs (Fg (lv S (rn_fld fa_39_0 (S.tm rfl)) rfl ?_))))));clear S;intro a S
 refine lv S (rn_load Tryz.isAgg9 (S.tm rfl) (S.cell (i := 0) rfl rfl)) rfl ?_;clear S;intro a S
 obtain ⟨r1, hr1, h⟩ := bindE h
 refine l_enter S (fun _ => run_call (vs := [sV V.Site]) ⟨(S.tm rfl), trivial⟩ Tryz.call74) (words_IsKey_ok _ V.Site _ hr1) rfl ?_;clear S;intro v1 a w2 hv1 hk2 hn1 S
 subst hv1
 refine lv S (rn_not (S.tm rfl)) rfl ?_;clear S;intro a S
 refine lv S (Ra (S.tm rfl)) rfl ?_;clear S;intro a S
 refine Ld (Tn (f_cond (S.tm rfl) (fun hb1 => ?_) (fun hb1 => ?_)))
 ·replace h := iteT h hb1
  refine Fs (Fg (lv S (Ra rfl) rfl ?_));clear S;intro a S
  refine Ld (Tn (wp_ret (blk_r (then_r ?_))))
  obtain rfl := Option.some.inj h
  exact f_ret S Tryz.results53 rfl rfl
 ·replace h := iteF h hb1
  refine Fs (Fg (lv S (rn_fld fa_39_1 (S.tm rfl)) rfl ?_));clear S;intro a S
  refine lv S (rn_load Tryz.isAgg3 (S.tm rfl) (S.cell (i := 0) rfl rfl)) rfl ?_;clear S;intro a S
  refine l_enter S (fun _ => run_call (vs := [iV V.No, iV 1, iV 1000000]) ⟨(S.tm rfl), rfl, rfl, trivial⟩ Tryz.call75) (words_Within_ok _ V.No 1 1000000 _ rfl) rfl ?_;clear S;intro v2 a w3 hv2 hk3 hn2 S
  subst hv2
  refine lv S (rn_not (S.tm rfl)) rfl ?_;clear S;intro a S
  refine lv S (Rm (S.tm rfl)) rfl ?_;clear S;intro a S
  refine f_cutm 5 (fun a w' => Keep [] w3 w' ∧ Sx w [] nov [.blk b1 (GDeed.enc V) 39] [(1, .pointer (some ⟨b1, 0, none⟩)), (22, bV ((!(words_Within V.No 1 1000000)) || (!(words_IsMoment V.At))))] 152 a w') ?_ ?_
  ·rcases Bool.eq_false_or_eq_true (!(words_Within V.No 1 1000000)) with hb2 | hb2
   ·iterate 4 (refine l_skip S rfl rfl rfl (neq_t hb2) rfl ?_ rfl;clear S;intro a S)
    refine lv S (rn_or_t (!(words_IsMoment V.At)) hb2 (S.tm rfl) rfl) rfl ?_;clear S;intro a S
    refine Ld (Tn ?_)
    exact ⟨Keep.refl _ _, S.nf [true] rfl (subR rfl)⟩
   ·refine l_want S rfl rfl rfl hb2 (lv S (rn_fld fa_39_2 (S.tm rfl)) rfl ?_);clear S;intro a S
    refine l_want S rfl rfl rfl hb2 (lv S (rn_load Tryz.isAgg3 (S.tm rfl) (S.cell (i := 0) rfl rfl)) rfl ?_);clear S;intro a S
    refine l_want S rfl rfl rfl hb2 (l_enter S (fun _ => run_call (vs := [iV V.At]) ⟨(S.tm rfl), trivial⟩ Tryz.call76) (words_IsMoment_ok _ V.At _ rfl) rfl ?_);clear S;intro v3 a w5 hv3 hk4 hn3 S
    subst hv3
    refine l_want S rfl rfl rfl hb2 (lv S (rn_not (S.tm rfl)) rfl ?_);clear S;intro a S
    refine lv S (rn_or_f hb2 (S.tm rfl) (S.tm rfl)) rfl ?_;clear S;intro a S
    refine Ld (Tn ?_)
    exact ⟨hk4, S.nf [true] rfl (subR rfl)⟩
  clear S;rintro a w4 ⟨hk5, S⟩
  refine lv S (Ra (S.tm rfl)) rfl ?_;clear S;intro a S
  refine Ld (Tn (f_cond (S.tm rfl) (fun hb3 => ?_) (fun hb3 => ?_)))
  ·replace h := iteT h hb3
   refine Fs (Fg (lv S (Ra rfl) rfl ?_));clear S;intro a S
   refine Ld (Tn (wp_ret (blk_r (then_r ?_))))
   obtain rfl := Option.some.inj h
   exact f_ret S Tryz.results53 rfl rfl
  ·replace h := iteF h hb3
   refine Fs (Fg (lv S (rn_fld fa_39_3 (S.tm rfl)) rfl ?_));clear S;intro a S
   refine lv S (rn_load Tryz.isAgg3 (S.tm rfl) (S.cell (i := 0) rfl rfl)) rfl ?_;clear S;intro a S
   refine l_enter S (fun _ => run_call (vs := [iV V.Kind, iV 1, iV 4]) ⟨(S.tm rfl), rfl, rfl, trivial⟩ Tryz.call75) (words_Within_ok _ V.Kind 1 4 _ rfl) rfl ?_;clear S;intro v4 a w6 hv4 hk6 hn4 S
   subst hv4
   refine lv S (rn_not (S.tm rfl)) rfl ?_;clear S;intro a S
   refine lv S (Ra (S.tm rfl)) rfl ?_;clear S;intro a S
   refine Ld (Tn (f_cond (S.tm rfl) (fun hb4 => ?_) (fun hb4 => ?_)))
   ·replace h := iteT h hb4
    refine Fs (Fg (lv S (Ra rfl) rfl ?_));clear S;intro a S
    refine Ld (Tn (wp_ret (blk_r (then_r ?_))))
    obtain rfl := Option.some.inj h
    exact f_ret S Tryz.results53 rfl rfl
   ·replace h := iteF h hb4
    refine wp_skip (blk_n (Tn (Fs (d_region [] ([]) Tryz.mixed S rfl (by kernel_rfl) ?_))));clear S;intro w7 hk7 hsel S
    refine d_rest [0, 1, 2, 3, 4, 5, 6, 7, 8, 9, 10, 11] hsel (by kernel_rfl) rfl ?_
    clear hsel
    refine s_lv S rfl (rn_fld fa_39_3 (S.tm rfl)) rfl ?_;clear S;intro a S
    refine s_lv S rfl (rn_load Tryz.isAgg3 (S.tm rfl) (S.cell (i := 0) rfl rfl)) rfl ?_;clear S;intro a S
    refine s_lv S rfl (rn_eql (S.tm rfl) rfl) rfl ?_;clear S;intro a S
    refine s_lv S rfl (rn_fld fa_39_3 (S.tm rfl)) rfl ?_;clear S;intro a S
    refine s_lv S rfl (rn_load Tryz.isAgg3 (S.tm rfl) (S.cell (i := 0) rfl rfl)) rfl ?_;clear S;intro a S
    refine s_lv S rfl (rn_eql (S.tm rfl) rfl) rfl ?_;clear S;intro a S
    refine s_lv S rfl (rn_fld fa_39_3 (S.tm rfl)) rfl ?_;clear S;intro a S
    refine s_lv S rfl (rn_load Tryz.isAgg3 (S.tm rfl) (S.cell (i := 0) rfl rfl)) rfl ?_;clear S;intro a S
    refine s_lv S rfl (rn_eql (S.tm rfl) rfl) rfl ?_;clear S;intro a S
    iterate 3 (refine s_lv S rfl (Ra (S.tm rfl)) rfl ?_;clear S;intro a S)
    refine s_done ?_
    replace S := S.nk [.blk b1 (GDeed.enc V) 39] [(1, .pointer (some ⟨b1, 0, none⟩)), (3, bV (decide (V.Kind = 1))), (4, bV (decide (V.Kind = 3))), (5, bV (decide (V.Kind = 4)))] [true] rfl (subR rfl)
    refine Tn (Fs (wp_block (Fs (Fs (Fg (lv S (Rm (S.tm rfl)) rfl ?_))))));clear S;intro a S
    refine lv S (rn_not (S.tm rfl)) rfl ?_;clear S;intro a S
    refine lv S (Rm (S.tm rfl)) rfl ?_;clear S;intro a S
    obtain ⟨j1, hj1, h⟩ := joinE h
    refine f_cutm 11 (fun a w' => ∃ c1, j1 c1 = some r ∧ Keep [] w7 w' ∧ Sx w [] nov [.blk b1 (GDeed.enc V) 39] [(1, .pointer (some ⟨b1, 0, none⟩)), (3, bV (decide (V.Kind = 1))), (4, bV (decide (V.Kind = 3))), (5, bV (decide (V.Kind = 4))), (51, bV c1)] 152 a w') ?_ ?_
    ·rcases Bool.eq_false_or_eq_true (!(decide (V.Kind = 4))) with hb5 | hb5
     ·replace h := iteT h hb5
      refine l_want S rfl rfl rfl hb5 (lv S (rn_fld fa_39_4 (S.tm rfl)) rfl ?_);clear S;intro a S
      refine l_want S rfl rfl rfl hb5 (lv S (rn_load Tryz.isAgg9 (S.tm rfl) (S.cell (i := 0) rfl rfl)) rfl ?_);clear S;intro a S
      refine l_want S rfl rfl rfl hb5 ?_
      obtain ⟨r2, hr2, h⟩ := bindE h
      refine l_enter S (fun _ => run_call (vs := [sV V.Who]) ⟨(S.tm rfl), trivial⟩ Tryz.call74) (words_IsKey_ok _ V.Who _ hr2) rfl ?_;clear S;intro v5 a w9 hv5 hk8 hn5 S
      subst hv5
      refine l_want S rfl rfl rfl hb5 (lv S (rn_not (S.tm rfl)) rfl ?_);clear S;intro a S
      refine l_want S rfl rfl rfl hb5 (lv S (Rm (S.tm rfl)) rfl ?_);clear S;intro a S
      obtain ⟨j2, hj2, h⟩ := joinE h
      refine f_cutm 5 (fun a w' => ∃ c2, j2 c2 = some r ∧ Keep [] w9 w' ∧ Sx w [] nov [.blk b1 (GDeed.enc V) 39] [(1, .pointer (some ⟨b1, 0, none⟩)), (3, bV (decide (V.Kind = 1))), (4, bV (decide (V.Kind = 3))), (5, bV (decide (V.Kind = 4))), (40, bV (!(decide (V.Kind = 4)))), (50, bV c2)] 152 a w') ?_ ?_
      ·rcases Bool.eq_false_or_eq_true (!r2) with hb6 | hb6
       ·replace h := iteT h hb6
        iterate 4 (refine l_skip S rfl rfl rfl (neq_t hb6) rfl ?_ rfl;clear S;intro a S)
        refine l_want S rfl rfl rfl hb5 (lv S (rn_or_t true hb6 (S.tm rfl) rfl) rfl ?_);clear S;intro a S
        refine Ld (Tn ?_)
        exact ⟨_, h, Keep.refl _ _, S.nf [true] rfl (subR rfl)⟩
       ·replace h := iteF h hb6
        refine l_want S rfl rfl rfl hb6 (lv S (rn_fld fa_39_6 (S.tm rfl)) rfl ?_);clear S;intro a S
        refine l_want S rfl rfl rfl hb6 (lv S (rn_load Tryz.isAgg9 (S.tm rfl) (S.cell (i := 0) rfl rfl)) rfl ?_);clear S;intro a S
        refine l_want S rfl rfl rfl hb6 ?_
        obtain ⟨r3, hr3, h⟩ := bindE h
        refine l_enter S (fun _ => run_call (vs := [sV V.Race]) ⟨(S.tm rfl), trivial⟩ Tryz.call74) (words_IsKey_ok _ V.Race _ hr3) rfl ?_;clear S;intro v6 a w11 hv6 hk9 hn6 S
        subst hv6
        refine l_want S rfl rfl rfl hb6 (lv S (rn_not (S.tm rfl)) rfl ?_);clear S;intro a S
        refine l_want S rfl rfl rfl hb5 (lv S (rn_or_f hb6 (S.tm rfl) (S.tm rfl)) rfl ?_);clear S;intro a S
        refine Ld (Tn ?_)
        exact ⟨_, h, hk9, S.nf [true] rfl (subR rfl)⟩
      clear S h;rintro a w10 ⟨c2, h, hk10, S⟩;rw [hj2] at h;clear hj2 j2
      refine lv S (rn_and_t hb5 (S.tm rfl) (S.tm rfl)) rfl ?_;clear S;intro a S
      refine Ld (Tn ?_)
      exact ⟨_, h, (hk8).trans hk10, S.nf [true] rfl (subR rfl)⟩
     ·replace h := iteF h hb5
      iterate 5 (refine l_skip S rfl rfl rfl (neq_f hb5) rfl ?_ rfl;clear S;intro a S)
      iterate 4 (refine l_skipU S rfl rfl rfl rfl ?_;clear S;intro a S)
      refine l_skip S rfl rfl rfl (neq_f hb5) rfl ?_ rfl;clear S;intro a S
      refine lv S (rn_and_f true hb5 (S.tm rfl) rfl) rfl ?_;clear S;intro a S
      refine Ld (Tn ?_)
      exact ⟨_, h, Keep.refl _ _, S.nf [true] rfl (subR rfl)⟩
    clear S h;rintro a w8 ⟨c1, h, hk11, S⟩;rw [hj1] at h;clear hj1 j1
    refine lv S (Ra (S.tm rfl)) rfl ?_;clear S;intro a S
    refine Ld (Tn ?_)
    obtain ⟨j3, hj3, h⟩ := joinE h
    refine f_join (fun a w' => ∃ x1 : Bool, j3 x1 = some r ∧ Sx w [] nov [.blk b1 (GDeed.enc V) 39] [(1, .pointer (some ⟨b1, 0, none⟩)), (3, bV (decide (V.Kind = 1))), (4, bV (decide (V.Kind = 3))), (5, bV (decide (V.Kind = 4))), (37, bV x1)] 152 a w') ?_ ?_
    ·refine f_cond (S.tm rfl) (fun hb7 => ?_) (fun hb7 => ?_)
     ·replace h := iteT h hb7
      refine wp_skip (Tn ?_)
      exact ⟨c1, h, S.nf [true] rfl (subR rfl)⟩
     ·replace h := iteF h hb7
      refine Fg (lv S (Rm (S.tm rfl)) rfl ?_);clear S;intro a S
      refine lv S (Rm (S.tm rfl)) rfl ?_;clear S;intro a S
      refine f_cutm 4 (fun a w' => Keep [] w8 w' ∧ Sx w [] nov [.blk b1 (GDeed.enc V) 39] [(1, .pointer (some ⟨b1, 0, none⟩)), (3, bV (decide (V.Kind = 1))), (4, bV (decide (V.Kind = 3))), (5, bV (decide (V.Kind = 4))), (57, bV ((decide (V.Kind = 1)) && (!decide (V.Club = k_empty))))] 152 a w') ?_ ?_
      ·rcases Bool.eq_false_or_eq_true (decide (V.Kind = 1)) with hb8 | hb8
       ·refine l_want S rfl rfl rfl hb8 (lv S (rn_fld fa_39_5 (S.tm rfl)) rfl ?_);clear S;intro a S
        refine l_want S rfl rfl rfl hb8 (lv S (rn_load Tryz.isAgg9 (S.tm rfl) (S.cell (i := 0) rfl rfl)) rfl ?_);clear S;intro a S
        refine l_want S rfl rfl rfl hb8 (lv S (rn_sneq (S.tm rfl) rfl) rfl ?_);clear S;intro a S
        refine lv S (rn_and_t hb8 (S.tm rfl) (S.tm rfl)) rfl ?_;clear S;intro a S
        refine Ld (Tn ?_)
        exact ⟨Keep.refl _ _, S.nf [true] rfl (subR rfl)⟩
       ·iterate 3 (refine l_skip S rfl rfl rfl (neq_f hb8) rfl ?_ rfl;clear S;intro a S)
        refine lv S (rn_and_f (!decide (V.Club = k_empty)) hb8 (S.tm rfl) rfl) rfl ?_;clear S;intro a S
        refine Ld (Tn ?_)
        exact ⟨Keep.refl _ _, S.nf [true] rfl (subR rfl)⟩
      clear S;rintro a w13 ⟨hk12, S⟩
      refine lv S (Rm (S.tm rfl)) rfl ?_;clear S;intro a S
      obtain ⟨j4, hj4, h⟩ := joinE h
      refine f_cutm 5 (fun a w' => ∃ c3, j4 c3 = some r ∧ Keep [] w13 w' ∧ Sx w [] nov [.blk b1 (GDeed.enc V) 39] [(1, .pointer (some ⟨b1, 0, none⟩)), (3, bV (decide (V.Kind = 1))), (4, bV (decide (V.Kind = 3))), (5, bV (decide (V.Kind = 4))), (63, bV c3)] 152 a w') ?_ ?_
      ·rcases Bool.eq_false_or_eq_true ((decide (V.Kind = 1)) && (!decide (V.Club = k_empty))) with hb9 | hb9
       ·replace h := iteT h hb9
        refine l_want S rfl rfl rfl hb9 (lv S (rn_fld fa_39_5 (S.tm rfl)) rfl ?_);clear S;intro a S
        refine l_want S rfl rfl rfl hb9 (lv S (rn_load Tryz.isAgg9 (S.tm rfl) (S.cell (i := 0) rfl rfl)) rfl ?_);clear S;intro a S
        refine l_want S rfl rfl rfl hb9 ?_
        obtain ⟨r4, hr4, h⟩ := bindE h
        refine l_enter S (fun _ => run_call (vs := [sV V.Club]) ⟨(S.tm rfl), trivial⟩ Tryz.call74) (words_IsKey_ok _ V.Club _ hr4) rfl ?_;clear S;intro v7 a w15 hv7 hk13 hn7 S
        subst hv7
        refine l_want S rfl rfl rfl hb9 (lv S (rn_not (S.tm rfl)) rfl ?_);clear S;intro a S
        refine lv S (rn_and_t hb9 (S.tm rfl) (S.tm rfl)) rfl ?_;clear S;intro a S
        refine Ld (Tn ?_)
        exact ⟨_, h, hk13, S.nf [true] rfl (subR rfl)⟩
       ·replace h := iteF h hb9
        iterate 4 (refine l_skip S rfl rfl rfl (neq_f hb9) rfl ?_ rfl;clear S;intro a S)
        refine lv S (rn_and_f true hb9 (S.tm rfl) rfl) rfl ?_;clear S;intro a S
        refine Ld (Tn ?_)
        exact ⟨_, h, Keep.refl _ _, S.nf [true] rfl (subR rfl)⟩
      clear S h;rintro a w14 ⟨c3, h, hk14, S⟩;rw [hj4] at h;clear hj4 j4
      refine lv S (Ra (S.tm rfl)) rfl ?_;clear S;intro a S
      refine Ld (Tn ?_)
      exact ⟨c3, h, S.nf [true] rfl (subR rfl)⟩
    clear S h;rintro a w12 ⟨x1, h, S⟩;rw [hj3] at h;clear hj3 j3
    refine Tn (f_cond (S.tm rfl) (fun hb10 => ?_) (fun hb10 => ?_))
    ·replace h := iteT h hb10
     refine Fs (Fg (lv S (Ra rfl) rfl ?_));clear S;intro a S
     refine Ld (Tn (wp_ret (blk_r (then_r ?_))))
     obtain rfl := Option.some.inj h
     exact f_ret S Tryz.results53 rfl rfl
    ·replace h := iteF h hb10
     refine Fs (Fs (Fg (lv S (Rm (S.tm rfl)) rfl ?_)));clear S;intro a S
     refine lv S (Rm (S.tm rfl)) rfl ?_;clear S;intro a S
     refine f_cutm 2 (fun a w' => Keep [] w12 w' ∧ Sx w [] nov [.blk b1 (GDeed.enc V) 39] [(1, .pointer (some ⟨b1, 0, none⟩)), (3, bV (decide (V.Kind = 1))), (4, bV (decide (V.Kind = 3))), (5, bV (decide (V.Kind = 4))), (68, bV ((decide (V.Kind = 1)) || (decide (V.Kind = 3))))] 152 a w') ?_ ?_
     ·rcases Bool.eq_false_or_eq_true (decide (V.Kind = 1)) with hb11 | hb11
      ·refine l_skip S rfl rfl rfl (neq_t hb11) rfl ?_ rfl;clear S;intro a S
       refine lv S (rn_or_t (decide (V.Kind = 3)) hb11 (S.tm rfl) rfl) rfl ?_;clear S;intro a S
       refine Ld (Tn ?_)
       exact ⟨Keep.refl _ _, S.nf [true] rfl (subR rfl)⟩
      ·refine l_want S rfl rfl rfl hb11 (lv S (Rm (S.tm rfl)) rfl ?_);clear S;intro a S
       refine lv S (rn_or_f hb11 (S.tm rfl) (S.tm rfl)) rfl ?_;clear S;intro a S
       refine Ld (Tn ?_)
       exact ⟨Keep.refl _ _, S.nf [true] rfl (subR rfl)⟩
     clear S;rintro a w16 ⟨hk15, S⟩
     refine lv S (Rm (S.tm rfl)) rfl ?_;clear S;intro a S
     refine f_cutm 5 (fun a w' => Keep [] w16 w' ∧ Sx w [] nov [.blk b1 (GDeed.enc V) 39] [(1, .pointer (some ⟨b1, 0, none⟩)), (3, bV (decide (V.Kind = 1))), (4, bV (decide (V.Kind = 3))), (5, bV (decide (V.Kind = 4))), (74, bV (((decide (V.Kind = 1)) || (decide (V.Kind = 3))) && (!(words_Within V.Time 0 360000))))] 152 a w') ?_ ?_
     ·rcases Bool.eq_false_or_eq_true ((decide (V.Kind = 1)) || (decide (V.Kind = 3))) with hb12 | hb12
      ·refine l_want S rfl rfl rfl hb12 (lv S (rn_fld fa_39_7 (S.tm rfl)) rfl ?_);clear S;intro a S
       refine l_want S rfl rfl rfl hb12 (lv S (rn_load Tryz.isAgg3 (S.tm rfl) (S.cell (i := 0) rfl rfl)) rfl ?_);clear S;intro a S
       refine l_want S rfl rfl rfl hb12 (l_enter S (fun _ => run_call (vs := [iV V.Time, iV 0, iV 360000]) ⟨(S.tm rfl), rfl, rfl, trivial⟩ Tryz.call75) (words_Within_ok _ V.Time 0 360000 _ rfl) rfl ?_);clear S;intro v8 a w18 hv8 hk16 hn8 S
       subst hv8
       refine l_want S rfl rfl rfl hb12 (lv S (rn_not (S.tm rfl)) rfl ?_);clear S;intro a S
       refine lv S (rn_and_t hb12 (S.tm rfl) (S.tm rfl)) rfl ?_;clear S;intro a S
       refine Ld (Tn ?_)
       exact ⟨hk16, S.nf [true] rfl (subR rfl)⟩
      ·iterate 4 (refine l_skip S rfl rfl rfl (neq_f hb12) rfl ?_ rfl;clear S;intro a S)
       refine lv S (rn_and_f (!(words_Within V.Time 0 360000)) hb12 (S.tm rfl) rfl) rfl ?_;clear S;intro a S
       refine Ld (Tn ?_)
       exact ⟨Keep.refl _ _, S.nf [true] rfl (subR rfl)⟩
     clear S;rintro a w17 ⟨hk17, S⟩
     refine lv S (Ra (S.tm rfl)) rfl ?_;clear S;intro a S
     refine Ld (Tn ?_)
     obtain ⟨j5, hj5, h⟩ := joinE h
     refine f_join (fun a w' => ∃ x2 : Bool, j5 x2 = some r ∧ Sx w [] nov [.blk b1 (GDeed.enc V) 39] [(1, .pointer (some ⟨b1, 0, none⟩)), (3, bV (decide (V.Kind = 1))), (4, bV (decide (V.Kind = 3))), (5, bV (decide (V.Kind = 4))), (64, bV x2)] 152 a w') ?_ ?_
     ·refine f_cond (S.tm rfl) (fun hb13 => ?_) (fun hb13 => ?_)
      ·replace h := iteT h hb13
       refine wp_skip (Tn ?_)
       exact ⟨(((decide (V.Kind = 1)) || (decide (V.Kind = 3))) && (!(words_Within V.Time 0 360000))), h, S.nf [true] rfl (subR rfl)⟩
      ·replace h := iteF h hb13
       refine Fg (lv S (Rm (S.tm rfl)) rfl ?_);clear S;intro a S
       refine lv S (Rm (S.tm rfl)) rfl ?_;clear S;intro a S
       refine f_cutm 5 (fun a w' => Keep [] w17 w' ∧ Sx w [] nov [.blk b1 (GDeed.enc V) 39] [(1, .pointer (some ⟨b1, 0, none⟩)), (3, bV (decide (V.Kind = 1))), (4, bV (decide (V.Kind = 3))), (5, bV (decide (V.Kind = 4))), (81, bV ((decide (V.Kind = 3)) && (!(words_Within V.Fault 0 8))))] 152 a w') ?_ ?_
       ·rcases Bool.eq_false_or_eq_true (decide (V.Kind = 3)) with hb14 | hb14
        ·refine l_want S rfl rfl rfl hb14 (lv S (rn_fld fa_39_8 (S.tm rfl)) rfl ?_);clear S;intro a S
         refine l_want S rfl rfl rfl hb14 (lv S (rn_load Tryz.isAgg3 (S.tm rfl) (S.cell (i := 0) rfl rfl)) rfl ?_);clear S;intro a S
         refine l_want S rfl rfl rfl hb14 (l_enter S (fun _ => run_call (vs := [iV V.Fault, iV 0, iV 8]) ⟨(S.tm rfl), rfl, rfl, trivial⟩ Tryz.call75) (words_Within_ok _ V.Fault 0 8 _ rfl) rfl ?_);clear S;intro v9 a w21 hv9 hk18 hn9 S
         subst hv9
         refine l_want S rfl rfl rfl hb14 (lv S (rn_not (S.tm rfl)) rfl ?_);clear S;intro a S
         refine lv S (rn_and_t hb14 (S.tm rfl) (S.tm rfl)) rfl ?_;clear S;intro a S
         refine Ld (Tn ?_)
         exact ⟨hk18, S.nf [true] rfl (subR rfl)⟩
        ·iterate 4 (refine l_skip S rfl rfl rfl (neq_f hb14) rfl ?_ rfl;clear S;intro a S)
         refine lv S (rn_and_f (!(words_Within V.Fault 0 8)) hb14 (S.tm rfl) rfl) rfl ?_;clear S;intro a S
         refine Ld (Tn ?_)
         exact ⟨Keep.refl _ _, S.nf [true] rfl (subR rfl)⟩
       clear S;rintro a w20 ⟨hk19, S⟩
       refine lv S (Ra (S.tm rfl)) rfl ?_;clear S;intro a S
       refine Ld (Tn ?_)
       exact ⟨((decide (V.Kind = 3)) && (!(words_Within V.Fault 0 8))), h, S.nf [true] rfl (subR rfl)⟩
     clear S h;rintro a w19 ⟨x2, h, S⟩;rw [hj5] at h;clear hj5 j5
     refine Tn (f_cond (S.tm rfl) (fun hb15 => ?_) (fun hb15 => ?_))
     ·replace h := iteT h hb15
      refine Fs (Fg (lv S (Ra rfl) rfl ?_));clear S;intro a S
      refine Ld (Tn (wp_ret (blk_r (then_r ?_))))
      obtain rfl := Option.some.inj h
      exact f_ret S Tryz.results53 rfl rfl
     ·replace h := iteF h hb15
      refine Fs (Fg (lv S (Rm (S.tm rfl)) rfl ?_));clear S;intro a S
      refine lv S (Rm (S.tm rfl)) rfl ?_;clear S;intro a S
      obtain ⟨j6, hj6, h⟩ := joinE h
      refine f_cutm 5 (fun a w' => ∃ c4, j6 c4 = some r ∧ Keep [] w19 w' ∧ Sx w [] nov [.blk b1 (GDeed.enc V) 39] [(1, .pointer (some ⟨b1, 0, none⟩)), (3, bV (decide (V.Kind = 1))), (4, bV (decide (V.Kind = 3))), (5, bV (decide (V.Kind = 4))), (89, bV c4)] 152 a w') ?_ ?_
      ·rcases Bool.eq_false_or_eq_true (decide (V.Kind = 4)) with hb16 | hb16
       ·replace h := iteT h hb16
        refine l_want S rfl rfl rfl hb16 (lv S (rn_fld fa_39_9 (S.tm rfl)) rfl ?_);clear S;intro a S
        refine l_want S rfl rfl rfl hb16 (lv S (rn_load Tryz.isAgg9 (S.tm rfl) (S.cell (i := 0) rfl rfl)) rfl ?_);clear S;intro a S
        refine l_want S rfl rfl rfl hb16 ?_
        obtain ⟨r5, hr5, h⟩ := bindE h
        refine l_enter S (fun _ => run_call (vs := [sV V.Of]) ⟨(S.tm rfl), trivial⟩ Tryz.call74) (words_IsKey_ok _ V.Of _ hr5) rfl ?_;clear S;intro v10 a w23 hv10 hk20 hn10 S
        subst hv10
        refine l_want S rfl rfl rfl hb16 (lv S (rn_not (S.tm rfl)) rfl ?_);clear S;intro a S
        refine lv S (rn_and_t hb16 (S.tm rfl) (S.tm rfl)) rfl ?_;clear S;intro a S
        refine Ld (Tn ?_)
        exact ⟨_, h, hk20, S.nf [true] rfl (subR rfl)⟩
       ·replace h := iteF h hb16
        iterate 4 (refine l_skip S rfl rfl rfl (neq_f hb16) rfl ?_ rfl;clear S;intro a S)
        refine lv S (rn_and_f true hb16 (S.tm rfl) rfl) rfl ?_;clear S;intro a S
        refine Ld (Tn ?_)
        exact ⟨_, h, Keep.refl _ _, S.nf [true] rfl (subR rfl)⟩
      clear S h;rintro a w22 ⟨c4, h, hk21, S⟩;rw [hj6] at h;clear hj6 j6
      refine lv S (Ra (S.tm rfl)) rfl ?_;clear S;intro a S
      refine Ld (Tn (f_cond (S.tm rfl) (fun hb17 => ?_) (fun hb17 => ?_)))
      ·replace h := iteT h hb17
       refine Fs (Fg (lv S (Ra rfl) rfl ?_));clear S;intro a S
       refine Ld (Tn (wp_ret (blk_r (then_r ?_))))
       obtain rfl := Option.some.inj h
       exact f_ret S Tryz.results53 rfl rfl
      ·replace h := iteF h hb17
       refine Fs (Fg (lv S (Rm (S.tm rfl)) rfl ?_));clear S;intro a S
       refine lv S (Rm (S.tm rfl)) rfl ?_;clear S;intro a S
       refine f_cutm 5 (fun a w' => Keep [] w22 w' ∧ Sx w [] nov [.blk b1 (GDeed.enc V) 39] [(1, .pointer (some ⟨b1, 0, none⟩)), (3, bV (decide (V.Kind = 1))), (4, bV (decide (V.Kind = 3))), (5, bV (decide (V.Kind = 4))), (97, bV ((decide (V.Kind = 4)) && (!(words_Within V.Other 1 1000000))))] 152 a w') ?_ ?_
       ·rcases Bool.eq_false_or_eq_true (decide (V.Kind = 4)) with hb18 | hb18
        ·refine l_want S rfl rfl rfl hb18 (lv S (rn_fld fa_39_10 (S.tm rfl)) rfl ?_);clear S;intro a S
         refine l_want S rfl rfl rfl hb18 (lv S (rn_load Tryz.isAgg3 (S.tm rfl) (S.cell (i := 0) rfl rfl)) rfl ?_);clear S;intro a S
         refine l_want S rfl rfl rfl hb18 (l_enter S (fun _ => run_call (vs := [iV V.Other, iV 1, iV 1000000]) ⟨(S.tm rfl), rfl, rfl, trivial⟩ Tryz.call75) (words_Within_ok _ V.Other 1 1000000 _ rfl) rfl ?_);clear S;intro v11 a w25 hv11 hk22 hn11 S
         subst hv11
         refine l_want S rfl rfl rfl hb18 (lv S (rn_not (S.tm rfl)) rfl ?_);clear S;intro a S
         refine lv S (rn_and_t hb18 (S.tm rfl) (S.tm rfl)) rfl ?_;clear S;intro a S
         refine Ld (Tn ?_)
         exact ⟨hk22, S.nf [true] rfl (subR rfl)⟩
        ·iterate 4 (refine l_skip S rfl rfl rfl (neq_f hb18) rfl ?_ rfl;clear S;intro a S)
         refine lv S (rn_and_f (!(words_Within V.Other 1 1000000)) hb18 (S.tm rfl) rfl) rfl ?_;clear S;intro a S
         refine Ld (Tn ?_)
         exact ⟨Keep.refl _ _, S.nf [true] rfl (subR rfl)⟩
       clear S;rintro a w24 ⟨hk23, S⟩
       refine lv S (Ra (S.tm rfl)) rfl ?_;clear S;intro a S
       refine Ld (Tn (f_cond (S.tm rfl) (fun hb19 => ?_) (fun hb19 => ?_)))
       ·replace h := iteT h hb19
        refine Fs (Fg (lv S (Ra rfl) rfl ?_));clear S;intro a S
        refine Ld (Tn (wp_ret (blk_r (then_r ?_))))
        obtain rfl := Option.some.inj h
        exact f_ret S Tryz.results53 rfl rfl
       ·replace h := iteF h hb19
        refine wp_skip (blk_n (Tn (Fs (Fg (lv S (rn_fld fa_39_0 (S.tm rfl)) rfl ?_)))));clear S;intro a S
        refine lv S (rn_load Tryz.isAgg9 (S.tm rfl) (S.cell (i := 0) rfl rfl)) rfl ?_;clear S;intro a S
        refine lv S (rn_fld fa_39_1 (S.tm rfl)) rfl ?_;clear S;intro a S
        refine lv S (rn_load Tryz.isAgg3 (S.tm rfl) (S.cell (i := 0) rfl rfl)) rfl ?_;clear S;intro a S
        refine lv S (rn_fld fa_39_2 (S.tm rfl)) rfl ?_;clear S;intro a S
        refine lv S (rn_load Tryz.isAgg3 (S.tm rfl) (S.cell (i := 0) rfl rfl)) rfl ?_;clear S;intro a S
        refine lv S (rn_fld fa_39_3 (S.tm rfl)) rfl ?_;clear S;intro a S
        refine lv S (rn_load Tryz.isAgg3 (S.tm rfl) (S.cell (i := 0) rfl rfl)) rfl ?_;clear S;intro a S
        refine lv S (rn_bld bt_39 (pv := [(0, sV V.Site), (1, iV V.No), (2, iV V.At), (3, iV V.Kind)]) ⟨rfl, (S.tm rfl), rfl, (S.tm rfl), rfl, (S.tm rfl), rfl, (S.tm rfl), trivial⟩ (cs := [sV V.Site, iV V.No, iV V.At, iV V.Kind, sV k_empty, sV k_empty, sV k_empty, iV 0, iV 0, sV k_empty, iV 0]) (by kernel_rfl)) rfl ?_;clear S;intro a S
        refine l_alloc S Tryz.zeroValue39 (cs := [sV k_empty, iV 0, iV 0, iV 0, sV k_empty, sV k_empty, sV k_empty, iV 0, iV 0, sV k_empty, iV 0]) rfl rfl ?_;clear S;intro a w26 b2 hz2 hk24 S
        refine l_store S (S.tm rfl) (S.tm rfl) (i := 0) (off := 0) rfl Tryz.sizeOf39 (vs := (GDeed.enc (GDeed.mk V.Site V.No V.At V.Kind k_empty k_empty k_empty 0 0 k_empty 0))) rfl rfl rfl rfl ?_;clear S;intro w27 hk25 S
        refine Ld ?_
        replace S := S.nk [.blk b2 (GDeed.enc (GDeed.mk V.Site V.No V.At V.Kind k_empty k_empty k_empty 0 0 k_empty 0)) 39, .blk b1 (GDeed.enc V) 39] [(1, .pointer (some ⟨b1, 0, none⟩)), (3, bV (decide (V.Kind = 1))), (4, bV (decide (V.Kind = 3))), (5, bV (decide (V.Kind = 4))), (6, .pointer (some ⟨b2, 0, none⟩))] [true, true] rfl (subR rfl)
        refine Tn (Fs ?_)
        obtain ⟨j7, hj7, h⟩ := joinE h
        refine f_join (fun a w' => ∃ x3 : ByteArray, ∃ x4 : ByteArray, ∃ x5 : ByteArray, ∃ x6 : Int, ∃ x7 : Int, ∃ x8 : ByteArray, ∃ x9 : Int, j7 x3 x4 x5 x6 x7 x8 x9 = some r ∧ Sx w [] nov [.blk b2 (GDeed.enc (GDeed.mk V.Site V.No V.At V.Kind x3 x4 x5 x6 x7 x8 x9)) 39, .blk b1 (GDeed.enc V) 39] [(1, .pointer (some ⟨b1, 0, none⟩)), (6, .pointer (some ⟨b2, 0, none⟩))] 152 a w') ?_ ?_
        ·refine wp_block (Fs (Fg (lv S (Rm (S.tm rfl)) rfl ?_)));clear S;intro a S
         refine lv S (Ra (S.tm rfl)) rfl ?_;clear S;intro a S
         refine Ld (Tn ?_)
         obtain ⟨j8, hj8, h⟩ := joinE h
         refine f_join (fun a w' => ∃ x10 : ByteArray, ∃ x11 : ByteArray, ∃ x12 : ByteArray, ∃ x13 : Int, ∃ x14 : Int, ∃ x15 : ByteArray, ∃ x16 : Int, j8 x10 x11 x12 x13 x14 x15 x16 = some r ∧ Sx w [] nov [.blk b2 (GDeed.enc (GDeed.mk V.Site V.No V.At V.Kind x10 x11 x12 x13 x14 x15 x16)) 39, .blk b1 (GDeed.enc V) 39] [(1, .pointer (some ⟨b1, 0, none⟩)), (6, .pointer (some ⟨b2, 0, none⟩))] 152 a w') ?_ ?_
         ·refine f_cond (S.tm rfl) (fun hb20 => ?_) (fun hb20 => ?_)
          ·replace h := iteT h hb20
           refine d_region [] ([b2]) Tryz.mixed S rfl (by kernel_rfl) ?_;clear S;intro w34 hk30 hsel S
           refine d_quiet 0 S hsel rfl rfl rfl (by kernel_rfl) (by kernel_rfl) rfl (fun _ hw => (rn_fld fa_39_4 (S.tm rfl))) ?_;clear S;intro a S
           refine d_quiet 1 S hsel rfl rfl rfl (by kernel_rfl) (by kernel_rfl) rfl (fun _ hw => (rn_ld Tryz.isAgg9 (off := 0) (o := 4) (S.tm rfl) ((S.blk_mem (i := 1) (cells := (GDeed.enc V)) (b := b1) (T := 39) rfl (ne_fp (i := 0) (j := 1) (e := .blk b2 (GDeed.enc (GDeed.mk V.Site V.No V.At V.Kind k_empty k_empty k_empty 0 0 k_empty 0)) 39) (e' := .blk b1 (GDeed.enc V) 39) S rfl rfl rfl)).kept hw) rfl)) ?_;clear S;intro a S
           refine d_quiet 2 S hsel rfl rfl rfl (by kernel_rfl) (by kernel_rfl) rfl (fun _ hw => (rn_fld fa_39_5 (S.tm rfl))) ?_;clear S;intro a S
           refine d_quiet 3 S hsel rfl rfl rfl (by kernel_rfl) (by kernel_rfl) rfl (fun _ hw => (rn_ld Tryz.isAgg9 (off := 0) (o := 5) (S.tm rfl) ((S.blk_mem (i := 1) (cells := (GDeed.enc V)) (b := b1) (T := 39) rfl (ne_fp (i := 0) (j := 1) (e := .blk b2 (GDeed.enc (GDeed.mk V.Site V.No V.At V.Kind k_empty k_empty k_empty 0 0 k_empty 0)) 39) (e' := .blk b1 (GDeed.enc V) 39) S rfl rfl rfl)).kept hw) rfl)) ?_;clear S;intro a S
           refine d_quiet 4 S hsel rfl rfl rfl (by kernel_rfl) (by kernel_rfl) rfl (fun _ hw => (rn_fld fa_39_6 (S.tm rfl))) ?_;clear S;intro a S
           refine d_quiet 5 S hsel rfl rfl rfl (by kernel_rfl) (by kernel_rfl) rfl (fun _ hw => (rn_ld Tryz.isAgg9 (off := 0) (o := 6) (S.tm rfl) ((S.blk_mem (i := 1) (cells := (GDeed.enc V)) (b := b1) (T := 39) rfl (ne_fp (i := 0) (j := 1) (e := .blk b2 (GDeed.enc (GDeed.mk V.Site V.No V.At V.Kind k_empty k_empty k_empty 0 0 k_empty 0)) 39) (e' := .blk b1 (GDeed.enc V) 39) S rfl rfl rfl)).kept hw) rfl)) ?_;clear S;intro a S
           refine d_quiet 6 S hsel rfl rfl rfl (by kernel_rfl) (by kernel_rfl) rfl (fun _ hw => (rn_fld fa_39_7 (S.tm rfl))) ?_;clear S;intro a S
           refine d_quiet 7 S hsel rfl rfl rfl (by kernel_rfl) (by kernel_rfl) rfl (fun _ hw => (rn_ld Tryz.isAgg3 (off := 0) (o := 7) (S.tm rfl) ((S.blk_mem (i := 1) (cells := (GDeed.enc V)) (b := b1) (T := 39) rfl (ne_fp (i := 0) (j := 1) (e := .blk b2 (GDeed.enc (GDeed.mk V.Site V.No V.At V.Kind k_empty k_empty k_empty 0 0 k_empty 0)) 39) (e' := .blk b1 (GDeed.enc V) 39) S rfl rfl rfl)).kept hw) rfl)) ?_;clear S;intro a S
           refine d_quiet 8 S hsel rfl rfl rfl (by kernel_rfl) (by kernel_rfl) rfl (fun _ hw => (rn_fld fa_39_4 (S.tm rfl))) ?_;clear S;intro a S
           refine d_loud1 9 (by kernel_rfl) rfl (l_store S (S.tm rfl) (S.tm rfl) (i := 0) (off := 4) rfl Tryz.sizeOf9 (vs := [sV V.Who]) rfl rfl rfl rfl ?_);clear S;intro w35 hk31 S
           refine Ld (d_next hk31 (d_quiet 10 S hsel rfl rfl rfl (by kernel_rfl) (by kernel_rfl) rfl (fun _ hw => (rn_fld fa_39_5 (S.tm rfl))) ?_));clear S;intro a S
           refine d_loud1 11 (by kernel_rfl) rfl (l_store S (S.tm rfl) (S.tm rfl) (i := 0) (off := 5) rfl Tryz.sizeOf9 (vs := [sV V.Club]) rfl rfl rfl rfl ?_);clear S;intro w36 hk32 S
           refine Ld (d_next hk32 (d_quiet 12 S hsel rfl rfl rfl (by kernel_rfl) (by kernel_rfl) rfl (fun _ hw => (rn_fld fa_39_6 (S.tm rfl))) ?_));clear S;intro a S
           refine d_loud1 13 (by kernel_rfl) rfl (l_store S (S.tm rfl) (S.tm rfl) (i := 0) (off := 6) rfl Tryz.sizeOf9 (vs := [sV V.Race]) rfl rfl rfl rfl ?_);clear S;intro w37 hk33 S
           refine Ld (d_next hk33 (d_quiet 14 S hsel rfl rfl rfl (by kernel_rfl) (by kernel_rfl) rfl (fun _ hw => (rn_fld fa_39_7 (S.tm rfl))) ?_));clear S;intro a S
           refine d_loud1 15 (by kernel_rfl) rfl (l_store S (S.tm rfl) (S.tm rfl) (i := 0) (off := 7) rfl Tryz.sizeOf3 (vs := [iV V.Time]) rfl rfl rfl rfl ?_);clear S;intro w38 hk34 S
           refine Ld (d_next hk34 (d_end (by kernel_rfl) ?_))
           clear hsel
           replace S := S.nk [.blk b2 (GDeed.enc (GDeed.mk V.Site V.No V.At V.Kind V.Who V.Club V.Race V.Time 0 k_empty 0)) 39, .blk b1 (GDeed.enc V) 39] [(1, .pointer (some ⟨b1, 0, none⟩)), (6, .pointer (some ⟨b2, 0, none⟩))] [true, true] rfl (subR rfl)
           refine Tn ?_
           exact ⟨V.Who, V.Club, V.Race, V.Time, 0, k_empty, 0, h, S.nf [true, true] rfl (subR rfl)⟩
          ·replace h := iteF h hb20
           refine Fs (Fg (lv S (Rm (S.tm rfl)) rfl ?_));clear S;intro a S
           refine lv S (Ra (S.tm rfl)) rfl ?_;clear S;intro a S
           refine Ld (Tn ?_)
           obtain ⟨j9, hj9, h⟩ := joinE h
           refine f_join (fun a w' => ∃ x17 : ByteArray, ∃ x18 : ByteArray, ∃ x19 : Int, ∃ x20 : Int, ∃ x21 : ByteArray, ∃ x22 : Int, j9 x17 x18 x19 x20 x21 x22 = some r ∧ Sx w [] nov [.blk b2 (GDeed.enc (GDeed.mk V.Site V.No V.At V.Kind x17 k_empty x18 x19 x20 x21 x22)) 39, .blk b1 (GDeed.enc V) 39] [(1, .pointer (some ⟨b1, 0, none⟩)), (6, .pointer (some ⟨b2, 0, none⟩))] 152 a w') ?_ ?_
           ·refine f_cond (S.tm rfl) (fun hb21 => ?_) (fun hb21 => ?_)
            ·replace h := iteT h hb21
             refine d_region [] ([b2]) Tryz.mixed S rfl (by kernel_rfl) ?_;clear S;intro w44 hk39 hsel S
             refine d_quiet 0 S hsel rfl rfl rfl (by kernel_rfl) (by kernel_rfl) rfl (fun _ hw => (rn_fld fa_39_4 (S.tm rfl))) ?_;clear S;intro a S
             refine d_quiet 1 S hsel rfl rfl rfl (by kernel_rfl) (by kernel_rfl) rfl (fun _ hw => (rn_ld Tryz.isAgg9 (off := 0) (o := 4) (S.tm rfl) ((S.blk_mem (i := 1) (cells := (GDeed.enc V)) (b := b1) (T := 39) rfl (ne_fp (i := 0) (j := 1) (e := .blk b2 (GDeed.enc (GDeed.mk V.Site V.No V.At V.Kind k_empty k_empty k_empty 0 0 k_empty 0)) 39) (e' := .blk b1 (GDeed.enc V) 39) S rfl rfl rfl)).kept hw) rfl)) ?_;clear S;intro a S
             refine d_quiet 2 S hsel rfl rfl rfl (by kernel_rfl) (by kernel_rfl) rfl (fun _ hw => (rn_fld fa_39_6 (S.tm rfl))) ?_;clear S;intro a S
             refine d_quiet 3 S hsel rfl rfl rfl (by kernel_rfl) (by kernel_rfl) rfl (fun _ hw => (rn_ld Tryz.isAgg9 (off := 0) (o := 6) (S.tm rfl) ((S.blk_mem (i := 1) (cells := (GDeed.enc V)) (b := b1) (T := 39) rfl (ne_fp (i := 0) (j := 1) (e := .blk b2 (GDeed.enc (GDeed.mk V.Site V.No V.At V.Kind k_empty k_empty k_empty 0 0 k_empty 0)) 39) (e' := .blk b1 (GDeed.enc V) 39) S rfl rfl rfl)).kept hw) rfl)) ?_;clear S;intro a S
             refine d_quiet 4 S hsel rfl rfl rfl (by kernel_rfl) (by kernel_rfl) rfl (fun _ hw => (rn_fld fa_39_7 (S.tm rfl))) ?_;clear S;intro a S
             refine d_quiet 5 S hsel rfl rfl rfl (by kernel_rfl) (by kernel_rfl) rfl (fun _ hw => (rn_ld Tryz.isAgg3 (off := 0) (o := 7) (S.tm rfl) ((S.blk_mem (i := 1) (cells := (GDeed.enc V)) (b := b1) (T := 39) rfl (ne_fp (i := 0) (j := 1) (e := .blk b2 (GDeed.enc (GDeed.mk V.Site V.No V.At V.Kind k_empty k_empty k_empty 0 0 k_empty 0)) 39) (e' := .blk b1 (GDeed.enc V) 39) S rfl rfl rfl)).kept hw) rfl)) ?_;clear S;intro a S
             refine d_quiet 6 S hsel rfl rfl rfl (by kernel_rfl) (by kernel_rfl) rfl (fun _ hw => (rn_fld fa_39_8 (S.tm rfl))) ?_;clear S;intro a S
             refine d_quiet 7 S hsel rfl rfl rfl (by kernel_rfl) (by kernel_rfl) rfl (fun _ hw => (rn_ld Tryz.isAgg3 (off := 0) (o := 8) (S.tm rfl) ((S.blk_mem (i := 1) (cells := (GDeed.enc V)) (b := b1) (T := 39) rfl (ne_fp (i := 0) (j := 1) (e := .blk b2 (GDeed.enc (GDeed.mk V.Site V.No V.At V.Kind k_empty k_empty k_empty 0 0 k_empty 0)) 39) (e' := .blk b1 (GDeed.enc V) 39) S rfl rfl rfl)).kept hw) rfl)) ?_;clear S;intro a S
             refine d_quiet 8 S hsel rfl rfl rfl (by kernel_rfl) (by kernel_rfl) rfl (fun _ hw => (rn_fld fa_39_4 (S.tm rfl))) ?_;clear S;intro a S
             refine d_loud1 9 (by kernel_rfl) rfl (l_store S (S.tm rfl) (S.tm rfl) (i := 0) (off := 4) rfl Tryz.sizeOf9 (vs := [sV V.Who]) rfl rfl rfl rfl ?_);clear S;intro w45 hk40 S
             refine Ld (d_next hk40 (d_quiet 10 S hsel rfl rfl rfl (by kernel_rfl) (by kernel_rfl) rfl (fun _ hw => (rn_fld fa_39_6 (S.tm rfl))) ?_));clear S;intro a S
             refine d_loud1 11 (by kernel_rfl) rfl (l_store S (S.tm rfl) (S.tm rfl) (i := 0) (off := 6) rfl Tryz.sizeOf9 (vs := [sV V.Race]) rfl rfl rfl rfl ?_);clear S;intro w46 hk41 S
             refine Ld (d_next hk41 (d_quiet 12 S hsel rfl rfl rfl (by kernel_rfl) (by kernel_rfl) rfl (fun _ hw => (rn_fld fa_39_7 (S.tm rfl))) ?_));clear S;intro a S
             refine d_loud1 13 (by kernel_rfl) rfl (l_store S (S.tm rfl) (S.tm rfl) (i := 0) (off := 7) rfl Tryz.sizeOf3 (vs := [iV V.Time]) rfl rfl rfl rfl ?_);clear S;intro w47 hk42 S
             refine Ld (d_next hk42 (d_quiet 14 S hsel rfl rfl rfl (by kernel_rfl) (by kernel_rfl) rfl (fun _ hw => (rn_fld fa_39_8 (S.tm rfl))) ?_));clear S;intro a S
             refine d_loud1 15 (by kernel_rfl) rfl (l_store S (S.tm rfl) (S.tm rfl) (i := 0) (off := 8) rfl Tryz.sizeOf3 (vs := [iV V.Fault]) rfl rfl rfl rfl ?_);clear S;intro w48 hk43 S
             refine Ld (d_next hk43 (d_end (by kernel_rfl) ?_))
             clear hsel
             replace S := S.nk [.blk b2 (GDeed.enc (GDeed.mk V.Site V.No V.At V.Kind V.Who k_empty V.Race V.Time V.Fault k_empty 0)) 39, .blk b1 (GDeed.enc V) 39] [(1, .pointer (some ⟨b1, 0, none⟩)), (6, .pointer (some ⟨b2, 0, none⟩))] [true, true] rfl (subR rfl)
             refine Tn ?_
             exact ⟨V.Who, V.Race, V.Time, V.Fault, k_empty, 0, h, S.nf [true, true] rfl (subR rfl)⟩
            ·replace h := iteF h hb21
             refine Fs (Fg (lv S (Rm (S.tm rfl)) rfl ?_));clear S;intro a S
             refine lv S (Ra (S.tm rfl)) rfl ?_;clear S;intro a S
             refine Ld (Tn ?_)
             obtain ⟨j10, hj10, h⟩ := joinE h
             refine f_join (fun a w' => ∃ x23 : ByteArray, ∃ x24 : ByteArray, ∃ x25 : ByteArray, ∃ x26 : Int, j10 x23 x24 x25 x26 = some r ∧ Sx w [] nov [.blk b2 (GDeed.enc (GDeed.mk V.Site V.No V.At V.Kind x23 k_empty x24 0 0 x25 x26)) 39, .blk b1 (GDeed.enc V) 39] [(1, .pointer (some ⟨b1, 0, none⟩)), (6, .pointer (some ⟨b2, 0, none⟩))] 152 a w') ?_ ?_
             ·refine f_cond (S.tm rfl) (fun hb22 => ?_) (fun hb22 => ?_)
              ·replace h := iteT h hb22
               refine d_region [] ([b2]) Tryz.mixed S rfl (by kernel_rfl) ?_;clear S;intro w52 hk46 hsel S
               refine d_quiet 0 S hsel rfl rfl rfl (by kernel_rfl) (by kernel_rfl) rfl (fun _ hw => (rn_fld fa_39_9 (S.tm rfl))) ?_;clear S;intro a S
               refine d_quiet 1 S hsel rfl rfl rfl (by kernel_rfl) (by kernel_rfl) rfl (fun _ hw => (rn_ld Tryz.isAgg9 (off := 0) (o := 9) (S.tm rfl) ((S.blk_mem (i := 1) (cells := (GDeed.enc V)) (b := b1) (T := 39) rfl (ne_fp (i := 0) (j := 1) (e := .blk b2 (GDeed.enc (GDeed.mk V.Site V.No V.At V.Kind k_empty k_empty k_empty 0 0 k_empty 0)) 39) (e' := .blk b1 (GDeed.enc V) 39) S rfl rfl rfl)).kept hw) rfl)) ?_;clear S;intro a S
               refine d_quiet 2 S hsel rfl rfl rfl (by kernel_rfl) (by kernel_rfl) rfl (fun _ hw => (rn_fld fa_39_10 (S.tm rfl))) ?_;clear S;intro a S
               refine d_quiet 3 S hsel rfl rfl rfl (by kernel_rfl) (by kernel_rfl) rfl (fun _ hw => (rn_ld Tryz.isAgg3 (off := 0) (o := 10) (S.tm rfl) ((S.blk_mem (i := 1) (cells := (GDeed.enc V)) (b := b1) (T := 39) rfl (ne_fp (i := 0) (j := 1) (e := .blk b2 (GDeed.enc (GDeed.mk V.Site V.No V.At V.Kind k_empty k_empty k_empty 0 0 k_empty 0)) 39) (e' := .blk b1 (GDeed.enc V) 39) S rfl rfl rfl)).kept hw) rfl)) ?_;clear S;intro a S
               refine d_quiet 4 S hsel rfl rfl rfl (by kernel_rfl) (by kernel_rfl) rfl (fun _ hw => (rn_fld fa_39_9 (S.tm rfl))) ?_;clear S;intro a S
               refine d_loud1 5 (by kernel_rfl) rfl (l_store S (S.tm rfl) (S.tm rfl) (i := 0) (off := 9) rfl Tryz.sizeOf9 (vs := [sV V.Of]) rfl rfl rfl rfl ?_);clear S;intro w53 hk47 S
               refine Ld (d_next hk47 (d_quiet 6 S hsel rfl rfl rfl (by kernel_rfl) (by kernel_rfl) rfl (fun _ hw => (rn_fld fa_39_10 (S.tm rfl))) ?_));clear S;intro a S
               refine d_loud1 7 (by kernel_rfl) rfl (l_store S (S.tm rfl) (S.tm rfl) (i := 0) (off := 10) rfl Tryz.sizeOf3 (vs := [iV V.Other]) rfl rfl rfl rfl ?_);clear S;intro w54 hk48 S
               refine Ld (d_next hk48 (d_end (by kernel_rfl) ?_))
               clear hsel
               replace S := S.nk [.blk b2 (GDeed.enc (GDeed.mk V.Site V.No V.At V.Kind k_empty k_empty k_empty 0 0 V.Of V.Other)) 39, .blk b1 (GDeed.enc V) 39] [(1, .pointer (some ⟨b1, 0, none⟩)), (6, .pointer (some ⟨b2, 0, none⟩))] [true, true] rfl (subR rfl)
               refine Tn ?_
               exact ⟨k_empty, k_empty, V.Of, V.Other, h, S.nf [true, true] rfl (subR rfl)⟩
              ·replace h := iteF h hb22
               refine d_region [] ([b2]) Tryz.mixed S rfl (by kernel_rfl) ?_;clear S;intro w57 hk51 hsel S
               refine d_quiet 0 S hsel rfl rfl rfl (by kernel_rfl) (by kernel_rfl) rfl (fun _ hw => (rn_fld fa_39_4 (S.tm rfl))) ?_;clear S;intro a S
               refine d_quiet 1 S hsel rfl rfl rfl (by kernel_rfl) (by kernel_rfl) rfl (fun _ hw => (rn_ld Tryz.isAgg9 (off := 0) (o := 4) (S.tm rfl) ((S.blk_mem (i := 1) (cells := (GDeed.enc V)) (b := b1) (T := 39) rfl (ne_fp (i := 0) (j := 1) (e := .blk b2 (GDeed.enc (GDeed.mk V.Site V.No V.At V.Kind k_empty k_empty k_empty 0 0 k_empty 0)) 39) (e' := .blk b1 (GDeed.enc V) 39) S rfl rfl rfl)).kept hw) rfl)) ?_;clear S;intro a S
               refine d_quiet 2 S hsel rfl rfl rfl (by kernel_rfl) (by kernel_rfl) rfl (fun _ hw => (rn_fld fa_39_6 (S.tm rfl))) ?_;clear S;intro a S
               refine d_quiet 3 S hsel rfl rfl rfl (by kernel_rfl) (by kernel_rfl) rfl (fun _ hw => (rn_ld Tryz.isAgg9 (off := 0) (o := 6) (S.tm rfl) ((S.blk_mem (i := 1) (cells := (GDeed.enc V)) (b := b1) (T := 39) rfl (ne_fp (i := 0) (j := 1) (e := .blk b2 (GDeed.enc (GDeed.mk V.Site V.No V.At V.Kind k_empty k_empty k_empty 0 0 k_empty 0)) 39) (e' := .blk b1 (GDeed.enc V) 39) S rfl rfl rfl)).kept hw) rfl)) ?_;clear S;intro a S
               refine d_quiet 4 S hsel rfl rfl rfl (by kernel_rfl) (by kernel_rfl) rfl (fun _ hw => (rn_fld fa_39_4 (S.tm rfl))) ?_;clear S;intro a S
               refine d_loud1 5 (by kernel_rfl) rfl (l_store S (S.tm rfl) (S.tm rfl) (i := 0) (off := 4) rfl Tryz.sizeOf9 (vs := [sV V.Who]) rfl rfl rfl rfl ?_);clear S;intro w58 hk52 S
               refine Ld (d_next hk52 (d_quiet 6 S hsel rfl rfl rfl (by kernel_rfl) (by kernel_rfl) rfl (fun _ hw => (rn_fld fa_39_6 (S.tm rfl))) ?_));clear S;intro a S
               refine d_loud1 7 (by kernel_rfl) rfl (l_store S (S.tm rfl) (S.tm rfl) (i := 0) (off := 6) rfl Tryz.sizeOf9 (vs := [sV V.Race]) rfl rfl rfl rfl ?_);clear S;intro w59 hk53 S
               refine Ld (d_next hk53 (d_end (by kernel_rfl) ?_))
               clear hsel
               replace S := S.nk [.blk b2 (GDeed.enc (GDeed.mk V.Site V.No V.At V.Kind V.Who k_empty V.Race 0 0 k_empty 0)) 39, .blk b1 (GDeed.enc V) 39] [(1, .pointer (some ⟨b1, 0, none⟩)), (6, .pointer (some ⟨b2, 0, none⟩))] [true, true] rfl (subR rfl)
               refine Tn ?_
               exact ⟨V.Who, V.Race, k_empty, 0, h, S.nf [true, true] rfl (subR rfl)⟩
             clear S h;rintro a w49 ⟨x23, x24, x25, x26, h, S⟩;rw [hj10] at h;clear hj10 j10
             refine Tn ?_
             exact ⟨x23, x24, 0, 0, x25, x26, h, S.nf [true, true] rfl (subR rfl)⟩
           clear S h;rintro a w39 ⟨x17, x18, x19, x20, x21, x22, h, S⟩;rw [hj9] at h;clear hj9 j9
           refine Tn ?_
           exact ⟨x17, k_empty, x18, x19, x20, x21, x22, h, S.nf [true, true] rfl (subR rfl)⟩
         clear S h;rintro a w29 ⟨x10, x11, x12, x13, x14, x15, x16, h, S⟩;rw [hj8] at h;clear hj8 j8
         refine blk_n (Tn ?_)
         exact ⟨x10, x11, x12, x13, x14, x15, x16, h, S.nf [true, true] rfl (subR rfl)⟩
        clear S h;rintro a w28 ⟨x3, x4, x5, x6, x7, x8, x9, h, S⟩;rw [hj7] at h;clear hj7 j7
        refine Tn (Fs (Fs (Fg (lv S (rn_ldA Tryz.isAgg39 Tryz.sizeOf39 (off := 0) (o := 0) (part := (GDeed.enc V)) rfl rfl (S.tm rfl) (S.cellsAt (i := 1) rfl)) rfl ?_))));clear S;intro a S
        refine lv S (rn_ldA Tryz.isAgg39 Tryz.sizeOf39 (off := 0) (o := 0) (part := (GDeed.enc (GDeed.mk V.Site V.No V.At V.Kind x3 x4 x5 x6 x7 x8 x9))) rfl rfl (S.tm rfl) (S.cellsAt (i := 0) rfl)) rfl ?_;clear S;intro a S
        refine lv S (rn_neq_39 (m := V) (n := (GDeed.mk V.Site V.No V.At V.Kind x3 x4 x5 x6 x7 x8 x9)) (S.tm rfl) (S.tm rfl)) rfl ?_;clear S;intro a S
        refine Ld (Tn (f_cond (S.tm rfl) (fun hb23 => ?_) (fun hb23 => ?_)))
        ·replace h := iteT h hb23
         refine Fs (Fg (lv S (Ra rfl) rfl ?_));clear S;intro a S
         refine Ld (Tn (wp_ret (then_r ?_)))
         obtain rfl := Option.some.inj h
         exact f_ret S Tryz.results53 rfl rfl
        ·replace h := iteF h hb23
         refine wp_skip (Tn (Fs (Fg (lv S (Ra rfl) rfl ?_))));clear S;intro a S
         refine Ld (Tn (wp_ret ?_))
         obtain rfl := Option.some.inj h
         exact f_ret S Tryz.results53 rfl rfl
theorem cmp_isNaN_int_ok (w : World) (V : Int) (r : Bool) (h : cmp_isNaN_int V = r) :
    Calls Tryz.prog 94 [iV V].toArray w (Ret w [] fun _ v _ => v = bV r) := by
 refine f_enter [] [] Tryz.func94 rfl Tryz.ntmps94 rfl (by simp) (by simp [fps]) (by simp [fps]) fun a S => ?_
 unfold cmp_isNaN_int at h
 replace S := S.nk [] [(0, iV V)] [] rfl ⟨rfl, trivial⟩
 refine Fs (Fg (lv S (Ra rfl) rfl ?_));clear S;intro a S
 refine Ld (Tn (Fs (Fg (lv S (Rm (S.tm rfl)) rfl ?_))));clear S;intro a S
 refine lv S (Rm (S.tm rfl)) rfl ?_;clear S;intro a S
 refine lv S (rn_neq (S.tm rfl) (S.tm rfl)) rfl ?_;clear S;intro a S
 refine lv S (Ra (S.tm rfl)) rfl ?_;clear S;intro a S
 refine Ld (Tn (wp_ret ?_))
 subst h
 exact f_ret S Tryz.results94 rfl rfl
theorem cmp_Compare_int_ok (w : World) (V : Int) (Dg : Int) (r : Int) (h : cmp_Compare_int V Dg = r) :
    Calls Tryz.prog 78 [iV V, iV Dg].toArray w (Ret w [] fun _ v _ => v = iV r) := by
 refine f_enter [] [] Tryz.func78 rfl Tryz.ntmps78 rfl (by simp) (by simp [fps]) (by simp [fps]) fun a S => ?_
 unfold cmp_Compare_int at h
 replace S := S.nk [] [(0, iV V), (1, iV Dg)] [] rfl (subR rfl)
 refine Fs (Fg (lv S (Ra rfl) rfl ?_));clear S;intro a S
 refine Ld (Tn (Fs (Fg (lv S (Rm (S.tm rfl)) rfl ?_))));clear S;intro a S
 refine l_enter S (fun _ => run_call (vs := [iV V]) ⟨(S.tm rfl), trivial⟩ Tryz.call94) (cmp_isNaN_int_ok _ V _ rfl) rfl ?_;clear S;intro v1 a w1 hv1 hk1 hn1 S
 subst hv1
 refine lv S (Ra (S.tm rfl)) rfl ?_;clear S;intro a S
 refine Ld (Tn (Fs (Fg (lv S (Rm (S.tm rfl)) rfl ?_))));clear S;intro a S
 refine l_enter S (fun _ => run_call (vs := [iV Dg]) ⟨(S.tm rfl), trivial⟩ Tryz.call94) (cmp_isNaN_int_ok _ Dg _ rfl) rfl ?_;clear S;intro v2 a w2 hv2 hk2 hn2 S
 subst hv2
 refine lv S (Ra (S.tm rfl)) rfl ?_;clear S;intro a S
 refine Ld (Tn (Fs (Fs (Fg (lv S (Rm (S.tm rfl)) rfl ?_)))));clear S;intro a S
 refine Ld (Tn (f_cond (S.tm rfl) (fun hb1 => ?_) (fun hb1 => ?_)))
 ·replace h := iteT h hb1
  refine Fs (Fs (Fg (lv S (Rm (S.tm rfl)) rfl ?_)));clear S;intro a S
  refine Ld (Tn (f_cond (S.tm rfl) (fun hb2 => ?_) (fun hb2 => ?_)))
  ·replace h := iteT h hb2
   refine Fs (Fg (lv S (Ra rfl) rfl ?_));clear S;intro a S
   refine Ld (Tn (wp_ret (then_r (then_r ?_))))
   subst h
   exact f_ret S Tryz.results78 rfl rfl
  ·replace h := iteF h hb2
   refine wp_skip (Tn (Fs (Fg (lv S (Ra rfl) rfl ?_))));clear S;intro a S
   refine Ld (Tn (wp_ret (then_r ?_)))
   subst h
   exact f_ret S Tryz.results78 rfl rfl
 ·replace h := iteF h hb1
  refine wp_skip (Tn (Fs (Fs (Fg (lv S (Rm (S.tm rfl)) rfl ?_)))));clear S;intro a S
  refine Ld (Tn (f_cond (S.tm rfl) (fun hb3 => ?_) (fun hb3 => ?_)))
  ·replace h := iteT h hb3
   refine Fs (Fg (lv S (Ra rfl) rfl ?_));clear S;intro a S
   refine Ld (Tn (wp_ret (then_r ?_)))
   subst h
   exact f_ret S Tryz.results78 rfl rfl
  ·replace h := iteF h hb3
   refine wp_skip (Tn (Fs (Fs (Fg (lv S (Rm (S.tm rfl)) rfl ?_)))));clear S;intro a S
   refine lv S (Rm (S.tm rfl)) rfl ?_;clear S;intro a S
   refine lv S (rn_lss (S.tm rfl) (S.tm rfl)) rfl ?_;clear S;intro a S
   refine Ld (Tn (f_cond (S.tm rfl) (fun hb4 => ?_) (fun hb4 => ?_)))
   ·replace h := iteT h hb4
    refine Fs (Fg (lv S (Ra rfl) rfl ?_));clear S;intro a S
    refine Ld (Tn (wp_ret (then_r ?_)))
    subst h
    exact f_ret S Tryz.results78 rfl rfl
   ·replace h := iteF h hb4
    refine wp_skip (Tn (Fs (Fs (Fg (lv S (Rm (S.tm rfl)) rfl ?_)))));clear S;intro a S
    refine lv S (Rm (S.tm rfl)) rfl ?_;clear S;intro a S
    refine lv S (rn_gtr (S.tm rfl) (S.tm rfl)) rfl ?_;clear S;intro a S
    refine Ld ?_
    replace S := S.nk [] [(19, bV (decide (Dg < V)))] [] rfl ⟨rfl, trivial⟩
    refine Tn (f_cond (S.tm rfl) (fun hb5 => ?_) (fun hb5 => ?_))
    ·replace h := iteT h hb5
     refine Fs (Fg (lv S (Ra rfl) rfl ?_));clear S;intro a S
     refine Ld (Tn (wp_ret (then_r ?_)))
     subst h
     exact f_ret S Tryz.results78 rfl rfl
    ·replace h := iteF h hb5
     refine wp_skip (Tn (Fs (Fg (lv S (Ra rfl) rfl ?_))));clear S;intro a S
     refine Ld (Tn (wp_ret ?_))
     subst h
     exact f_ret S Tryz.results78 rfl rfl
theorem cmp_Or_int_ok (w : World) (Cn : Value) (Cm : List Int) (Cz : Slc (view w []) 1 Cn (Cm.map eInt)) (r : Int) (h : cmp_Or_int Cm = r) :
    Calls Tryz.prog 77 [Cn].toArray w (Ret w [] fun _ v _ => v = iV r) := by
 refine f_enter [] [] Tryz.func77 rfl Tryz.ntmps77 rfl (by simp) (by simp [fps]) (by simp [fps]) fun a S => ?_
 unfold cmp_Or_int at h
 replace S := S.nk [] [(0, Cn)] [] rfl ⟨rfl, trivial⟩
 refine Fs (Fg (lv S (Ra rfl) rfl ?_));clear S;intro a S
 refine Ld (Tn (Fs (Fg (lv S (Ra rfl) rfl ?_))));clear S;intro a S
 refine Ld (Tn (Fs (Fs (Fg (lv S (Rm (S.tm rfl)) rfl ?_)))));clear S;intro a S
 refine lv S (rn_lenT sl_22 (S.tm rfl) (slc_len Cz)) rfl ?_;clear S;intro a S
 refine lv S (Rm rfl) rfl ?_;clear S;intro a S
 refine Ld (Tn ?_)
 replace S := S.nk [] [(3, iV 0), (6, Cn), (7, iV (Cm.length : Int)), (8, iV 0)] [] rfl (subR rfl)
 obtain ⟨j1, hj1, h⟩ := joinE h
 refine f_join (fun a w' => j1 = r ∧ Sx w [] nov [] [(3, iV 0)] 18 a w') ?_ ?_
 ·refine wp_block (f_loop (fun (ys1 : List Int) a w' => ∃ i1 : Nat, (∃ dn, Cm = dn ++ ys1 ∧ dn.length = i1) ∧ cmp_Or_int_l1 j1 ys1 i1 = r ∧ Sx w [] nov [] [(3, iV 0), (6, Cn), (7, iV (Cm.length : Int)), (8, iV (i1 : Int))] 18 a w') List.length Cm ⟨0, ⟨[], rfl, rfl⟩, h, S.nf [] rfl (subR rfl)⟩ ?_)
  clear S h;rintro ys1 a w1 ⟨i1, ⟨dn, hd1, hi1⟩, h, S⟩
  cases ys1 with
  | nil =>
   rw [cmp_Or_int_l1.eq_1] at h
   refine Fs (Fg (lv S (rn_lss (S.tm rfl) (S.tm rfl)) rfl ?_));clear S;intro a S
   refine Ld ?_
   replace S := S.nk [] [(3, iV 0), (6, Cn), (7, iV (Cm.length : Int)), (8, iV (i1 : Int)), (9, bV (decide ((i1 : Int) < (Cm.length : Int))))] [] rfl (subR rfl)
   refine Tn (Fs (wp_cond_false ((S.tm rfl).trans (congrArg Value.bool (rng_nil hd1 hi1))) (wp_exit (then_x (then_x (x_same ?_))))))
   refine Tn ?_
   exact ⟨h, S.nf [] rfl ⟨rfl, trivial⟩⟩
  | cons y1 ys1 =>
   rw [cmp_Or_int_l1.eq_2] at h
   refine Fs (Fg (lv S (rn_lss (S.tm rfl) (S.tm rfl)) rfl ?_));clear S;intro a S
   refine Ld ?_
   replace S := S.nk [] [(3, iV 0), (6, Cn), (7, iV (Cm.length : Int)), (8, iV (i1 : Int)), (9, bV (decide ((i1 : Int) < (Cm.length : Int))))] [] rfl (subR rfl)
   refine Tn (Fs (wp_cond_true ((S.tm rfl).trans (congrArg Value.bool (rng_cons hd1 hi1))) (wp_skip (Tn (Fs (wp_block ?_))))))
   refine Fs (Fg ?_)
   obtain ⟨b1, o1, hm1, hr1⟩ := rn_indexT (a := a) (x := .tmp 6) (y := .tmp 8) (ty := 0) sl_22 Cz (get_mid hd1 hi1) rfl (S.tm rfl) (S.tm rfl)
   refine lv S (hr1 _) rfl ?_;clear S;intro a S
   clear hr1
   refine lv S (rn_ld Tryz.isAgg3 (off := o1) (o := 0) (S.tm rfl) (hm1.at S.emb0) rfl) rfl ?_;clear S;intro a S
   refine lv S (Ra (S.tm rfl)) rfl ?_;clear S;intro a S
   refine Ld (Tn (Fs (Fg (lv S (Rm (S.tm rfl)) rfl ?_))));clear S;intro a S
   refine lv S (Rm (S.tm rfl)) rfl ?_;clear S;intro a S
   refine lv S (rn_neq (S.tm rfl) (S.tm rfl)) rfl ?_;clear S;intro a S
   refine Ld (Tn (f_cond (S.tm rfl) (fun hb1 => ?_) (fun hb1 => ?_)))
   ·replace h := iteT h hb1
    refine Fs (Fg (lv S (Rm (S.tm rfl)) rfl ?_));clear S;intro a S
    refine lv S (Ra (S.tm rfl)) rfl ?_;clear S;intro a S
    refine Ld (Tn (wp_ret (blk_r (then_r (then_r (blk_r ?_))))))
    refine then_r (then_r ?_)
    subst h
    exact f_ret S Tryz.results77 rfl rfl
   ·replace h := iteF h hb1
    refine wp_skip (blk_n (Tn (Fg (lv S (rn_add (S.tm rfl) rfl) rfl ?_))));clear S;intro a S
    refine lv S (Rm (S.tm rfl)) rfl ?_;clear S;intro a S
    refine Ld (Tn ?_)
    exact ⟨ys1, ⟨i1 + 1, ⟨_, (hd1).trans (List.append_cons _ _ _), by simp [hi1]⟩, h, S.nf [] rfl ⟨rfl, rfl, rfl, (congrArg (fun z => some (Value.int .i64 z)) (rng_next hd1 hi1 (slc_max Cz))), trivial⟩⟩, Nat.lt_succ_self _⟩
 clear S h;rintro a w2 ⟨h, S⟩;rw [hj1] at h;clear hj1 j1
 refine Tn (Fs (Fg (lv S (Rm (S.tm rfl)) rfl ?_)));clear S;intro a S
 refine lv S (Ra (S.tm rfl)) rfl ?_;clear S;intro a S
 refine Ld (Tn (wp_ret ?_))
 subst h
 exact f_ret S Tryz.results77 rfl rfl
set_option maxRecDepth 20000 in
theorem meet_compare_ok (w : World) (Aq : GDeed) (Ar : GDeed) (r : Int) (h : meet_compare Aq Ar = r) :
    Calls Tryz.prog 54 [.agg (GDeed.enc Aq).toArray, .agg (GDeed.enc Ar).toArray].toArray w (Ret w [] fun _ v _ => v = iV r) := by
 refine f_enter [] [] Tryz.func54 rfl Tryz.ntmps54 rfl (by simp) (by simp [fps]) (by simp [fps]) fun a S => ?_
 unfold meet_compare at h
 replace S := S.nk [] [(0, .agg (GDeed.enc Aq).toArray), (1, .agg (GDeed.enc Ar).toArray)] [] rfl (subR rfl)
 refine Fs (Fg (l_box S (S.tm rfl) (cs := (GDeed.enc Aq)) rfl rfl ?_));clear S;intro a w1 b1 hz1 hk1 S
 refine l_box S (S.tm rfl) (cs := (GDeed.enc Ar)) rfl rfl ?_;clear S;intro a w2 b2 hz2 hk2 S
 refine lv S (Ra rfl) rfl ?_;clear S;intro a S
 refine Ld (Tn (Fs (d_region [] ([]) Tryz.mixed S rfl (by kernel_rfl) ?_)));clear S;intro w8 hk8 hsel S
 refine d_quiet 0 S hsel rfl rfl rfl (by kernel_rfl) (by kernel_rfl) rfl (fun _ hw => (rn_fld fa_39_2 (S.tm rfl))) ?_;clear S;intro a S
 refine d_quiet 1 S hsel rfl rfl rfl (by kernel_rfl) (by kernel_rfl) rfl (fun _ hw => (rn_ld Tryz.isAgg3 (off := 0) (o := 2) (S.tm rfl) ((S.blk_mem (i := 1) (cells := (GDeed.enc Aq)) (b := b1) (T := 39) rfl (ne_nil (e' := .blk b1 (GDeed.enc Aq) 39))).kept hw) rfl)) ?_;clear S;intro a S
 refine d_quiet 2 S hsel rfl rfl rfl (by kernel_rfl) (by kernel_rfl) rfl (fun _ hw => (rn_fld fa_39_2 (S.tm rfl))) ?_;clear S;intro a S
 refine d_quiet 3 S hsel rfl rfl rfl (by kernel_rfl) (by kernel_rfl) rfl (fun _ hw => (rn_ld Tryz.isAgg3 (off := 0) (o := 2) (S.tm rfl) ((S.blk_mem (i := 0) (cells := (GDeed.enc Ar)) (b := b2) (T := 39) rfl (ne_nil (e' := .blk b2 (GDeed.enc Ar) 39))).kept hw) rfl)) ?_;clear S;intro a S
 refine d_quiet 5 S hsel rfl rfl rfl (by kernel_rfl) (by kernel_rfl) rfl (fun _ hw => (rn_fld fa_39_0 (S.tm rfl))) ?_;clear S;intro a S
 refine d_quiet 6 S hsel rfl rfl rfl (by kernel_rfl) (by kernel_rfl) rfl (fun _ hw => (rn_ld Tryz.isAgg9 (off := 0) (o := 0) (S.tm rfl) ((S.blk_mem (i := 1) (cells := (GDeed.enc Aq)) (b := b1) (T := 39) rfl (ne_nil (e' := .blk b1 (GDeed.enc Aq) 39))).kept hw) rfl)) ?_;clear S;intro a S
 refine d_quiet 7 S hsel rfl rfl rfl (by kernel_rfl) (by kernel_rfl) rfl (fun _ hw => (rn_fld fa_39_0 (S.tm rfl))) ?_;clear S;intro a S
 refine d_quiet 8 S hsel rfl rfl rfl (by kernel_rfl) (by kernel_rfl) rfl (fun _ hw => (rn_ld Tryz.isAgg9 (off := 0) (o := 0) (S.tm rfl) ((S.blk_mem (i := 0) (cells := (GDeed.enc Ar)) (b := b2) (T := 39) rfl (ne_nil (e' := .blk b2 (GDeed.enc Ar) 39))).kept hw) rfl)) ?_;clear S;intro a S
 refine d_quiet 10 S hsel rfl rfl rfl (by kernel_rfl) (by kernel_rfl) rfl (fun _ hw => (rn_fld fa_39_1 (S.tm rfl))) ?_;clear S;intro a S
 refine d_quiet 11 S hsel rfl rfl rfl (by kernel_rfl) (by kernel_rfl) rfl (fun _ hw => (rn_ld Tryz.isAgg3 (off := 0) (o := 1) (S.tm rfl) ((S.blk_mem (i := 1) (cells := (GDeed.enc Aq)) (b := b1) (T := 39) rfl (ne_nil (e' := .blk b1 (GDeed.enc Aq) 39))).kept hw) rfl)) ?_;clear S;intro a S
 refine d_quiet 12 S hsel rfl rfl rfl (by kernel_rfl) (by kernel_rfl) rfl (fun _ hw => (rn_fld fa_39_1 (S.tm rfl))) ?_;clear S;intro a S
 refine d_quiet 13 S hsel rfl rfl rfl (by kernel_rfl) (by kernel_rfl) rfl (fun _ hw => (rn_ld Tryz.isAgg3 (off := 0) (o := 1) (S.tm rfl) ((S.blk_mem (i := 0) (cells := (GDeed.enc Ar)) (b := b2) (T := 39) rfl (ne_nil (e' := .blk b2 (GDeed.enc Ar) 39))).kept hw) rfl)) ?_;clear S;intro a S
 refine d_loud1 4 (by kernel_rfl) rfl (l_enter S (fun _ => run_call (vs := [iV Aq.At, iV Ar.At]) ⟨(S.tm rfl), (S.tm rfl), trivial⟩ Tryz.call78) (cmp_Compare_int_ok _ Aq.At Ar.At _ rfl) rfl ?_);clear S;intro v5 a w9 hv5 hk9 hn5 S
 subst hv5
 refine Ld (d_next hk9 (d_loud1 9 (by kernel_rfl) rfl (l_enter S (fun _ => run_call (vs := [sV Aq.Site, sV Ar.Site]) ⟨(S.tm rfl), (S.tm rfl), trivial⟩ Tryz.call52) (strings_Compare_ok _ Aq.Site Ar.Site _ rfl) rfl ?_)));clear S;intro v6 a w10 hv6 hk10 hn6 S
 subst hv6
 refine Ld (d_next hk10 (d_loud1 14 (by kernel_rfl) rfl (l_enter S (fun _ => run_call (vs := [iV Aq.No, iV Ar.No]) ⟨(S.tm rfl), (S.tm rfl), trivial⟩ Tryz.call78) (cmp_Compare_int_ok _ Aq.No Ar.No _ rfl) rfl ?_)));clear S;intro v7 a w11 hv7 hk11 hn7 S
 subst hv7
 refine Ld (d_next hk11 (d_loud1 15 (by kernel_rfl) rfl (l_buildSlice S Tryz.underlying22 Tryz.sizeOf3 Tryz.zeroValue3 rfl rfl (pv := [(0, iV (cmp_Compare_int Aq.At Ar.At)), (1, iV (strings_Compare Aq.Site Ar.Site)), (2, iV (cmp_Compare_int Aq.No Ar.No))]) ⟨rfl, (S.tm rfl), rfl, (S.tm rfl), rfl, (S.tm rfl), trivial⟩ (cs := [iV (cmp_Compare_int Aq.At Ar.At), iV (strings_Compare Aq.Site Ar.Site), iV (cmp_Compare_int Aq.No Ar.No)]) (by kernel_rfl) rfl ?_)));clear S;intro a w12 b4 hz4 hk12 S
 refine Ld (d_next hk12 (d_loud1 16 (by kernel_rfl) rfl (l_enter S (fun _ => run_call (vs := [.slice (some ⟨b4, 0, none⟩) 3 3]) ⟨(S.tm rfl), trivial⟩ Tryz.call77) (cmp_Or_int_ok _ (.slice (some ⟨b4, 0, none⟩) 3 3) [(cmp_Compare_int Aq.At Ar.At), (strings_Compare Aq.Site Ar.Site), (cmp_Compare_int Aq.No Ar.No)] (lit_slcT enc_int S (i := 0) rfl rfl rfl rfl ((ne_nil (e' := .blk b4 [iV (cmp_Compare_int Aq.At Ar.At), iV (strings_Compare Aq.Site Ar.Site), iV (cmp_Compare_int Aq.No Ar.No)] 3)) _ rfl)) _ rfl) rfl ?_)));clear S;intro v8 a w13 hv8 hk13 hn8 S
 subst hv8
 refine Ld (d_next hk13 (d_rest [17] hsel (by kernel_rfl) rfl ?_))
 clear hsel
 refine s_lv S rfl (Ra (S.tm rfl)) rfl ?_;clear S;intro a S
 refine s_done ?_
 replace S := S.nk [] [(4, iV (cmp_Or_int [(cmp_Compare_int Aq.At Ar.At), (strings_Compare Aq.Site Ar.Site), (cmp_Compare_int Aq.No Ar.No)]))] [false, false, false] rfl ⟨rfl, trivial⟩
 refine Tn (wp_ret ?_)
 subst h
 exact f_ret S Tryz.results54 rfl rfl
theorem meet_placeOf_ok (w : World) (V : GDeed) (r : Gmeet_place) (h : meet_placeOf V = r) :
    Calls Tryz.prog 55 [.agg (GDeed.enc V).toArray].toArray w (Ret w [] fun _ v _ => v = .agg (Gmeet_place.enc r).toArray) := by
 refine f_enter [] [] Tryz.func55 rfl Tryz.ntmps55 rfl (by simp) (by simp [fps]) (by simp [fps]) fun a S => ?_
 unfold meet_placeOf at h
 replace S := S.nk [] [(0, .agg (GDeed.enc V).toArray)] [] rfl ⟨rfl, trivial⟩
 refine Fs (Fg (l_box S (S.tm rfl) (cs := (GDeed.enc V)) rfl rfl ?_));clear S;intro a w1 b1 hz1 hk1 S
 refine l_alloc S Tryz.zeroValue97 (cs := [sV k_empty, iV 0]) rfl rfl ?_;clear S;intro a w2 b2 hz2 hk2 S
 refine Ld (Tn (Fs (Fg (lv S (rn_fld fa_39_0 (S.tm rfl)) rfl ?_))));clear S;intro a S
 refine lv S (rn_load Tryz.isAgg9 (S.tm rfl) (S.cell (i := 1) rfl rfl)) rfl ?_;clear S;intro a S
 refine lv S (rn_fld fa_39_1 (S.tm rfl)) rfl ?_;clear S;intro a S
 refine lv S (rn_load Tryz.isAgg3 (S.tm rfl) (S.cell (i := 1) rfl rfl)) rfl ?_;clear S;intro a S
 refine lv S (rn_bld bt_97 (pv := [(0, sV V.Site), (1, iV V.No)]) ⟨rfl, (S.tm rfl), rfl, (S.tm rfl), trivial⟩ (cs := [sV V.Site, iV V.No]) (by kernel_rfl)) rfl ?_;clear S;intro a S
 refine l_store S (S.tm rfl) (S.tm rfl) (i := 0) (off := 0) rfl Tryz.sizeOf97 (vs := [sV V.Site, iV V.No]) rfl rfl rfl rfl ?_;clear S;intro w3 hk3 S
 refine Ld (Tn (wp_ret ?_))
 subst h
 exact f_retG S (rs := [.cell 2 97]) (vs := [.agg #[sV V.Site, iV V.No]]) Tryz.results55 ⟨(res_cell (off := 0) S rfl Tryz.isAgg97 Tryz.sizeOf97 rfl (S.cellsAt (i := 0) rfl)), trivial⟩ rfl rfl
set_option maxRecDepth 20000 in
theorem meet_CheckDeeds_ok (w : World) (Ab : Value) (Ac : List GDeed) (Ao : Slc (view w []) 11 Ab (Ac.map GDeed.enc)) (r : Int) (h : meet_CheckDeeds Ac = some r) :
    Calls Tryz.prog 23 [Ab].toArray w (Ret w [] fun _ v _ => v = iV r) := by
 refine f_enter [] [] Tryz.func23 rfl Tryz.ntmps23 rfl (by simp) (by simp [fps]) (by simp [fps]) fun a S => ?_
 unfold meet_CheckDeeds at h
 replace S := S.nk [] [(0, Ab)] [] rfl ⟨rfl, trivial⟩
 refine Fs (Fg (lv S (Ra rfl) rfl ?_));clear S;intro a S
 refine Ld (Tn (Fs (Fs (Fg (lv S (Rm (S.tm rfl)) rfl ?_)))));clear S;intro a S
 refine lv S (rn_lenT sl_26 (S.tm rfl) (slc_len Ao)) rfl ?_;clear S;intro a S
 refine lv S (rn_gtr (S.tm rfl) rfl) rfl ?_;clear S;intro a S
 refine Ld (Tn (f_cond (S.tm rfl) (fun hb1 => ?_) (fun hb1 => ?_)))
 ·replace h := iteT h hb1
  refine Fs (Fg (lv S (Ra rfl) rfl ?_));clear S;intro a S
  refine Ld (Tn (wp_ret (then_r ?_)))
  obtain rfl := Option.some.inj h
  exact f_ret S Tryz.results23 rfl rfl
 ·replace h := iteF h hb1
  refine wp_skip (Tn (Fs (Fg (l_makeMap (κ := Gmeet_place) (ν := Bool) S rfl (fun x => Value.agg (Gmeet_place.enc x).toArray) Value.bool ?_))));clear S;intro a w1 b1 hz1 hk1 S
  refine lv S (Ra (S.tm rfl)) rfl ?_;clear S;intro a S
  refine Ld (Tn (Fs (Fg (lv S (Ra rfl) rfl ?_))));clear S;intro a S
  refine Ld (Tn (Fs (Fs (Fg (lv S (Rm (S.tm rfl)) rfl ?_)))));clear S;intro a S
  refine lv S (rn_lenT sl_26 (S.tm rfl) (slc_len Ao)) rfl ?_;clear S;intro a S
  refine lv S (Rm rfl) rfl ?_;clear S;intro a S
  refine Ld (Tn ?_)
  replace S := S.nk [.map b1 (ments (fun x => Value.agg (Gmeet_place.enc x).toArray) Value.bool ([] : List (Gmeet_place × Bool))) ([] : List (Gmeet_place × Bool)).length] [(0, Ab), (3, .map (some b1)), (4, bV false), (12, Ab), (13, iV (Ac.length : Int)), (14, iV 0)] [true] rfl (subR rfl)
  obtain ⟨j1, hj1, h⟩ := joinE h
  refine f_join (fun a w' => ∃ x1 : List (Gmeet_place × Bool), ∃ x2 : Bool, j1 x1 x2 = some r ∧ Sx w [] nov [.map b1 (ments (fun x => Value.agg (Gmeet_place.enc x).toArray) Value.bool x1) x1.length] [(4, bV x2)] 48 a w') ?_ ?_
  ·refine wp_block (f_loop (fun (ys1 : List GDeed) a w' => ∃ i1 : Nat, ∃ x1 : List (Gmeet_place × Bool), ∃ x2 : Bool, (∃ dn, Ac = dn ++ ys1 ∧ dn.length = i1) ∧ meet_CheckDeeds_l1 Ac j1 ys1 i1 x1 x2 = some r ∧ Sx w [] nov [.map b1 (ments (fun x => Value.agg (Gmeet_place.enc x).toArray) Value.bool x1) x1.length] [(0, Ab), (3, .map (some b1)), (4, bV x2), (12, Ab), (13, iV (Ac.length : Int)), (14, iV (i1 : Int))] 48 a w') List.length Ac ⟨0, ([] : List (Gmeet_place × Bool)), false, ⟨[], rfl, rfl⟩, h, S.nf [true] rfl (subR rfl)⟩ ?_)
   clear S h;rintro ys1 a w2 ⟨i1, x1, x2, ⟨dn, hd1, hi1⟩, h, S⟩
   cases ys1 with
   | nil =>
    rw [meet_CheckDeeds_l1.eq_1] at h
    refine Fs (Fg (lv S (rn_lss (S.tm rfl) (S.tm rfl)) rfl ?_));clear S;intro a S
    refine Ld ?_
    replace S := S.nk [.map b1 (ments (fun x => Value.agg (Gmeet_place.enc x).toArray) Value.bool x1) x1.length] [(0, Ab), (3, .map (some b1)), (4, bV x2), (12, Ab), (13, iV (Ac.length : Int)), (14, iV (i1 : Int)), (15, bV (decide ((i1 : Int) < (Ac.length : Int))))] [true] rfl (subR rfl)
    refine Tn (Fs (wp_cond_false ((S.tm rfl).trans (congrArg Value.bool (rng_nil hd1 hi1))) (wp_exit (then_x (then_x (x_same ?_))))))
    refine Tn ?_
    exact ⟨x1, x2, h, S.nf [true] rfl ⟨rfl, trivial⟩⟩
   | cons y1 ys1 =>
    rw [meet_CheckDeeds_l1.eq_2] at h
    refine Fs (Fg (lv S (rn_lss (S.tm rfl) (S.tm rfl)) rfl ?_));clear S;intro a S
    refine Ld ?_
    replace S := S.nk [.map b1 (ments (fun x => Value.agg (Gmeet_place.enc x).toArray) Value.bool x1) x1.length] [(0, Ab), (3, .map (some b1)), (4, bV x2), (12, Ab), (13, iV (Ac.length : Int)), (14, iV (i1 : Int)), (15, bV (decide ((i1 : Int) < (Ac.length : Int))))] [true] rfl (subR rfl)
    refine Tn (Fs (wp_cond_true ((S.tm rfl).trans (congrArg Value.bool (rng_cons hd1 hi1))) (wp_skip (Tn (Fs (wp_block ?_))))))
    refine Fs (Fg (lv S (Rm (S.tm rfl)) rfl ?_));clear S;intro a S
    obtain ⟨b2, o1, hm1, hr1⟩ := rn_indexT (a := a) (x := .tmp 12) (y := .tmp 14) (ty := 0) sl_26 Ao (get_mid hd1 hi1) rfl (S.tm rfl) (S.tm rfl)
    refine lv S (hr1 _) rfl ?_;clear S;intro a S
    clear hr1
    refine lv S (rn_ldA Tryz.isAgg39 Tryz.sizeOf39 (off := o1) (o := 0) (part := (GDeed.enc y1)) rfl rfl (S.tm rfl) (hm1.at S.emb0)) rfl ?_;clear S;intro a S
    refine l_alloc S Tryz.zeroValue39 (cs := [sV k_empty, iV 0, iV 0, iV 0, sV k_empty, sV k_empty, sV k_empty, iV 0, iV 0, sV k_empty, iV 0]) rfl rfl ?_;clear S;intro a w4 b3 hz2 hk2 S
    refine lv S (Ra (S.tm rfl)) rfl ?_;clear S;intro a S
    refine l_store S (S.tm rfl) (S.tm rfl) (i := 0) (off := 0) rfl Tryz.sizeOf39 (vs := (GDeed.enc y1)) rfl rfl rfl rfl ?_;clear S;intro w5 hk3 S
    refine Ld (Tn (Fs (Fs (Fg (lv S (rn_ldA Tryz.isAgg39 Tryz.sizeOf39 (off := 0) (o := 0) (part := (GDeed.enc y1)) rfl rfl (S.tm rfl) (S.cellsAt (i := 0) rfl)) rfl ?_)))));clear S;intro a S
    obtain ⟨r1, hr2, h⟩ := bindE h
    refine l_enter S (fun _ => run_call (vs := [.agg (GDeed.enc y1).toArray]) ⟨(S.tm rfl), trivial⟩ Tryz.call53) (meet_checkDeed_ok _ y1 _ hr2) rfl ?_;clear S;intro v1 a w6 hv1 hk4 hn1 S
    subst hv1
    refine lv S (Ra (S.tm rfl)) rfl ?_;clear S;intro a S
    refine Ld ?_
    replace S := S.nk [.blk b3 (GDeed.enc y1) 39, .map b1 (ments (fun x => Value.agg (Gmeet_place.enc x).toArray) Value.bool x1) x1.length] [(0, Ab), (3, .map (some b1)), (4, bV x2), (5, iV (i1 : Int)), (6, .pointer (some ⟨b3, 0, none⟩)), (7, iV r1), (12, Ab), (13, iV (Ac.length : Int)), (14, iV (i1 : Int))] [true, true] rfl (subR rfl)
    refine Tn (Fs (Fg (lv S (Rm (S.tm rfl)) rfl ?_)));clear S;intro a S
    refine lv S (rn_neq (S.tm rfl) rfl) rfl ?_;clear S;intro a S
    refine Ld (Tn (f_cond (S.tm rfl) (fun hb2 => ?_) (fun hb2 => ?_)))
    ·replace h := iteT h hb2
     refine Fs (Fg (lv S (Rm (S.tm rfl)) rfl ?_));clear S;intro a S
     refine lv S (Ra (S.tm rfl)) rfl ?_;clear S;intro a S
     refine Ld (Tn (wp_ret (then_r (blk_r (then_r (then_r ?_))))))
     refine blk_r (then_r (then_r ?_))
     obtain rfl := Option.some.inj h
     exact f_ret S Tryz.results23 rfl rfl
    ·replace h := iteF h hb2
     refine wp_skip (Tn (Fs (Fs ?_)))
     obtain ⟨j2, hj2, h⟩ := joinE h
     refine f_join (fun a w' => ∃ x3 : Bool, j2 x3 = some r ∧ Sx w [] nov [.blk b3 (GDeed.enc y1) 39, .map b1 (ments (fun x => Value.agg (Gmeet_place.enc x).toArray) Value.bool x1) x1.length] [(0, Ab), (3, .map (some b1)), (4, bV x2), (6, .pointer (some ⟨b3, 0, none⟩)), (12, Ab), (13, iV (Ac.length : Int)), (14, iV (i1 : Int)), (35, bV x3)] 48 a w') ?_ ?_
     ·rcases Bool.eq_false_or_eq_true (decide (0 < (i1 : Int))) with hb3 | hb3
      ·replace h := iteT h hb3
       obtain ⟨hc1, h⟩ := chkE h
       refine d_region [] ([]) Tryz.mixed S rfl (by kernel_rfl) ?_;clear S;intro w9 hk6 hsel S
       refine d_quiet 0 S hsel rfl rfl rfl (by kernel_rfl) (by kernel_rfl) rfl (fun _ hw => (Rm (S.tm rfl))) ?_;clear S;intro a S
       refine d_quiet 1 S hsel rfl rfl rfl (by kernel_rfl) (by kernel_rfl) rfl (fun _ hw => (rn_gtr (S.tm rfl) rfl)) ?_;clear S;intro a S
       refine d_quiet 2 S hsel rfl rfl rfl (by kernel_rfl) (by kernel_rfl) rfl (fun _ hw => (Rm (S.tm rfl))) ?_;clear S;intro a S
       refine d_quiet_g 3 S hsel rfl rfl rfl rfl hb3 rfl rfl (by kernel_rfl) (by kernel_rfl) rfl (fun _ hw => (Rm (S.tm rfl))) ?_;clear S;intro a S
       refine d_quiet_g 4 S hsel rfl rfl rfl rfl hb3 rfl rfl (by kernel_rfl) (by kernel_rfl) rfl (fun _ hw => (Rm (S.tm rfl))) ?_;clear S;intro a S
       refine d_quiet_g 5 S hsel rfl rfl rfl rfl hb3 rfl rfl (by kernel_rfl) (by kernel_rfl) rfl (fun _ hw => (rn_sub (S.tm rfl) rfl)) ?_;clear S;intro a S
       obtain ⟨b5, o3, hm3, hr4⟩ := rn_indexT (a := a) (x := .tmp 27) (y := .tmp 29) (ty := 0) sl_26 (Ao.mono (S.le_arg nil_sub)) (inB_get hc1).1 (inB_get hc1).2 (S.tm rfl) (S.tm rfl)
       refine d_quiet_g 6 S hsel rfl rfl rfl rfl hb3 rfl rfl (by kernel_rfl) (by kernel_rfl) rfl (fun _ hw => hr4 _) ?_;clear S;intro a S
       clear hr4
       refine d_quiet_g 7 S hsel rfl rfl rfl rfl hb3 rfl rfl (by kernel_rfl) (by kernel_rfl) rfl (fun _ hw => (rn_ldA Tryz.isAgg39 Tryz.sizeOf39 (off := o3) (o := 0) (part := (GDeed.enc (nth Ac (W ((i1 : Int) - 1))))) rfl rfl (S.tm rfl) (hm3.kept hw))) ?_;clear S;intro a S
       refine d_quiet_g 8 S hsel rfl rfl rfl rfl hb3 rfl rfl (by kernel_rfl) (by kernel_rfl) rfl (fun _ hw => (rn_ldA Tryz.isAgg39 Tryz.sizeOf39 (off := 0) (o := 0) (part := (GDeed.enc y1)) rfl rfl (S.tm rfl) ((S.blk_mem (i := 0) (cells := (GDeed.enc y1)) (b := b3) (T := 39) rfl (ne_nil (e' := .blk b3 (GDeed.enc y1) 39))).kept hw))) ?_;clear S;intro a S
       refine d_loud1 9 (by kernel_rfl) rfl (l_want S rfl rfl rfl hb3 (l_enter S (fun _ => run_call (vs := [.agg (GDeed.enc (nth Ac (W ((i1 : Int) - 1)))).toArray, .agg (GDeed.enc y1).toArray]) ⟨(S.tm rfl), (S.tm rfl), trivial⟩ Tryz.call54) (meet_compare_ok _ (nth Ac (W ((i1 : Int) - 1))) y1 _ rfl) rfl ?_));clear S;intro v3 a w10 hv3 hk7 hn3 S
       subst hv3
       refine Ld (d_next hk7 (d_rest [10, 11] hsel (by kernel_rfl) rfl ?_))
       clear hsel
       refine s_want S rfl rfl rfl rfl hb3 (s_lv0 S (rn_geq (S.tm rfl) rfl) rfl ?_);clear S;intro a S
       refine s_lv S rfl (rn_pick_b hb3 (S.tm rfl) (S.tm rfl)) rfl ?_;clear S;intro a S
       refine s_done ?_
       replace S := S.nk [.blk b3 (GDeed.enc y1) 39, .map b1 (ments (fun x => Value.agg (Gmeet_place.enc x).toArray) Value.bool x1) x1.length] [(0, Ab), (3, .map (some b1)), (4, bV x2), (6, .pointer (some ⟨b3, 0, none⟩)), (12, Ab), (13, iV (Ac.length : Int)), (14, iV (i1 : Int)), (27, Ab), (28, iV (i1 : Int)), (29, iV (W ((i1 : Int) - 1))), (30, .pointer (some ⟨b5, o3, none⟩)), (31, .agg (GDeed.enc (nth Ac (W ((i1 : Int) - 1)))).toArray), (32, .agg (GDeed.enc y1).toArray), (33, iV (meet_compare (nth Ac (W ((i1 : Int) - 1))) y1)), (34, bV (decide (0 ≤ (meet_compare (nth Ac (W ((i1 : Int) - 1))) y1)))), (35, bV (decide (0 ≤ (meet_compare (nth Ac (W ((i1 : Int) - 1))) y1))))] [true, true] rfl (subR rfl)
       refine Tn ?_
       exact ⟨decide (0 ≤ (meet_compare (nth Ac (W ((i1 : Int) - 1))) y1)), h, S.nf [true, true] rfl (subR rfl)⟩
      ·replace h := iteF h hb3
       refine d_region [] ([]) Tryz.mixed S rfl (by kernel_rfl) ?_;clear S;intro w11 hk8 hsel S
       refine d_rest [0, 1, 2, 3, 4, 5, 6, 7, 8, 9, 10, 11] hsel (by kernel_rfl) rfl ?_
       clear hsel
       refine s_lv S rfl (Rm (S.tm rfl)) rfl ?_;clear S;intro a S
       refine s_lv S rfl (rn_gtr (S.tm rfl) rfl) rfl ?_;clear S;intro a S
       refine s_lv S rfl (Rm (S.tm rfl)) rfl ?_;clear S;intro a S
       iterate 8 (refine s_skip S rfl rfl rfl rfl (neq_f hb3) rfl ?_ rfl;clear S;intro a S)
       refine s_lv S rfl (rn_pick_c hb3 (S.tm rfl) rfl) rfl ?_;clear S;intro a S
       refine s_done ?_
       replace S := S.nk [.blk b3 (GDeed.enc y1) 39, .map b1 (ments (fun x => Value.agg (Gmeet_place.enc x).toArray) Value.bool x1) x1.length] [(0, Ab), (3, .map (some b1)), (4, bV x2), (6, .pointer (some ⟨b3, 0, none⟩)), (12, Ab), (13, iV (Ac.length : Int)), (14, iV (i1 : Int)), (35, bV false)] [true, true] rfl (subR rfl)
       refine Tn ?_
       exact ⟨false, h, S.nf [true, true] rfl (subR rfl)⟩
     clear S h;rintro a w7 ⟨x3, h, S⟩;rw [hj2] at h;clear hj2 j2
     refine Tn (f_cond (S.tm rfl) (fun hb4 => ?_) (fun hb4 => ?_))
     ·replace h := iteT h hb4
      refine Fs (Fg (lv S (Ra rfl) rfl ?_));clear S;intro a S
      refine Ld (Tn (wp_ret (then_r (blk_r (then_r (then_r ?_))))))
      refine blk_r (then_r (then_r ?_))
      obtain rfl := Option.some.inj h
      exact f_ret S Tryz.results23 rfl rfl
     ·replace h := iteF h hb4
      refine wp_skip (Tn (Fs (Fg (lv S (Rm (S.tm rfl)) rfl ?_))));clear S;intro a S
      refine lv S (Rm (S.tm rfl)) rfl ?_;clear S;intro a S
      refine f_cutm 5 (fun a w' => Keep [] w7 w' ∧ Sx w [] nov [.blk b3 (GDeed.enc y1) 39, .map b1 (ments (fun x => Value.agg (Gmeet_place.enc x).toArray) Value.bool x1) x1.length] [(0, Ab), (3, .map (some b1)), (6, .pointer (some ⟨b3, 0, none⟩)), (12, Ab), (13, iV (Ac.length : Int)), (14, iV (i1 : Int)), (42, bV (x2 || (mgetD x1 (meet_placeOf y1) false)))] 48 a w') ?_ ?_
      ·rcases Bool.eq_false_or_eq_true x2 with hb5 | hb5
       ·iterate 4 (refine l_skip S rfl rfl rfl (neq_t hb5) rfl ?_ rfl;clear S;intro a S)
        refine lv S (rn_or_t (mgetD x1 (meet_placeOf y1) false) hb5 (S.tm rfl) rfl) rfl ?_;clear S;intro a S
        refine Ld (Tn ?_)
        exact ⟨Keep.refl _ _, S.nf [true, true] rfl (subR rfl)⟩
       ·refine l_want S rfl rfl rfl hb5 (lv S (Rm (S.tm rfl)) rfl ?_);clear S;intro a S
        refine l_want S rfl rfl rfl hb5 (lv S (rn_ldA Tryz.isAgg39 Tryz.sizeOf39 (off := 0) (o := 0) (part := (GDeed.enc y1)) rfl rfl (S.tm rfl) (S.cellsAt (i := 0) rfl)) rfl ?_);clear S;intro a S
        refine l_want S rfl rfl rfl hb5 (l_enter S (fun _ => run_call (vs := [.agg (GDeed.enc y1).toArray]) ⟨(S.tm rfl), trivial⟩ Tryz.call55) (meet_placeOf_ok _ y1 _ rfl) rfl ?_);clear S;intro v4 a w13 hv4 hk9 hn4 S
        subst hv4
        refine l_want S rfl rfl rfl hb5 (lv S (rn_lookup (kv := (fun x => Value.agg (Gmeet_place.enc x).toArray)) (vv := Value.bool) (m := x1) (key := (meet_placeOf y1)) (z := false) (S.map_at (i := 1) rfl) Tryz.underlying95 keyT_97 Tryz.zeroValue4 (S.tm rfl) (S.tm rfl)) rfl ?_);clear S;intro a S
        refine lv S (rn_or_f hb5 (S.tm rfl) (S.tm rfl)) rfl ?_;clear S;intro a S
        refine Ld (Tn ?_)
        exact ⟨hk9, S.nf [true, true] rfl (subR rfl)⟩
      clear S;rintro a w12 ⟨hk10, S⟩
      refine lv S (Ra (S.tm rfl)) rfl ?_;clear S;intro a S
      refine Ld (Tn (Fg (lv S (Rm (S.tm rfl)) rfl ?_)));clear S;intro a S
      refine lv S (rn_ldA Tryz.isAgg39 Tryz.sizeOf39 (off := 0) (o := 0) (part := (GDeed.enc y1)) rfl rfl (S.tm rfl) (S.cellsAt (i := 0) rfl)) rfl ?_;clear S;intro a S
      refine l_enter S (fun _ => run_call (vs := [.agg (GDeed.enc y1).toArray]) ⟨(S.tm rfl), trivial⟩ Tryz.call55) (meet_placeOf_ok _ y1 _ rfl) rfl ?_;clear S;intro v5 a w14 hv5 hk11 hn5 S
      subst hv5
      refine l_mapUpdate (kv := (fun x => Value.agg (Gmeet_place.enc x).toArray)) (vv := Value.bool) (m := x1) (key := (meet_placeOf y1)) (val := true) S (i := 1) rfl Tryz.underlying95 keyT_97 (S.tm rfl) (S.tm rfl) rfl ?_;clear S;intro w15 hk12 S
      refine Ld (blk_n (Tn (Fg (lv S (rn_add (S.tm rfl) rfl) rfl ?_))));clear S;intro a S
      refine lv S (Rm (S.tm rfl)) rfl ?_;clear S;intro a S
      refine Ld (Tn ?_)
      exact ⟨ys1, ⟨i1 + 1, (mput x1 (meet_placeOf y1) true), (x2 || (mgetD x1 (meet_placeOf y1) false)), ⟨_, (hd1).trans (List.append_cons _ _ _), by simp [hi1]⟩, h, S.nf [false, true] rfl ⟨rfl, rfl, rfl, rfl, rfl, (congrArg (fun z => some (Value.int .i64 z)) (rng_next hd1 hi1 (slc_max Ao))), trivial⟩⟩, Nat.lt_succ_self _⟩
  clear S h;rintro a w3 ⟨x1, x2, h, S⟩;rw [hj1] at h;clear hj1 j1
  refine Tn (Fs (Fs (Fg (lv S (Rm (S.tm rfl)) rfl ?_))));clear S;intro a S
  refine Ld (Tn (f_cond (S.tm rfl) (fun hb6 => ?_) (fun hb6 => ?_)))
  ·replace h := iteT h hb6
   refine Fs (Fg (lv S (Ra rfl) rfl ?_));clear S;intro a S
   refine Ld (Tn (wp_ret (then_r ?_)))
   obtain rfl := Option.some.inj h
   exact f_ret S Tryz.results23 rfl rfl
  ·replace h := iteF h hb6
   refine wp_skip (Tn (Fs (Fg (lv S (Ra rfl) rfl ?_))));clear S;intro a S
   refine Ld (Tn (wp_ret ?_))
   obtain rfl := Option.some.inj h
   exact f_ret S Tryz.results23 rfl rfl
theorem meet_kinds_ok (w : World) (r : (List ByteArray)) (h : meet_kinds = r) :
    Calls Tryz.prog 25 [].toArray w (Ret w [] fun τ v _ => OwnV τ 9 1 v r.length (r.flatMap eStr)) := by
 refine f_enter [] [] Tryz.func25 rfl Tryz.ntmps25 rfl (by simp) (by simp [fps]) (by simp [fps]) fun a S => ?_
 unfold meet_kinds at h
 replace S := S.nk [] [] [] rfl trivial
 refine Fs (Fg (lv S (Ra rfl) rfl ?_));clear S;intro a S
 refine Ld (Tn (Fs (Fg (l_buildSlice S Tryz.underlying55 Tryz.sizeOf9 Tryz.zeroValue9 rfl rfl (pv := [(0, sV k_enter), (1, sV k_scratch), (2, sV k_swum), (3, sV k_undo)]) ⟨rfl, rfl, rfl, rfl, rfl, rfl, rfl, rfl, trivial⟩ (cs := [sV k_enter, sV k_scratch, sV k_swum, sV k_undo]) (by kernel_rfl) rfl ?_))));clear S;intro a w1 b1 hz1 hk1 S
 refine lv S (Ra (S.tm rfl)) rfl ?_;clear S;intro a S
 refine Ld (Tn (wp_ret ?_))
 replace S := S.litOwn (i := 0) (xs := [k_enter, k_scratch, k_swum, k_undo]) rfl enc_str rfl rfl rfl
 replace S := S.nk [.own (.slice (some ⟨b1, 0, none⟩) 4 4) 9 1 ([k_enter, k_scratch, k_swum, k_undo] : List ByteArray).length (([k_enter, k_scratch, k_swum, k_undo] : List ByteArray).flatMap eStr)] [(0, (.slice (some ⟨b1, 0, none⟩) 4 4)), (1, (.slice (some ⟨b1, 0, none⟩) 4 4))] [] rfl (subR rfl)
 subst h
 exact f_ret S Tryz.results25 rfl (own_retT S (i := 0) rfl rfl)
theorem words_Dash_ok (w : World) (Ad : ByteArray) (r : ByteArray) (h : words_Dash Ad = r) :
    Calls Tryz.prog 26 [sV Ad].toArray w (Ret w [] fun _ v _ => v = sV r) := by
 refine f_enter [] [] Tryz.func26 rfl Tryz.ntmps26 rfl (by simp) (by simp [fps]) (by simp [fps]) fun a S => ?_
 unfold words_Dash at h
 replace S := S.nk [] [(0, sV Ad)] [] rfl ⟨rfl, trivial⟩
 refine Fs (Fg (lv S (Ra rfl) rfl ?_));clear S;intro a S
 refine Ld (Tn (Fs (Fs (Fg (lv S (Rm (S.tm rfl)) rfl ?_)))));clear S;intro a S
 refine lv S (rn_seql (S.tm rfl) rfl) rfl ?_;clear S;intro a S
 refine Ld (Tn (f_cond (S.tm rfl) (fun hb1 => ?_) (fun hb1 => ?_)))
 ·replace h := iteT h hb1
  refine Fs (Fg (lv S (Ra rfl) rfl ?_));clear S;intro a S
  refine Ld (Tn (wp_ret (then_r ?_)))
  subst h
  exact f_ret S Tryz.results26 rfl rfl
 ·replace h := iteF h hb1
  refine wp_skip (Tn (Fs (Fg (lv S (Rm (S.tm rfl)) rfl ?_))));clear S;intro a S
  refine lv S (Ra (S.tm rfl)) rfl ?_;clear S;intro a S
  refine Ld (Tn (wp_ret ?_))
  subst h
  exact f_ret S Tryz.results26 rfl rfl
set_option maxRecDepth 20000 in
theorem meet_Text_ok (w : World) (Ab : Value) (Ac : List GDeed) (Ao : Slc (view w []) 11 Ab (Ac.map GDeed.enc)) (hg_pow10 : Glob (view w []) 1 pow10Cells) (r : ByteArray × Int) (h : meet_Text Ac = some r) :
    Calls Tryz.prog 7 [Ab].toArray w (Ret w [] fun _ v _ => v = .tuple #[sV r.1, iV r.2]) := by
 refine f_enter [] [] Tryz.func7 rfl Tryz.ntmps7 rfl (by simp) (by simp [fps]) (by simp [fps]) fun a S => ?_
 unfold meet_Text at h
 replace S := S.nk [] [(0, Ab)] [] rfl ⟨rfl, trivial⟩
 refine Fs (Fg (lv S (Ra rfl) rfl ?_));clear S;intro a S
 refine lv S (Ra rfl) rfl ?_;clear S;intro a S
 refine Ld (Tn (Fs (Fs (Fg (lv S (Rm (S.tm rfl)) rfl ?_)))));clear S;intro a S
 obtain ⟨r1, hr1, h⟩ := bindE h
 refine l_enter S (fun _ => run_call (vs := [Ab]) ⟨(S.tm rfl), trivial⟩ Tryz.call23) (meet_CheckDeeds_ok _ Ab Ac (Ao.mono (S.le_arg nil_sub)) _ hr1) rfl ?_;clear S;intro v1 a w1 hv1 hk1 hn1 S
 subst hv1
 refine lv S (Ra (S.tm rfl)) rfl ?_;clear S;intro a S
 refine Ld (Tn (Fs (Fg (lv S (Rm (S.tm rfl)) rfl ?_))));clear S;intro a S
 refine lv S (rn_neq (S.tm rfl) rfl) rfl ?_;clear S;intro a S
 refine Ld (Tn (f_cond (S.tm rfl) (fun hb1 => ?_) (fun hb1 => ?_)))
 ·replace h := iteT h hb1
  refine Fs (Fg (lv S (Rm (S.tm rfl)) rfl ?_));clear S;intro a S
  refine lv S (Ra rfl) rfl ?_;clear S;intro a S
  refine lv S (Ra (S.tm rfl)) rfl ?_;clear S;intro a S
  refine Ld (Tn (wp_ret (then_r ?_)))
  obtain rfl := Option.some.inj h
  exact f_ret2 S Tryz.results7 rfl rfl rfl
 ·replace h := iteF h hb1
  refine wp_skip (Tn (Fs (Fg (l_alloc S Tryz.zeroValue53 (cs := [.pointer none, .slice none 0 0]) rfl rfl ?_))));clear S;intro a w2 b1 hz1 hk2 S
  replace S := S.newB 5
  refine Ld (Tn (Fs (Fg (lv S (Ra rfl) rfl ?_))));clear S;intro a S
  refine Ld (Tn (Fs (Fs (Fg (lv S (Rm (S.tm rfl)) rfl ?_)))));clear S;intro a S
  refine lv S (rn_lenT sl_26 (S.tm rfl) (slc_len Ao)) rfl ?_;clear S;intro a S
  refine lv S (Rm rfl) rfl ?_;clear S;intro a S
  refine Ld (Tn ?_)
  replace S := S.nk [.ownF (.slice none 0 0) 5 ByteArray.empty.size (Lib.strCells ByteArray.empty), .blk b1 [selfP b1 false, (.slice none 0 0)] 53] [(5, .pointer (some ⟨b1, 0, none⟩)), (6, .func (.func 24) #[] #[]), (15, Ab), (16, iV (Ac.length : Int)), (17, iV 0)] [true, true] rfl (subR rfl)
  obtain ⟨j1, hj1, h⟩ := joinE h
  refine f_join (fun a w' => ∃ x1 : ByteArray, ∃ x2 : Bool, ∃ v2 : Value, j1 x1 x2 = some r ∧ Sx w [] nov [.ownF v2 5 x1.size (Lib.strCells x1), .blk b1 [selfP b1 x2, v2] 53] [(5, .pointer (some ⟨b1, 0, none⟩))] 101 a w') ?_ ?_
  ·refine wp_block (f_loop (fun (ys1 : List GDeed) a w' => ∃ i1 : Nat, ∃ x1 : ByteArray, ∃ x2 : Bool, ∃ v2 : Value, (∃ dn, Ac = dn ++ ys1 ∧ dn.length = i1) ∧ meet_Text_l1 j1 ys1 i1 x1 x2 = some r ∧ Sx w [] nov [.ownF v2 5 x1.size (Lib.strCells x1), .blk b1 [selfP b1 x2, v2] 53] [(5, .pointer (some ⟨b1, 0, none⟩)), (6, .func (.func 24) #[] #[]), (15, Ab), (16, iV (Ac.length : Int)), (17, iV (i1 : Int))] 101 a w') List.length Ac ⟨0, ByteArray.empty, false, (.slice none 0 0), ⟨[], rfl, rfl⟩, h, S.nf [true, true] rfl (subR rfl)⟩ ?_)
   clear S h;rintro ys1 a w3 ⟨i1, x1, x2, v2, ⟨dn, hd1, hi1⟩, h, S⟩
   cases ys1 with
   | nil =>
    rw [meet_Text_l1.eq_1] at h
    refine Fs (Fg (lv S (rn_lss (S.tm rfl) (S.tm rfl)) rfl ?_));clear S;intro a S
    refine Ld ?_
    replace S := S.nk [.ownF v2 5 x1.size (Lib.strCells x1), .blk b1 [selfP b1 x2, v2] 53] [(5, .pointer (some ⟨b1, 0, none⟩)), (6, .func (.func 24) #[] #[]), (15, Ab), (16, iV (Ac.length : Int)), (17, iV (i1 : Int)), (18, bV (decide ((i1 : Int) < (Ac.length : Int))))] [true, true] rfl (subR rfl)
    refine Tn (Fs (wp_cond_false ((S.tm rfl).trans (congrArg Value.bool (rng_nil hd1 hi1))) (wp_exit (then_x (then_x (x_same ?_))))))
    refine Tn ?_
    exact ⟨x1, x2, v2, h, S.nf [true, true] rfl ⟨rfl, trivial⟩⟩
   | cons y1 ys1 =>
    rw [meet_Text_l1.eq_2] at h
    refine Fs (Fg (lv S (rn_lss (S.tm rfl) (S.tm rfl)) rfl ?_));clear S;intro a S
    refine Ld ?_
    replace S := S.nk [.ownF v2 5 x1.size (Lib.strCells x1), .blk b1 [selfP b1 x2, v2] 53] [(5, .pointer (some ⟨b1, 0, none⟩)), (6, .func (.func 24) #[] #[]), (15, Ab), (16, iV (Ac.length : Int)), (17, iV (i1 : Int)), (18, bV (decide ((i1 : Int) < (Ac.length : Int))))] [true, true] rfl (subR rfl)
    refine Tn (Fs (wp_cond_true ((S.tm rfl).trans (congrArg Value.bool (rng_cons hd1 hi1))) (wp_skip (Tn (Fs (wp_block ?_))))))
    refine Fs (Fg ?_)
    obtain ⟨b2, o1, hm1, hr2⟩ := rn_indexT (a := a) (x := .tmp 15) (y := .tmp 17) (ty := 0) sl_26 Ao (get_mid hd1 hi1) rfl (S.tm rfl) (S.tm rfl)
    refine lv S (hr2 _) rfl ?_;clear S;intro a S
    clear hr2
    refine lv S (rn_ldA Tryz.isAgg39 Tryz.sizeOf39 (off := o1) (o := 0) (part := (GDeed.enc y1)) rfl rfl (S.tm rfl) (hm1.at S.emb0)) rfl ?_;clear S;intro a S
    refine l_alloc S Tryz.zeroValue39 (cs := [sV k_empty, iV 0, iV 0, iV 0, sV k_empty, sV k_empty, sV k_empty, iV 0, iV 0, sV k_empty, iV 0]) rfl rfl ?_;clear S;intro a w5 b3 hz2 hk3 S
    refine l_store S (S.tm rfl) (S.tm rfl) (i := 0) (off := 0) rfl Tryz.sizeOf39 (vs := (GDeed.enc y1)) rfl rfl rfl rfl ?_;clear S;intro w6 hk4 S
    refine Ld (Tn (Fs ?_))
    obtain ⟨r2, hr3, h⟩ := bindE h
    obtain ⟨r3, hr4, h⟩ := bindE h
    obtain ⟨hc1, h⟩ := chkE h
    refine d_region [] ([]) Tryz.mixed S rfl (by kernel_rfl) ?_;clear S;intro w11 hk9 hsel S
    refine d_quiet 0 S hsel rfl rfl rfl (by kernel_rfl) (by kernel_rfl) rfl (fun _ hw => (rn_fld fa_39_0 (S.tm rfl))) ?_;clear S;intro a S
    refine d_quiet 1 S hsel rfl rfl rfl (by kernel_rfl) (by kernel_rfl) rfl (fun _ hw => (rn_ld Tryz.isAgg9 (off := 0) (o := 0) (S.tm rfl) ((S.blk_mem (i := 0) (cells := (GDeed.enc y1)) (b := b3) (T := 39) rfl (ne_nil (e' := .blk b3 (GDeed.enc y1) 39))).kept hw) rfl)) ?_;clear S;intro a S
    refine d_quiet 2 S hsel rfl rfl rfl (by kernel_rfl) (by kernel_rfl) rfl (fun _ hw => (Rm (S.tm rfl))) ?_;clear S;intro a S
    refine d_quiet 3 S hsel rfl rfl rfl (by kernel_rfl) (by kernel_rfl) rfl (fun _ hw => (rn_fld fa_39_1 (S.tm rfl))) ?_;clear S;intro a S
    refine d_quiet 4 S hsel rfl rfl rfl (by kernel_rfl) (by kernel_rfl) rfl (fun _ hw => (rn_ld Tryz.isAgg3 (off := 0) (o := 1) (S.tm rfl) ((S.blk_mem (i := 0) (cells := (GDeed.enc y1)) (b := b3) (T := 39) rfl (ne_nil (e' := .blk b3 (GDeed.enc y1) 39))).kept hw) rfl)) ?_;clear S;intro a S
    refine d_quiet 6 S hsel rfl rfl rfl (by kernel_rfl) (by kernel_rfl) rfl (fun _ hw => (Rm (S.tm rfl))) ?_;clear S;intro a S
    refine d_quiet 7 S hsel rfl rfl rfl (by kernel_rfl) (by kernel_rfl) rfl (fun _ hw => (rn_fld fa_39_2 (S.tm rfl))) ?_;clear S;intro a S
    refine d_quiet 8 S hsel rfl rfl rfl (by kernel_rfl) (by kernel_rfl) rfl (fun _ hw => (rn_ld Tryz.isAgg3 (off := 0) (o := 2) (S.tm rfl) ((S.blk_mem (i := 0) (cells := (GDeed.enc y1)) (b := b3) (T := 39) rfl (ne_nil (e' := .blk b3 (GDeed.enc y1) 39))).kept hw) rfl)) ?_;clear S;intro a S
    refine d_quiet 11 S hsel rfl rfl rfl (by kernel_rfl) (by kernel_rfl) rfl (fun _ hw => (rn_fld fa_39_3 (S.tm rfl))) ?_;clear S;intro a S
    refine d_quiet 12 S hsel rfl rfl rfl (by kernel_rfl) (by kernel_rfl) rfl (fun _ hw => (rn_ld Tryz.isAgg3 (off := 0) (o := 3) (S.tm rfl) ((S.blk_mem (i := 0) (cells := (GDeed.enc y1)) (b := b3) (T := 39) rfl (ne_nil (e' := .blk b3 (GDeed.enc y1) 39))).kept hw) rfl)) ?_;clear S;intro a S
    refine d_quiet 13 S hsel rfl rfl rfl (by kernel_rfl) (by kernel_rfl) rfl (fun _ hw => (rn_sub (S.tm rfl) rfl)) ?_;clear S;intro a S
    refine d_loud1 5 (by kernel_rfl) rfl (l_enter S (fun _ => run_callV (cap := []) (S.tm rfl) (vs := [iV y1.No]) ⟨(S.tm rfl), trivial⟩ Tryz.call24) (strconv_Itoa_ok _ y1.No (hg_pow10.mono (S.le_arg nil_sub)) _ hr3) rfl ?_);clear S;intro v6 a w12 hv5 hk10 hn5 S
    subst hv5
    refine Ld (d_next hk10 (d_loud1 9 (by kernel_rfl) rfl (l_enter S (fun _ => run_callV (cap := []) (S.tm rfl) (vs := [iV y1.At]) ⟨(S.tm rfl), trivial⟩ Tryz.call24) (strconv_Itoa_ok _ y1.At (hg_pow10.mono (S.le_arg nil_sub)) _ hr4) rfl ?_)));clear S;intro v7 a w13 hv6 hk11 hn6 S
    subst hv6
    refine Ld (d_next hk11 (d_loud1 10 (by kernel_rfl) rfl ?_))
    have hz5 := S.keep.size
    refine l_enter S (fun _ => run_call (vs := []) trivial Tryz.call25) (meet_kinds_ok _ _ rfl) rfl ?_;clear S;intro v8 a w14 hv7 hk12 hn7 S
    replace S := S.take hn7 hz5 hv7
    refine Ld (d_next hk12 ?_)
    obtain ⟨b6, hg2, hr6⟩ := rn_indexS (a := a) (x := .tmp 31) (y := .tmp 34) (ty := 0) sl_55 enc_str S (i := 0) rfl (inB_get hc1).1 (inB_get hc1).2 (S.tm rfl) (S.tm rfl)
    refine d_quiet 14 S hsel rfl rfl rfl (by kernel_rfl) (by kernel_rfl) rfl (fun _ hw => (hr6 _)) ?_;clear S;intro a S
    clear hr6
    refine d_quiet 15 S hsel rfl rfl rfl (by kernel_rfl) (by kernel_rfl) rfl (fun _ hw => (rn_ld Tryz.isAgg9 (off := ((W (y1.Kind - 1)).toNat) * 1) (o := 0) (S.tm rfl) ((own_mem enc_str S (i := 0) rfl hg2 (inB_get hc1).1 (ne_nil (e' := .own v8 9 1 meet_kinds.length (meet_kinds.flatMap eStr)))).kept hw) rfl)) ?_;clear S;intro a S
    refine d_loud1 16 (by kernel_rfl) rfl (l_buildSlice S Tryz.underlying55 Tryz.sizeOf9 Tryz.zeroValue9 rfl rfl (pv := [(0, sV y1.Site), (1, sV r2), (2, sV r3), (3, sV (nth meet_kinds (W (y1.Kind - 1))))]) ⟨rfl, (S.tm rfl), rfl, (S.tm rfl), rfl, (S.tm rfl), rfl, (S.tm rfl), trivial⟩ (cs := [sV y1.Site, sV r2, sV r3, sV (nth meet_kinds (W (y1.Kind - 1)))]) (by kernel_rfl) rfl ?_);clear S;intro a w15 b7 hz6 hk13 S
    refine Ld (d_next hk13 (d_rest [17] hsel (by kernel_rfl) rfl ?_))
    clear hsel
    refine s_lv S rfl (Ra (S.tm rfl)) rfl ?_;clear S;intro a S
    replace S := S.litOwn (i := 0) (xs := [y1.Site, r2, r3, (nth meet_kinds (W (y1.Kind - 1)))]) rfl enc_str rfl rfl rfl
    replace S := S.nk [.own (.slice (some ⟨b7, 0, none⟩) 4 4) 9 1 ([y1.Site, r2, r3, (nth meet_kinds (W (y1.Kind - 1)))] : List ByteArray).length (([y1.Site, r2, r3, (nth meet_kinds (W (y1.Kind - 1)))] : List ByteArray).flatMap eStr), .own v8 9 1 meet_kinds.length (meet_kinds.flatMap eStr), .blk b3 (GDeed.enc y1) 39, .ownF v2 5 x1.size (Lib.strCells x1), .blk b1 [selfP b1 x2, v2] 53] [(5, .pointer (some ⟨b1, 0, none⟩)), (6, .func (.func 24) #[] #[]), (8, .pointer (some ⟨b3, 0, none⟩)), (9, (.slice (some ⟨b7, 0, none⟩) 4 4)), (15, Ab), (16, iV (Ac.length : Int)), (17, iV (i1 : Int)), (18, bV (decide ((i1 : Int) < (Ac.length : Int)))), (19, .pointer (some ⟨b2, o1, none⟩)), (20, .agg (GDeed.enc y1).toArray), (21, .pointer (some ⟨b3, 0, none⟩)), (22, sV y1.Site), (23, .func (.func 24) #[] #[]), (24, .pointer (some ⟨b3, 1, none⟩)), (25, iV y1.No), (26, sV r2), (27, .func (.func 24) #[] #[]), (28, .pointer (some ⟨b3, 2, none⟩)), (29, iV y1.At), (30, sV r3), (31, v8), (32, .pointer (some ⟨b3, 3, none⟩)), (33, iV y1.Kind), (34, iV (W (y1.Kind - 1))), (35, .pointer (some ⟨b6, ((W (y1.Kind - 1)).toNat) * 1, none⟩)), (36, sV (nth meet_kinds (W (y1.Kind - 1)))), (37, (.slice (some ⟨b7, 0, none⟩) 4 4))] [] rfl (subR rfl)
    refine s_done ?_
    replace S := S.nk [.own (.slice (some ⟨b7, 0, none⟩) 4 4) 9 1 ([y1.Site, r2, r3, (nth meet_kinds (W (y1.Kind - 1)))] : List ByteArray).length (([y1.Site, r2, r3, (nth meet_kinds (W (y1.Kind - 1)))] : List ByteArray).flatMap eStr), .blk b3 (GDeed.enc y1) 39, .ownF v2 5 x1.size (Lib.strCells x1), .blk b1 [selfP b1 x2, v2] 53] [(5, .pointer (some ⟨b1, 0, none⟩)), (6, .func (.func 24) #[] #[]), (8, .pointer (some ⟨b3, 0, none⟩)), (9, (.slice (some ⟨b7, 0, none⟩) 4 4)), (15, Ab), (16, iV (Ac.length : Int)), (17, iV (i1 : Int))] [true, false, true, true, true] rfl (subR rfl)
    refine Tn (Fs (Fs (Fg (lv S (rn_fld fa_39_3 (S.tm rfl)) rfl ?_))));clear S;intro a S
    refine lv S (rn_load Tryz.isAgg3 (S.tm rfl) (S.cell (i := 1) rfl rfl)) rfl ?_;clear S;intro a S
    refine Ld (Tn ?_)
    obtain ⟨j2, hj2, h⟩ := joinE h
    refine f_join (fun a w' => ∃ x3 : List ByteArray, ∃ v9 : Value, j2 x3 = some r ∧ Sx w [] nov [.own v9 9 1 x3.length (x3.flatMap eStr), .ownF v2 5 x1.size (Lib.strCells x1), .blk b1 [selfP b1 x2, v2] 53] [(5, .pointer (some ⟨b1, 0, none⟩)), (6, .func (.func 24) #[] #[]), (9, v9), (15, Ab), (16, iV (Ac.length : Int)), (17, iV (i1 : Int))] 101 a w') ?_ ?_
    ·refine wp_block (Fs (Fg (lv S (rn_eql (S.tm rfl) rfl) rfl ?_)));clear S;intro a S
     refine lv S (Ra (S.tm rfl)) rfl ?_;clear S;intro a S
     refine Ld (Tn ?_)
     obtain ⟨j3, hj3, h⟩ := joinE h
     refine f_join (fun a w' => ∃ x4 : List ByteArray, ∃ v10 : Value, j3 x4 = some r ∧ Sx w [] nov [.own v10 9 1 x4.length (x4.flatMap eStr), .ownF v2 5 x1.size (Lib.strCells x1), .blk b1 [selfP b1 x2, v2] 53] [(5, .pointer (some ⟨b1, 0, none⟩)), (6, .func (.func 24) #[] #[]), (9, v10), (15, Ab), (16, iV (Ac.length : Int)), (17, iV (i1 : Int))] 101 a w') ?_ ?_
     ·refine f_cond (S.tm rfl) (fun hb2 => ?_) (fun hb2 => ?_)
      ·replace h := iteT h hb2
       obtain ⟨r4, hr7, h⟩ := bindE h
       obtain ⟨hc2, h⟩ := chkE h
       refine d_region [] ((Value.ownBlock (.slice (some ⟨b7, 0, none⟩) 4 4)).toList) Tryz.mixed S rfl (by kernel_rfl) ?_;clear S;intro w22 hk18 hsel S
       refine d_quiet 0 S hsel rfl rfl rfl (by kernel_rfl) (by kernel_rfl) rfl (fun _ hw => (Rm (S.tm rfl))) ?_;clear S;intro a S
       refine d_quiet 1 S hsel rfl rfl rfl (by kernel_rfl) (by kernel_rfl) rfl (fun _ hw => (rn_fld fa_39_4 (S.tm rfl))) ?_;clear S;intro a S
       refine d_quiet 2 S hsel rfl rfl rfl (by kernel_rfl) (by kernel_rfl) rfl (fun _ hw => (rn_ld Tryz.isAgg9 (off := 0) (o := 4) (S.tm rfl) ((S.blk_mem (i := 1) (cells := (GDeed.enc y1)) (b := b3) (T := 39) rfl (ne_fp (i := 0) (j := 1) (e := .own (.slice (some ⟨b7, 0, none⟩) 4 4) 9 1 ([y1.Site, r2, r3, (nth meet_kinds (W (y1.Kind - 1)))] : List ByteArray).length (([y1.Site, r2, r3, (nth meet_kinds (W (y1.Kind - 1)))] : List ByteArray).flatMap eStr)) (e' := .blk b3 (GDeed.enc y1) 39) S rfl rfl rfl)).kept hw) rfl)) ?_;clear S;intro a S
       refine d_quiet 3 S hsel rfl rfl rfl (by kernel_rfl) (by kernel_rfl) rfl (fun _ hw => (rn_fld fa_39_5 (S.tm rfl))) ?_;clear S;intro a S
       refine d_quiet 4 S hsel rfl rfl rfl (by kernel_rfl) (by kernel_rfl) rfl (fun _ hw => (rn_ld Tryz.isAgg9 (off := 0) (o := 5) (S.tm rfl) ((S.blk_mem (i := 1) (cells := (GDeed.enc y1)) (b := b3) (T := 39) rfl (ne_fp (i := 0) (j := 1) (e := .own (.slice (some ⟨b7, 0, none⟩) 4 4) 9 1 ([y1.Site, r2, r3, (nth meet_kinds (W (y1.Kind - 1)))] : List ByteArray).length (([y1.Site, r2, r3, (nth meet_kinds (W (y1.Kind - 1)))] : List ByteArray).flatMap eStr)) (e' := .blk b3 (GDeed.enc y1) 39) S rfl rfl rfl)).kept hw) rfl)) ?_;clear S;intro a S
       refine d_quiet 6 S hsel rfl rfl rfl (by kernel_rfl) (by kernel_rfl) rfl (fun _ hw => (rn_fld fa_39_6 (S.tm rfl))) ?_;clear S;intro a S
       refine d_quiet 7 S hsel rfl rfl rfl (by kernel_rfl) (by kernel_rfl) rfl (fun _ hw => (rn_ld Tryz.isAgg9 (off := 0) (o := 6) (S.tm rfl) ((S.blk_mem (i := 1) (cells := (GDeed.enc y1)) (b := b3) (T := 39) rfl (ne_fp (i := 0) (j := 1) (e := .own (.slice (some ⟨b7, 0, none⟩) 4 4) 9 1 ([y1.Site, r2, r3, (nth meet_kinds (W (y1.Kind - 1)))] : List ByteArray).length (([y1.Site, r2, r3, (nth meet_kinds (W (y1.Kind - 1)))] : List ByteArray).flatMap eStr)) (e' := .blk b3 (GDeed.enc y1) 39) S rfl rfl rfl)).kept hw) rfl)) ?_;clear S;intro a S
       refine d_quiet 8 S hsel rfl rfl rfl (by kernel_rfl) (by kernel_rfl) rfl (fun _ hw => (Rm (S.tm rfl))) ?_;clear S;intro a S
       refine d_quiet 9 S hsel rfl rfl rfl (by kernel_rfl) (by kernel_rfl) rfl (fun _ hw => (rn_fld fa_39_7 (S.tm rfl))) ?_;clear S;intro a S
       refine d_quiet 10 S hsel rfl rfl rfl (by kernel_rfl) (by kernel_rfl) rfl (fun _ hw => (rn_ld Tryz.isAgg3 (off := 0) (o := 7) (S.tm rfl) ((S.blk_mem (i := 1) (cells := (GDeed.enc y1)) (b := b3) (T := 39) rfl (ne_fp (i := 0) (j := 1) (e := .own (.slice (some ⟨b7, 0, none⟩) 4 4) 9 1 ([y1.Site, r2, r3, (nth meet_kinds (W (y1.Kind - 1)))] : List ByteArray).length (([y1.Site, r2, r3, (nth meet_kinds (W (y1.Kind - 1)))] : List ByteArray).flatMap eStr)) (e' := .blk b3 (GDeed.enc y1) 39) S rfl rfl rfl)).kept hw) rfl)) ?_;clear S;intro a S
       refine d_loud1 5 (by kernel_rfl) rfl (l_enter S (fun _ => run_call (vs := [sV y1.Club]) ⟨(S.tm rfl), trivial⟩ Tryz.call26) (words_Dash_ok _ y1.Club _ rfl) rfl ?_);clear S;intro v14 a w23 hv10 hk19 hn10 S
       subst hv10
       refine Ld (d_next (Keep.none hk19) (d_loud1 11 (by kernel_rfl) rfl (l_enter S (fun _ => run_callV (cap := []) (S.tm rfl) (vs := [iV y1.Time]) ⟨(S.tm rfl), trivial⟩ Tryz.call24) (strconv_Itoa_ok _ y1.Time (hg_pow10.mono (S.le_arg nil_sub)) _ hr7) rfl ?_)));clear S;intro v15 a w24 hv11 hk20 hn11 S
       subst hv11
       refine Ld (d_next (Keep.none hk20) (d_loud1 12 (by kernel_rfl) rfl (l_buildSlice S Tryz.underlying55 Tryz.sizeOf9 Tryz.zeroValue9 rfl rfl (pv := [(0, sV y1.Who), (1, sV (words_Dash y1.Club)), (2, sV y1.Race), (3, sV r4)]) ⟨rfl, (S.tm rfl), rfl, (S.tm rfl), rfl, (S.tm rfl), rfl, (S.tm rfl), trivial⟩ (cs := [sV y1.Who, sV (words_Dash y1.Club), sV y1.Race, sV r4]) (by kernel_rfl) rfl ?_)));clear S;intro a w25 b9 hz8 hk21 S
       refine Ld (d_next (Keep.none hk21) (d_loud1 13 (by kernel_rfl) rfl ?_))
       refine l_appendT sl_55 enc_str S (S.tm rfl) (i := 1) rfl (S.tm rfl) (j := 0) rfl (ys := [y1.Who, (words_Dash y1.Club), y1.Race, r4]) rfl rfl rfl rfl (by have := room_lt hc2;omega) rfl ?_;clear S;intro v16 a w26 hk22 S
       refine Ld (d_next hk22 (d_rest [14] hsel (by kernel_rfl) rfl ?_))
       clear hsel
       refine s_lv S rfl (Ra (S.tm rfl)) rfl ?_;clear S;intro a S
       refine s_done ?_
       replace S := S.nk [.own v16 9 1 (([y1.Site, r2, r3, (nth meet_kinds (W (y1.Kind - 1)))] : List ByteArray) ++ [y1.Who, (words_Dash y1.Club), y1.Race, r4]).length ((([y1.Site, r2, r3, (nth meet_kinds (W (y1.Kind - 1)))] : List ByteArray) ++ [y1.Who, (words_Dash y1.Club), y1.Race, r4]).flatMap eStr), .ownF v2 5 x1.size (Lib.strCells x1), .blk b1 [selfP b1 x2, v2] 53] [(5, .pointer (some ⟨b1, 0, none⟩)), (6, .func (.func 24) #[] #[]), (9, v16), (15, Ab), (16, iV (Ac.length : Int)), (17, iV (i1 : Int))] [false, true, false, true, true] rfl (subR rfl)
       refine Tn ?_
       exact ⟨(([y1.Site, r2, r3, (nth meet_kinds (W (y1.Kind - 1)))] : List ByteArray) ++ [y1.Who, (words_Dash y1.Club), y1.Race, r4]), v16, h, S.nf [true, true, true] rfl (subR rfl)⟩
      ·replace h := iteF h hb2
       refine Fs (Fg (lv S (rn_eql (S.tm rfl) rfl) rfl ?_));clear S;intro a S
       refine lv S (Ra (S.tm rfl)) rfl ?_;clear S;intro a S
       refine Ld (Tn ?_)
       obtain ⟨j4, hj4, h⟩ := joinE h
       refine f_join (fun a w' => ∃ x5 : List ByteArray, ∃ v17 : Value, j4 x5 = some r ∧ Sx w [] nov [.own v17 9 1 x5.length (x5.flatMap eStr), .ownF v2 5 x1.size (Lib.strCells x1), .blk b1 [selfP b1 x2, v2] 53] [(5, .pointer (some ⟨b1, 0, none⟩)), (6, .func (.func 24) #[] #[]), (9, v17), (15, Ab), (16, iV (Ac.length : Int)), (17, iV (i1 : Int))] 101 a w') ?_ ?_
       ·refine f_cond (S.tm rfl) (fun hb3 => ?_) (fun hb3 => ?_)
        ·replace h := iteT h hb3
         refine Fg (lv S (Rm (S.tm rfl)) rfl ?_);clear S;intro a S
         refine lv S (rn_fld fa_39_4 (S.tm rfl)) rfl ?_;clear S;intro a S
         refine lv S (rn_load Tryz.isAgg9 (S.tm rfl) (S.cell (i := 1) rfl rfl)) rfl ?_;clear S;intro a S
         refine lv S (rn_fld fa_39_6 (S.tm rfl)) rfl ?_;clear S;intro a S
         refine lv S (rn_load Tryz.isAgg9 (S.tm rfl) (S.cell (i := 1) rfl rfl)) rfl ?_;clear S;intro a S
         refine l_buildSlice S Tryz.underlying55 Tryz.sizeOf9 Tryz.zeroValue9 rfl rfl (pv := [(0, sV y1.Who), (1, sV y1.Race)]) ⟨rfl, (S.tm rfl), rfl, (S.tm rfl), trivial⟩ (cs := [sV y1.Who, sV y1.Race]) (by kernel_rfl) rfl ?_;clear S;intro a w28 b10 hz9 hk23 S
         obtain ⟨hc3, h⟩ := chkE h
         refine l_appendT sl_55 enc_str S (S.tm rfl) (i := 1) rfl (S.tm rfl) (j := 0) rfl (ys := [y1.Who, y1.Race]) rfl rfl rfl rfl (by have := room_lt hc3;omega) rfl ?_;clear S;intro v18 a w29 hk24 S
         refine lv S (Ra (S.tm rfl)) rfl ?_;clear S;intro a S
         refine Ld ?_
         replace S := S.nk [.own v18 9 1 (([y1.Site, r2, r3, (nth meet_kinds (W (y1.Kind - 1)))] : List ByteArray) ++ [y1.Who, y1.Race]).length ((([y1.Site, r2, r3, (nth meet_kinds (W (y1.Kind - 1)))] : List ByteArray) ++ [y1.Who, y1.Race]).flatMap eStr), .ownF v2 5 x1.size (Lib.strCells x1), .blk b1 [selfP b1 x2, v2] 53] [(5, .pointer (some ⟨b1, 0, none⟩)), (6, .func (.func 24) #[] #[]), (9, v18), (15, Ab), (16, iV (Ac.length : Int)), (17, iV (i1 : Int))] [false, true, false, true, true] rfl (subR rfl)
         refine Tn ?_
         exact ⟨(([y1.Site, r2, r3, (nth meet_kinds (W (y1.Kind - 1)))] : List ByteArray) ++ [y1.Who, y1.Race]), v18, h, S.nf [true, true, true] rfl (subR rfl)⟩
        ·replace h := iteF h hb3
         refine Fs (Fg (lv S (rn_eql (S.tm rfl) rfl) rfl ?_));clear S;intro a S
         refine lv S (Ra (S.tm rfl)) rfl ?_;clear S;intro a S
         refine Ld ?_
         replace S := S.nk [.own (.slice (some ⟨b7, 0, none⟩) 4 4) 9 1 ([y1.Site, r2, r3, (nth meet_kinds (W (y1.Kind - 1)))] : List ByteArray).length (([y1.Site, r2, r3, (nth meet_kinds (W (y1.Kind - 1)))] : List ByteArray).flatMap eStr), .blk b3 (GDeed.enc y1) 39, .ownF v2 5 x1.size (Lib.strCells x1), .blk b1 [selfP b1 x2, v2] 53] [(5, .pointer (some ⟨b1, 0, none⟩)), (6, .func (.func 24) #[] #[]), (8, .pointer (some ⟨b3, 0, none⟩)), (9, (.slice (some ⟨b7, 0, none⟩) 4 4)), (15, Ab), (16, iV (Ac.length : Int)), (17, iV (i1 : Int)), (39, iV y1.Kind), (65, bV (decide (y1.Kind = 3)))] [true, true, true, true] rfl (subR rfl)
         refine Tn ?_
         obtain ⟨j5, hj5, h⟩ := joinE h
         refine f_join (fun a w' => ∃ x6 : List ByteArray, ∃ v19 : Value, j5 x6 = some r ∧ Sx w [] nov [.own v19 9 1 x6.length (x6.flatMap eStr), .ownF v2 5 x1.size (Lib.strCells x1), .blk b1 [selfP b1 x2, v2] 53] [(5, .pointer (some ⟨b1, 0, none⟩)), (6, .func (.func 24) #[] #[]), (9, v19), (15, Ab), (16, iV (Ac.length : Int)), (17, iV (i1 : Int))] 101 a w') ?_ ?_
         ·refine f_cond (S.tm rfl) (fun hb4 => ?_) (fun hb4 => ?_)
          ·replace h := iteT h hb4
           obtain ⟨r5, hr8, h⟩ := bindE h
           obtain ⟨r6, hr9, h⟩ := bindE h
           obtain ⟨hc4, h⟩ := chkE h
           refine d_region [] ((Value.ownBlock (.slice (some ⟨b7, 0, none⟩) 4 4)).toList) Tryz.mixed S rfl (by kernel_rfl) ?_;clear S;intro w35 hk29 hsel S
           refine d_quiet 0 S hsel rfl rfl rfl (by kernel_rfl) (by kernel_rfl) rfl (fun _ hw => (Rm (S.tm rfl))) ?_;clear S;intro a S
           refine d_quiet 1 S hsel rfl rfl rfl (by kernel_rfl) (by kernel_rfl) rfl (fun _ hw => (rn_fld fa_39_4 (S.tm rfl))) ?_;clear S;intro a S
           refine d_quiet 2 S hsel rfl rfl rfl (by kernel_rfl) (by kernel_rfl) rfl (fun _ hw => (rn_ld Tryz.isAgg9 (off := 0) (o := 4) (S.tm rfl) ((S.blk_mem (i := 1) (cells := (GDeed.enc y1)) (b := b3) (T := 39) rfl (ne_fp (i := 0) (j := 1) (e := .own (.slice (some ⟨b7, 0, none⟩) 4 4) 9 1 ([y1.Site, r2, r3, (nth meet_kinds (W (y1.Kind - 1)))] : List ByteArray).length (([y1.Site, r2, r3, (nth meet_kinds (W (y1.Kind - 1)))] : List ByteArray).flatMap eStr)) (e' := .blk b3 (GDeed.enc y1) 39) S rfl rfl rfl)).kept hw) rfl)) ?_;clear S;intro a S
           refine d_quiet 3 S hsel rfl rfl rfl (by kernel_rfl) (by kernel_rfl) rfl (fun _ hw => (rn_fld fa_39_6 (S.tm rfl))) ?_;clear S;intro a S
           refine d_quiet 4 S hsel rfl rfl rfl (by kernel_rfl) (by kernel_rfl) rfl (fun _ hw => (rn_ld Tryz.isAgg9 (off := 0) (o := 6) (S.tm rfl) ((S.blk_mem (i := 1) (cells := (GDeed.enc y1)) (b := b3) (T := 39) rfl (ne_fp (i := 0) (j := 1) (e := .own (.slice (some ⟨b7, 0, none⟩) 4 4) 9 1 ([y1.Site, r2, r3, (nth meet_kinds (W (y1.Kind - 1)))] : List ByteArray).length (([y1.Site, r2, r3, (nth meet_kinds (W (y1.Kind - 1)))] : List ByteArray).flatMap eStr)) (e' := .blk b3 (GDeed.enc y1) 39) S rfl rfl rfl)).kept hw) rfl)) ?_;clear S;intro a S
           refine d_quiet 5 S hsel rfl rfl rfl (by kernel_rfl) (by kernel_rfl) rfl (fun _ hw => (Rm (S.tm rfl))) ?_;clear S;intro a S
           refine d_quiet 6 S hsel rfl rfl rfl (by kernel_rfl) (by kernel_rfl) rfl (fun _ hw => (rn_fld fa_39_7 (S.tm rfl))) ?_;clear S;intro a S
           refine d_quiet 7 S hsel rfl rfl rfl (by kernel_rfl) (by kernel_rfl) rfl (fun _ hw => (rn_ld Tryz.isAgg3 (off := 0) (o := 7) (S.tm rfl) ((S.blk_mem (i := 1) (cells := (GDeed.enc y1)) (b := b3) (T := 39) rfl (ne_fp (i := 0) (j := 1) (e := .own (.slice (some ⟨b7, 0, none⟩) 4 4) 9 1 ([y1.Site, r2, r3, (nth meet_kinds (W (y1.Kind - 1)))] : List ByteArray).length (([y1.Site, r2, r3, (nth meet_kinds (W (y1.Kind - 1)))] : List ByteArray).flatMap eStr)) (e' := .blk b3 (GDeed.enc y1) 39) S rfl rfl rfl)).kept hw) rfl)) ?_;clear S;intro a S
           refine d_quiet 9 S hsel rfl rfl rfl (by kernel_rfl) (by kernel_rfl) rfl (fun _ hw => (Rm (S.tm rfl))) ?_;clear S;intro a S
           refine d_quiet 10 S hsel rfl rfl rfl (by kernel_rfl) (by kernel_rfl) rfl (fun _ hw => (rn_fld fa_39_8 (S.tm rfl))) ?_;clear S;intro a S
           refine d_quiet 11 S hsel rfl rfl rfl (by kernel_rfl) (by kernel_rfl) rfl (fun _ hw => (rn_ld Tryz.isAgg3 (off := 0) (o := 8) (S.tm rfl) ((S.blk_mem (i := 1) (cells := (GDeed.enc y1)) (b := b3) (T := 39) rfl (ne_fp (i := 0) (j := 1) (e := .own (.slice (some ⟨b7, 0, none⟩) 4 4) 9 1 ([y1.Site, r2, r3, (nth meet_kinds (W (y1.Kind - 1)))] : List ByteArray).length (([y1.Site, r2, r3, (nth meet_kinds (W (y1.Kind - 1)))] : List ByteArray).flatMap eStr)) (e' := .blk b3 (GDeed.enc y1) 39) S rfl rfl rfl)).kept hw) rfl)) ?_;clear S;intro a S
           refine d_loud1 8 (by kernel_rfl) rfl (l_enter S (fun _ => run_callV (cap := []) (S.tm rfl) (vs := [iV y1.Time]) ⟨(S.tm rfl), trivial⟩ Tryz.call24) (strconv_Itoa_ok _ y1.Time (hg_pow10.mono (S.le_arg nil_sub)) _ hr8) rfl ?_);clear S;intro v23 a w36 hv14 hk30 hn14 S
           subst hv14
           refine Ld (d_next (Keep.none hk30) (d_loud1 12 (by kernel_rfl) rfl (l_enter S (fun _ => run_callV (cap := []) (S.tm rfl) (vs := [iV y1.Fault]) ⟨(S.tm rfl), trivial⟩ Tryz.call24) (strconv_Itoa_ok _ y1.Fault (hg_pow10.mono (S.le_arg nil_sub)) _ hr9) rfl ?_)));clear S;intro v24 a w37 hv15 hk31 hn15 S
           subst hv15
           refine Ld (d_next (Keep.none hk31) (d_loud1 13 (by kernel_rfl) rfl (l_buildSlice S Tryz.underlying55 Tryz.sizeOf9 Tryz.zeroValue9 rfl rfl (pv := [(0, sV y1.Who), (1, sV y1.Race), (2, sV r5), (3, sV r6)]) ⟨rfl, (S.tm rfl), rfl, (S.tm rfl), rfl, (S.tm rfl), rfl, (S.tm rfl), trivial⟩ (cs := [sV y1.Who, sV y1.Race, sV r5, sV r6]) (by kernel_rfl) rfl ?_)));clear S;intro a w38 b12 hz11 hk32 S
           refine Ld (d_next (Keep.none hk32) (d_loud1 14 (by kernel_rfl) rfl ?_))
           refine l_appendT sl_55 enc_str S (S.tm rfl) (i := 1) rfl (S.tm rfl) (j := 0) rfl (ys := [y1.Who, y1.Race, r5, r6]) rfl rfl rfl rfl (by have := room_lt hc4;omega) rfl ?_;clear S;intro v25 a w39 hk33 S
           refine Ld (d_next hk33 (d_rest [15] hsel (by kernel_rfl) rfl ?_))
           clear hsel
           refine s_lv S rfl (Ra (S.tm rfl)) rfl ?_;clear S;intro a S
           refine s_done ?_
           replace S := S.nk [.own v25 9 1 (([y1.Site, r2, r3, (nth meet_kinds (W (y1.Kind - 1)))] : List ByteArray) ++ [y1.Who, y1.Race, r5, r6]).length ((([y1.Site, r2, r3, (nth meet_kinds (W (y1.Kind - 1)))] : List ByteArray) ++ [y1.Who, y1.Race, r5, r6]).flatMap eStr), .ownF v2 5 x1.size (Lib.strCells x1), .blk b1 [selfP b1 x2, v2] 53] [(5, .pointer (some ⟨b1, 0, none⟩)), (6, .func (.func 24) #[] #[]), (9, v25), (15, Ab), (16, iV (Ac.length : Int)), (17, iV (i1 : Int))] [false, true, false, true, true] rfl (subR rfl)
           refine Tn ?_
           exact ⟨(([y1.Site, r2, r3, (nth meet_kinds (W (y1.Kind - 1)))] : List ByteArray) ++ [y1.Who, y1.Race, r5, r6]), v25, h, S.nf [true, true, true] rfl (subR rfl)⟩
          ·replace h := iteF h hb4
           refine Fs (Fg (lv S (rn_eql (S.tm rfl) rfl) rfl ?_));clear S;intro a S
           refine lv S (Ra (S.tm rfl)) rfl ?_;clear S;intro a S
           refine Ld (Tn ?_)
           obtain ⟨j6, hj6, h⟩ := joinE h
           refine f_join (fun a w' => ∃ x7 : List ByteArray, ∃ v26 : Value, j6 x7 = some r ∧ Sx w [] nov [.own v26 9 1 x7.length (x7.flatMap eStr), .ownF v2 5 x1.size (Lib.strCells x1), .blk b1 [selfP b1 x2, v2] 53] [(5, .pointer (some ⟨b1, 0, none⟩)), (6, .func (.func 24) #[] #[]), (9, v26), (15, Ab), (16, iV (Ac.length : Int)), (17, iV (i1 : Int))] 101 a w') ?_ ?_
           ·refine f_cond (S.tm rfl) (fun hb5 => ?_) (fun hb5 => ?_)
            ·replace h := iteT h hb5
             obtain ⟨r7, hr10, h⟩ := bindE h
             obtain ⟨hc5, h⟩ := chkE h
             refine d_region [] ((Value.ownBlock (.slice (some ⟨b7, 0, none⟩) 4 4)).toList) Tryz.mixed S rfl (by kernel_rfl) ?_;clear S;intro w44 hk37 hsel S
             refine d_quiet 0 S hsel rfl rfl rfl (by kernel_rfl) (by kernel_rfl) rfl (fun _ hw => (Rm (S.tm rfl))) ?_;clear S;intro a S
             refine d_quiet 1 S hsel rfl rfl rfl (by kernel_rfl) (by kernel_rfl) rfl (fun _ hw => (rn_fld fa_39_9 (S.tm rfl))) ?_;clear S;intro a S
             refine d_quiet 2 S hsel rfl rfl rfl (by kernel_rfl) (by kernel_rfl) rfl (fun _ hw => (rn_ld Tryz.isAgg9 (off := 0) (o := 9) (S.tm rfl) ((S.blk_mem (i := 1) (cells := (GDeed.enc y1)) (b := b3) (T := 39) rfl (ne_fp (i := 0) (j := 1) (e := .own (.slice (some ⟨b7, 0, none⟩) 4 4) 9 1 ([y1.Site, r2, r3, (nth meet_kinds (W (y1.Kind - 1)))] : List ByteArray).length (([y1.Site, r2, r3, (nth meet_kinds (W (y1.Kind - 1)))] : List ByteArray).flatMap eStr)) (e' := .blk b3 (GDeed.enc y1) 39) S rfl rfl rfl)).kept hw) rfl)) ?_;clear S;intro a S
             refine d_quiet 3 S hsel rfl rfl rfl (by kernel_rfl) (by kernel_rfl) rfl (fun _ hw => (Rm (S.tm rfl))) ?_;clear S;intro a S
             refine d_quiet 4 S hsel rfl rfl rfl (by kernel_rfl) (by kernel_rfl) rfl (fun _ hw => (rn_fld fa_39_10 (S.tm rfl))) ?_;clear S;intro a S
             refine d_quiet 5 S hsel rfl rfl rfl (by kernel_rfl) (by kernel_rfl) rfl (fun _ hw => (rn_ld Tryz.isAgg3 (off := 0) (o := 10) (S.tm rfl) ((S.blk_mem (i := 1) (cells := (GDeed.enc y1)) (b := b3) (T := 39) rfl (ne_fp (i := 0) (j := 1) (e := .own (.slice (some ⟨b7, 0, none⟩) 4 4) 9 1 ([y1.Site, r2, r3, (nth meet_kinds (W (y1.Kind - 1)))] : List ByteArray).length (([y1.Site, r2, r3, (nth meet_kinds (W (y1.Kind - 1)))] : List ByteArray).flatMap eStr)) (e' := .blk b3 (GDeed.enc y1) 39) S rfl rfl rfl)).kept hw) rfl)) ?_;clear S;intro a S
             refine d_loud1 6 (by kernel_rfl) rfl (l_enter S (fun _ => run_callV (cap := []) (S.tm rfl) (vs := [iV y1.Other]) ⟨(S.tm rfl), trivial⟩ Tryz.call24) (strconv_Itoa_ok _ y1.Other (hg_pow10.mono (S.le_arg nil_sub)) _ hr10) rfl ?_);clear S;intro v29 a w45 hv17 hk38 hn17 S
             subst hv17
             refine Ld (d_next (Keep.none hk38) (d_loud1 7 (by kernel_rfl) rfl (l_buildSlice S Tryz.underlying55 Tryz.sizeOf9 Tryz.zeroValue9 rfl rfl (pv := [(0, sV y1.Of), (1, sV r7)]) ⟨rfl, (S.tm rfl), rfl, (S.tm rfl), trivial⟩ (cs := [sV y1.Of, sV r7]) (by kernel_rfl) rfl ?_)));clear S;intro a w46 b14 hz13 hk39 S
             refine Ld (d_next (Keep.none hk39) (d_loud1 8 (by kernel_rfl) rfl ?_))
             refine l_appendT sl_55 enc_str S (S.tm rfl) (i := 1) rfl (S.tm rfl) (j := 0) rfl (ys := [y1.Of, r7]) rfl rfl rfl rfl (by have := room_lt hc5;omega) rfl ?_;clear S;intro v30 a w47 hk40 S
             refine Ld (d_next hk40 (d_rest [9] hsel (by kernel_rfl) rfl ?_))
             clear hsel
             refine s_lv S rfl (Ra (S.tm rfl)) rfl ?_;clear S;intro a S
             refine s_done ?_
             replace S := S.nk [.own v30 9 1 (([y1.Site, r2, r3, (nth meet_kinds (W (y1.Kind - 1)))] : List ByteArray) ++ [y1.Of, r7]).length ((([y1.Site, r2, r3, (nth meet_kinds (W (y1.Kind - 1)))] : List ByteArray) ++ [y1.Of, r7]).flatMap eStr), .ownF v2 5 x1.size (Lib.strCells x1), .blk b1 [selfP b1 x2, v2] 53] [(5, .pointer (some ⟨b1, 0, none⟩)), (6, .func (.func 24) #[] #[]), (9, v30), (15, Ab), (16, iV (Ac.length : Int)), (17, iV (i1 : Int))] [false, true, false, true, true] rfl (subR rfl)
             refine Tn ?_
             exact ⟨(([y1.Site, r2, r3, (nth meet_kinds (W (y1.Kind - 1)))] : List ByteArray) ++ [y1.Of, r7]), v30, h, S.nf [true, true, true] rfl (subR rfl)⟩
            ·replace h := iteF h hb5
             refine wp_skip (Tn ?_)
             exact ⟨([y1.Site, r2, r3, (nth meet_kinds (W (y1.Kind - 1)))] : List ByteArray), (.slice (some ⟨b7, 0, none⟩) 4 4), h, S.nf [true, false, true, true] rfl (subR rfl)⟩
           clear S h;rintro a w40 ⟨x7, v26, h, S⟩;rw [hj6] at h;clear hj6 j6
           refine Tn ?_
           exact ⟨x7, v26, h, S.nf [true, true, true] rfl (subR rfl)⟩
         clear S h;rintro a w30 ⟨x6, v19, h, S⟩;rw [hj5] at h;clear hj5 j5
         refine Tn ?_
         exact ⟨x6, v19, h, S.nf [true, true, true] rfl (subR rfl)⟩
       clear S h;rintro a w27 ⟨x5, v17, h, S⟩;rw [hj4] at h;clear hj4 j4
       refine Tn ?_
       exact ⟨x5, v17, h, S.nf [true, true, true] rfl (subR rfl)⟩
     clear S h;rintro a w17 ⟨x4, v10, h, S⟩;rw [hj3] at h;clear hj3 j3
     refine blk_n (Tn ?_)
     exact ⟨x4, v10, h, S.nf [true, true, true] rfl (subR rfl)⟩
    clear S h;rintro a w16 ⟨x3, v9, h, S⟩;rw [hj2] at h;clear hj2 j2
    refine Tn (Fg (lv S (Rm (S.tm rfl)) rfl ?_));clear S;intro a S
    obtain ⟨r8, hr11, h⟩ := bindE h
    refine l_enter S (fun _ => run_call (vs := [v9, sV k__20]) ⟨(S.tm rfl), rfl, trivial⟩ Tryz.call28) (strings_Join_ok _ v9 x3 (own_slcT enc_str S (i := 0) rfl (ne_nil (e' := .own v9 9 1 x3.length (x3.flatMap eStr)))) k__20 _ hr11) rfl ?_;clear S;intro v31 a w48 hv18 hk41 hn18 S
    subst hv18
    obtain ⟨hc6, h⟩ := chkE h
    refine lv S (rn_sadd (m := r8) (n := k__0a) (S.tm rfl) rfl (by have := room_lt hc6;omega)) rfl ?_;clear S;intro a S
    obtain ⟨hc7, h⟩ := chkE h
    refine l_bwrite (b := b1) (dd := x2) (v := v2) (x := x1) (s := r8 ++ k__0a) (Lr := [.own v9 9 1 x3.length (x3.flatMap eStr)]) Tryz.lays166 Tryz.bx166 [2, 1] [0] S rfl rfl rfl rfl rfl (fun _ => run_call (vs := [.pointer (some ⟨b1, 0, none⟩), sV (r8 ++ k__0a)]) ⟨(S.tm rfl), (S.tm rfl), trivial⟩ Tryz.call27) rfl hc7 ?_;clear S;intro v32 a w49 S
    refine Ld (blk_n (Tn (Fg (lv S (rn_add (S.tm rfl) rfl) rfl ?_))));clear S;intro a S
    refine lv S (Rm (S.tm rfl)) rfl ?_;clear S;intro a S
    refine Ld (Tn ?_)
    exact ⟨ys1, ⟨i1 + 1, (x1 ++ (r8 ++ k__0a)), true, v32, ⟨_, (hd1).trans (List.append_cons _ _ _), by simp [hi1]⟩, h, S.pn [1, 0] [2] rfl rfl ⟨rfl, rfl, rfl, rfl, (congrArg (fun z => some (Value.int .i64 z)) (rng_next hd1 hi1 (slc_max Ao))), trivial⟩⟩, Nat.lt_succ_self _⟩
  clear S h;rintro a w4 ⟨x1, x2, v2, h, S⟩;rw [hj1] at h;clear hj1 j1
  refine Tn (Fs (Fs (Fg (l_blen (b := b1) (dd := x2) (v := v2) (x := x1) (Lr := []) Tryz.lays170 [1, 0] [] S rfl rfl rfl rfl rfl (fun _ => run_call (vs := [.pointer (some ⟨b1, 0, none⟩)]) ⟨(S.tm rfl), trivial⟩ Tryz.call29) rfl ?_))));clear S;intro a S
  refine lv S (rn_gtr (S.tm rfl) rfl) rfl ?_;clear S;intro a S
  refine Ld (Tn (f_cond (S.tm rfl) (fun hb6 => ?_) (fun hb6 => ?_)))
  ·replace h := iteT h hb6
   refine Fs (Fg (lv S (Ra rfl) rfl ?_));clear S;intro a S
   refine lv S (Ra rfl) rfl ?_;clear S;intro a S
   refine Ld (Tn (wp_ret (then_r ?_)))
   obtain rfl := Option.some.inj h
   exact f_ret2 S Tryz.results7 rfl rfl rfl
  ·replace h := iteF h hb6
   refine wp_skip (Tn (Fs (Fg (l_bstr (b := b1) (dd := x2) (v := v2) (x := x1) (Lr := []) Tryz.lays169 Tryz.bx169 [1, 0] [] S rfl rfl rfl rfl (fun _ => run_call (vs := [.pointer (some ⟨b1, 0, none⟩)]) ⟨(S.tm rfl), trivial⟩ Tryz.call30) rfl ?_))));clear S;intro a w50 S
   refine lv S (Ra (S.tm rfl)) rfl ?_;clear S;intro a S
   refine lv S (Ra rfl) rfl ?_;clear S;intro a S
   refine Ld (Tn (wp_ret ?_))
   obtain rfl := Option.some.inj h
   exact f_ret2 S Tryz.results7 rfl rfl rfl
theorem strings_Cut_ok (w : World) (s : ByteArray) (sep : ByteArray) (hg_maxlen : GlobI (view w []) 0) (r : ByteArray × ByteArray × Bool) (h : strings_Cut s sep = some r) : Calls Tryz.prog 63 [sV s, sV sep].toArray w (Ret w [] fun _ v _ => v = .tuple #[.string r.1, .string r.2.1, .bool r.2.2]) := by
  unfold strings_Cut at h
  obtain ⟨hc, h⟩ := chkE h
  simp only [Bool.and_eq_true, decide_eq_true_eq] at hc
  obtain rfl := Option.some.inj h
  exact cut_ret { Tryz.lays145 with } s sep w hg_maxlen hc
theorem strings_Split_ok (w : World) (s : ByteArray) (sep : ByteArray) (hg_maxlen : GlobI (view w []) 0) (r : (List ByteArray)) (h : strings_Split s sep = some r) : Calls Tryz.prog 64 [sV s, sV sep].toArray w (Ret w [] fun τ v _ => OwnV τ 9 1 v r.length (r.flatMap eStr)) := by
  unfold strings_Split at h
  obtain ⟨hc, h⟩ := chkE h
  simp only [Bool.and_eq_true, decide_eq_true_eq] at hc
  obtain rfl := Option.some.inj h
  exact split_ret { Tryz.lays146 with } (by kernel_rfl) s sep w hg_maxlen hc.1 hc.2
theorem words_Split_ok (w : World) (Bt : ByteArray) (hg_maxlen : GlobI (view w []) 0) (r : (List ByteArray) × Bool) (h : words_Split Bt = some r) :
    Calls Tryz.prog 39 [sV Bt].toArray w (Ret w [] fun τ v _ => ∃ u1 : Value, v = .tuple #[u1, bV r.2] ∧ OwnV τ 9 1 u1 r.1.length (r.1.flatMap eStr)) := by
 refine f_enter [] [] Tryz.func39 rfl Tryz.ntmps39 rfl (by simp) (by simp [fps]) (by simp [fps]) fun a S => ?_
 unfold words_Split at h
 replace S := S.nk [] [(0, sV Bt)] [] rfl ⟨rfl, trivial⟩
 refine Fs (Fg (lv S (Ra rfl) rfl ?_));clear S;intro a S
 refine lv S (Ra rfl) rfl ?_;clear S;intro a S
 refine Ld (Tn (Fs (Fg (lv S (Rm (S.tm rfl)) rfl ?_))));clear S;intro a S
 obtain ⟨r1, hr1, h⟩ := bindE h
 have hz1 := S.keep.size
 refine l_enter S (fun _ => run_call (vs := [sV Bt, sV k__20]) ⟨(S.tm rfl), rfl, trivial⟩ Tryz.call64) (strings_Split_ok _ Bt k__20 (hg_maxlen.mono (S.le_arg nil_sub)) _ hr1) rfl ?_;clear S;intro v1 a w1 hv1 hk1 hn1 S
 obtain ⟨φ1, hl1, hm1, S⟩ := S.see' hn1 hz1
 have hs1 := hv1.mono hm1
 refine lv S (Ra (S.tm rfl)) rfl ?_;clear S;intro a S
 refine Ld (Tn (Fs (Fs (Fg (lv S (Rm (S.tm rfl)) rfl ?_)))));clear S;intro a S
 refine lv S (rn_lenT sl_55 (S.tm rfl) (slc_len (ownV_slcT enc_str hs1))) rfl ?_;clear S;intro a S
 refine lv S (Rm rfl) rfl ?_;clear S;intro a S
 refine Ld (Tn ?_)
 replace S := S.nk [] [(4, v1), (9, v1), (10, iV (r1.length : Int)), (11, iV 0)] [] rfl (subR rfl)
 obtain ⟨j1, hj1, h⟩ := joinE h
 refine f_join (fun a w' => j1 = some r ∧ Sx w [] φ1 [] [(4, v1)] 19 a w') ?_ ?_
 ·refine wp_block (f_loop (fun (ys1 : List ByteArray) a w' => ∃ i1 : Nat, (∃ dn, r1 = dn ++ ys1 ∧ dn.length = i1) ∧ words_Split_l1 j1 ys1 i1 = some r ∧ Sx w [] φ1 [] [(4, v1), (9, v1), (10, iV (r1.length : Int)), (11, iV (i1 : Int))] 19 a w') List.length r1 ⟨0, ⟨[], rfl, rfl⟩, h, S.nf [] rfl (subR rfl)⟩ ?_)
  clear S h;rintro ys1 a w2 ⟨i1, ⟨dn, hd1, hi1⟩, h, S⟩
  cases ys1 with
  | nil =>
   rw [words_Split_l1.eq_1] at h
   refine Fs (Fg (lv S (rn_lss (S.tm rfl) (S.tm rfl)) rfl ?_));clear S;intro a S
   refine Ld ?_
   replace S := S.nk [] [(4, v1), (9, v1), (10, iV (r1.length : Int)), (11, iV (i1 : Int)), (12, bV (decide ((i1 : Int) < (r1.length : Int))))] [] rfl (subR rfl)
   refine Tn (Fs (wp_cond_false ((S.tm rfl).trans (congrArg Value.bool (rng_nil hd1 hi1))) (wp_exit (then_x (then_x (x_same ?_))))))
   refine Tn ?_
   exact ⟨h, S.nf [] rfl ⟨rfl, trivial⟩⟩
  | cons y1 ys1 =>
   rw [words_Split_l1.eq_2] at h
   refine Fs (Fg (lv S (rn_lss (S.tm rfl) (S.tm rfl)) rfl ?_));clear S;intro a S
   refine Ld ?_
   replace S := S.nk [] [(4, v1), (9, v1), (10, iV (r1.length : Int)), (11, iV (i1 : Int)), (12, bV (decide ((i1 : Int) < (r1.length : Int))))] [] rfl (subR rfl)
   refine Tn (Fs (wp_cond_true ((S.tm rfl).trans (congrArg Value.bool (rng_cons hd1 hi1))) (wp_skip (Tn (Fs (wp_block ?_))))))
   refine Fs (Fg ?_)
   obtain ⟨b1, o1, hm2, hr2⟩ := rn_indexT (a := a) (x := .tmp 9) (y := .tmp 11) (ty := 0) sl_55 (ownV_slcT enc_str hs1) (get_mid hd1 hi1) rfl (S.tm rfl) (S.tm rfl)
   refine lv S (hr2 _) rfl ?_;clear S;intro a S
   clear hr2
   refine lv S (rn_ld Tryz.isAgg9 (off := o1) (o := 0) (S.tm rfl) (hm2.at S.emb) rfl) rfl ?_;clear S;intro a S
   refine lv S (Ra (S.tm rfl)) rfl ?_;clear S;intro a S
   refine Ld (Tn (Fs (Fg (lv S (Rm (S.tm rfl)) rfl ?_))));clear S;intro a S
   refine lv S (rn_seql (S.tm rfl) rfl) rfl ?_;clear S;intro a S
   refine Ld (Tn (f_cond (S.tm rfl) (fun hb1 => ?_) (fun hb1 => ?_)))
   ·replace h := iteT h hb1
    refine Fs (Fg (lv S (Ra rfl) rfl ?_));clear S;intro a S
    refine lv S (Ra rfl) rfl ?_;clear S;intro a S
    refine Ld (Tn (wp_ret (blk_r (then_r (then_r (blk_r ?_))))))
    refine then_r (then_r ?_)
    obtain rfl := Option.some.inj h
    exact f_ret2 S Tryz.results39 rfl rfl ⟨_, rfl, (ownV_nil _ _ _)⟩
   ·replace h := iteF h hb1
    refine wp_skip (blk_n (Tn (Fg (lv S (rn_add (S.tm rfl) rfl) rfl ?_))));clear S;intro a S
    refine lv S (Rm (S.tm rfl)) rfl ?_;clear S;intro a S
    refine Ld (Tn ?_)
    exact ⟨ys1, ⟨i1 + 1, ⟨_, (hd1).trans (List.append_cons _ _ _), by simp [hi1]⟩, h, S.nf [] rfl ⟨rfl, rfl, rfl, (congrArg (fun z => some (Value.int .i64 z)) (rng_next hd1 hi1 (slc_max (ownV_slcT enc_str hs1)))), trivial⟩⟩, Nat.lt_succ_self _⟩
 clear S h;rintro a w3 ⟨h, S⟩;rw [hj1] at h;clear hj1 j1
 refine Tn (Fs (Fg (lv S (Rm (S.tm rfl)) rfl ?_)));clear S;intro a S
 refine lv S (Ra (S.tm rfl)) rfl ?_;clear S;intro a S
 refine lv S (Ra rfl) rfl ?_;clear S;intro a S
 refine Ld (Tn (wp_ret ?_))
 obtain rfl := Option.some.inj h
 exact f_ret2 S Tryz.results39 rfl rfl ⟨_, rfl, ((hs1).mono S.le_newer)⟩
theorem strings_CutPrefix_ok (w : World) (s : ByteArray) (p : ByteArray) (r : ByteArray × Bool) (h : strings_CutPrefix s p = r) : Calls Tryz.prog 85 [sV s, sV p].toArray w (Ret w [] fun _ v _ => v = .tuple #[.string r.1, .bool r.2]) := by
  subst h
  exact ret_of_same (Any.strings_CutPrefix Tryz.lays103 s p w)
theorem strconv_Atoi_ok (w : World) (s : ByteArray) (r : Int) (h : strconv_Atoi s = some r) : Calls Tryz.prog 87 [sV s].toArray w (Ret w [] fun _ v _ => v = .tuple #[.int .i64 r, .nilIface]) := by
  unfold strconv_Atoi at h
  obtain ⟨hc, h⟩ := chkE h
  simp only [Bool.and_eq_true, decide_eq_true_eq] at hc
  exact ret_of_bytes (Any.strconv_Atoi Tryz.lays172 s r hc h w)
set_option maxRecDepth 20000 in
theorem words_Number_ok (w : World) (Ad : ByteArray) (Bb : Int) (r : Int × Bool) (h : words_Number Ad Bb = some r) :
    Calls Tryz.prog 65 [sV Ad, iV Bb].toArray w (Ret w [] fun _ v _ => v = .tuple #[iV r.1, bV r.2]) := by
 refine f_enter [] [] Tryz.func65 rfl Tryz.ntmps65 rfl (by simp) (by simp [fps]) (by simp [fps]) fun a S => ?_
 unfold words_Number at h
 replace S := S.nk [] [(0, sV Ad), (1, iV Bb)] [] rfl (subR rfl)
 refine Fs (Fg (lv S (Ra rfl) rfl ?_));clear S;intro a S
 refine lv S (Ra rfl) rfl ?_;clear S;intro a S
 refine Ld (Tn (Fs (Fg (lv S (Rm (S.tm rfl)) rfl ?_))));clear S;intro a S
 refine l_enter S (fun _ => run_call (vs := [sV Ad, sV k__2d]) ⟨(S.tm rfl), rfl, trivial⟩ Tryz.call85) (strings_CutPrefix_ok _ Ad k__2d _ rfl) rfl ?_;clear S;intro v1 a w1 hv1 hk1 hn1 S
 subst hv1
 refine lv S (Rm (S.tm rfl)) rfl ?_;clear S;intro a S
 refine lv S (rn_extract (S.tm rfl) rfl) rfl ?_;clear S;intro a S
 refine lv S (rn_extract (S.tm rfl) rfl) rfl ?_;clear S;intro a S
 refine lv S (Ra (S.tm rfl)) rfl ?_;clear S;intro a S
 refine lv S (Ra (S.tm rfl)) rfl ?_;clear S;intro a S
 refine Ld (Tn (Fs (Fs (Fg (lv S (Rm (S.tm rfl)) rfl ?_)))));clear S;intro a S
 refine lv S (rn_seql (S.tm rfl) rfl) rfl ?_;clear S;intro a S
 refine lv S (Rm (S.tm rfl)) rfl ?_;clear S;intro a S
 refine f_cutm 5 (fun a w' => Keep [] w1 w' ∧ Sx w [] nov [] [(0, sV Ad), (6, sV ((strings_CutPrefix Ad k__2d).1)), (7, bV ((strings_CutPrefix Ad k__2d).2)), (22, bV ((decide (((strings_CutPrefix Ad k__2d).1) = k_empty)) || (decide (Bb < (((strings_CutPrefix Ad k__2d).1).size : Int)))))] 48 a w') ?_ ?_
 ·rcases Bool.eq_false_or_eq_true (decide (((strings_CutPrefix Ad k__2d).1) = k_empty)) with hb1 | hb1
  ·iterate 4 (refine l_skip S rfl rfl rfl (neq_t hb1) rfl ?_ rfl;clear S;intro a S)
   refine lv S (rn_or_t (decide (Bb < (((strings_CutPrefix Ad k__2d).1).size : Int))) hb1 (S.tm rfl) rfl) rfl ?_;clear S;intro a S
   refine Ld (Tn ?_)
   exact ⟨Keep.refl _ _, S.nf [] rfl (subR rfl)⟩
  ·refine l_want S rfl rfl rfl hb1 (lv S (Rm (S.tm rfl)) rfl ?_);clear S;intro a S
   refine l_want S rfl rfl rfl hb1 (lv S (rn_len_str Tryz.underlying9 (S.tm rfl)) rfl ?_);clear S;intro a S
   refine l_want S rfl rfl rfl hb1 (lv S (Rm (S.tm rfl)) rfl ?_);clear S;intro a S
   refine l_want S rfl rfl rfl hb1 (lv S (rn_gtr (S.tm rfl) (S.tm rfl)) rfl ?_);clear S;intro a S
   refine lv S (rn_or_f hb1 (S.tm rfl) (S.tm rfl)) rfl ?_;clear S;intro a S
   refine Ld (Tn ?_)
   exact ⟨Keep.refl _ _, S.nf [] rfl (subR rfl)⟩
 clear S;rintro a w2 ⟨hk2, S⟩
 refine lv S (Rm (S.tm rfl)) rfl ?_;clear S;intro a S
 obtain ⟨j1, hj1, h⟩ := joinE h
 refine f_cutm 4 (fun a w' => ∃ c1, j1 c1 = some r ∧ Keep [] w2 w' ∧ Sx w [] nov [] [(0, sV Ad), (6, sV ((strings_CutPrefix Ad k__2d).1)), (7, bV ((strings_CutPrefix Ad k__2d).2)), (27, bV c1)] 48 a w') ?_ ?_
 ·rcases Bool.eq_false_or_eq_true ((decide (((strings_CutPrefix Ad k__2d).1) = k_empty)) || (decide (Bb < (((strings_CutPrefix Ad k__2d).1).size : Int)))) with hb2 | hb2
  ·replace h := iteT h hb2
   iterate 3 (refine l_skip S rfl rfl rfl (neq_t hb2) rfl ?_ rfl;clear S;intro a S)
   refine lv S (rn_or_t true hb2 (S.tm rfl) rfl) rfl ?_;clear S;intro a S
   refine Ld (Tn ?_)
   exact ⟨_, h, Keep.refl _ _, S.nf [] rfl (subR rfl)⟩
  ·replace h := iteF h hb2
   refine l_want S rfl rfl rfl hb2 (lv S (Rm (S.tm rfl)) rfl ?_);clear S;intro a S
   refine l_want S rfl rfl rfl hb2 ?_
   obtain ⟨r1, hr1, h⟩ := bindE h
   refine l_enter S (fun _ => run_call (vs := [sV ((strings_CutPrefix Ad k__2d).1), sV k_0123456789]) ⟨(S.tm rfl), rfl, trivial⟩ Tryz.call86) (strings_Trim_ok _ ((strings_CutPrefix Ad k__2d).1) k_0123456789 _ hr1) rfl ?_;clear S;intro v2 a w4 hv2 hk3 hn2 S
   subst hv2
   refine l_want S rfl rfl rfl hb2 (lv S (rn_sneq (S.tm rfl) rfl) rfl ?_);clear S;intro a S
   refine lv S (rn_or_f hb2 (S.tm rfl) (S.tm rfl)) rfl ?_;clear S;intro a S
   refine Ld (Tn ?_)
   exact ⟨_, h, hk3, S.nf [] rfl (subR rfl)⟩
 clear S h;rintro a w3 ⟨c1, h, hk4, S⟩;rw [hj1] at h;clear hj1 j1
 refine lv S (Rm (S.tm rfl)) rfl ?_;clear S;intro a S
 obtain ⟨j2, hj2, h⟩ := joinE h
 refine f_cutm 11 (fun a w' => ∃ c2, j2 c2 = some r ∧ Keep [] w3 w' ∧ Sx w [] nov [] [(0, sV Ad), (39, bV c2)] 48 a w') ?_ ?_
 ·rcases Bool.eq_false_or_eq_true c1 with hb3 | hb3
  ·replace h := iteT h hb3
   iterate 4 (refine l_skip S rfl rfl rfl (neq_t hb3) rfl ?_ rfl;clear S;intro a S)
   iterate 5 (refine l_skipU S rfl rfl rfl rfl ?_;clear S;intro a S)
   refine l_skip S rfl rfl rfl (neq_t hb3) rfl ?_ rfl;clear S;intro a S
   refine lv S (rn_or_t true hb3 (S.tm rfl) rfl) rfl ?_;clear S;intro a S
   refine Ld (Tn ?_)
   exact ⟨_, h, Keep.refl _ _, S.nf [] rfl (subR rfl)⟩
  ·replace h := iteF h hb3
   refine l_want S rfl rfl rfl hb3 (lv S (Rm (S.tm rfl)) rfl ?_);clear S;intro a S
   refine l_want S rfl rfl rfl hb3 ?_
   obtain ⟨hc1, h⟩ := chkE h
   refine lv S (rn_sindexT Tryz.underlying9 (S.tm rfl) rfl hc1) rfl ?_;clear S;intro a S
   refine l_want S rfl rfl rfl hb3 (lv S (rn_eql (S.tm rfl) rfl) rfl ?_);clear S;intro a S
   refine l_want S rfl rfl rfl hb3 (lv S (Rm (S.tm rfl)) rfl ?_);clear S;intro a S
   refine f_cutm 6 (fun a w' => Keep [] w3 w' ∧ Sx w [] nov [] [(0, sV Ad), (28, bV c1), (38, bV ((decide ((sbyte ((strings_CutPrefix Ad k__2d).1) 0) = 48)) && ((!decide (((strings_CutPrefix Ad k__2d).1) = k_0)) || ((strings_CutPrefix Ad k__2d).2))))] 48 a w') ?_ ?_
   ·rcases Bool.eq_false_or_eq_true (decide ((sbyte ((strings_CutPrefix Ad k__2d).1) 0) = 48)) with hb4 | hb4
    ·refine l_want S rfl rfl rfl hb4 (lv S (Rm (S.tm rfl)) rfl ?_);clear S;intro a S
     refine l_want S rfl rfl rfl hb4 (lv S (rn_sneq (S.tm rfl) rfl) rfl ?_);clear S;intro a S
     refine l_want S rfl rfl rfl hb4 (lv S (Rm (S.tm rfl)) rfl ?_);clear S;intro a S
     refine f_cutm 2 (fun a w' => Keep [] w3 w' ∧ Sx w [] nov [] [(0, sV Ad), (28, bV c1), (32, bV (decide ((sbyte ((strings_CutPrefix Ad k__2d).1) 0) = 48))), (37, bV ((!decide (((strings_CutPrefix Ad k__2d).1) = k_0)) || ((strings_CutPrefix Ad k__2d).2)))] 48 a w') ?_ ?_
     ·rcases Bool.eq_false_or_eq_true (!decide (((strings_CutPrefix Ad k__2d).1) = k_0)) with hb5 | hb5
      ·refine l_skip S rfl rfl rfl (neq_t hb5) rfl ?_ rfl;clear S;intro a S
       refine l_want S rfl rfl rfl hb4 (lv S (rn_or_t ((strings_CutPrefix Ad k__2d).2) hb5 (S.tm rfl) rfl) rfl ?_);clear S;intro a S
       refine Ld (Tn ?_)
       exact ⟨Keep.refl _ _, S.nf [] rfl (subR rfl)⟩
      ·refine l_want S rfl rfl rfl hb5 (lv S (Rm (S.tm rfl)) rfl ?_);clear S;intro a S
       refine l_want S rfl rfl rfl hb4 (lv S (rn_or_f hb5 (S.tm rfl) (S.tm rfl)) rfl ?_);clear S;intro a S
       refine Ld (Tn ?_)
       exact ⟨Keep.refl _ _, S.nf [] rfl (subR rfl)⟩
     clear S;rintro a w7 ⟨hk5, S⟩
     refine l_want S rfl rfl rfl hb3 (lv S (rn_and_t hb4 (S.tm rfl) (S.tm rfl)) rfl ?_);clear S;intro a S
     refine Ld (Tn ?_)
     exact ⟨hk5, S.nf [] rfl (subR rfl)⟩
    ·iterate 3 (refine l_skip S rfl rfl rfl (neq_f hb4) rfl ?_ rfl;clear S;intro a S)
     refine l_skipU S rfl rfl rfl rfl ?_;clear S;intro a S
     refine l_skip S rfl rfl rfl (neq_f hb4) rfl ?_ rfl;clear S;intro a S
     refine l_want S rfl rfl rfl hb3 (lv S (rn_and_f ((!decide (((strings_CutPrefix Ad k__2d).1) = k_0)) || ((strings_CutPrefix Ad k__2d).2)) hb4 (S.tm rfl) rfl) rfl ?_);clear S;intro a S
     refine Ld (Tn ?_)
     exact ⟨Keep.refl _ _, S.nf [] rfl (subR rfl)⟩
   clear S;rintro a w6 ⟨hk6, S⟩
   refine lv S (rn_or_f hb3 (S.tm rfl) (S.tm rfl)) rfl ?_;clear S;intro a S
   refine Ld (Tn ?_)
   exact ⟨_, h, hk6, S.nf [] rfl (subR rfl)⟩
 clear S h;rintro a w5 ⟨c2, h, hk7, S⟩;rw [hj2] at h;clear hj2 j2
 refine Ld (Tn (f_cond (S.tm rfl) (fun hb6 => ?_) (fun hb6 => ?_)))
 ·replace h := iteT h hb6
  refine Fs (Fg (lv S (Ra rfl) rfl ?_));clear S;intro a S
  refine lv S (Ra rfl) rfl ?_;clear S;intro a S
  refine Ld (Tn (wp_ret (then_r ?_)))
  obtain rfl := Option.some.inj h
  exact f_ret2 S Tryz.results65 rfl rfl rfl
 ·replace h := iteF h hb6
  refine wp_skip (Tn (Fs (Fg (lv S (Rm (S.tm rfl)) rfl ?_))));clear S;intro a S
  obtain ⟨r2, hr2, h⟩ := bindE h
  refine l_enter S (fun _ => run_call (vs := [sV Ad]) ⟨(S.tm rfl), trivial⟩ Tryz.call87) (strconv_Atoi_ok _ Ad _ hr2) rfl ?_;clear S;intro v3 a w8 hv3 hk8 hn3 S
  subst hv3
  refine lv S (Rm (S.tm rfl)) rfl ?_;clear S;intro a S
  refine lv S (rn_extract (S.tm rfl) rfl) rfl ?_;clear S;intro a S
  refine lv S (rn_extract (S.tm rfl) rfl) rfl ?_;clear S;intro a S
  refine lv S (Ra (S.tm rfl)) rfl ?_;clear S;intro a S
  refine lv S (Ra (S.tm rfl)) rfl ?_;clear S;intro a S
  refine Ld (Tn (Fs (d_region [] ([]) Tryz.mixed S rfl (by kernel_rfl) ?_)));clear S;intro w9 hk9 hsel S
  refine d_rest [0, 1, 2, 3, 4] hsel (by kernel_rfl) rfl ?_
  clear hsel
  refine s_lv S rfl (Rm (S.tm rfl)) rfl ?_;clear S;intro a S
  refine s_lv S rfl (Rm (S.tm rfl)) rfl ?_;clear S;intro a S
  refine s_lv S rfl (rn_ifnileql Tryz.underlying59 (S.tm rfl)) rfl ?_;clear S;intro a S
  refine s_lv S rfl (Ra (S.tm rfl)) rfl ?_;clear S;intro a S
  refine s_lv S rfl (Ra (S.tm rfl)) rfl ?_;clear S;intro a S
  refine s_done ?_
  replace S := S.nk [] [(4, iV r2), (5, bV true)] [] rfl (subR rfl)
  refine Tn (wp_ret ?_)
  obtain rfl := Option.some.inj h
  exact f_ret2 S Tryz.results65 rfl rfl rfl
theorem words_Numbers_ok (w : World) (Ab : Value) (Ac : List ByteArray) (Ao : Slc (view w []) 1 Ab (Ac.map eStr)) (Bb : Int) (r : (List Int) × Bool) (h : words_Numbers Ac Bb = some r) :
    Calls Tryz.prog 40 [Ab, iV Bb].toArray w (Ret w [] fun τ v _ => ∃ u1 : Value, v = .tuple #[u1, bV r.2] ∧ OwnV τ 3 1 u1 r.1.length (r.1.flatMap eInt)) := by
 refine f_enter [] [] Tryz.func40 rfl Tryz.ntmps40 rfl (by simp) (by simp [fps]) (by simp [fps]) fun a S => ?_
 unfold words_Numbers at h
 replace S := S.nk [] [(0, Ab), (1, iV Bb)] [] rfl (subR rfl)
 refine Fs (Fg (lv S (Ra rfl) rfl ?_));clear S;intro a S
 refine lv S (Ra rfl) rfl ?_;clear S;intro a S
 refine Ld (Tn (Fs (Fg (lv S (Ra rfl) rfl ?_))));clear S;intro a S
 replace S := S.nil 3 1
 refine Ld (Tn (Fs (Fs (Fg (lv S (Rm (S.tm rfl)) rfl ?_)))));clear S;intro a S
 refine lv S (rn_lenT sl_55 (S.tm rfl) (slc_len Ao)) rfl ?_;clear S;intro a S
 refine lv S (Rm rfl) rfl ?_;clear S;intro a S
 refine Ld (Tn ?_)
 replace S := S.nk [.own (.slice none 0 0) 3 1 ([] : List Int).length (([] : List Int).flatMap eInt)] [(1, iV Bb), (6, (.slice none 0 0)), (11, Ab), (12, iV (Ac.length : Int)), (13, iV 0)] [true] rfl (subR rfl)
 obtain ⟨j1, hj1, h⟩ := joinE h
 refine f_join (fun a w' => ∃ x1 : List Int, ∃ v1 : Value, j1 x1 = some r ∧ Sx w [] nov [.own v1 3 1 x1.length (x1.flatMap eInt)] [(6, v1)] 31 a w') ?_ ?_
 ·refine wp_block (f_loop (fun (ys1 : List ByteArray) a w' => ∃ i1 : Nat, ∃ x1 : List Int, ∃ v1 : Value, (∃ dn, Ac = dn ++ ys1 ∧ dn.length = i1) ∧ words_Numbers_l1 Bb j1 ys1 i1 x1 = some r ∧ Sx w [] nov [.own v1 3 1 x1.length (x1.flatMap eInt)] [(1, iV Bb), (6, v1), (11, Ab), (12, iV (Ac.length : Int)), (13, iV (i1 : Int))] 31 a w') List.length Ac ⟨0, ([] : List Int), (.slice none 0 0), ⟨[], rfl, rfl⟩, h, S.nf [true] rfl (subR rfl)⟩ ?_)
  clear S h;rintro ys1 a w1 ⟨i1, x1, v1, ⟨dn, hd1, hi1⟩, h, S⟩
  cases ys1 with
  | nil =>
   rw [words_Numbers_l1.eq_1] at h
   refine Fs (Fg (lv S (rn_lss (S.tm rfl) (S.tm rfl)) rfl ?_));clear S;intro a S
   refine Ld ?_
   replace S := S.nk [.own v1 3 1 x1.length (x1.flatMap eInt)] [(1, iV Bb), (6, v1), (11, Ab), (12, iV (Ac.length : Int)), (13, iV (i1 : Int)), (14, bV (decide ((i1 : Int) < (Ac.length : Int))))] [true] rfl (subR rfl)
   refine Tn (Fs (wp_cond_false ((S.tm rfl).trans (congrArg Value.bool (rng_nil hd1 hi1))) (wp_exit (then_x (then_x (x_same ?_))))))
   refine Tn ?_
   exact ⟨x1, v1, h, S.nf [true] rfl ⟨rfl, trivial⟩⟩
  | cons y1 ys1 =>
   rw [words_Numbers_l1.eq_2] at h
   refine Fs (Fg (lv S (rn_lss (S.tm rfl) (S.tm rfl)) rfl ?_));clear S;intro a S
   refine Ld ?_
   replace S := S.nk [.own v1 3 1 x1.length (x1.flatMap eInt)] [(1, iV Bb), (6, v1), (11, Ab), (12, iV (Ac.length : Int)), (13, iV (i1 : Int)), (14, bV (decide ((i1 : Int) < (Ac.length : Int))))] [true] rfl (subR rfl)
   refine Tn (Fs (wp_cond_true ((S.tm rfl).trans (congrArg Value.bool (rng_cons hd1 hi1))) (wp_skip (Tn (Fs (wp_block ?_))))))
   refine Fs (Fg ?_)
   obtain ⟨b1, o1, hm1, hr1⟩ := rn_indexT (a := a) (x := .tmp 11) (y := .tmp 13) (ty := 0) sl_55 Ao (get_mid hd1 hi1) rfl (S.tm rfl) (S.tm rfl)
   refine lv S (hr1 _) rfl ?_;clear S;intro a S
   clear hr1
   refine lv S (rn_ld Tryz.isAgg9 (off := o1) (o := 0) (S.tm rfl) (hm1.at S.emb0) rfl) rfl ?_;clear S;intro a S
   refine lv S (Ra (S.tm rfl)) rfl ?_;clear S;intro a S
   refine Ld (Tn (Fs (Fg (lv S (Rm (S.tm rfl)) rfl ?_))));clear S;intro a S
   refine lv S (Rm (S.tm rfl)) rfl ?_;clear S;intro a S
   obtain ⟨r1, hr2, h⟩ := bindE h
   refine l_enter S (fun _ => run_call (vs := [sV y1, iV Bb]) ⟨(S.tm rfl), (S.tm rfl), trivial⟩ Tryz.call65) (words_Number_ok _ y1 Bb _ hr2) rfl ?_;clear S;intro v2 a w3 hv1 hk1 hn1 S
   subst hv1
   refine lv S (Rm (S.tm rfl)) rfl ?_;clear S;intro a S
   refine lv S (rn_extract (S.tm rfl) rfl) rfl ?_;clear S;intro a S
   refine lv S (rn_extract (S.tm rfl) rfl) rfl ?_;clear S;intro a S
   refine lv S (Ra (S.tm rfl)) rfl ?_;clear S;intro a S
   refine lv S (Ra (S.tm rfl)) rfl ?_;clear S;intro a S
   refine Ld ?_
   replace S := S.nk [.own v1 3 1 x1.length (x1.flatMap eInt)] [(1, iV Bb), (6, v1), (9, iV r1.1), (10, bV r1.2), (11, Ab), (12, iV (Ac.length : Int)), (13, iV (i1 : Int))] [true] rfl (subR rfl)
   refine Tn (Fs (Fs (Fg (lv S (Rm (S.tm rfl)) rfl ?_))));clear S;intro a S
   refine lv S (rn_not (S.tm rfl)) rfl ?_;clear S;intro a S
   refine Ld (Tn (f_cond (S.tm rfl) (fun hb1 => ?_) (fun hb1 => ?_)))
   ·replace h := iteT h hb1
    refine Fs (Fg (lv S (Ra rfl) rfl ?_));clear S;intro a S
    refine lv S (Ra rfl) rfl ?_;clear S;intro a S
    refine Ld (Tn (wp_ret (then_r (blk_r (then_r (then_r ?_))))))
    refine blk_r (then_r (then_r ?_))
    obtain rfl := Option.some.inj h
    exact f_ret2 S Tryz.results40 rfl rfl ⟨_, rfl, (ownV_nil _ _ _)⟩
   ·replace h := iteF h hb1
    refine wp_skip (Tn (Fg (lv S (Rm (S.tm rfl)) rfl ?_)));clear S;intro a S
    refine lv S (Rm (S.tm rfl)) rfl ?_;clear S;intro a S
    refine l_buildSlice S Tryz.underlying22 Tryz.sizeOf3 Tryz.zeroValue3 rfl rfl (pv := [(0, iV r1.1)]) ⟨rfl, (S.tm rfl), trivial⟩ (cs := [iV r1.1]) (by kernel_rfl) rfl ?_;clear S;intro a w4 b2 hz1 hk2 S
    obtain ⟨hc1, h⟩ := chkE h
    refine l_appendT sl_22 enc_int S (S.tm rfl) (i := 1) rfl (S.tm rfl) (j := 0) rfl (ys := [r1.1]) rfl rfl rfl rfl (by have := room_lt hc1;omega) rfl ?_;clear S;intro v3 a w5 hk3 S
    refine lv S (Ra (S.tm rfl)) rfl ?_;clear S;intro a S
    refine Ld (blk_n (Tn (Fg (lv S (rn_add (S.tm rfl) rfl) rfl ?_))));clear S;intro a S
    refine lv S (Rm (S.tm rfl)) rfl ?_;clear S;intro a S
    refine Ld (Tn ?_)
    exact ⟨ys1, ⟨i1 + 1, (x1 ++ [r1.1]), v3, ⟨_, (hd1).trans (List.append_cons _ _ _), by simp [hi1]⟩, h, S.nf [false, true] rfl ⟨rfl, rfl, rfl, rfl, (congrArg (fun z => some (Value.int .i64 z)) (rng_next hd1 hi1 (slc_max Ao))), trivial⟩⟩, Nat.lt_succ_self _⟩
 clear S h;rintro a w2 ⟨x1, v1, h, S⟩;rw [hj1] at h;clear hj1 j1
 refine Tn (Fs (Fg (lv S (Rm (S.tm rfl)) rfl ?_)));clear S;intro a S
 refine lv S (Ra (S.tm rfl)) rfl ?_;clear S;intro a S
 refine lv S (Ra rfl) rfl ?_;clear S;intro a S
 refine Ld (Tn (wp_ret ?_))
 obtain rfl := Option.some.inj h
 exact f_ret2 S Tryz.results40 rfl rfl ⟨_, rfl, (own_retT S (i := 0) rfl rfl)⟩
theorem slices_Index_string_ok (w : World) (Am : Value) (Ad : List ByteArray) (By : Slc (view w []) 1 Am (Ad.map eStr)) (Cv : ByteArray) (r : Int) (h : slices_Index_string Ad Cv = r) :
    Calls Tryz.prog 41 [Am, sV Cv].toArray w (Ret w [] fun _ v _ => v = iV r) := by
 refine f_enter [] [] Tryz.func41 rfl Tryz.ntmps41 rfl (by simp) (by simp [fps]) (by simp [fps]) fun a S => ?_
 unfold slices_Index_string at h
 replace S := S.nk [] [(0, Am), (1, sV Cv)] [] rfl (subR rfl)
 refine Fs (Fg (lv S (Ra rfl) rfl ?_));clear S;intro a S
 refine Ld (Tn (Fs (Fs (Fg (lv S (Rm (S.tm rfl)) rfl ?_)))));clear S;intro a S
 refine lv S (rn_lenT sl_55 (S.tm rfl) (slc_len By)) rfl ?_;clear S;intro a S
 refine lv S (Rm rfl) rfl ?_;clear S;intro a S
 refine Ld (Tn ?_)
 replace S := S.nk [] [(0, Am), (1, sV Cv), (7, iV (Ad.length : Int)), (8, iV 0)] [] rfl (subR rfl)
 obtain ⟨j1, hj1, h⟩ := joinE h
 refine f_join (fun a w' => j1 = r ∧ Sx w [] nov [] [] 19 a w') ?_ ?_
 ·refine wp_block (f_loop (fun (ys1 : List ByteArray) a w' => ∃ i1 : Nat, (∃ dn, Ad = dn ++ ys1 ∧ dn.length = i1) ∧ slices_Index_string_l1 Cv j1 ys1 i1 = r ∧ Sx w [] nov [] [(0, Am), (1, sV Cv), (7, iV (Ad.length : Int)), (8, iV (i1 : Int))] 19 a w') List.length Ad ⟨0, ⟨[], rfl, rfl⟩, h, S.nf [] rfl (subR rfl)⟩ ?_)
  clear S h;rintro ys1 a w1 ⟨i1, ⟨dn, hd1, hi1⟩, h, S⟩
  cases ys1 with
  | nil =>
   rw [slices_Index_string_l1.eq_1] at h
   refine Fs (Fg (lv S (rn_lss (S.tm rfl) (S.tm rfl)) rfl ?_));clear S;intro a S
   refine Ld ?_
   replace S := S.nk [] [(0, Am), (1, sV Cv), (7, iV (Ad.length : Int)), (8, iV (i1 : Int)), (9, bV (decide ((i1 : Int) < (Ad.length : Int))))] [] rfl (subR rfl)
   refine Tn (Fs (wp_cond_false ((S.tm rfl).trans (congrArg Value.bool (rng_nil hd1 hi1))) (wp_exit (then_x (then_x (x_same ?_))))))
   refine Tn ?_
   exact ⟨h, S.nf [] rfl trivial⟩
  | cons y1 ys1 =>
   rw [slices_Index_string_l1.eq_2] at h
   refine Fs (Fg (lv S (rn_lss (S.tm rfl) (S.tm rfl)) rfl ?_));clear S;intro a S
   refine Ld ?_
   replace S := S.nk [] [(0, Am), (1, sV Cv), (7, iV (Ad.length : Int)), (8, iV (i1 : Int)), (9, bV (decide ((i1 : Int) < (Ad.length : Int))))] [] rfl (subR rfl)
   refine Tn (Fs (wp_cond_true ((S.tm rfl).trans (congrArg Value.bool (rng_cons hd1 hi1))) (wp_skip (Tn (Fs (wp_block ?_))))))
   refine Fs (Fg (lv S (Rm (S.tm rfl)) rfl ?_));clear S;intro a S
   refine lv S (Ra (S.tm rfl)) rfl ?_;clear S;intro a S
   refine Ld (Tn (Fs (Fg (lv S (Rm (S.tm rfl)) rfl ?_))));clear S;intro a S
   refine lv S (Rm (S.tm rfl)) rfl ?_;clear S;intro a S
   refine lv S (Rm (S.tm rfl)) rfl ?_;clear S;intro a S
   obtain ⟨b1, o1, hm1, hr1⟩ := rn_indexT (a := a) (x := .tmp 12) (y := .tmp 13) (ty := 0) sl_55 By (get_mid hd1 hi1) rfl (S.tm rfl) (S.tm rfl)
   refine lv S (hr1 _) rfl ?_;clear S;intro a S
   clear hr1
   refine lv S (rn_ld Tryz.isAgg9 (off := o1) (o := 0) (S.tm rfl) (hm1.at S.emb0) rfl) rfl ?_;clear S;intro a S
   refine lv S (rn_seql (S.tm rfl) (S.tm rfl)) rfl ?_;clear S;intro a S
   refine Ld (Tn (f_cond (S.tm rfl) (fun hb1 => ?_) (fun hb1 => ?_)))
   ·replace h := iteT h hb1
    refine Fs (Fg (lv S (Rm (S.tm rfl)) rfl ?_));clear S;intro a S
    refine lv S (Ra (S.tm rfl)) rfl ?_;clear S;intro a S
    refine Ld ?_
    replace S := S.nk [] [(4, iV (i1 : Int))] [] rfl ⟨rfl, trivial⟩
    refine Tn (wp_ret (blk_r (then_r (then_r (blk_r (then_r ?_))))))
    refine then_r ?_
    subst h
    exact f_ret S Tryz.results41 rfl rfl
   ·replace h := iteF h hb1
    refine wp_skip (blk_n (Tn (Fg (lv S (rn_add (S.tm rfl) rfl) rfl ?_))));clear S;intro a S
    refine lv S (Rm (S.tm rfl)) rfl ?_;clear S;intro a S
    refine Ld (Tn ?_)
    exact ⟨ys1, ⟨i1 + 1, ⟨_, (hd1).trans (List.append_cons _ _ _), by simp [hi1]⟩, h, S.nf [] rfl ⟨rfl, rfl, rfl, (congrArg (fun z => some (Value.int .i64 z)) (rng_next hd1 hi1 (slc_max By))), trivial⟩⟩, Nat.lt_succ_self _⟩
 clear S h;rintro a w2 ⟨h, S⟩;rw [hj1] at h;clear hj1 j1
 refine Tn (Fs (Fg (lv S (Ra rfl) rfl ?_)));clear S;intro a S
 refine Ld (Tn (wp_ret ?_))
 subst h
 exact f_ret S Tryz.results41 rfl rfl
theorem words_Undash_ok (w : World) (Ad : ByteArray) (r : ByteArray) (h : words_Undash Ad = r) :
    Calls Tryz.prog 66 [sV Ad].toArray w (Ret w [] fun _ v _ => v = sV r) := by
 refine f_enter [] [] Tryz.func66 rfl Tryz.ntmps66 rfl (by simp) (by simp [fps]) (by simp [fps]) fun a S => ?_
 unfold words_Undash at h
 replace S := S.nk [] [(0, sV Ad)] [] rfl ⟨rfl, trivial⟩
 refine Fs (Fg (lv S (Ra rfl) rfl ?_));clear S;intro a S
 refine Ld (Tn (Fs (Fs (Fg (lv S (Rm (S.tm rfl)) rfl ?_)))));clear S;intro a S
 refine lv S (rn_seql (S.tm rfl) rfl) rfl ?_;clear S;intro a S
 refine Ld (Tn (f_cond (S.tm rfl) (fun hb1 => ?_) (fun hb1 => ?_)))
 ·replace h := iteT h hb1
  refine Fs (Fg (lv S (Ra rfl) rfl ?_));clear S;intro a S
  refine Ld (Tn (wp_ret (then_r ?_)))
  subst h
  exact f_ret S Tryz.results66 rfl rfl
 ·replace h := iteF h hb1
  refine wp_skip (Tn (Fs (Fg (lv S (Rm (S.tm rfl)) rfl ?_))));clear S;intro a S
  refine lv S (Ra (S.tm rfl)) rfl ?_;clear S;intro a S
  refine Ld (Tn (wp_ret ?_))
  subst h
  exact f_ret S Tryz.results66 rfl rfl
theorem meet_readRest_ok (w : World) (Bk : Nat) (Bn : ByteArray) (Bu : Int) (Bv : Int) (Ax : Int) (Bx : ByteArray) (Bo : ByteArray) (Br : ByteArray) (Bp : Int) (Bi : Int) (Bz : ByteArray) (Bj : Int) (Dj : (LEnt.blk Bk [sV Bn, iV Bu, iV Bv, iV Ax, sV Bx, sV Bo, sV Br, iV Bp, iV Bi, sV Bz, iV Bj] 39).holds w) (Cy : Value) (Cb : List ByteArray) (Ce : Slc (view w [Bk]) 1 Cy (Cb.map eStr)) (r : Bool × ByteArray × ByteArray × ByteArray × Int × Int × ByteArray × Int) (h : meet_readRest Bn Bu Bv Ax Bx Bo Br Bp Bi Bz Bj Cb = some r) :
    Calls Tryz.prog 42 [.pointer (some ⟨Bk, 0, none⟩), Cy].toArray w (Ret w [Bk] fun _ v w' => (LEnt.blk Bk [sV Bn, iV Bu, iV Bv, iV Ax, sV r.2.1, sV r.2.2.1, sV r.2.2.2.1, iV r.2.2.2.2.1, iV r.2.2.2.2.2.1, sV r.2.2.2.2.2.2.1, iV r.2.2.2.2.2.2.2] 39).holds w' ∧ v = bV r.1) := by
 refine f_enter [Bk] [.blk Bk (GDeed.enc (GDeed.mk Bn Bu Bv Ax Bx Bo Br Bp Bi Bz Bj)) 39] Tryz.func42 rfl Tryz.ntmps42 rfl (fun e he => by simp only [List.mem_singleton] at he;subst he;exact Dj) (by simp [fps, LEnt.fp]) (by simp [fps, LEnt.fp]) fun a S => ?_
 unfold meet_readRest at h
 replace S := S.nk [.blk Bk (GDeed.enc (GDeed.mk Bn Bu Bv Ax Bx Bo Br Bp Bi Bz Bj)) 39] [(0, .pointer (some ⟨Bk, 0, none⟩)), (1, Cy)] [true] rfl (subR rfl)
 refine Fs (Fg (lv S (Ra rfl) rfl ?_));clear S;intro a S
 refine Ld (Tn (Fs (wp_block (Fs (Fg (lv S (Rm (S.tm rfl)) rfl ?_))))));clear S;intro a S
 refine lv S (rn_nilCheck (S.tm rfl)) rfl ?_;clear S;intro a S
 refine lv S (rn_fld fa_39_3 (S.tm rfl)) rfl ?_;clear S;intro a S
 refine lv S (rn_load Tryz.isAgg3 (S.tm rfl) (S.cell (i := 0) rfl rfl)) rfl ?_;clear S;intro a S
 refine lv S (rn_eql (S.tm rfl) rfl) rfl ?_;clear S;intro a S
 refine lv S (Rm (S.tm rfl)) rfl ?_;clear S;intro a S
 refine f_cutm 4 (fun a w' => Keep [] w w' ∧ Sx w [Bk] nov [.blk Bk (GDeed.enc (GDeed.mk Bn Bu Bv Ax Bx Bo Br Bp Bi Bz Bj)) 39] [(0, .pointer (some ⟨Bk, 0, none⟩)), (1, Cy), (21, bV ((decide (Ax = 1)) && (decide ((Cb.length : Int) = 4))))] 148 a w') ?_ ?_
 ·rcases Bool.eq_false_or_eq_true (decide (Ax = 1)) with hb1 | hb1
  ·refine l_want S rfl rfl rfl hb1 (lv S (Rm (S.tm rfl)) rfl ?_);clear S;intro a S
   refine l_want S rfl rfl rfl hb1 (lv S (rn_lenT sl_55 (S.tm rfl) (slc_len Ce)) rfl ?_);clear S;intro a S
   refine l_want S rfl rfl rfl hb1 (lv S (rn_eql (S.tm rfl) rfl) rfl ?_);clear S;intro a S
   refine lv S (rn_and_t hb1 (S.tm rfl) (S.tm rfl)) rfl ?_;clear S;intro a S
   refine Ld (Tn ?_)
   exact ⟨Keep.refl _ _, S.nf [true] rfl (subR rfl)⟩
  ·iterate 3 (refine l_skip S rfl rfl rfl (neq_f hb1) rfl ?_ rfl;clear S;intro a S)
   refine lv S (rn_and_f (decide ((Cb.length : Int) = 4)) hb1 (S.tm rfl) rfl) rfl ?_;clear S;intro a S
   refine Ld (Tn ?_)
   exact ⟨Keep.refl _ _, S.nf [true] rfl (subR rfl)⟩
 clear S;rintro a w1 ⟨hk1, S⟩
 refine lv S (Ra (S.tm rfl)) rfl ?_;clear S;intro a S
 refine Ld (Tn (f_cond (S.tm rfl) (fun hb2 => ?_) (fun hb2 => ?_)))
 ·replace h := iteT h hb2
  refine Fs (Fg (lv S (Rm (S.tm rfl)) rfl ?_));clear S;intro a S
  obtain ⟨hc1, h⟩ := chkE h
  obtain ⟨b1, o1, hm1, hr1⟩ := rn_indexT (a := a) (x := .tmp 23) (y := .const (iV 3)) (ty := 0) sl_55 Ce (inB_get hc1).1 (inB_get hc1).2 (S.tm rfl) rfl
  refine lv S (hr1 _) rfl ?_;clear S;intro a S
  clear hr1
  refine lv S (rn_ld Tryz.isAgg9 (off := o1) (o := 0) (S.tm rfl) (hm1.at S.emb0) rfl) rfl ?_;clear S;intro a S
  obtain ⟨r1, hr2, h⟩ := bindE h
  refine l_enter S (fun _ => run_call (vs := [sV (nth Cb 3), iV 15]) ⟨(S.tm rfl), rfl, trivial⟩ Tryz.call65) (words_Number_ok _ (nth Cb 3) 15 _ hr2) rfl ?_;clear S;intro v1 a w2 hv1 hk2 hn1 S
  subst hv1
  refine lv S (Rm (S.tm rfl)) rfl ?_;clear S;intro a S
  refine lv S (rn_extract (S.tm rfl) rfl) rfl ?_;clear S;intro a S
  refine lv S (rn_extract (S.tm rfl) rfl) rfl ?_;clear S;intro a S
  refine lv S (Ra (S.tm rfl)) rfl ?_;clear S;intro a S
  refine lv S (Ra (S.tm rfl)) rfl ?_;clear S;intro a S
  refine Ld (Tn (Fs ?_))
  obtain ⟨hc2, h⟩ := chkE h
  obtain ⟨hc3, h⟩ := chkE h
  obtain ⟨hc4, h⟩ := chkE h
  refine d_region [] ([Bk]) Tryz.mixed S rfl (by kernel_rfl) ?_;clear S;intro w8 hk8 hsel S
  refine d_quiet 0 S hsel rfl rfl rfl (by kernel_rfl) (by kernel_rfl) rfl (fun _ hw => (Rm (S.tm rfl))) ?_;clear S;intro a S
  refine d_quiet 1 S hsel rfl rfl rfl (by kernel_rfl) (by kernel_rfl) rfl (fun _ hw => (Rm (S.tm rfl))) ?_;clear S;intro a S
  refine d_quiet 2 S hsel rfl rfl rfl (by kernel_rfl) (by kernel_rfl) rfl (fun _ hw => (Rm (S.tm rfl))) ?_;clear S;intro a S
  refine d_quiet 3 S hsel rfl rfl rfl (by kernel_rfl) (by kernel_rfl) rfl (fun _ hw => (Rm (S.tm rfl))) ?_;clear S;intro a S
  refine d_quiet 4 S hsel rfl rfl rfl (by kernel_rfl) (by kernel_rfl) rfl (fun _ hw => (Rm (S.tm rfl))) ?_;clear S;intro a S
  obtain ⟨b5, o5, hm5, hr6⟩ := rn_indexT (a := a) (x := .tmp 33) (y := .const (iV 0)) (ty := 0) sl_55 (Ce.mono (S.le_arg (fp_sub (i := 0) (e := .blk Bk (GDeed.enc (GDeed.mk Bn Bu Bv Ax Bx Bo Br Bp Bi Bz Bj)) 39) rfl))) (inB_get hc2).1 (inB_get hc2).2 (S.tm rfl) rfl
  refine d_quiet 5 S hsel rfl rfl rfl (by kernel_rfl) (by kernel_rfl) rfl (fun _ hw => hr6 _) ?_;clear S;intro a S
  clear hr6
  refine d_quiet 6 S hsel rfl rfl rfl (by kernel_rfl) (by kernel_rfl) rfl (fun _ hw => (rn_ld Tryz.isAgg9 (off := o5) (o := 0) (S.tm rfl) (hm5.kept hw) rfl)) ?_;clear S;intro a S
  refine d_quiet 7 S hsel rfl rfl rfl (by kernel_rfl) (by kernel_rfl) rfl (fun _ hw => (Rm (S.tm rfl))) ?_;clear S;intro a S
  obtain ⟨b6, o6, hm6, hr7⟩ := rn_indexT (a := a) (x := .tmp 36) (y := .const (iV 1)) (ty := 0) sl_55 (Ce.mono (S.le_arg (fp_sub (i := 0) (e := .blk Bk (GDeed.enc (GDeed.mk Bn Bu Bv Ax Bx Bo Br Bp Bi Bz Bj)) 39) rfl))) (inB_get hc3).1 (inB_get hc3).2 (S.tm rfl) rfl
  refine d_quiet 8 S hsel rfl rfl rfl (by kernel_rfl) (by kernel_rfl) rfl (fun _ hw => hr7 _) ?_;clear S;intro a S
  clear hr7
  refine d_quiet 9 S hsel rfl rfl rfl (by kernel_rfl) (by kernel_rfl) rfl (fun _ hw => (rn_ld Tryz.isAgg9 (off := o6) (o := 0) (S.tm rfl) (hm6.kept hw) rfl)) ?_;clear S;intro a S
  refine d_quiet 11 S hsel rfl rfl rfl (by kernel_rfl) (by kernel_rfl) rfl (fun _ hw => (Rm (S.tm rfl))) ?_;clear S;intro a S
  obtain ⟨b7, o7, hm7, hr8⟩ := rn_indexT (a := a) (x := .tmp 40) (y := .const (iV 2)) (ty := 0) sl_55 (Ce.mono (S.le_arg (fp_sub (i := 0) (e := .blk Bk (GDeed.enc (GDeed.mk Bn Bu Bv Ax Bx Bo Br Bp Bi Bz Bj)) 39) rfl))) (inB_get hc4).1 (inB_get hc4).2 (S.tm rfl) rfl
  refine d_quiet 12 S hsel rfl rfl rfl (by kernel_rfl) (by kernel_rfl) rfl (fun _ hw => hr8 _) ?_;clear S;intro a S
  clear hr8
  refine d_quiet 13 S hsel rfl rfl rfl (by kernel_rfl) (by kernel_rfl) rfl (fun _ hw => (rn_ld Tryz.isAgg9 (off := o7) (o := 0) (S.tm rfl) (hm7.kept hw) rfl)) ?_;clear S;intro a S
  refine d_quiet 14 S hsel rfl rfl rfl (by kernel_rfl) (by kernel_rfl) rfl (fun _ hw => (Rm (S.tm rfl))) ?_;clear S;intro a S
  refine d_loud1 10 (by kernel_rfl) rfl (l_enter S (fun _ => run_call (vs := [sV (nth Cb 1)]) ⟨(S.tm rfl), trivial⟩ Tryz.call66) (words_Undash_ok _ (nth Cb 1) _ rfl) rfl ?_);clear S;intro v3 a w9 hv3 hk9 hn3 S
  subst hv3
  refine Ld (d_next (Keep.none hk9) (d_quiet 15 S hsel rfl rfl rfl (by kernel_rfl) (by kernel_rfl) rfl (fun _ hw => (rn_nilCheck (S.tm rfl))) ?_));clear S;intro a S
  refine d_quiet 16 S hsel rfl rfl rfl (by kernel_rfl) (by kernel_rfl) rfl (fun _ hw => (rn_fld fa_39_4 (S.tm rfl))) ?_;clear S;intro a S
  refine d_loud1 17 (by kernel_rfl) rfl (l_store S (S.tm rfl) (S.tm rfl) (i := 0) (off := 4) rfl Tryz.sizeOf9 (vs := [sV (nth Cb 0)]) rfl rfl rfl rfl ?_);clear S;intro w10 hk10 S
  refine Ld (d_next hk10 (d_quiet 18 S hsel rfl rfl rfl (by kernel_rfl) (by kernel_rfl) rfl (fun _ hw => (rn_nilCheck (S.tm rfl))) ?_));clear S;intro a S
  refine d_quiet 19 S hsel rfl rfl rfl (by kernel_rfl) (by kernel_rfl) rfl (fun _ hw => (rn_fld fa_39_5 (S.tm rfl))) ?_;clear S;intro a S
  refine d_loud1 20 (by kernel_rfl) rfl (l_store S (S.tm rfl) (S.tm rfl) (i := 0) (off := 5) rfl Tryz.sizeOf9 (vs := [sV (words_Undash (nth Cb 1))]) rfl rfl rfl rfl ?_);clear S;intro w11 hk11 S
  refine Ld (d_next hk11 (d_quiet 21 S hsel rfl rfl rfl (by kernel_rfl) (by kernel_rfl) rfl (fun _ hw => (rn_nilCheck (S.tm rfl))) ?_));clear S;intro a S
  refine d_quiet 22 S hsel rfl rfl rfl (by kernel_rfl) (by kernel_rfl) rfl (fun _ hw => (rn_fld fa_39_6 (S.tm rfl))) ?_;clear S;intro a S
  refine d_loud1 23 (by kernel_rfl) rfl (l_store S (S.tm rfl) (S.tm rfl) (i := 0) (off := 6) rfl Tryz.sizeOf9 (vs := [sV (nth Cb 2)]) rfl rfl rfl rfl ?_);clear S;intro w12 hk12 S
  refine Ld (d_next hk12 (d_quiet 24 S hsel rfl rfl rfl (by kernel_rfl) (by kernel_rfl) rfl (fun _ hw => (rn_nilCheck (S.tm rfl))) ?_));clear S;intro a S
  refine d_quiet 25 S hsel rfl rfl rfl (by kernel_rfl) (by kernel_rfl) rfl (fun _ hw => (rn_fld fa_39_7 (S.tm rfl))) ?_;clear S;intro a S
  refine d_loud1 26 (by kernel_rfl) rfl (l_store S (S.tm rfl) (S.tm rfl) (i := 0) (off := 7) rfl Tryz.sizeOf3 (vs := [iV r1.1]) rfl rfl rfl rfl ?_);clear S;intro w13 hk13 S
  refine Ld (d_next hk13 (d_end (by kernel_rfl) ?_))
  clear hsel
  replace S := S.nk [.blk Bk (GDeed.enc (GDeed.mk Bn Bu Bv Ax (nth Cb 0) (words_Undash (nth Cb 1)) (nth Cb 2) r1.1 Bi Bz Bj)) 39] [(6, bV r1.2)] [true] rfl ⟨rfl, trivial⟩
  refine Tn (Fs (Fg (lv S (Rm (S.tm rfl)) rfl ?_)));clear S;intro a S
  refine lv S (Ra (S.tm rfl)) rfl ?_;clear S;intro a S
  refine Ld (Tn (wp_ret (blk_r (then_r ?_))))
  obtain rfl := Option.some.inj h
  exact f_ret S Tryz.results42 rfl ⟨(S.holds _ (List.mem_of_getElem? (i := 0) rfl)), rfl⟩
 ·replace h := iteF h hb2
  refine Fs (Fg (lv S (Rm (S.tm rfl)) rfl ?_));clear S;intro a S
  refine lv S (rn_nilCheck (S.tm rfl)) rfl ?_;clear S;intro a S
  refine lv S (rn_fld fa_39_3 (S.tm rfl)) rfl ?_;clear S;intro a S
  refine lv S (rn_load Tryz.isAgg3 (S.tm rfl) (S.cell (i := 0) rfl rfl)) rfl ?_;clear S;intro a S
  refine lv S (rn_eql (S.tm rfl) rfl) rfl ?_;clear S;intro a S
  refine lv S (Rm (S.tm rfl)) rfl ?_;clear S;intro a S
  refine f_cutm 4 (fun a w' => Keep [] w1 w' ∧ Sx w [Bk] nov [.blk Bk (GDeed.enc (GDeed.mk Bn Bu Bv Ax Bx Bo Br Bp Bi Bz Bj)) 39] [(0, .pointer (some ⟨Bk, 0, none⟩)), (1, Cy), (63, bV ((decide (Ax = 2)) && (decide ((Cb.length : Int) = 2))))] 148 a w') ?_ ?_
  ·rcases Bool.eq_false_or_eq_true (decide (Ax = 2)) with hb3 | hb3
   ·refine l_want S rfl rfl rfl hb3 (lv S (Rm (S.tm rfl)) rfl ?_);clear S;intro a S
    refine l_want S rfl rfl rfl hb3 (lv S (rn_lenT sl_55 (S.tm rfl) (slc_len Ce)) rfl ?_);clear S;intro a S
    refine l_want S rfl rfl rfl hb3 (lv S (rn_eql (S.tm rfl) rfl) rfl ?_);clear S;intro a S
    refine lv S (rn_and_t hb3 (S.tm rfl) (S.tm rfl)) rfl ?_;clear S;intro a S
    refine Ld (Tn ?_)
    exact ⟨Keep.refl _ _, S.nf [true] rfl (subR rfl)⟩
   ·iterate 3 (refine l_skip S rfl rfl rfl (neq_f hb3) rfl ?_ rfl;clear S;intro a S)
    refine lv S (rn_and_f (decide ((Cb.length : Int) = 2)) hb3 (S.tm rfl) rfl) rfl ?_;clear S;intro a S
    refine Ld (Tn ?_)
    exact ⟨Keep.refl _ _, S.nf [true] rfl (subR rfl)⟩
  clear S;rintro a w14 ⟨hk14, S⟩
  refine lv S (Ra (S.tm rfl)) rfl ?_;clear S;intro a S
  refine Ld (Tn (f_cond (S.tm rfl) (fun hb4 => ?_) (fun hb4 => ?_)))
  ·replace h := iteT h hb4
   refine Fs ?_
   obtain ⟨hc5, h⟩ := chkE h
   obtain ⟨hc6, h⟩ := chkE h
   refine d_region [] ([Bk]) Tryz.mixed S rfl (by kernel_rfl) ?_;clear S;intro w17 hk17 hsel S
   refine d_quiet 0 S hsel rfl rfl rfl (by kernel_rfl) (by kernel_rfl) rfl (fun _ hw => (Rm (S.tm rfl))) ?_;clear S;intro a S
   refine d_quiet 1 S hsel rfl rfl rfl (by kernel_rfl) (by kernel_rfl) rfl (fun _ hw => (Rm (S.tm rfl))) ?_;clear S;intro a S
   refine d_quiet 2 S hsel rfl rfl rfl (by kernel_rfl) (by kernel_rfl) rfl (fun _ hw => (Rm (S.tm rfl))) ?_;clear S;intro a S
   obtain ⟨b10, o10, hm10, hr11⟩ := rn_indexT (a := a) (x := .tmp 66) (y := .const (iV 0)) (ty := 0) sl_55 (Ce.mono (S.le_arg (fp_sub (i := 0) (e := .blk Bk (GDeed.enc (GDeed.mk Bn Bu Bv Ax Bx Bo Br Bp Bi Bz Bj)) 39) rfl))) (inB_get hc5).1 (inB_get hc5).2 (S.tm rfl) rfl
   refine d_quiet 3 S hsel rfl rfl rfl (by kernel_rfl) (by kernel_rfl) rfl (fun _ hw => hr11 _) ?_;clear S;intro a S
   clear hr11
   refine d_quiet 4 S hsel rfl rfl rfl (by kernel_rfl) (by kernel_rfl) rfl (fun _ hw => (rn_ld Tryz.isAgg9 (off := o10) (o := 0) (S.tm rfl) (hm10.kept hw) rfl)) ?_;clear S;intro a S
   refine d_quiet 5 S hsel rfl rfl rfl (by kernel_rfl) (by kernel_rfl) rfl (fun _ hw => (Rm (S.tm rfl))) ?_;clear S;intro a S
   obtain ⟨b11, o11, hm11, hr12⟩ := rn_indexT (a := a) (x := .tmp 69) (y := .const (iV 1)) (ty := 0) sl_55 (Ce.mono (S.le_arg (fp_sub (i := 0) (e := .blk Bk (GDeed.enc (GDeed.mk Bn Bu Bv Ax Bx Bo Br Bp Bi Bz Bj)) 39) rfl))) (inB_get hc6).1 (inB_get hc6).2 (S.tm rfl) rfl
   refine d_quiet 6 S hsel rfl rfl rfl (by kernel_rfl) (by kernel_rfl) rfl (fun _ hw => hr12 _) ?_;clear S;intro a S
   clear hr12
   refine d_quiet 7 S hsel rfl rfl rfl (by kernel_rfl) (by kernel_rfl) rfl (fun _ hw => (rn_ld Tryz.isAgg9 (off := o11) (o := 0) (S.tm rfl) (hm11.kept hw) rfl)) ?_;clear S;intro a S
   refine d_quiet 8 S hsel rfl rfl rfl (by kernel_rfl) (by kernel_rfl) rfl (fun _ hw => (rn_nilCheck (S.tm rfl))) ?_;clear S;intro a S
   refine d_quiet 9 S hsel rfl rfl rfl (by kernel_rfl) (by kernel_rfl) rfl (fun _ hw => (rn_fld fa_39_4 (S.tm rfl))) ?_;clear S;intro a S
   refine d_loud1 10 (by kernel_rfl) rfl (l_store S (S.tm rfl) (S.tm rfl) (i := 0) (off := 4) rfl Tryz.sizeOf9 (vs := [sV (nth Cb 0)]) rfl rfl rfl rfl ?_);clear S;intro w18 hk18 S
   refine Ld (d_next hk18 (d_quiet 11 S hsel rfl rfl rfl (by kernel_rfl) (by kernel_rfl) rfl (fun _ hw => (rn_nilCheck (S.tm rfl))) ?_));clear S;intro a S
   refine d_quiet 12 S hsel rfl rfl rfl (by kernel_rfl) (by kernel_rfl) rfl (fun _ hw => (rn_fld fa_39_6 (S.tm rfl))) ?_;clear S;intro a S
   refine d_loud1 13 (by kernel_rfl) rfl (l_store S (S.tm rfl) (S.tm rfl) (i := 0) (off := 6) rfl Tryz.sizeOf9 (vs := [sV (nth Cb 1)]) rfl rfl rfl rfl ?_);clear S;intro w19 hk19 S
   refine Ld (d_next hk19 (d_end (by kernel_rfl) ?_))
   clear hsel
   replace S := S.nk [.blk Bk (GDeed.enc (GDeed.mk Bn Bu Bv Ax (nth Cb 0) Bo (nth Cb 1) Bp Bi Bz Bj)) 39] [] [true] rfl trivial
   refine Tn (Fs (Fg (lv S (Ra rfl) rfl ?_)));clear S;intro a S
   refine Ld (Tn (wp_ret (blk_r (then_r ?_))))
   obtain rfl := Option.some.inj h
   exact f_ret S Tryz.results42 rfl ⟨(S.holds _ (List.mem_of_getElem? (i := 0) rfl)), rfl⟩
  ·replace h := iteF h hb4
   refine Fs (Fg (lv S (Rm (S.tm rfl)) rfl ?_));clear S;intro a S
   refine lv S (rn_nilCheck (S.tm rfl)) rfl ?_;clear S;intro a S
   refine lv S (rn_fld fa_39_3 (S.tm rfl)) rfl ?_;clear S;intro a S
   refine lv S (rn_load Tryz.isAgg3 (S.tm rfl) (S.cell (i := 0) rfl rfl)) rfl ?_;clear S;intro a S
   refine lv S (rn_eql (S.tm rfl) rfl) rfl ?_;clear S;intro a S
   refine lv S (Rm (S.tm rfl)) rfl ?_;clear S;intro a S
   refine f_cutm 4 (fun a w' => Keep [] w14 w' ∧ Sx w [Bk] nov [.blk Bk (GDeed.enc (GDeed.mk Bn Bu Bv Ax Bx Bo Br Bp Bi Bz Bj)) 39] [(0, .pointer (some ⟨Bk, 0, none⟩)), (1, Cy), (86, bV ((decide (Ax = 3)) && (decide ((Cb.length : Int) = 4))))] 148 a w') ?_ ?_
   ·rcases Bool.eq_false_or_eq_true (decide (Ax = 3)) with hb5 | hb5
    ·refine l_want S rfl rfl rfl hb5 (lv S (Rm (S.tm rfl)) rfl ?_);clear S;intro a S
     refine l_want S rfl rfl rfl hb5 (lv S (rn_lenT sl_55 (S.tm rfl) (slc_len Ce)) rfl ?_);clear S;intro a S
     refine l_want S rfl rfl rfl hb5 (lv S (rn_eql (S.tm rfl) rfl) rfl ?_);clear S;intro a S
     refine lv S (rn_and_t hb5 (S.tm rfl) (S.tm rfl)) rfl ?_;clear S;intro a S
     refine Ld (Tn ?_)
     exact ⟨Keep.refl _ _, S.nf [true] rfl (subR rfl)⟩
    ·iterate 3 (refine l_skip S rfl rfl rfl (neq_f hb5) rfl ?_ rfl;clear S;intro a S)
     refine lv S (rn_and_f (decide ((Cb.length : Int) = 4)) hb5 (S.tm rfl) rfl) rfl ?_;clear S;intro a S
     refine Ld (Tn ?_)
     exact ⟨Keep.refl _ _, S.nf [true] rfl (subR rfl)⟩
   clear S;rintro a w20 ⟨hk20, S⟩
   refine lv S (Ra (S.tm rfl)) rfl ?_;clear S;intro a S
   refine Ld (Tn (f_cond (S.tm rfl) (fun hb6 => ?_) (fun hb6 => ?_)))
   ·replace h := iteT h hb6
    refine Fs (Fg (lv S (Rm (S.tm rfl)) rfl ?_));clear S;intro a S
    obtain ⟨hc7, h⟩ := chkE h
    obtain ⟨v4, hs1, hr13⟩ := rn_cutTl (a := a) (x := .tmp 88) (y := .const (iV 2)) (ty := 55) sl_55 Ce (S.tm rfl) rfl hc7
    refine lv S (hr13 _) rfl ?_;clear S;intro a S
    clear hr13
    obtain ⟨r2, hr14, h⟩ := bindE h
    have hz1 := S.keep.size
    refine l_enter S (fun _ => run_call (vs := [v4, iV 15]) ⟨(S.tm rfl), rfl, trivial⟩ Tryz.call40) (words_Numbers_ok _ v4 (cut Cb 2 Cb.length) (hs1.mono (S.le_arg nil_sub)) 15 _ hr14) rfl ?_;clear S;intro v5 a w21 hv4 hk21 hn4 S
    obtain ⟨u1, rfl, ho1⟩ := hv4
    obtain ⟨φ1, hl1, hm12, S⟩ := S.see' hn4 hz1
    have hs2 := ho1.mono hm12
    refine lv S (Rm (S.tm rfl)) rfl ?_;clear S;intro a S
    refine lv S (rn_extract (S.tm rfl) rfl) rfl ?_;clear S;intro a S
    refine lv S (rn_extract (S.tm rfl) rfl) rfl ?_;clear S;intro a S
    refine lv S (Ra (S.tm rfl)) rfl ?_;clear S;intro a S
    refine lv S (Ra (S.tm rfl)) rfl ?_;clear S;intro a S
    refine Ld (Tn (Fs (Fs (Fg (lv S (Rm (S.tm rfl)) rfl ?_)))));clear S;intro a S
    refine lv S (rn_not (S.tm rfl)) rfl ?_;clear S;intro a S
    refine Ld (Tn (f_cond (S.tm rfl) (fun hb7 => ?_) (fun hb7 => ?_)))
    ·replace h := iteT h hb7
     refine Fs (Fg (lv S (Ra rfl) rfl ?_));clear S;intro a S
     refine Ld ?_
     replace S := S.nk [.blk Bk (GDeed.enc (GDeed.mk Bn Bu Bv Ax Bx Bo Br Bp Bi Bz Bj)) 39] [(4, bV false)] [true] rfl ⟨rfl, trivial⟩
     refine Tn (wp_ret (then_r (blk_r (then_r ?_))))
     obtain rfl := Option.some.inj h
     exact f_ret S Tryz.results42 rfl ⟨(S.holds _ (List.mem_of_getElem? (i := 0) rfl)), rfl⟩
    ·replace h := iteF h hb7
     refine wp_skip (Tn (Fs ?_))
     obtain ⟨hc8, h⟩ := chkE h
     obtain ⟨hc9, h⟩ := chkE h
     obtain ⟨hc10, h⟩ := chkE h
     obtain ⟨hc11, h⟩ := chkE h
     refine d_region [] ([Bk]) Tryz.mixed S rfl (by kernel_rfl) ?_;clear S;intro w26 hk26 hsel S
     refine d_quiet 0 S hsel rfl rfl rfl (by kernel_rfl) (by kernel_rfl) rfl (fun _ hw => (Rm (S.tm rfl))) ?_;clear S;intro a S
     refine d_quiet 1 S hsel rfl rfl rfl (by kernel_rfl) (by kernel_rfl) rfl (fun _ hw => (Rm (S.tm rfl))) ?_;clear S;intro a S
     refine d_quiet 2 S hsel rfl rfl rfl (by kernel_rfl) (by kernel_rfl) rfl (fun _ hw => (Rm (S.tm rfl))) ?_;clear S;intro a S
     refine d_quiet 3 S hsel rfl rfl rfl (by kernel_rfl) (by kernel_rfl) rfl (fun _ hw => (Rm (S.tm rfl))) ?_;clear S;intro a S
     refine d_quiet 4 S hsel rfl rfl rfl (by kernel_rfl) (by kernel_rfl) rfl (fun _ hw => (Rm (S.tm rfl))) ?_;clear S;intro a S
     obtain ⟨b16, o16, hm17, hr19⟩ := rn_indexT (a := a) (x := .tmp 99) (y := .const (iV 0)) (ty := 0) sl_55 (Ce.mono (S.le_arg (fp_sub (i := 0) (e := .blk Bk (GDeed.enc (GDeed.mk Bn Bu Bv Ax Bx Bo Br Bp Bi Bz Bj)) 39) rfl))) (inB_get hc8).1 (inB_get hc8).2 (S.tm rfl) rfl
     refine d_quiet 5 S hsel rfl rfl rfl (by kernel_rfl) (by kernel_rfl) rfl (fun _ hw => hr19 _) ?_;clear S;intro a S
     clear hr19
     refine d_quiet 6 S hsel rfl rfl rfl (by kernel_rfl) (by kernel_rfl) rfl (fun _ hw => (rn_ld Tryz.isAgg9 (off := o16) (o := 0) (S.tm rfl) (hm17.kept hw) rfl)) ?_;clear S;intro a S
     refine d_quiet 7 S hsel rfl rfl rfl (by kernel_rfl) (by kernel_rfl) rfl (fun _ hw => (Rm (S.tm rfl))) ?_;clear S;intro a S
     obtain ⟨b17, o17, hm18, hr20⟩ := rn_indexT (a := a) (x := .tmp 102) (y := .const (iV 1)) (ty := 0) sl_55 (Ce.mono (S.le_arg (fp_sub (i := 0) (e := .blk Bk (GDeed.enc (GDeed.mk Bn Bu Bv Ax Bx Bo Br Bp Bi Bz Bj)) 39) rfl))) (inB_get hc9).1 (inB_get hc9).2 (S.tm rfl) rfl
     refine d_quiet 8 S hsel rfl rfl rfl (by kernel_rfl) (by kernel_rfl) rfl (fun _ hw => hr20 _) ?_;clear S;intro a S
     clear hr20
     refine d_quiet 9 S hsel rfl rfl rfl (by kernel_rfl) (by kernel_rfl) rfl (fun _ hw => (rn_ld Tryz.isAgg9 (off := o17) (o := 0) (S.tm rfl) (hm18.kept hw) rfl)) ?_;clear S;intro a S
     refine d_quiet 10 S hsel rfl rfl rfl (by kernel_rfl) (by kernel_rfl) rfl (fun _ hw => (Rm (S.tm rfl))) ?_;clear S;intro a S
     obtain ⟨b18, o18, hm19, hr21⟩ := rn_indexT (a := a) (x := .tmp 105) (y := .const (iV 0)) (ty := 0) sl_22 ((ownV_slcT enc_int hs2).mono (S.le_new (fp_sub (i := 0) (e := .blk Bk (GDeed.enc (GDeed.mk Bn Bu Bv Ax Bx Bo Br Bp Bi Bz Bj)) 39) rfl))) (inB_get hc10).1 (inB_get hc10).2 (S.tm rfl) rfl
     refine d_quiet 11 S hsel rfl rfl rfl (by kernel_rfl) (by kernel_rfl) rfl (fun _ hw => hr21 _) ?_;clear S;intro a S
     clear hr21
     refine d_quiet 12 S hsel rfl rfl rfl (by kernel_rfl) (by kernel_rfl) rfl (fun _ hw => (rn_ld Tryz.isAgg3 (off := o18) (o := 0) (S.tm rfl) (hm19.kept hw) rfl)) ?_;clear S;intro a S
     refine d_quiet 13 S hsel rfl rfl rfl (by kernel_rfl) (by kernel_rfl) rfl (fun _ hw => (Rm (S.tm rfl))) ?_;clear S;intro a S
     obtain ⟨b19, o19, hm20, hr22⟩ := rn_indexT (a := a) (x := .tmp 108) (y := .const (iV 1)) (ty := 0) sl_22 ((ownV_slcT enc_int hs2).mono (S.le_new (fp_sub (i := 0) (e := .blk Bk (GDeed.enc (GDeed.mk Bn Bu Bv Ax Bx Bo Br Bp Bi Bz Bj)) 39) rfl))) (inB_get hc11).1 (inB_get hc11).2 (S.tm rfl) rfl
     refine d_quiet 14 S hsel rfl rfl rfl (by kernel_rfl) (by kernel_rfl) rfl (fun _ hw => hr22 _) ?_;clear S;intro a S
     clear hr22
     refine d_quiet 15 S hsel rfl rfl rfl (by kernel_rfl) (by kernel_rfl) rfl (fun _ hw => (rn_ld Tryz.isAgg3 (off := o19) (o := 0) (S.tm rfl) (hm20.kept hw) rfl)) ?_;clear S;intro a S
     refine d_quiet 16 S hsel rfl rfl rfl (by kernel_rfl) (by kernel_rfl) rfl (fun _ hw => (rn_nilCheck (S.tm rfl))) ?_;clear S;intro a S
     refine d_quiet 17 S hsel rfl rfl rfl (by kernel_rfl) (by kernel_rfl) rfl (fun _ hw => (rn_fld fa_39_4 (S.tm rfl))) ?_;clear S;intro a S
     refine d_loud1 18 (by kernel_rfl) rfl (l_store S (S.tm rfl) (S.tm rfl) (i := 0) (off := 4) rfl Tryz.sizeOf9 (vs := [sV (nth Cb 0)]) rfl rfl rfl rfl ?_);clear S;intro w27 hk27 S
     refine Ld (d_next hk27 (d_quiet 19 S hsel rfl rfl rfl (by kernel_rfl) (by kernel_rfl) rfl (fun _ hw => (rn_nilCheck (S.tm rfl))) ?_));clear S;intro a S
     refine d_quiet 20 S hsel rfl rfl rfl (by kernel_rfl) (by kernel_rfl) rfl (fun _ hw => (rn_fld fa_39_6 (S.tm rfl))) ?_;clear S;intro a S
     refine d_loud1 21 (by kernel_rfl) rfl (l_store S (S.tm rfl) (S.tm rfl) (i := 0) (off := 6) rfl Tryz.sizeOf9 (vs := [sV (nth Cb 1)]) rfl rfl rfl rfl ?_);clear S;intro w28 hk28 S
     refine Ld (d_next hk28 (d_quiet 22 S hsel rfl rfl rfl (by kernel_rfl) (by kernel_rfl) rfl (fun _ hw => (rn_nilCheck (S.tm rfl))) ?_));clear S;intro a S
     refine d_quiet 23 S hsel rfl rfl rfl (by kernel_rfl) (by kernel_rfl) rfl (fun _ hw => (rn_fld fa_39_7 (S.tm rfl))) ?_;clear S;intro a S
     refine d_loud1 24 (by kernel_rfl) rfl (l_store S (S.tm rfl) (S.tm rfl) (i := 0) (off := 7) rfl Tryz.sizeOf3 (vs := [iV (nth r2.1 0)]) rfl rfl rfl rfl ?_);clear S;intro w29 hk29 S
     refine Ld (d_next hk29 (d_quiet 25 S hsel rfl rfl rfl (by kernel_rfl) (by kernel_rfl) rfl (fun _ hw => (rn_nilCheck (S.tm rfl))) ?_));clear S;intro a S
     refine d_quiet 26 S hsel rfl rfl rfl (by kernel_rfl) (by kernel_rfl) rfl (fun _ hw => (rn_fld fa_39_8 (S.tm rfl))) ?_;clear S;intro a S
     refine d_loud1 27 (by kernel_rfl) rfl (l_store S (S.tm rfl) (S.tm rfl) (i := 0) (off := 8) rfl Tryz.sizeOf3 (vs := [iV (nth r2.1 1)]) rfl rfl rfl rfl ?_);clear S;intro w30 hk30 S
     refine Ld (d_next hk30 (d_end (by kernel_rfl) ?_))
     clear hsel
     replace S := S.nk [.blk Bk (GDeed.enc (GDeed.mk Bn Bu Bv Ax (nth Cb 0) Bo (nth Cb 1) (nth r2.1 0) (nth r2.1 1) Bz Bj)) 39] [] [true] rfl trivial
     refine Tn (Fs (Fg (lv S (Ra rfl) rfl ?_)));clear S;intro a S
     refine Ld (Tn (wp_ret (blk_r (then_r ?_))))
     obtain rfl := Option.some.inj h
     exact f_ret S Tryz.results42 rfl ⟨(S.holds _ (List.mem_of_getElem? (i := 0) rfl)), rfl⟩
   ·replace h := iteF h hb6
    refine Fs (Fg (lv S (Rm (S.tm rfl)) rfl ?_));clear S;intro a S
    refine lv S (rn_nilCheck (S.tm rfl)) rfl ?_;clear S;intro a S
    refine lv S (rn_fld fa_39_3 (S.tm rfl)) rfl ?_;clear S;intro a S
    refine lv S (rn_load Tryz.isAgg3 (S.tm rfl) (S.cell (i := 0) rfl rfl)) rfl ?_;clear S;intro a S
    refine lv S (rn_eql (S.tm rfl) rfl) rfl ?_;clear S;intro a S
    refine lv S (Rm (S.tm rfl)) rfl ?_;clear S;intro a S
    refine f_cutm 4 (fun a w' => Keep [] w20 w' ∧ Sx w [Bk] nov [.blk Bk (GDeed.enc (GDeed.mk Bn Bu Bv Ax Bx Bo Br Bp Bi Bz Bj)) 39] [(0, .pointer (some ⟨Bk, 0, none⟩)), (1, Cy), (129, bV ((decide (Ax = 4)) && (decide ((Cb.length : Int) = 2))))] 148 a w') ?_ ?_
    ·rcases Bool.eq_false_or_eq_true (decide (Ax = 4)) with hb8 | hb8
     ·refine l_want S rfl rfl rfl hb8 (lv S (Rm (S.tm rfl)) rfl ?_);clear S;intro a S
      refine l_want S rfl rfl rfl hb8 (lv S (rn_lenT sl_55 (S.tm rfl) (slc_len Ce)) rfl ?_);clear S;intro a S
      refine l_want S rfl rfl rfl hb8 (lv S (rn_eql (S.tm rfl) rfl) rfl ?_);clear S;intro a S
      refine lv S (rn_and_t hb8 (S.tm rfl) (S.tm rfl)) rfl ?_;clear S;intro a S
      refine Ld (Tn ?_)
      exact ⟨Keep.refl _ _, S.nf [true] rfl (subR rfl)⟩
     ·iterate 3 (refine l_skip S rfl rfl rfl (neq_f hb8) rfl ?_ rfl;clear S;intro a S)
      refine lv S (rn_and_f (decide ((Cb.length : Int) = 2)) hb8 (S.tm rfl) rfl) rfl ?_;clear S;intro a S
      refine Ld (Tn ?_)
      exact ⟨Keep.refl _ _, S.nf [true] rfl (subR rfl)⟩
    clear S;rintro a w31 ⟨hk31, S⟩
    refine lv S (Ra (S.tm rfl)) rfl ?_;clear S;intro a S
    refine Ld (Tn (f_cond (S.tm rfl) (fun hb9 => ?_) (fun hb9 => ?_)))
    ·replace h := iteT h hb9
     refine Fs (Fg (lv S (Rm (S.tm rfl)) rfl ?_));clear S;intro a S
     obtain ⟨hc12, h⟩ := chkE h
     obtain ⟨b20, o20, hm21, hr23⟩ := rn_indexT (a := a) (x := .tmp 131) (y := .const (iV 1)) (ty := 0) sl_55 Ce (inB_get hc12).1 (inB_get hc12).2 (S.tm rfl) rfl
     refine lv S (hr23 _) rfl ?_;clear S;intro a S
     clear hr23
     refine lv S (rn_ld Tryz.isAgg9 (off := o20) (o := 0) (S.tm rfl) (hm21.at S.emb0) rfl) rfl ?_;clear S;intro a S
     obtain ⟨r3, hr24, h⟩ := bindE h
     refine l_enter S (fun _ => run_call (vs := [sV (nth Cb 1), iV 15]) ⟨(S.tm rfl), rfl, trivial⟩ Tryz.call65) (words_Number_ok _ (nth Cb 1) 15 _ hr24) rfl ?_;clear S;intro v6 a w32 hv5 hk32 hn5 S
     subst hv5
     refine lv S (Rm (S.tm rfl)) rfl ?_;clear S;intro a S
     refine lv S (rn_extract (S.tm rfl) rfl) rfl ?_;clear S;intro a S
     refine lv S (rn_extract (S.tm rfl) rfl) rfl ?_;clear S;intro a S
     refine lv S (Ra (S.tm rfl)) rfl ?_;clear S;intro a S
     refine lv S (Ra (S.tm rfl)) rfl ?_;clear S;intro a S
     refine Ld (Tn (Fs (Fg (lv S (Rm (S.tm rfl)) rfl ?_))));clear S;intro a S
     refine lv S (Rm (S.tm rfl)) rfl ?_;clear S;intro a S
     refine lv S (Rm (S.tm rfl)) rfl ?_;clear S;intro a S
     obtain ⟨hc13, h⟩ := chkE h
     obtain ⟨b21, o21, hm22, hr25⟩ := rn_indexT (a := a) (x := .tmp 139) (y := .const (iV 0)) (ty := 0) sl_55 Ce (inB_get hc13).1 (inB_get hc13).2 (S.tm rfl) rfl
     refine lv S (hr25 _) rfl ?_;clear S;intro a S
     clear hr25
     refine lv S (rn_ld Tryz.isAgg9 (off := o21) (o := 0) (S.tm rfl) (hm22.at S.emb0) rfl) rfl ?_;clear S;intro a S
     refine lv S (Rm (S.tm rfl)) rfl ?_;clear S;intro a S
     refine lv S (rn_nilCheck (S.tm rfl)) rfl ?_;clear S;intro a S
     refine lv S (rn_fld fa_39_9 (S.tm rfl)) rfl ?_;clear S;intro a S
     refine l_store S (S.tm rfl) (S.tm rfl) (i := 0) (off := 9) rfl Tryz.sizeOf9 (vs := [sV (nth Cb 0)]) rfl rfl rfl rfl ?_;clear S;intro w33 hk33 S
     refine lv S (rn_nilCheck (S.tm rfl)) rfl ?_;clear S;intro a S
     refine lv S (rn_fld fa_39_10 (S.tm rfl)) rfl ?_;clear S;intro a S
     refine l_store S (S.tm rfl) (S.tm rfl) (i := 0) (off := 10) rfl Tryz.sizeOf3 (vs := [iV r3.1]) rfl rfl rfl rfl ?_;clear S;intro w34 hk34 S
     refine Ld ?_
     replace S := S.nk [.blk Bk (GDeed.enc (GDeed.mk Bn Bu Bv Ax Bx Bo Br Bp Bi (nth Cb 0) r3.1)) 39] [(10, bV r3.2)] [true] rfl ⟨rfl, trivial⟩
     refine Tn (Fs (Fg (lv S (Rm (S.tm rfl)) rfl ?_)));clear S;intro a S
     refine lv S (Ra (S.tm rfl)) rfl ?_;clear S;intro a S
     refine Ld (Tn (wp_ret (blk_r (then_r ?_))))
     obtain rfl := Option.some.inj h
     exact f_ret S Tryz.results42 rfl ⟨(S.holds _ (List.mem_of_getElem? (i := 0) rfl)), rfl⟩
    ·replace h := iteF h hb9
     refine wp_skip (blk_n (Tn (Fs (Fg (lv S (Ra rfl) rfl ?_)))));clear S;intro a S
     refine Ld (Tn (wp_ret ?_))
     obtain rfl := Option.some.inj h
     exact f_ret S Tryz.results42 rfl ⟨(S.holds _ (List.mem_of_getElem? (i := 0) rfl)), rfl⟩
theorem meet_Read_c1_ok (w : World) (X : List Nat) (Bt : ByteArray) (Aj : Nat) (Ak : Value) (Al : List GDeed) (Di : (LEnt.own Ak 39 11 Al.length (Al.flatMap GDeed.enc)).holds w) (Ck : (LEnt.blk Aj [Ak] 26).holds w) (hg_maxlen : GlobI (view w X) 0) (hXn : X.Nodup) (hXe : X = fps [.blk Aj [Ak] 26, .own Ak 39 11 Al.length (Al.flatMap GDeed.enc)]) (r : Bool × (List GDeed)) (h : meet_Read_c1 Bt Al = some r) :
    Calls Tryz.prog 38 [sV Bt, .pointer (some ⟨Aj, 0, none⟩)].toArray w (Ret w X fun _ v w' => ∃ y1 : Value, Grp w w' X [.blk Aj [y1] 26, .own y1 39 11 r.2.length (r.2.flatMap GDeed.enc)] ∧ v = bV r.1) := by
 refine f_enter X [.blk Aj [Ak] 26, .own Ak 39 11 Al.length (Al.flatMap GDeed.enc)] Tryz.func38 rfl Tryz.ntmps38 rfl (fun e he => by simp only [List.mem_cons, List.not_mem_nil, or_false] at he;rcases he with rfl | rfl <;> assumption) (by rw [← hXe];exact hXn) (fun b hb => by rw [hXe];exact hb) fun a S => ?_
 unfold meet_Read_c1 at h
 replace S := S.nk [.blk Aj [Ak] 26, .own Ak 39 11 Al.length (Al.flatMap GDeed.enc)] [(0, sV Bt), (1, .pointer (some ⟨Aj, 0, none⟩))] [true, true] rfl (subR rfl)
 refine Fs (Fg (lv S (Ra rfl) rfl ?_));clear S;intro a S
 refine Ld (Tn (Fs (Fg (lv S (Rm (S.tm rfl)) rfl ?_))));clear S;intro a S
 obtain ⟨r1, hr1, h⟩ := bindE h
 have hz1 := S.keep.size
 refine l_enter S (fun _ => run_call (vs := [sV Bt]) ⟨(S.tm rfl), trivial⟩ Tryz.call39) (words_Split_ok _ Bt (hg_maxlen.mono (S.le_arg nil_sub)) _ hr1) rfl ?_;clear S;intro v1 a w1 hv1 hk1 hn1 S
 obtain ⟨u1, rfl, ho1⟩ := hv1
 obtain ⟨φ1, hl1, hm1, S⟩ := S.see' hn1 hz1
 have hs1 := ho1.mono hm1
 refine lv S (Rm (S.tm rfl)) rfl ?_;clear S;intro a S
 refine lv S (rn_extract (S.tm rfl) rfl) rfl ?_;clear S;intro a S
 refine lv S (rn_extract (S.tm rfl) rfl) rfl ?_;clear S;intro a S
 refine lv S (Ra (S.tm rfl)) rfl ?_;clear S;intro a S
 refine lv S (Ra (S.tm rfl)) rfl ?_;clear S;intro a S
 refine Ld (Tn (Fs (Fs (Fg (lv S (Rm (S.tm rfl)) rfl ?_)))));clear S;intro a S
 refine lv S (rn_not (S.tm rfl)) rfl ?_;clear S;intro a S
 refine lv S (Rm (S.tm rfl)) rfl ?_;clear S;intro a S
 refine f_cutm 4 (fun a w' => Keep [] w1 w' ∧ Sx w X φ1 [.blk Aj [Ak] 26, .own Ak 39 11 Al.length (Al.flatMap GDeed.enc)] [(1, .pointer (some ⟨Aj, 0, none⟩)), (4, u1), (20, bV ((!r1.2) || (decide ((r1.1.length : Int) < 4))))] 53 a w') ?_ ?_
 ·rcases Bool.eq_false_or_eq_true (!r1.2) with hb1 | hb1
  ·iterate 3 (refine l_skip S rfl rfl rfl (neq_t hb1) rfl ?_ rfl;clear S;intro a S)
   refine lv S (rn_or_t (decide ((r1.1.length : Int) < 4)) hb1 (S.tm rfl) rfl) rfl ?_;clear S;intro a S
   refine Ld (Tn ?_)
   exact ⟨Keep.refl _ _, S.nf [true, true] rfl (subR rfl)⟩
  ·refine l_want S rfl rfl rfl hb1 (lv S (Rm (S.tm rfl)) rfl ?_);clear S;intro a S
   refine l_want S rfl rfl rfl hb1 (lv S (rn_lenT sl_55 (S.tm rfl) (slc_len (ownV_slcT enc_str hs1))) rfl ?_);clear S;intro a S
   refine l_want S rfl rfl rfl hb1 (lv S (rn_lss (S.tm rfl) rfl) rfl ?_);clear S;intro a S
   refine lv S (rn_or_f hb1 (S.tm rfl) (S.tm rfl)) rfl ?_;clear S;intro a S
   refine Ld (Tn ?_)
   exact ⟨Keep.refl _ _, S.nf [true, true] rfl (subR rfl)⟩
 clear S;rintro a w2 ⟨hk2, S⟩
 refine Ld (Tn (f_cond (S.tm rfl) (fun hb2 => ?_) (fun hb2 => ?_)))
 ·replace h := iteT h hb2
  refine Fs (Fg (lv S (Ra rfl) rfl ?_));clear S;intro a S
  refine Ld (Tn (wp_ret (then_r ?_)))
  obtain rfl := Option.some.inj h
  exact f_ret S Tryz.results38 rfl ⟨Ak, S.grp [0, 1] [] rfl rfl rfl, rfl⟩
 ·replace h := iteF h hb2
  refine wp_skip (Tn (Fs (Fg (lv S (Rm (S.tm rfl)) rfl ?_))));clear S;intro a S
  obtain ⟨hc1, h⟩ := chkE h
  obtain ⟨v2, hs2, hr2⟩ := rn_cutT2 (a := a) (x := .tmp 22) (y := .const (iV 1)) (y' := .const (iV 3)) (ty := 55) sl_55 (ownV_slcT enc_str hs1) (S.tm rfl) rfl rfl hc1
  refine lv S (hr2 _) rfl ?_;clear S;intro a S
  clear hr2
  obtain ⟨r2, hr3, h⟩ := bindE h
  have hz2 := S.keep.size
  refine l_enter S (fun _ => run_call (vs := [v2, iV 15]) ⟨(S.tm rfl), rfl, trivial⟩ Tryz.call40) (words_Numbers_ok _ v2 (cut r1.1 1 3) (hs2.mono (S.le_new nil_sub)) 15 _ hr3) rfl ?_;clear S;intro v3 a w3 hv2 hk3 hn2 S
  obtain ⟨u2, rfl, ho2⟩ := hv2
  obtain ⟨φ2, hl2, hm2, S⟩ := S.see' hn2 hz2
  have hs3 := ho2.mono hm2
  refine lv S (Rm (S.tm rfl)) rfl ?_;clear S;intro a S
  refine lv S (rn_extract (S.tm rfl) rfl) rfl ?_;clear S;intro a S
  refine lv S (rn_extract (S.tm rfl) rfl) rfl ?_;clear S;intro a S
  refine lv S (Ra (S.tm rfl)) rfl ?_;clear S;intro a S
  refine lv S (Ra (S.tm rfl)) rfl ?_;clear S;intro a S
  refine Ld (Tn (Fs (Fs (Fg (lv S (Rm (S.tm rfl)) rfl ?_)))));clear S;intro a S
  refine lv S (rn_not (S.tm rfl)) rfl ?_;clear S;intro a S
  refine Ld (Tn (f_cond (S.tm rfl) (fun hb3 => ?_) (fun hb3 => ?_)))
  ·replace h := iteT h hb3
   refine Fs (Fg (lv S (Ra rfl) rfl ?_));clear S;intro a S
   refine Ld (Tn (wp_ret (then_r ?_)))
   obtain rfl := Option.some.inj h
   exact f_ret S Tryz.results38 rfl ⟨Ak, S.grp [0, 1] [] rfl rfl rfl, rfl⟩
  ·replace h := iteF h hb3
   refine wp_skip (Tn (Fs ?_))
   obtain ⟨j1, hj1, h⟩ := joinE h
   refine f_join (fun a w' => ∃ φ3 : View, ∃ b1 : Nat, j1 = some r ∧ View.le φ2 φ3 ∧ Sx w X φ3 [.blk b1 (GDeed.enc (GDeed.mk (nth r1.1 0) (nth r2.1 0) (nth r2.1 1) (W ((slices_Index_string meet_kinds (nth r1.1 3)) + 1)) k_empty k_empty k_empty 0 0 k_empty 0)) 39, .blk Aj [Ak] 26, .own Ak 39 11 Al.length (Al.flatMap GDeed.enc)] [(1, .pointer (some ⟨Aj, 0, none⟩)), (4, u1), (8, .pointer (some ⟨b1, 0, none⟩))] 53 a w') ?_ ?_
   ·obtain ⟨hc2, h⟩ := chkE h
    obtain ⟨hc3, h⟩ := chkE h
    obtain ⟨hc4, h⟩ := chkE h
    obtain ⟨hc5, h⟩ := chkE h
    refine d_region [] ([]) Tryz.mixed S rfl (by kernel_rfl) ?_;clear S;intro w9 hk8 hsel S
    refine d_quiet 0 S hsel rfl rfl rfl (by kernel_rfl) (by kernel_rfl) rfl (fun _ hw => (Rm (S.tm rfl))) ?_;clear S;intro a S
    obtain ⟨b7, o5, hm8, hr8⟩ := rn_indexT (a := a) (x := .tmp 29) (y := .const (iV 0)) (ty := 0) sl_55 ((ownV_slcT enc_str hs1).mono (View.le_trans hl2 (S.le_new nil_sub))) (inB_get hc2).1 (inB_get hc2).2 (S.tm rfl) rfl
    refine d_quiet 1 S hsel rfl rfl rfl (by kernel_rfl) (by kernel_rfl) rfl (fun _ hw => hr8 _) ?_;clear S;intro a S
    clear hr8
    refine d_quiet 2 S hsel rfl rfl rfl (by kernel_rfl) (by kernel_rfl) rfl (fun _ hw => (rn_ld Tryz.isAgg9 (off := o5) (o := 0) (S.tm rfl) (hm8.kept hw) rfl)) ?_;clear S;intro a S
    refine d_quiet 3 S hsel rfl rfl rfl (by kernel_rfl) (by kernel_rfl) rfl (fun _ hw => (Rm (S.tm rfl))) ?_;clear S;intro a S
    obtain ⟨b8, o6, hm9, hr9⟩ := rn_indexT (a := a) (x := .tmp 32) (y := .const (iV 0)) (ty := 0) sl_22 ((ownV_slcT enc_int hs3).mono (S.le_new nil_sub)) (inB_get hc3).1 (inB_get hc3).2 (S.tm rfl) rfl
    refine d_quiet 4 S hsel rfl rfl rfl (by kernel_rfl) (by kernel_rfl) rfl (fun _ hw => hr9 _) ?_;clear S;intro a S
    clear hr9
    refine d_quiet 5 S hsel rfl rfl rfl (by kernel_rfl) (by kernel_rfl) rfl (fun _ hw => (rn_ld Tryz.isAgg3 (off := o6) (o := 0) (S.tm rfl) (hm9.kept hw) rfl)) ?_;clear S;intro a S
    refine d_quiet 6 S hsel rfl rfl rfl (by kernel_rfl) (by kernel_rfl) rfl (fun _ hw => (Rm (S.tm rfl))) ?_;clear S;intro a S
    obtain ⟨b9, o7, hm10, hr10⟩ := rn_indexT (a := a) (x := .tmp 35) (y := .const (iV 1)) (ty := 0) sl_22 ((ownV_slcT enc_int hs3).mono (S.le_new nil_sub)) (inB_get hc4).1 (inB_get hc4).2 (S.tm rfl) rfl
    refine d_quiet 7 S hsel rfl rfl rfl (by kernel_rfl) (by kernel_rfl) rfl (fun _ hw => hr10 _) ?_;clear S;intro a S
    clear hr10
    refine d_quiet 8 S hsel rfl rfl rfl (by kernel_rfl) (by kernel_rfl) rfl (fun _ hw => (rn_ld Tryz.isAgg3 (off := o7) (o := 0) (S.tm rfl) (hm10.kept hw) rfl)) ?_;clear S;intro a S
    refine d_quiet 10 S hsel rfl rfl rfl (by kernel_rfl) (by kernel_rfl) rfl (fun _ hw => (Rm (S.tm rfl))) ?_;clear S;intro a S
    obtain ⟨b10, o8, hm11, hr11⟩ := rn_indexT (a := a) (x := .tmp 39) (y := .const (iV 3)) (ty := 0) sl_55 ((ownV_slcT enc_str hs1).mono (View.le_trans hl2 (S.le_new nil_sub))) (inB_get hc5).1 (inB_get hc5).2 (S.tm rfl) rfl
    refine d_quiet 11 S hsel rfl rfl rfl (by kernel_rfl) (by kernel_rfl) rfl (fun _ hw => hr11 _) ?_;clear S;intro a S
    clear hr11
    refine d_quiet 12 S hsel rfl rfl rfl (by kernel_rfl) (by kernel_rfl) rfl (fun _ hw => (rn_ld Tryz.isAgg9 (off := o8) (o := 0) (S.tm rfl) (hm11.kept hw) rfl)) ?_;clear S;intro a S
    refine d_loud2 9 16 (by kernel_rfl) rfl rfl ?_ ?_
    ·have hz5 := S.keep.size
     refine l_enter S (fun _ => run_call (vs := []) trivial Tryz.call25) (meet_kinds_ok _ _ rfl) rfl ?_;clear S;intro v6 a w10 hv5 hk9 hn5 S
     obtain ⟨φ5, hl5, hm12, S⟩ := S.see' hn5 hz5
     have hs5 := hv5.mono hm12
     refine Ld (d_next hk9 (d_loud2 13 16 (by kernel_rfl) rfl rfl ?_ ?_))
     ·refine l_enter S (fun _ => run_call (vs := [v6, sV (nth r1.1 3)]) ⟨(S.tm rfl), (S.tm rfl), trivial⟩ Tryz.call41) (slices_Index_string_ok _ v6 meet_kinds ((ownV_slcT enc_str hs5).mono (S.le_new nil_sub)) (nth r1.1 3) _ rfl) rfl ?_;clear S;intro v7 a w11 hv6 hk10 hn6 S
      subst hv6
      refine Ld (d_next hk10 (d_quiet 14 S hsel rfl rfl rfl (by kernel_rfl) (by kernel_rfl) rfl (fun _ hw => (rn_add (S.tm rfl) rfl)) ?_));clear S;intro a S
      refine d_quiet 15 S hsel rfl rfl rfl (by kernel_rfl) (by kernel_rfl) rfl (fun _ hw => (rn_bld bt_39 (pv := [(0, sV (nth r1.1 0)), (1, iV (nth r2.1 0)), (2, iV (nth r2.1 1)), (3, iV (W ((slices_Index_string meet_kinds (nth r1.1 3)) + 1)))]) ⟨rfl, (S.tm rfl), rfl, (S.tm rfl), rfl, (S.tm rfl), rfl, (S.tm rfl), trivial⟩ (cs := [sV (nth r1.1 0), iV (nth r2.1 0), iV (nth r2.1 1), iV (W ((slices_Index_string meet_kinds (nth r1.1 3)) + 1)), sV k_empty, sV k_empty, sV k_empty, iV 0, iV 0, sV k_empty, iV 0]) (by kernel_rfl))) ?_;clear S;intro a S
      refine d_loud1 16 (by kernel_rfl) rfl (l_alloc S Tryz.zeroValue39 (cs := [sV k_empty, iV 0, iV 0, iV 0, sV k_empty, sV k_empty, sV k_empty, iV 0, iV 0, sV k_empty, iV 0]) rfl rfl ?_);clear S;intro a w12 b11 hz6 hk11 S
      refine Ld (d_nextN ([b11]) hk11 (new1 hz6) (d_loud1 17 (by kernel_rfl) rfl (l_store S (S.tm rfl) (S.tm rfl) (i := 0) (off := 0) rfl Tryz.sizeOf39 (vs := (GDeed.enc (GDeed.mk (nth r1.1 0) (nth r2.1 0) (nth r2.1 1) (W ((slices_Index_string meet_kinds (nth r1.1 3)) + 1)) k_empty k_empty k_empty 0 0 k_empty 0))) rfl rfl rfl rfl ?_)));clear S;intro w13 hk12 S
      refine Ld (d_next hk12 (d_end (by kernel_rfl) ?_))
      clear hsel
      replace S := S.nk [.blk b11 (GDeed.enc (GDeed.mk (nth r1.1 0) (nth r2.1 0) (nth r2.1 1) (W ((slices_Index_string meet_kinds (nth r1.1 3)) + 1)) k_empty k_empty k_empty 0 0 k_empty 0)) 39, .blk Aj [Ak] 26, .own Ak 39 11 Al.length (Al.flatMap GDeed.enc)] [(1, .pointer (some ⟨Aj, 0, none⟩)), (4, u1), (8, .pointer (some ⟨b11, 0, none⟩))] [true, true, true] rfl (subR rfl)
      refine Tn ?_
      exact ⟨φ5, b11, h, hl5, S.nf [true, true, true] rfl (subR rfl)⟩
     ·refine l_alloc S Tryz.zeroValue39 (cs := [sV k_empty, iV 0, iV 0, iV 0, sV k_empty, sV k_empty, sV k_empty, iV 0, iV 0, sV k_empty, iV 0]) rfl rfl ?_;clear S;intro a w14 b12 hz7 hk13 S
      refine Ld (d_nextN ([b12]) hk13 (new1 hz7) (d_loud1 13 (by kernel_rfl) rfl (l_enter S (fun _ => run_call (vs := [v6, sV (nth r1.1 3)]) ⟨(S.tm rfl), (S.tm rfl), trivial⟩ Tryz.call41) (slices_Index_string_ok _ v6 meet_kinds ((ownV_slcT enc_str hs5).mono (S.le_new nil_sub)) (nth r1.1 3) _ rfl) rfl ?_)));clear S;intro v8 a w15 hv7 hk14 hn7 S
      subst hv7
      refine Ld (d_next (Keep.none hk14) (d_quiet 14 S hsel rfl rfl rfl (by kernel_rfl) (by kernel_rfl) rfl (fun _ hw => (rn_add (S.tm rfl) rfl)) ?_));clear S;intro a S
      refine d_quiet 15 S hsel rfl rfl rfl (by kernel_rfl) (by kernel_rfl) rfl (fun _ hw => (rn_bld bt_39 (pv := [(0, sV (nth r1.1 0)), (1, iV (nth r2.1 0)), (2, iV (nth r2.1 1)), (3, iV (W ((slices_Index_string meet_kinds (nth r1.1 3)) + 1)))]) ⟨rfl, (S.tm rfl), rfl, (S.tm rfl), rfl, (S.tm rfl), rfl, (S.tm rfl), trivial⟩ (cs := [sV (nth r1.1 0), iV (nth r2.1 0), iV (nth r2.1 1), iV (W ((slices_Index_string meet_kinds (nth r1.1 3)) + 1)), sV k_empty, sV k_empty, sV k_empty, iV 0, iV 0, sV k_empty, iV 0]) (by kernel_rfl))) ?_;clear S;intro a S
      refine d_loud1 17 (by kernel_rfl) rfl (l_store S (S.tm rfl) (S.tm rfl) (i := 0) (off := 0) rfl Tryz.sizeOf39 (vs := (GDeed.enc (GDeed.mk (nth r1.1 0) (nth r2.1 0) (nth r2.1 1) (W ((slices_Index_string meet_kinds (nth r1.1 3)) + 1)) k_empty k_empty k_empty 0 0 k_empty 0))) rfl rfl rfl rfl ?_);clear S;intro w16 hk15 S
      refine Ld (d_next hk15 (d_end (by kernel_rfl) ?_))
      clear hsel
      replace S := S.nk [.blk b12 (GDeed.enc (GDeed.mk (nth r1.1 0) (nth r2.1 0) (nth r2.1 1) (W ((slices_Index_string meet_kinds (nth r1.1 3)) + 1)) k_empty k_empty k_empty 0 0 k_empty 0)) 39, .blk Aj [Ak] 26, .own Ak 39 11 Al.length (Al.flatMap GDeed.enc)] [(1, .pointer (some ⟨Aj, 0, none⟩)), (4, u1), (8, .pointer (some ⟨b12, 0, none⟩))] [true, true, true] rfl (subR rfl)
      refine Tn ?_
      exact ⟨φ5, b12, h, hl5, S.nf [true, true, true] rfl (subR rfl)⟩
    ·refine l_alloc S Tryz.zeroValue39 (cs := [sV k_empty, iV 0, iV 0, iV 0, sV k_empty, sV k_empty, sV k_empty, iV 0, iV 0, sV k_empty, iV 0]) rfl rfl ?_;clear S;intro a w17 b13 hz8 hk16 S
     refine Ld (d_nextN ([b13]) hk16 (new1 hz8) (d_loud1 9 (by kernel_rfl) rfl ?_))
     have hz9 := S.keep.size
     refine l_enter S (fun _ => run_call (vs := []) trivial Tryz.call25) (meet_kinds_ok _ _ rfl) rfl ?_;clear S;intro v9 a w18 hv8 hk17 hn8 S
     obtain ⟨φ6, hl6, hm13, S⟩ := S.see' hn8 hz9
     have hs6 := hv8.mono hm13
     refine Ld (d_next (Keep.none hk17) (d_loud1 13 (by kernel_rfl) rfl (l_enter S (fun _ => run_call (vs := [v9, sV (nth r1.1 3)]) ⟨(S.tm rfl), (S.tm rfl), trivial⟩ Tryz.call41) (slices_Index_string_ok _ v9 meet_kinds ((ownV_slcT enc_str hs6).mono (S.le_new nil_sub)) (nth r1.1 3) _ rfl) rfl ?_)));clear S;intro v10 a w19 hv9 hk18 hn9 S
     subst hv9
     refine Ld (d_next (Keep.none hk18) (d_quiet 14 S hsel rfl rfl rfl (by kernel_rfl) (by kernel_rfl) rfl (fun _ hw => (rn_add (S.tm rfl) rfl)) ?_));clear S;intro a S
     refine d_quiet 15 S hsel rfl rfl rfl (by kernel_rfl) (by kernel_rfl) rfl (fun _ hw => (rn_bld bt_39 (pv := [(0, sV (nth r1.1 0)), (1, iV (nth r2.1 0)), (2, iV (nth r2.1 1)), (3, iV (W ((slices_Index_string meet_kinds (nth r1.1 3)) + 1)))]) ⟨rfl, (S.tm rfl), rfl, (S.tm rfl), rfl, (S.tm rfl), rfl, (S.tm rfl), trivial⟩ (cs := [sV (nth r1.1 0), iV (nth r2.1 0), iV (nth r2.1 1), iV (W ((slices_Index_string meet_kinds (nth r1.1 3)) + 1)), sV k_empty, sV k_empty, sV k_empty, iV 0, iV 0, sV k_empty, iV 0]) (by kernel_rfl))) ?_;clear S;intro a S
     refine d_loud1 17 (by kernel_rfl) rfl (l_store S (S.tm rfl) (S.tm rfl) (i := 0) (off := 0) rfl Tryz.sizeOf39 (vs := (GDeed.enc (GDeed.mk (nth r1.1 0) (nth r2.1 0) (nth r2.1 1) (W ((slices_Index_string meet_kinds (nth r1.1 3)) + 1)) k_empty k_empty k_empty 0 0 k_empty 0))) rfl rfl rfl rfl ?_);clear S;intro w20 hk19 S
     refine Ld (d_next hk19 (d_end (by kernel_rfl) ?_))
     clear hsel
     replace S := S.nk [.blk b13 (GDeed.enc (GDeed.mk (nth r1.1 0) (nth r2.1 0) (nth r2.1 1) (W ((slices_Index_string meet_kinds (nth r1.1 3)) + 1)) k_empty k_empty k_empty 0 0 k_empty 0)) 39, .blk Aj [Ak] 26, .own Ak 39 11 Al.length (Al.flatMap GDeed.enc)] [(1, .pointer (some ⟨Aj, 0, none⟩)), (4, u1), (8, .pointer (some ⟨b13, 0, none⟩))] [true, true, true] rfl (subR rfl)
     refine Tn ?_
     exact ⟨φ6, b13, h, hl6, S.nf [true, true, true] rfl (subR rfl)⟩
   clear S h;rintro a w4 ⟨φ3, b1, h, hl3, S⟩;rw [hj1] at h;clear hj1 j1
   refine Tn (Fs (Fg (lv S (Rm (S.tm rfl)) rfl ?_)));clear S;intro a S
   obtain ⟨hc6, h⟩ := chkE h
   obtain ⟨v11, hs7, hr12⟩ := rn_cutTl (a := a) (x := .tmp 45) (y := .const (iV 4)) (ty := 55) sl_55 (ownV_slcT enc_str hs1) (S.tm rfl) rfl hc6
   refine lv S (hr12 _) rfl ?_;clear S;intro a S
   clear hr12
   obtain ⟨r3, hr13, h⟩ := bindE h
   refine l_enter1 0 S (b := b1) rfl rfl (fun _ => .blk b1 (GDeed.enc (GDeed.mk (nth r1.1 0) (nth r2.1 0) (nth r2.1 1) (W ((slices_Index_string meet_kinds (nth r1.1 3)) + 1)) r3.2.1 r3.2.2.1 r3.2.2.2.1 r3.2.2.2.2.1 r3.2.2.2.2.2.1 r3.2.2.2.2.2.2.1 r3.2.2.2.2.2.2.2)) 39) (fun _ => run_call (vs := [.pointer (some ⟨b1, 0, none⟩), v11]) ⟨(S.tm rfl), (S.tm rfl), trivial⟩ Tryz.call42) (meet_readRest_ok _ b1 (nth r1.1 0) (nth r2.1 0) (nth r2.1 1) (W ((slices_Index_string meet_kinds (nth r1.1 3)) + 1)) k_empty k_empty k_empty 0 0 k_empty 0 (S.holds _ (List.mem_of_getElem? (i := 0) rfl)) v11 (cut r1.1 4 r1.1.length) (hs7.mono (View.le_trans (View.le_trans hl2 hl3) (S.le_new (fp_sub (i := 0) (e := .blk b1 (GDeed.enc (GDeed.mk (nth r1.1 0) (nth r2.1 0) (nth r2.1 1) (W ((slices_Index_string meet_kinds (nth r1.1 3)) + 1)) k_empty k_empty k_empty 0 0 k_empty 0)) 39) rfl)))) _ hr13) rfl (fun _ _ _ h => ⟨h.1, fun _ hc => by cases hc;rfl⟩) ?_;clear S;intro v12 a w21 hv10 hk20 hn10 S
   replace hv10 := hv10.2
   subst hv10
   refine lv S (Ra (S.tm rfl)) rfl ?_;clear S;intro a S
   refine Ld (Tn (Fs (Fg (lv S (rn_load Tryz.isAgg26 (S.tm rfl) (S.cell (i := 1) rfl rfl)) rfl ?_))));clear S;intro a S
   refine lv S (rn_ldA Tryz.isAgg39 Tryz.sizeOf39 (off := 0) (o := 0) (part := (GDeed.enc (GDeed.mk (nth r1.1 0) (nth r2.1 0) (nth r2.1 1) (W ((slices_Index_string meet_kinds (nth r1.1 3)) + 1)) r3.2.1 r3.2.2.1 r3.2.2.2.1 r3.2.2.2.2.1 r3.2.2.2.2.2.1 r3.2.2.2.2.2.2.1 r3.2.2.2.2.2.2.2))) rfl rfl (S.tm rfl) (S.cellsAt (i := 0) rfl)) rfl ?_;clear S;intro a S
   refine l_buildSlice S Tryz.underlying26 Tryz.sizeOf39 Tryz.zeroValue39 rfl rfl (pv := [(0, .agg (GDeed.enc (GDeed.mk (nth r1.1 0) (nth r2.1 0) (nth r2.1 1) (W ((slices_Index_string meet_kinds (nth r1.1 3)) + 1)) r3.2.1 r3.2.2.1 r3.2.2.2.1 r3.2.2.2.2.1 r3.2.2.2.2.2.1 r3.2.2.2.2.2.2.1 r3.2.2.2.2.2.2.2)).toArray)]) ⟨rfl, (S.tm rfl), trivial⟩ (cs := [sV (nth r1.1 0), iV (nth r2.1 0), iV (nth r2.1 1), iV (W ((slices_Index_string meet_kinds (nth r1.1 3)) + 1)), sV r3.2.1, sV r3.2.2.1, sV r3.2.2.2.1, iV r3.2.2.2.2.1, iV r3.2.2.2.2.2.1, sV r3.2.2.2.2.2.2.1, iV r3.2.2.2.2.2.2.2]) (by kernel_rfl) rfl ?_;clear S;intro a w22 b14 hz10 hk21 S
   obtain ⟨hc7, h⟩ := chkE h
   refine l_appendT sl_26 GDeed.enc_ok S (S.tm rfl) (i := 3) rfl (S.tm rfl) (j := 0) rfl (ys := [(GDeed.mk (nth r1.1 0) (nth r2.1 0) (nth r2.1 1) (W ((slices_Index_string meet_kinds (nth r1.1 3)) + 1)) r3.2.1 r3.2.2.1 r3.2.2.2.1 r3.2.2.2.2.1 r3.2.2.2.2.2.1 r3.2.2.2.2.2.2.1 r3.2.2.2.2.2.2.2)]) rfl rfl rfl rfl (by have := room_lt hc7;omega) rfl ?_;clear S;intro v13 a w23 hk22 S
   refine l_store S (S.tm rfl) (S.tm rfl) (i := 2) (off := 0) rfl Tryz.sizeOf26 (vs := [v13]) (SlcLen.cells (own_len (S.own_at (i := 3) rfl))) rfl rfl (all1 (SlcLen.one (own_len (S.own_at (i := 3) rfl))) rfl) ?_;clear S;intro w24 hk23 S
   refine Ld (Tn (Fs (Fg (lv S (Rm (S.tm rfl)) rfl ?_))));clear S;intro a S
   refine lv S (Ra (S.tm rfl)) rfl ?_;clear S;intro a S
   refine Ld (Tn (wp_ret ?_))
   obtain rfl := Option.some.inj h
   exact f_ret S Tryz.results38 rfl ⟨v13, S.grp [2, 3] [0, 1] rfl rfl rfl, rfl⟩
theorem words_Lines_meet_Read_c1_ok (w : World) (X : List Nat) (Bw : ByteArray) (Ag : Nat) (Az : Value) (Bg : List GDeed) (Dc : (LEnt.own Az 39 11 Bg.length (Bg.flatMap GDeed.enc)).holds w) (Dd : (LEnt.blk Ag [Az] 26).holds w) (hg_maxlen : GlobI (view w X) 0) (hXn : X.Nodup) (hXe : X = fps [.blk Ag [Az] 26, .own Az 39 11 Bg.length (Bg.flatMap GDeed.enc)]) (r : Int × Bool × (List GDeed)) (h : words_Lines_meet_Read_c1 Bw Bg = some r) :
    Calls Tryz.prog 37 [sV Bw, .func (.func 38) #[] #[.pointer (some ⟨Ag, 0, none⟩)]].toArray w (Ret w X fun _ v w' => ∃ y1 : Value, Grp w w' X [.blk Ag [y1] 26, .own y1 39 11 r.2.2.length (r.2.2.flatMap GDeed.enc)] ∧ v = .tuple #[iV r.1, bV r.2.1]) := by
 refine f_enter X [.blk Ag [Az] 26, .own Az 39 11 Bg.length (Bg.flatMap GDeed.enc)] Tryz.func37 rfl Tryz.ntmps37 rfl (fun e he => by simp only [List.mem_cons, List.not_mem_nil, or_false] at he;rcases he with rfl | rfl <;> assumption) (by rw [← hXe];exact hXn) (fun b hb => by rw [hXe];exact hb) fun a S => ?_
 unfold words_Lines_meet_Read_c1 at h
 replace S := S.nk [.blk Ag [Az] 26, .own Az 39 11 Bg.length (Bg.flatMap GDeed.enc)] [(0, sV Bw), (1, .func (.func 38) #[] #[.pointer (some ⟨Ag, 0, none⟩)])] [true, true] rfl (subR rfl)
 refine Fs (Fg (lv S (Ra rfl) rfl ?_));clear S;intro a S
 refine lv S (Ra rfl) rfl ?_;clear S;intro a S
 refine Ld (Tn (Fs (Fs (Fg (lv S (Ra rfl) rfl ?_)))));clear S;intro a S
 refine Ld (Tn ?_)
 replace S := S.nk [.blk Ag [Az] 26, .own Az 39 11 Bg.length (Bg.flatMap GDeed.enc)] [(0, sV Bw), (1, .func (.func 38) #[] #[.pointer (some ⟨Ag, 0, none⟩)]), (6, iV 0)] [true, true] rfl (subR rfl)
 obtain ⟨j1, hj1, h⟩ := joinE h
 refine f_join (fun a w' => ∃ x1 : List GDeed, ∃ v1 : Value, j1 x1 = some r ∧ Sx w X nov [.blk Ag [v1] 26, .own v1 39 11 x1.length (x1.flatMap GDeed.enc)] [] 30 a w') ?_ ?_
 ·refine wp_block (f_loop (fun (m1 : Nat) a w' => ∃ x1 : List GDeed, ∃ x2 : ByteArray, ∃ x3 : Int, ∃ v1 : Value, words_Lines_meet_Read_c1_l1 j1 m1 x1 x2 x3 = some r ∧ Sx w X nov [.blk Ag [v1] 26, .own v1 39 11 x1.length (x1.flatMap GDeed.enc)] [(0, sV x2), (1, .func (.func 38) #[] #[.pointer (some ⟨Ag, 0, none⟩)]), (6, iV x3)] 30 a w') id 4611686018427387904 ⟨Bg, Bw, 0, Az, h, S.nf [true, true] rfl (subR rfl)⟩ ?_)
  clear S h;rintro m1 a w1 ⟨x1, x2, x3, v1, h, S⟩
  cases m1 with
  | zero => rw [words_Lines_meet_Read_c1_l1.eq_1] at h;cases h
  | succ m1 =>
   rw [words_Lines_meet_Read_c1_l1.eq_2] at h
   refine Fs (Fs (Fg (lv S (Rm (S.tm rfl)) rfl ?_)));clear S;intro a S
   refine lv S (rn_sneq (S.tm rfl) rfl) rfl ?_;clear S;intro a S
   refine Ld (Tn (f_cond (S.tm rfl) (fun hb1 => ?_) (fun hb1 => ?_)))
   ·replace h := iteT h hb1
    refine wp_skip (Tn (Fs (wp_block (Fs (Fg (lv S (Rm (S.tm rfl)) rfl ?_))))));clear S;intro a S
    obtain ⟨r1, hr1, h⟩ := bindE h
    refine l_enter S (fun _ => run_call (vs := [sV x2, sV k__0a]) ⟨(S.tm rfl), rfl, trivial⟩ Tryz.call63) (strings_Cut_ok _ x2 k__0a (hg_maxlen.mono (S.le_arg nil_sub)) _ hr1) rfl ?_;clear S;intro v2 a w3 hv1 hk1 hn1 S
    subst hv1
    refine lv S (Rm (S.tm rfl)) rfl ?_;clear S;intro a S
    iterate 3 (refine lv S (rn_extract (S.tm rfl) rfl) rfl ?_;clear S;intro a S)
    iterate 3 (refine lv S (Ra (S.tm rfl)) rfl ?_;clear S;intro a S)
    refine Ld (Tn (Fs (Fs (Fg (lv S (Rm (S.tm rfl)) rfl ?_)))));clear S;intro a S
    refine lv S (rn_not (S.tm rfl)) rfl ?_;clear S;intro a S
    refine lv S (Rm (S.tm rfl)) rfl ?_;clear S;intro a S
    obtain ⟨j2, hj2, h⟩ := joinE h
    refine f_cutm 5 (fun a w' => ∃ x4 : List GDeed, ∃ x5 : Bool, ∃ v3 : Value, j2 x4 x5 = some r ∧ Sx w X nov [.blk Ag [v3] 26, .own v3 39 11 x4.length (x4.flatMap GDeed.enc)] [(1, .func (.func 38) #[] #[.pointer (some ⟨Ag, 0, none⟩)]), (6, iV x3), (8, sV r1.2.1), (27, bV x5)] 30 a w') ?_ ?_
    ·rcases Bool.eq_false_or_eq_true (!r1.2.2) with hb2 | hb2
     ·replace h := iteT h hb2
      iterate 4 (refine l_skip S rfl rfl rfl (neq_t hb2) rfl ?_ rfl;clear S;intro a S)
      refine lv S (rn_pick_b hb2 (S.tm rfl) rfl) rfl ?_;clear S;intro a S
      refine Ld (Tn ?_)
      exact ⟨x1, true, v1, h, S.nf [true, true] rfl (subR rfl)⟩
     ·replace h := iteF h hb2
      refine l_want S rfl rfl rfl hb2 (lv S (Rm (S.tm rfl)) rfl ?_);clear S;intro a S
      refine l_want S rfl rfl rfl hb2 (lv S (Rm (S.tm rfl)) rfl ?_);clear S;intro a S
      refine l_want S rfl rfl rfl hb2 ?_
      obtain ⟨r2, hr2, h⟩ := bindE h
      refine l_enterG [0, 1] [] (Ls := [.blk Ag [v1] 26, .own v1 39 11 x1.length (x1.flatMap GDeed.enc)]) (Lr := []) (Y := [Ag] ++ v1.ownBlock.toList) S rfl rfl rfl (by simp [fps_cons, fps_nil, LEnt.fp]) (fun _ => run_callV (cap := [.pointer (some ⟨Ag, 0, none⟩)]) (S.tm rfl) (vs := [sV r1.1]) ⟨(S.tm rfl), trivial⟩ Tryz.call38) (meet_Read_c1_ok _ ([Ag] ++ v1.ownBlock.toList) r1.1 Ag v1 x1 (S.holds _ (List.mem_of_getElem? (i := 1) rfl)) (S.holds _ (List.mem_of_getElem? (i := 0) rfl)) (hg_maxlen.mono (S.le_arg (app_sub (fp_sub (i := 0) (e := .blk Ag [v1] 26) rfl) (fp_sub (i := 1) (e := .own v1 39 11 x1.length (x1.flatMap GDeed.enc)) rfl)))) (S.ndg [0, 1] [] rfl rfl rfl (by simp [fps_cons, fps_nil, LEnt.fp])) (by simp [fps_cons, fps_nil, LEnt.fp]) _ hr2) rfl ?_;clear S;intro v4 a w5 hv2 hk2 hn2 S
      obtain ⟨v5, hg1, hv2⟩ := hv2;replace S := S _ hg1;clear hg1
      subst hv2
      refine l_want S rfl rfl rfl hb2 (lv S (rn_not (S.tm rfl)) rfl ?_);clear S;intro a S
      refine lv S (rn_pick_c hb2 (S.tm rfl) (S.tm rfl)) rfl ?_;clear S;intro a S
      refine Ld (Tn ?_)
      exact ⟨r2.2, !r2.1, v5, h, S.nf [true, true] rfl (subR rfl)⟩
    clear S h;rintro a w4 ⟨x4, x5, v3, h, S⟩;rw [hj2] at h;clear hj2 j2
    refine Ld (Tn (f_cond (S.tm rfl) (fun hb3 => ?_) (fun hb3 => ?_)))
    ·replace h := iteT h hb3
     refine Fs (Fg (lv S (Rm (S.tm rfl)) rfl ?_));clear S;intro a S
     refine lv S (Ra (S.tm rfl)) rfl ?_;clear S;intro a S
     refine lv S (Ra rfl) rfl ?_;clear S;intro a S
     refine Ld (Tn (wp_ret (then_r (blk_r (then_r (then_r ?_))))))
     refine blk_r (then_r (then_r ?_))
     obtain rfl := Option.some.inj h
     exact f_ret2 S Tryz.results37 rfl rfl ⟨v3, S.grp [0, 1] [] rfl rfl rfl, rfl⟩
    ·replace h := iteF h hb3
     refine wp_skip (Tn (Fg (lv S (Rm (S.tm rfl)) rfl ?_)));clear S;intro a S
     refine lv S (Ra (S.tm rfl)) rfl ?_;clear S;intro a S
     refine Ld (blk_n (Tn (Fg (lv S (Rm (S.tm rfl)) rfl ?_))));clear S;intro a S
     refine lv S (rn_add (S.tm rfl) rfl) rfl ?_;clear S;intro a S
     refine lv S (Ra (S.tm rfl)) rfl ?_;clear S;intro a S
     refine Ld (Tn ?_)
     exact ⟨m1, ⟨x4, r1.2.1, W (x3 + 1), v3, h, S.nf [true, true] rfl ⟨rfl, rfl, rfl, trivial⟩⟩, Nat.lt_succ_self _⟩
   ·replace h := iteF h hb1
    refine wp_exit (then_x (then_x (x_same (Tn ?_))))
    exact ⟨x1, v1, h, S.nf [true, true] rfl trivial⟩
 clear S h;rintro a w2 ⟨x1, v1, h, S⟩;rw [hj1] at h;clear hj1 j1
 refine Tn (Fs (Fg (lv S (Ra rfl) rfl ?_)));clear S;intro a S
 refine lv S (Ra rfl) rfl ?_;clear S;intro a S
 refine Ld (Tn (wp_ret ?_))
 obtain rfl := Option.some.inj h
 exact f_ret2 S Tryz.results37 rfl rfl ⟨v1, S.grp [0, 1] [] rfl rfl rfl, rfl⟩
theorem meet_Read_ok (w : World) (Bw : ByteArray) (hg_maxlen : GlobI (view w []) 0) (r : (List GDeed) × Int × Int) (h : meet_Read Bw = some r) :
    Calls Tryz.prog 10 [sV Bw].toArray w (Ret w [] fun τ v _ => ∃ u1 : Value, v = .tuple #[u1, iV r.2.1, iV r.2.2] ∧ OwnV τ 39 11 u1 r.1.length (r.1.flatMap GDeed.enc)) := by
 refine f_enter [] [] Tryz.func10 rfl Tryz.ntmps10 rfl (by simp) (by simp [fps]) (by simp [fps]) fun a S => ?_
 unfold meet_Read at h
 replace S := S.nk [] [(0, sV Bw)] [] rfl ⟨rfl, trivial⟩
 refine Fs (Fg (lv S (Ra rfl) rfl ?_));clear S;intro a S
 refine lv S (Ra rfl) rfl ?_;clear S;intro a S
 refine lv S (Ra rfl) rfl ?_;clear S;intro a S
 refine Ld (Tn (Fs (Fs (Fg (lv S (Rm (S.tm rfl)) rfl ?_)))));clear S;intro a S
 refine lv S (rn_len_str Tryz.underlying9 (S.tm rfl)) rfl ?_;clear S;intro a S
 refine lv S (rn_gtr (S.tm rfl) rfl) rfl ?_;clear S;intro a S
 refine Ld (Tn (f_cond (S.tm rfl) (fun hb1 => ?_) (fun hb1 => ?_)))
 ·replace h := iteT h hb1
  refine Fs (Fg (lv S (Ra rfl) rfl ?_));clear S;intro a S
  refine lv S (Ra rfl) rfl ?_;clear S;intro a S
  refine lv S (Ra rfl) rfl ?_;clear S;intro a S
  refine Ld (Tn (wp_ret (then_r ?_)))
  obtain rfl := Option.some.inj h
  exact f_ret3 S Tryz.results10 rfl rfl rfl ⟨_, rfl, (ownV_nil _ _ _)⟩
 ·replace h := iteF h hb1
  refine wp_skip (Tn (Fs (Fg (l_alloc S Tryz.zeroValue26 (cs := [.slice none 0 0]) rfl rfl ?_))));clear S;intro a w1 b1 hz1 hk1 S
  refine Ld (Tn (Fs (Fs (Fg (lv S (Rm (S.tm rfl)) rfl ?_)))));clear S;intro a S
  refine lv S (rn_makeFunc (us := #[]) (xs := [].toArray) (ys := [.tmp 5].toArray) (by simp) (evA ⟨(S.tm rfl), trivial⟩ (vs := [.pointer (some ⟨b1, 0, none⟩)]))) rfl ?_;clear S;intro a S
  replace S := S.nil 39 11
  obtain ⟨r1, hr1, h⟩ := bindE h
  refine l_enterG [1, 0] [] (Ls := [.blk b1 [(.slice none 0 0)] 26, .own (.slice none 0 0) 39 11 ([] : List GDeed).length (([] : List GDeed).flatMap GDeed.enc)]) (Lr := []) (Y := [b1] ++ (Value.ownBlock (.slice none 0 0)).toList) S rfl rfl rfl (by simp [fps_cons, fps_nil, LEnt.fp]) (fun _ => run_call (vs := [sV Bw, .func (.func 38) #[] #[.pointer (some ⟨b1, 0, none⟩)]]) ⟨(S.tm rfl), (S.tm rfl), trivial⟩ Tryz.call37) (words_Lines_meet_Read_c1_ok _ ([b1] ++ (Value.ownBlock (.slice none 0 0)).toList) Bw b1 (.slice none 0 0) ([] : List GDeed) (S.holds _ (List.mem_of_getElem? (i := 0) rfl)) (S.holds _ (List.mem_of_getElem? (i := 1) rfl)) (hg_maxlen.mono (S.le_arg (app_sub (fp_sub (i := 1) (e := .blk b1 [(.slice none 0 0)] 26) rfl) (fp_sub (i := 0) (e := .own (.slice none 0 0) 39 11 ([] : List GDeed).length (([] : List GDeed).flatMap GDeed.enc)) rfl)))) (S.ndg [1, 0] [] rfl rfl rfl (by simp [fps_cons, fps_nil, LEnt.fp])) (by simp [fps_cons, fps_nil, LEnt.fp]) _ hr1) rfl ?_;clear S;intro v1 a w2 hv1 hk2 hn1 S
  obtain ⟨v2, hg1, hv1⟩ := hv1;replace S := S _ hg1;clear hg1
  subst hv1
  refine lv S (Rm (S.tm rfl)) rfl ?_;clear S;intro a S
  refine lv S (rn_extract (S.tm rfl) rfl) rfl ?_;clear S;intro a S
  refine lv S (rn_extract (S.tm rfl) rfl) rfl ?_;clear S;intro a S
  refine lv S (Ra (S.tm rfl)) rfl ?_;clear S;intro a S
  refine lv S (Ra (S.tm rfl)) rfl ?_;clear S;intro a S
  refine Ld ?_
  replace S := S.nk [.blk b1 [v2] 26, .own v2 39 11 r1.2.2.length (r1.2.2.flatMap GDeed.enc)] [(5, .pointer (some ⟨b1, 0, none⟩)), (6, iV r1.1), (7, bV r1.2.1)] [true, true] rfl (subR rfl)
  refine Tn (Fs (Fg (lv S (Rm (S.tm rfl)) rfl ?_)));clear S;intro a S
  refine lv S (rn_not (S.tm rfl)) rfl ?_;clear S;intro a S
  refine Ld (Tn (f_cond (S.tm rfl) (fun hb2 => ?_) (fun hb2 => ?_)))
  ·replace h := iteT h hb2
   refine Fs (Fg (lv S (Rm (S.tm rfl)) rfl ?_));clear S;intro a S
   refine lv S (Ra rfl) rfl ?_;clear S;intro a S
   refine lv S (Ra (S.tm rfl)) rfl ?_;clear S;intro a S
   refine lv S (Ra rfl) rfl ?_;clear S;intro a S
   refine Ld (Tn (wp_ret (then_r ?_)))
   obtain rfl := Option.some.inj h
   exact f_ret3 S Tryz.results10 rfl rfl rfl ⟨_, rfl, (ownV_nil _ _ _)⟩
  ·replace h := iteF h hb2
   refine wp_skip (Tn (Fs (Fs (Fg (lv S (rn_load Tryz.isAgg26 (S.tm rfl) (S.cell (i := 0) rfl rfl)) rfl ?_)))));clear S;intro a S
   obtain ⟨r2, hr2, h⟩ := bindE h
   refine l_enter S (fun _ => run_call (vs := [v2]) ⟨(S.tm rfl), trivial⟩ Tryz.call23) (meet_CheckDeeds_ok _ v2 r1.2.2 (own_slcT GDeed.enc_ok S (i := 1) rfl (ne_nil (e' := .own v2 39 11 r1.2.2.length (r1.2.2.flatMap GDeed.enc)))) _ hr2) rfl ?_;clear S;intro v3 a w3 hv2 hk3 hn2 S
   subst hv2
   refine lv S (Ra (S.tm rfl)) rfl ?_;clear S;intro a S
   refine Ld (Tn (Fs (Fg (lv S (Rm (S.tm rfl)) rfl ?_))));clear S;intro a S
   refine lv S (rn_neq (S.tm rfl) rfl) rfl ?_;clear S;intro a S
   refine Ld (Tn (f_cond (S.tm rfl) (fun hb3 => ?_) (fun hb3 => ?_)))
   ·replace h := iteT h hb3
    refine Fs (Fg (lv S (Rm (S.tm rfl)) rfl ?_));clear S;intro a S
    refine lv S (Ra rfl) rfl ?_;clear S;intro a S
    refine lv S (Ra rfl) rfl ?_;clear S;intro a S
    refine lv S (Ra (S.tm rfl)) rfl ?_;clear S;intro a S
    refine Ld (Tn (wp_ret (then_r ?_)))
    obtain rfl := Option.some.inj h
    exact f_ret3 S Tryz.results10 rfl rfl rfl ⟨_, rfl, (ownV_nil _ _ _)⟩
   ·replace h := iteF h hb3
    refine wp_skip (Tn (Fs (Fg (lv S (rn_load Tryz.isAgg26 (S.tm rfl) (S.cell (i := 0) rfl rfl)) rfl ?_))));clear S;intro a S
    refine lv S (Ra (S.tm rfl)) rfl ?_;clear S;intro a S
    refine lv S (Ra rfl) rfl ?_;clear S;intro a S
    refine lv S (Ra rfl) rfl ?_;clear S;intro a S
    refine Ld (Tn (wp_ret ?_))
    obtain rfl := Option.some.inj h
    exact f_ret3 S Tryz.results10 rfl rfl rfl ⟨_, rfl, (own_retT S (i := 1) rfl rfl)⟩
theorem slices_Contains_string_ok (w : World) (Am : Value) (Ad : List ByteArray) (By : Slc (view w []) 1 Am (Ad.map eStr)) (Cv : ByteArray) (r : Bool) (h : slices_Contains_string Ad Cv = r) :
    Calls Tryz.prog 67 [Am, sV Cv].toArray w (Ret w [] fun _ v _ => v = bV r) := by
 refine f_enter [] [] Tryz.func67 rfl Tryz.ntmps67 rfl (by simp) (by simp [fps]) (by simp [fps]) fun a S => ?_
 unfold slices_Contains_string at h
 replace S := S.nk [] [(0, Am), (1, sV Cv)] [] rfl (subR rfl)
 refine Fs (Fg (lv S (Ra rfl) rfl ?_));clear S;intro a S
 refine Ld (Tn (Fs (Fg (lv S (Rm (S.tm rfl)) rfl ?_))));clear S;intro a S
 refine lv S (Rm (S.tm rfl)) rfl ?_;clear S;intro a S
 refine l_enter S (fun _ => run_call (vs := [Am, sV Cv]) ⟨(S.tm rfl), (S.tm rfl), trivial⟩ Tryz.call41) (slices_Index_string_ok _ Am Ad (By.mono (S.le_arg nil_sub)) Cv _ rfl) rfl ?_;clear S;intro v1 a w1 hv1 hk1 hn1 S
 subst hv1
 refine lv S (rn_geq (S.tm rfl) rfl) rfl ?_;clear S;intro a S
 refine lv S (Ra (S.tm rfl)) rfl ?_;clear S;intro a S
 refine Ld (Tn (wp_ret ?_))
 subst h
 exact f_ret S Tryz.results67 rfl rfl
theorem tumbref2_Words_ok (w : World) (Bt : ByteArray) (hg_maxlen : GlobI (view w []) 0) (r : (List ByteArray) × Bool) (h : tumbref2_Words Bt = some r) :
    Calls Tryz.prog 45 [sV Bt].toArray w (Ret w [] fun τ v _ => ∃ u1 : Value, v = .tuple #[u1, bV r.2] ∧ OwnV τ 9 1 u1 r.1.length (r.1.flatMap eStr)) := by
 refine f_enter [] [] Tryz.func45 rfl Tryz.ntmps45 rfl (by simp) (by simp [fps]) (by simp [fps]) fun a S => ?_
 unfold tumbref2_Words at h
 replace S := S.nk [] [(0, sV Bt)] [] rfl ⟨rfl, trivial⟩
 refine Fs (Fg (lv S (Ra rfl) rfl ?_));clear S;intro a S
 refine lv S (Ra rfl) rfl ?_;clear S;intro a S
 refine Ld (Tn (Fs (Fg (lv S (Rm (S.tm rfl)) rfl ?_))));clear S;intro a S
 obtain ⟨r1, hr1, h⟩ := bindE h
 have hz1 := S.keep.size
 refine l_enter S (fun _ => run_call (vs := [sV Bt, sV k__20]) ⟨(S.tm rfl), rfl, trivial⟩ Tryz.call64) (strings_Split_ok _ Bt k__20 (hg_maxlen.mono (S.le_arg nil_sub)) _ hr1) rfl ?_;clear S;intro v1 a w1 hv1 hk1 hn1 S
 obtain ⟨φ1, hl1, hm1, S⟩ := S.see' hn1 hz1
 have hs1 := hv1.mono hm1
 refine lv S (Ra (S.tm rfl)) rfl ?_;clear S;intro a S
 refine Ld (Tn (Fs (Fg (lv S (Rm (S.tm rfl)) rfl ?_))));clear S;intro a S
 refine lv S (Rm (S.tm rfl)) rfl ?_;clear S;intro a S
 refine l_enter S (fun _ => run_call (vs := [v1, sV k_empty]) ⟨(S.tm rfl), rfl, trivial⟩ Tryz.call67) (slices_Contains_string_ok _ v1 r1 ((ownV_slcT enc_str hs1).mono (S.le_new nil_sub)) k_empty _ rfl) rfl ?_;clear S;intro v2 a w2 hv2 hk2 hn2 S
 subst hv2
 refine lv S (rn_not (S.tm rfl)) rfl ?_;clear S;intro a S
 refine lv S (Ra (S.tm rfl)) rfl ?_;clear S;intro a S
 refine lv S (Ra (S.tm rfl)) rfl ?_;clear S;intro a S
 refine Ld (Tn (wp_ret ?_))
 obtain rfl := Option.some.inj h
 exact f_ret2 S Tryz.results45 rfl rfl ⟨_, rfl, ((hs1).mono S.le_newer)⟩
theorem strings_TrimPrefix_ok (w : World) (s : ByteArray) (p : ByteArray) (r : ByteArray) (h : strings_TrimPrefix s p = r) : Calls Tryz.prog 88 [sV s, sV p].toArray w (Ret w [] fun _ v _ => v = .string r) := by
  subst h
  exact ret_of_same (Any.strings_TrimPrefix Tryz.lays101 s p w)
theorem tumbref2_Number_ok (w : World) (Ad : ByteArray) (Bb : Int) (hg_pow10 : Glob (view w []) 1 pow10Cells) (r : Int × Bool) (h : tumbref2_Number Ad Bb = some r) :
    Calls Tryz.prog 68 [sV Ad, iV Bb].toArray w (Ret w [] fun _ v _ => v = .tuple #[iV r.1, bV r.2]) := by
 refine f_enter [] [] Tryz.func68 rfl Tryz.ntmps68 rfl (by simp) (by simp [fps]) (by simp [fps]) fun a S => ?_
 unfold tumbref2_Number at h
 replace S := S.nk [] [(0, sV Ad), (1, iV Bb)] [] rfl (subR rfl)
 refine Fs (Fg (lv S (Ra rfl) rfl ?_));clear S;intro a S
 refine lv S (Ra rfl) rfl ?_;clear S;intro a S
 refine Ld (Tn (Fs (Fg (lv S (Rm (S.tm rfl)) rfl ?_))));clear S;intro a S
 refine l_enter S (fun _ => run_call (vs := [sV Ad, sV k__2d]) ⟨(S.tm rfl), rfl, trivial⟩ Tryz.call88) (strings_TrimPrefix_ok _ Ad k__2d _ rfl) rfl ?_;clear S;intro v1 a w1 hv1 hk1 hn1 S
 subst hv1
 refine lv S (Ra (S.tm rfl)) rfl ?_;clear S;intro a S
 refine Ld (Tn (Fs (Fs (Fg (lv S (Rm (S.tm rfl)) rfl ?_)))));clear S;intro a S
 refine lv S (rn_seql (S.tm rfl) rfl) rfl ?_;clear S;intro a S
 refine lv S (Rm (S.tm rfl)) rfl ?_;clear S;intro a S
 refine f_cutm 5 (fun a w' => Keep [] w1 w' ∧ Sx w [] nov [] [(0, sV Ad), (6, sV (strings_TrimPrefix Ad k__2d)), (18, bV ((decide ((strings_TrimPrefix Ad k__2d) = k_empty)) || (decide (Bb < ((strings_TrimPrefix Ad k__2d).size : Int)))))] 38 a w') ?_ ?_
 ·rcases Bool.eq_false_or_eq_true (decide ((strings_TrimPrefix Ad k__2d) = k_empty)) with hb1 | hb1
  ·iterate 4 (refine l_skip S rfl rfl rfl (neq_t hb1) rfl ?_ rfl;clear S;intro a S)
   refine lv S (rn_or_t (decide (Bb < ((strings_TrimPrefix Ad k__2d).size : Int))) hb1 (S.tm rfl) rfl) rfl ?_;clear S;intro a S
   refine Ld (Tn ?_)
   exact ⟨Keep.refl _ _, S.nf [] rfl (subR rfl)⟩
  ·refine l_want S rfl rfl rfl hb1 (lv S (Rm (S.tm rfl)) rfl ?_);clear S;intro a S
   refine l_want S rfl rfl rfl hb1 (lv S (rn_len_str Tryz.underlying9 (S.tm rfl)) rfl ?_);clear S;intro a S
   refine l_want S rfl rfl rfl hb1 (lv S (Rm (S.tm rfl)) rfl ?_);clear S;intro a S
   refine l_want S rfl rfl rfl hb1 (lv S (rn_gtr (S.tm rfl) (S.tm rfl)) rfl ?_);clear S;intro a S
   refine lv S (rn_or_f hb1 (S.tm rfl) (S.tm rfl)) rfl ?_;clear S;intro a S
   refine Ld (Tn ?_)
   exact ⟨Keep.refl _ _, S.nf [] rfl (subR rfl)⟩
 clear S;rintro a w2 ⟨hk2, S⟩
 refine lv S (Rm (S.tm rfl)) rfl ?_;clear S;intro a S
 obtain ⟨j1, hj1, h⟩ := joinE h
 refine f_cutm 4 (fun a w' => ∃ c1, j1 c1 = some r ∧ Keep [] w2 w' ∧ Sx w [] nov [] [(0, sV Ad), (23, bV c1)] 38 a w') ?_ ?_
 ·rcases Bool.eq_false_or_eq_true ((decide ((strings_TrimPrefix Ad k__2d) = k_empty)) || (decide (Bb < ((strings_TrimPrefix Ad k__2d).size : Int)))) with hb2 | hb2
  ·replace h := iteT h hb2
   iterate 3 (refine l_skip S rfl rfl rfl (neq_t hb2) rfl ?_ rfl;clear S;intro a S)
   refine lv S (rn_or_t true hb2 (S.tm rfl) rfl) rfl ?_;clear S;intro a S
   refine Ld (Tn ?_)
   exact ⟨_, h, Keep.refl _ _, S.nf [] rfl (subR rfl)⟩
  ·replace h := iteF h hb2
   refine l_want S rfl rfl rfl hb2 (lv S (Rm (S.tm rfl)) rfl ?_);clear S;intro a S
   refine l_want S rfl rfl rfl hb2 ?_
   obtain ⟨r1, hr1, h⟩ := bindE h
   refine l_enter S (fun _ => run_call (vs := [sV (strings_TrimPrefix Ad k__2d), sV k_0123456789]) ⟨(S.tm rfl), rfl, trivial⟩ Tryz.call82) (tumbref2_only_ok _ (strings_TrimPrefix Ad k__2d) k_0123456789 _ hr1) rfl ?_;clear S;intro v2 a w4 hv2 hk3 hn2 S
   subst hv2
   refine l_want S rfl rfl rfl hb2 (lv S (rn_not (S.tm rfl)) rfl ?_);clear S;intro a S
   refine lv S (rn_or_f hb2 (S.tm rfl) (S.tm rfl)) rfl ?_;clear S;intro a S
   refine Ld (Tn ?_)
   exact ⟨_, h, hk3, S.nf [] rfl (subR rfl)⟩
 clear S h;rintro a w3 ⟨c1, h, hk4, S⟩;rw [hj1] at h;clear hj1 j1
 refine Ld (Tn (f_cond (S.tm rfl) (fun hb3 => ?_) (fun hb3 => ?_)))
 ·replace h := iteT h hb3
  refine Fs (Fg (lv S (Ra rfl) rfl ?_));clear S;intro a S
  refine lv S (Ra rfl) rfl ?_;clear S;intro a S
  refine Ld (Tn (wp_ret (then_r ?_)))
  obtain rfl := Option.some.inj h
  exact f_ret2 S Tryz.results68 rfl rfl rfl
 ·replace h := iteF h hb3
  refine wp_skip (Tn (Fs (Fg (lv S (Rm (S.tm rfl)) rfl ?_))));clear S;intro a S
  obtain ⟨r2, hr2, h⟩ := bindE h
  refine l_enter S (fun _ => run_call (vs := [sV Ad]) ⟨(S.tm rfl), trivial⟩ Tryz.call87) (strconv_Atoi_ok _ Ad _ hr2) rfl ?_;clear S;intro v3 a w5 hv3 hk5 hn3 S
  subst hv3
  refine lv S (Rm (S.tm rfl)) rfl ?_;clear S;intro a S
  refine lv S (rn_extract (S.tm rfl) rfl) rfl ?_;clear S;intro a S
  refine lv S (rn_extract (S.tm rfl) rfl) rfl ?_;clear S;intro a S
  refine lv S (Ra (S.tm rfl)) rfl ?_;clear S;intro a S
  refine lv S (Ra (S.tm rfl)) rfl ?_;clear S;intro a S
  refine Ld (Tn (Fs (Fg (lv S (Rm (S.tm rfl)) rfl ?_))));clear S;intro a S
  refine lv S (Rm (S.tm rfl)) rfl ?_;clear S;intro a S
  refine lv S (rn_ifnileql Tryz.underlying59 (S.tm rfl)) rfl ?_;clear S;intro a S
  refine lv S (Rm (S.tm rfl)) rfl ?_;clear S;intro a S
  obtain ⟨j2, hj2, h⟩ := joinE h
  refine f_cutm 5 (fun a w' => ∃ c2, j2 c2 = some r ∧ Keep [] w5 w' ∧ Sx w [] nov [] [(29, iV r2), (37, bV c2)] 38 a w') ?_ ?_
  ·rcases Bool.eq_false_or_eq_true true with hb4 | hb4
   ·replace h := iteT h hb4
    refine l_want S rfl rfl rfl hb4 (lv S (Rm (S.tm rfl)) rfl ?_);clear S;intro a S
    refine l_want S rfl rfl rfl hb4 ?_
    obtain ⟨r3, hr3, h⟩ := bindE h
    refine l_enter S (fun _ => run_call (vs := [iV r2]) ⟨(S.tm rfl), trivial⟩ Tryz.call24) (strconv_Itoa_ok _ r2 (hg_pow10.mono (S.le_arg nil_sub)) _ hr3) rfl ?_;clear S;intro v4 a w7 hv4 hk6 hn4 S
    subst hv4
    refine l_want S rfl rfl rfl hb4 (lv S (Rm (S.tm rfl)) rfl ?_);clear S;intro a S
    refine l_want S rfl rfl rfl hb4 (lv S (rn_seql (S.tm rfl) (S.tm rfl)) rfl ?_);clear S;intro a S
    refine lv S (rn_and_t hb4 (S.tm rfl) (S.tm rfl)) rfl ?_;clear S;intro a S
    refine Ld (Tn ?_)
    exact ⟨_, h, hk6, S.nf [] rfl (subR rfl)⟩
   ·replace h := iteF h hb4
    iterate 4 (refine l_skip S rfl rfl rfl (neq_f hb4) rfl ?_ rfl;clear S;intro a S)
    refine lv S (rn_and_f true hb4 (S.tm rfl) rfl) rfl ?_;clear S;intro a S
    refine Ld (Tn ?_)
    exact ⟨_, h, Keep.refl _ _, S.nf [] rfl (subR rfl)⟩
  clear S h;rintro a w6 ⟨c2, h, hk7, S⟩;rw [hj2] at h;clear hj2 j2
  refine lv S (Ra (S.tm rfl)) rfl ?_;clear S;intro a S
  refine lv S (Ra (S.tm rfl)) rfl ?_;clear S;intro a S
  refine Ld (Tn (wp_ret ?_))
  obtain rfl := Option.some.inj h
  exact f_ret2 S Tryz.results68 rfl rfl rfl
theorem tumbref2_numbersIn_ok (w : World) (Ab : Value) (Ac : List ByteArray) (Ao : Slc (view w []) 1 Ab (Ac.map eStr)) (Bb : Int) (hg_pow10 : Glob (view w []) 1 pow10Cells) (r : (List Int) × Bool) (h : tumbref2_numbersIn Ac Bb = some r) :
    Calls Tryz.prog 46 [Ab, iV Bb].toArray w (Ret w [] fun τ v _ => ∃ u1 : Value, v = .tuple #[u1, bV r.2] ∧ OwnV τ 3 1 u1 r.1.length (r.1.flatMap eInt)) := by
 refine f_enter [] [] Tryz.func46 rfl Tryz.ntmps46 rfl (by simp) (by simp [fps]) (by simp [fps]) fun a S => ?_
 unfold tumbref2_numbersIn at h
 replace S := S.nk [] [(0, Ab), (1, iV Bb)] [] rfl (subR rfl)
 refine Fs (Fg (lv S (Ra rfl) rfl ?_));clear S;intro a S
 refine lv S (Ra rfl) rfl ?_;clear S;intro a S
 refine Ld (Tn (Fs (Fg (lv S (Ra rfl) rfl ?_))));clear S;intro a S
 replace S := S.nil 3 1
 refine Ld (Tn (Fs (Fg (lv S (Ra rfl) rfl ?_))));clear S;intro a S
 refine Ld (Tn (Fs (Fs (Fg (lv S (Rm (S.tm rfl)) rfl ?_)))));clear S;intro a S
 refine lv S (rn_lenT sl_55 (S.tm rfl) (slc_len Ao)) rfl ?_;clear S;intro a S
 refine lv S (Rm rfl) rfl ?_;clear S;intro a S
 refine Ld (Tn ?_)
 replace S := S.nk [.own (.slice none 0 0) 3 1 ([] : List Int).length (([] : List Int).flatMap eInt)] [(1, iV Bb), (6, (.slice none 0 0)), (7, bV true), (12, Ab), (13, iV (Ac.length : Int)), (14, iV 0)] [true] rfl (subR rfl)
 obtain ⟨j1, hj1, h⟩ := joinE h
 refine f_join (fun a w' => ∃ x1 : List Int, ∃ x2 : Bool, ∃ v1 : Value, j1 x1 x2 = some r ∧ Sx w [] nov [.own v1 3 1 x1.length (x1.flatMap eInt)] [(6, v1), (7, bV x2)] 35 a w') ?_ ?_
 ·refine wp_block (f_loop (fun (ys1 : List ByteArray) a w' => ∃ i1 : Nat, ∃ x1 : List Int, ∃ x2 : Bool, ∃ v1 : Value, (∃ dn, Ac = dn ++ ys1 ∧ dn.length = i1) ∧ tumbref2_numbersIn_l1 Bb j1 ys1 i1 x1 x2 = some r ∧ Sx w [] nov [.own v1 3 1 x1.length (x1.flatMap eInt)] [(1, iV Bb), (6, v1), (7, bV x2), (12, Ab), (13, iV (Ac.length : Int)), (14, iV (i1 : Int))] 35 a w') List.length Ac ⟨0, ([] : List Int), true, (.slice none 0 0), ⟨[], rfl, rfl⟩, h, S.nf [true] rfl (subR rfl)⟩ ?_)
  clear S h;rintro ys1 a w1 ⟨i1, x1, x2, v1, ⟨dn, hd1, hi1⟩, h, S⟩
  cases ys1 with
  | nil =>
   rw [tumbref2_numbersIn_l1.eq_1] at h
   refine Fs (Fg (lv S (rn_lss (S.tm rfl) (S.tm rfl)) rfl ?_));clear S;intro a S
   refine Ld ?_
   replace S := S.nk [.own v1 3 1 x1.length (x1.flatMap eInt)] [(1, iV Bb), (6, v1), (7, bV x2), (12, Ab), (13, iV (Ac.length : Int)), (14, iV (i1 : Int)), (15, bV (decide ((i1 : Int) < (Ac.length : Int))))] [true] rfl (subR rfl)
   refine Tn (Fs (wp_cond_false ((S.tm rfl).trans (congrArg Value.bool (rng_nil hd1 hi1))) (wp_exit (then_x (then_x (x_same ?_))))))
   refine Tn ?_
   exact ⟨x1, x2, v1, h, S.nf [true] rfl (subR rfl)⟩
  | cons y1 ys1 =>
   rw [tumbref2_numbersIn_l1.eq_2] at h
   refine Fs (Fg (lv S (rn_lss (S.tm rfl) (S.tm rfl)) rfl ?_));clear S;intro a S
   refine Ld ?_
   replace S := S.nk [.own v1 3 1 x1.length (x1.flatMap eInt)] [(1, iV Bb), (6, v1), (7, bV x2), (12, Ab), (13, iV (Ac.length : Int)), (14, iV (i1 : Int)), (15, bV (decide ((i1 : Int) < (Ac.length : Int))))] [true] rfl (subR rfl)
   refine Tn (Fs (wp_cond_true ((S.tm rfl).trans (congrArg Value.bool (rng_cons hd1 hi1))) (wp_skip (Tn (Fs (wp_block ?_))))))
   refine Fs (Fg ?_)
   obtain ⟨b1, o1, hm1, hr1⟩ := rn_indexT (a := a) (x := .tmp 12) (y := .tmp 14) (ty := 0) sl_55 Ao (get_mid hd1 hi1) rfl (S.tm rfl) (S.tm rfl)
   refine lv S (hr1 _) rfl ?_;clear S;intro a S
   clear hr1
   refine lv S (rn_ld Tryz.isAgg9 (off := o1) (o := 0) (S.tm rfl) (hm1.at S.emb0) rfl) rfl ?_;clear S;intro a S
   refine lv S (Ra (S.tm rfl)) rfl ?_;clear S;intro a S
   refine Ld (Tn (Fs (Fg (lv S (Rm (S.tm rfl)) rfl ?_))));clear S;intro a S
   refine lv S (Rm (S.tm rfl)) rfl ?_;clear S;intro a S
   obtain ⟨r1, hr2, h⟩ := bindE h
   refine l_enter S (fun _ => run_call (vs := [sV y1, iV Bb]) ⟨(S.tm rfl), (S.tm rfl), trivial⟩ Tryz.call68) (tumbref2_Number_ok _ y1 Bb (hg_pow10.mono (S.le_arg nil_sub)) _ hr2) rfl ?_;clear S;intro v2 a w3 hv1 hk1 hn1 S
   subst hv1
   refine lv S (Rm (S.tm rfl)) rfl ?_;clear S;intro a S
   refine lv S (rn_extract (S.tm rfl) rfl) rfl ?_;clear S;intro a S
   refine lv S (rn_extract (S.tm rfl) rfl) rfl ?_;clear S;intro a S
   refine lv S (Ra (S.tm rfl)) rfl ?_;clear S;intro a S
   refine lv S (Ra (S.tm rfl)) rfl ?_;clear S;intro a S
   refine Ld ?_
   replace S := S.nk [.own v1 3 1 x1.length (x1.flatMap eInt)] [(1, iV Bb), (6, v1), (7, bV x2), (10, iV r1.1), (11, bV r1.2), (12, Ab), (13, iV (Ac.length : Int)), (14, iV (i1 : Int))] [true] rfl (subR rfl)
   refine Tn (Fg (lv S (Rm (S.tm rfl)) rfl ?_));clear S;intro a S
   refine lv S (Rm (S.tm rfl)) rfl ?_;clear S;intro a S
   refine l_buildSlice S Tryz.underlying22 Tryz.sizeOf3 Tryz.zeroValue3 rfl rfl (pv := [(0, iV r1.1)]) ⟨rfl, (S.tm rfl), trivial⟩ (cs := [iV r1.1]) (by kernel_rfl) rfl ?_;clear S;intro a w4 b2 hz1 hk2 S
   obtain ⟨hc1, h⟩ := chkE h
   refine l_appendT sl_22 enc_int S (S.tm rfl) (i := 1) rfl (S.tm rfl) (j := 0) rfl (ys := [r1.1]) rfl rfl rfl rfl (by have := room_lt hc1;omega) rfl ?_;clear S;intro v3 a w5 hk3 S
   refine lv S (Rm (S.tm rfl)) rfl ?_;clear S;intro a S
   refine lv S (Rm (S.tm rfl)) rfl ?_;clear S;intro a S
   refine f_cutm 2 (fun a w' => Keep [] w5 w' ∧ Sx w [] nov [.blk b2 [iV r1.1] 3, .own v3 3 1 (x1 ++ [r1.1]).length ((x1 ++ [r1.1]).flatMap eInt)] [(1, iV Bb), (12, Ab), (13, iV (Ac.length : Int)), (14, iV (i1 : Int)), (27, v3), (31, bV (x2 && r1.2))] 35 a w') ?_ ?_
   ·rcases Bool.eq_false_or_eq_true x2 with hb1 | hb1
    ·refine l_want S rfl rfl rfl hb1 (lv S (Rm (S.tm rfl)) rfl ?_);clear S;intro a S
     refine lv S (rn_and_t hb1 (S.tm rfl) (S.tm rfl)) rfl ?_;clear S;intro a S
     refine Ld (Tn ?_)
     exact ⟨Keep.refl _ _, S.nf [true, true] rfl (subR rfl)⟩
    ·refine l_skip S rfl rfl rfl (neq_f hb1) rfl ?_ rfl;clear S;intro a S
     refine lv S (rn_and_f r1.2 hb1 (S.tm rfl) rfl) rfl ?_;clear S;intro a S
     refine Ld (Tn ?_)
     exact ⟨Keep.refl _ _, S.nf [true, true] rfl (subR rfl)⟩
   clear S;rintro a w6 ⟨hk4, S⟩
   refine lv S (Ra (S.tm rfl)) rfl ?_;clear S;intro a S
   refine lv S (Ra (S.tm rfl)) rfl ?_;clear S;intro a S
   refine Ld (blk_n (Tn (Fg (lv S (rn_add (S.tm rfl) rfl) rfl ?_))));clear S;intro a S
   refine lv S (Rm (S.tm rfl)) rfl ?_;clear S;intro a S
   refine Ld (Tn ?_)
   exact ⟨ys1, ⟨i1 + 1, (x1 ++ [r1.1]), (x2 && r1.2), v3, ⟨_, (hd1).trans (List.append_cons _ _ _), by simp [hi1]⟩, h, S.nf [false, true] rfl ⟨rfl, rfl, rfl, rfl, rfl, (congrArg (fun z => some (Value.int .i64 z)) (rng_next hd1 hi1 (slc_max Ao))), trivial⟩⟩, Nat.lt_succ_self _⟩
 clear S h;rintro a w2 ⟨x1, x2, v1, h, S⟩;rw [hj1] at h;clear hj1 j1
 refine Tn (Fs (Fg (lv S (Rm (S.tm rfl)) rfl ?_)));clear S;intro a S
 refine lv S (Rm (S.tm rfl)) rfl ?_;clear S;intro a S
 refine lv S (Ra (S.tm rfl)) rfl ?_;clear S;intro a S
 refine lv S (Ra (S.tm rfl)) rfl ?_;clear S;intro a S
 refine Ld (Tn (wp_ret ?_))
 obtain rfl := Option.some.inj h
 exact f_ret2 S Tryz.results46 rfl rfl ⟨_, rfl, (own_retT S (i := 0) rfl rfl)⟩
theorem tumbref2_undash_ok (w : World) (Ad : ByteArray) (r : ByteArray) (h : tumbref2_undash Ad = r) :
    Calls Tryz.prog 47 [sV Ad].toArray w (Ret w [] fun _ v _ => v = sV r) := by
 refine f_enter [] [] Tryz.func47 rfl Tryz.ntmps47 rfl (by simp) (by simp [fps]) (by simp [fps]) fun a S => ?_
 unfold tumbref2_undash at h
 replace S := S.nk [] [(0, sV Ad)] [] rfl ⟨rfl, trivial⟩
 refine Fs (Fg (lv S (Ra rfl) rfl ?_));clear S;intro a S
 refine Ld (Tn (Fs (Fs (Fg (lv S (Rm (S.tm rfl)) rfl ?_)))));clear S;intro a S
 refine lv S (rn_seql (S.tm rfl) rfl) rfl ?_;clear S;intro a S
 refine Ld (Tn (f_cond (S.tm rfl) (fun hb1 => ?_) (fun hb1 => ?_)))
 ·replace h := iteT h hb1
  refine Fs (Fg (lv S (Ra rfl) rfl ?_));clear S;intro a S
  refine Ld (Tn (wp_ret (then_r ?_)))
  subst h
  exact f_ret S Tryz.results47 rfl rfl
 ·replace h := iteF h hb1
  refine wp_skip (Tn (Fs (Fg (lv S (Rm (S.tm rfl)) rfl ?_))));clear S;intro a S
  refine lv S (Ra (S.tm rfl)) rfl ?_;clear S;intro a S
  refine Ld (Tn (wp_ret ?_))
  subst h
  exact f_ret S Tryz.results47 rfl rfl
end Go.Proofs.YtpfommakhgkmeaaGreatDoor
