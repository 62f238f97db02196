/- Each Go function computes its plain twin, by program. -/
import Derived.Test.YtmngaaffadcccaaGreatDoorWk2
namespace Go.Proofs.YtmngaaffadcccaaGreatDoor
open Go
theorem tumbref2_SquadsFault_ok (w : World) (v_p_l : Value) (p_l : List GSquad) (rs_p_l : List R37) (hs_p_l : Slc (view w []) 4 v_p_l (rs_p_l.map R37.enc)) (hr_p_l : All2 (rel_37 (view w [])) p_l rs_p_l) (r : Int) (h : tumbref2_SquadsFault p_l = some r) :
    Calls Tryz.prog 18 [v_p_l].toArray w (Ret w [] fun _ v _ => v = iV r) := by
 refine f_enter [] [] Tryz.func18 rfl Tryz.ntmps18 rfl (by simp) (by simp [fps]) (by simp [fps]) fun a S => ?_
 unfold tumbref2_SquadsFault at h
 replace S := S.nk [] [(0, v_p_l)] [] rfl ⟨rfl, trivial⟩
 refine f_seq (f_region (lv S (rn_assign rfl) rfl ?_)); clear S; intro a S
 refine l_done (then_n (f_seq (f_seq (f_region (lv S (rn_move (S.tm rfl)) rfl ?_))))); clear S; intro a S
 refine lv S (rn_lenT sl_52 (S.tm rfl) (slc_lenD hs_p_l hr_p_l)) rfl ?_; clear S; intro a S
 refine lv S (rn_gtr (S.tm rfl) rfl) rfl ?_; clear S; intro a S
 refine l_done (then_n (f_cond (S.tm rfl) (fun hb1 => ?_) (fun hb1 => ?_)))
 ·replace h := iteT h hb1
  refine f_seq (f_region (lv S (rn_assign rfl) rfl ?_)); clear S; intro a S
  refine l_done (then_n (wp_ret (then_r ?_)))
  obtain rfl := Option.some.inj h
  exact f_ret S Tryz.results18 rfl rfl
 ·replace h := iteF h hb1
  refine wp_skip (then_n (f_seq (f_region (lv S (rn_assign rfl) rfl ?_)))); clear S; intro a S
  refine l_done (then_n (f_seq (f_seq (f_region (lv S (rn_move (S.tm rfl)) rfl ?_))))); clear S; intro a S
  refine lv S (rn_lenT sl_52 (S.tm rfl) (slc_lenD hs_p_l hr_p_l)) rfl ?_; clear S; intro a S
  refine lv S (rn_move rfl) rfl ?_; clear S; intro a S
  refine l_done (then_n ?_)
  replace S := S.nk [] [(3, sV k_empty), (11, v_p_l), (12, iV (p_l.length : Int)), (13, iV 0)] [] rfl (subR rfl)
  obtain ⟨j1, hj1, h⟩ := joinE h
  refine f_join (fun a w' => j1 = some r ∧ Sx w [] nov [] [] 65 a w') ?_ ?_
  ·refine wp_block (f_loop (fun (ys1 : List GSquad) a w' => ∃ i1 : Nat, ∃ x1 : ByteArray, (∃ dn, p_l = dn ++ ys1 ∧ dn.length = i1) ∧ tumbref2_SquadsFault_l1 j1 ys1 i1 x1 = some r ∧ Sx w [] nov [] [(3, sV x1), (11, v_p_l), (12, iV (p_l.length : Int)), (13, iV (i1 : Int))] 65 a w') List.length p_l ⟨0, k_empty, ⟨[], rfl, rfl⟩, h, S.nf [] rfl (subR rfl)⟩ ?_)
   clear S h; rintro ys1 a w1 ⟨i1, x1, ⟨dn, hd1, hi1⟩, h, S⟩
   cases ys1 with
   | nil =>
    rw [tumbref2_SquadsFault_l1.eq_1] at h
    refine f_seq (f_region (lv S (rn_lss (S.tm rfl) (S.tm rfl)) rfl ?_)); clear S; intro a S
    refine l_done ?_
    replace S := S.nk [] [(3, sV x1), (11, v_p_l), (12, iV (p_l.length : Int)), (13, iV (i1 : Int)), (14, bV (decide ((i1 : Int) < (p_l.length : Int))))] [] rfl (subR rfl)
    refine then_n (f_seq (wp_cond_false ((S.tm rfl).trans (congrArg Value.bool (rng_nil hd1 hi1))) (wp_exit (then_x (then_x (x_same ?_))))))
    refine then_n ?_
    exact ⟨h, S.nf [] rfl trivial⟩
   | cons y1 ys1 =>
    rw [tumbref2_SquadsFault_l1.eq_2] at h
    refine f_seq (f_region (lv S (rn_lss (S.tm rfl) (S.tm rfl)) rfl ?_)); clear S; intro a S
    refine l_done ?_
    replace S := S.nk [] [(3, sV x1), (11, v_p_l), (12, iV (p_l.length : Int)), (13, iV (i1 : Int)), (14, bV (decide ((i1 : Int) < (p_l.length : Int))))] [] rfl (subR rfl)
    refine then_n (f_seq (wp_cond_true ((S.tm rfl).trans (congrArg Value.bool (rng_cons hd1 hi1))) (wp_skip (then_n (f_seq (wp_block ?_))))))
    refine f_seq (f_region ?_)
    obtain ⟨r1, hg1, hl1⟩ := All2.at hr_p_l (get_mid hd1 hi1)
    obtain ⟨u1, rfl, hs1⟩ := hl1
    obtain ⟨b1, o1, hm1, hr1⟩ := rn_indexT (a := a) (x := .tmp 11) (y := .tmp 13) (ty := 0) sl_52 hs_p_l hg1 rfl (S.tm rfl) (S.tm rfl)
    refine lv S (hr1 _) rfl ?_; clear S; intro a S
    clear hr1
    refine lv S (rn_ldA Tryz.isAgg37 Tryz.sizeOf37 (off := o1) (o := 0) (part := [sV y1.Key, sV y1.Club, sV y1.Race, u1.val]) rfl rfl (S.tm rfl) (hm1.at S.emb0)) rfl ?_; clear S; intro a S
    refine l_alloc S Tryz.zeroValue37 (cs := [sV k_empty, sV k_empty, sV k_empty, .slice none 0 0]) rfl rfl ?_; clear S; intro a w3 b2 hz1 hk1 S
    refine l_store S (S.tm rfl) (S.tm rfl) (i := 0) (off := 0) rfl Tryz.sizeOf37 (vs := [sV y1.Key, sV y1.Club, sV y1.Race, u1.val]) rfl rfl rfl (all1 rfl (all1 rfl (all1 rfl (all1 (SlcLen.one (slc_len hs1)) rfl)))) ?_; clear S; intro w4 hk2 S
    refine l_done (then_n (f_seq (wp_block (f_seq (f_region (lv S (rn_fld fa_37_0 (S.tm rfl)) rfl ?_)))))); clear S; intro a S
    refine lv S (rn_load Tryz.isAgg9 (S.tm rfl) (S.cell (i := 0) rfl rfl)) rfl ?_; clear S; intro a S
    obtain ⟨r2, hr2, h⟩ := bindE h
    refine l_enter S (fun _ => run_call (vs := [sV y1.Key]) ⟨(S.tm rfl), trivial⟩ Tryz.call44) (tumbref2_Key_ok _ y1.Key _ hr2) rfl ?_; clear S; intro v1 a w5 hv1 hk3 hn1 S
    subst hv1
    refine lv S (rn_not (S.tm rfl)) rfl ?_; clear S; intro a S
    refine lv S (rn_move (S.tm rfl)) rfl ?_; clear S; intro a S
    obtain ⟨j2, hj2, h⟩ := joinE h
    refine f_cutm 5 (fun a w' => ∃ c1, j2 c1 = some r ∧ Keep [] w5 w' ∧ Sx w [] nov [.blk b2 [sV y1.Key, sV y1.Club, sV y1.Race, u1.val] 37] [(3, sV x1), (5, .pointer (some ⟨b2, 0, none⟩)), (11, v_p_l), (12, iV (p_l.length : Int)), (13, iV (i1 : Int)), (27, bV c1)] 65 a w') ?_ ?_
    ·rcases Bool.eq_false_or_eq_true (!r2) with hb2 | hb2
     ·replace h := iteT h hb2
      iterate 4 (refine l_skip S rfl rfl rfl (neq_t hb2) rfl ?_ rfl; clear S; intro a S)
      refine lv S (rn_or_t true hb2 (S.tm rfl) rfl) rfl ?_; clear S; intro a S
      refine l_done (then_n ?_)
      exact ⟨_, h, Keep.refl _ _, S.nf [true] rfl (subR rfl)⟩
     ·replace h := iteF h hb2
      refine l_want S rfl rfl rfl hb2 (lv S (rn_fld fa_37_1 (S.tm rfl)) rfl ?_); clear S; intro a S
      refine l_want S rfl rfl rfl hb2 (lv S (rn_load Tryz.isAgg9 (S.tm rfl) (S.cell (i := 0) rfl rfl)) rfl ?_); clear S; intro a S
      refine l_want S rfl rfl rfl hb2 ?_
      obtain ⟨r3, hr3, h⟩ := bindE h
      refine l_enter S (fun _ => run_call (vs := [sV y1.Club]) ⟨(S.tm rfl), trivial⟩ Tryz.call44) (tumbref2_Key_ok _ y1.Club _ hr3) rfl ?_; clear S; intro v2 a w7 hv2 hk4 hn2 S
      subst hv2
      refine l_want S rfl rfl rfl hb2 (lv S (rn_not (S.tm rfl)) rfl ?_); clear S; intro a S
      refine lv S (rn_or_f hb2 (S.tm rfl) (S.tm rfl)) rfl ?_; clear S; intro a S
      refine l_done (then_n ?_)
      exact ⟨_, h, hk4, S.nf [true] rfl (subR rfl)⟩
    clear S h; rintro a w6 ⟨c1, h, hk5, S⟩; rw [hj2] at h; clear hj2 j2
    refine lv S (rn_move (S.tm rfl)) rfl ?_; clear S; intro a S
    obtain ⟨j3, hj3, h⟩ := joinE h
    refine f_cutm 5 (fun a w' => ∃ c2, j3 c2 = some r ∧ Keep [] w6 w' ∧ Sx w [] nov [.blk b2 [sV y1.Key, sV y1.Club, sV y1.Race, u1.val] 37] [(3, sV x1), (5, .pointer (some ⟨b2, 0, none⟩)), (11, v_p_l), (12, iV (p_l.length : Int)), (13, iV (i1 : Int)), (33, bV c2)] 65 a w') ?_ ?_
    ·rcases Bool.eq_false_or_eq_true c1 with hb3 | hb3
     ·replace h := iteT h hb3
      iterate 4 (refine l_skip S rfl rfl rfl (neq_t hb3) rfl ?_ rfl; clear S; intro a S)
      refine lv S (rn_or_t true hb3 (S.tm rfl) rfl) rfl ?_; clear S; intro a S
      refine l_done (then_n ?_)
      exact ⟨_, h, Keep.refl _ _, S.nf [true] rfl (subR rfl)⟩
     ·replace h := iteF h hb3
      refine l_want S rfl rfl rfl hb3 (lv S (rn_fld fa_37_2 (S.tm rfl)) rfl ?_); clear S; intro a S
      refine l_want S rfl rfl rfl hb3 (lv S (rn_load Tryz.isAgg9 (S.tm rfl) (S.cell (i := 0) rfl rfl)) rfl ?_); clear S; intro a S
      refine l_want S rfl rfl rfl hb3 ?_
      obtain ⟨r4, hr4, h⟩ := bindE h
      refine l_enter S (fun _ => run_call (vs := [sV y1.Race]) ⟨(S.tm rfl), trivial⟩ Tryz.call44) (tumbref2_Key_ok _ y1.Race _ hr4) rfl ?_; clear S; intro v3 a w9 hv3 hk6 hn3 S
      subst hv3
      refine l_want S rfl rfl rfl hb3 (lv S (rn_not (S.tm rfl)) rfl ?_); clear S; intro a S
      refine lv S (rn_or_f hb3 (S.tm rfl) (S.tm rfl)) rfl ?_; clear S; intro a S
      refine l_done (then_n ?_)
      exact ⟨_, h, hk6, S.nf [true] rfl (subR rfl)⟩
    clear S h; rintro a w8 ⟨c2, h, hk7, S⟩; rw [hj3] at h; clear hj3 j3
    refine lv S (rn_assign (S.tm rfl)) rfl ?_; clear S; intro a S
    refine l_done (then_n (f_cond (S.tm rfl) (fun hb4 => ?_) (fun hb4 => ?_)))
    ·replace h := iteT h hb4
     refine f_seq (f_region (lv S (rn_assign rfl) rfl ?_)); clear S; intro a S
     refine l_done (then_n (wp_ret (blk_r (then_r (blk_r (then_r ?_))))))
     refine then_r (blk_r (then_r (then_r ?_)))
     obtain rfl := Option.some.inj h
     exact f_ret S Tryz.results18 rfl rfl
    ·replace h := iteF h hb4
     refine f_seq (f_region (lv S (rn_fld fa_37_0 (S.tm rfl)) rfl ?_)); clear S; intro a S
     refine lv S (rn_load Tryz.isAgg9 (S.tm rfl) (S.cell (i := 0) rfl rfl)) rfl ?_; clear S; intro a S
     refine lv S (rn_move (S.tm rfl)) rfl ?_; clear S; intro a S
     refine lv S (rn_sleq (S.tm rfl) (S.tm rfl)) rfl ?_; clear S; intro a S
     refine lv S (rn_assign (S.tm rfl)) rfl ?_; clear S; intro a S
     refine l_done (then_n (f_cond (S.tm rfl) (fun hb5 => ?_) (fun hb5 => ?_)))
     ·replace h := iteT h hb5
      refine f_seq (f_region (lv S (rn_assign rfl) rfl ?_)); clear S; intro a S
      refine l_done (then_n (wp_ret (blk_r (then_r (blk_r (then_r ?_))))))
      refine then_r (blk_r (then_r (then_r ?_)))
      obtain rfl := Option.some.inj h
      exact f_ret S Tryz.results18 rfl rfl
     ·replace h := iteF h hb5
      refine f_seq (f_region (lv S (rn_fld fa_37_3 (S.tm rfl)) rfl ?_)); clear S; intro a S
      refine lv S (rn_load Tryz.isAgg35 (S.tm rfl) (S.cell (i := 0) rfl rfl)) rfl ?_; clear S; intro a S
      refine lv S (rn_lenT sl_35 (S.tm rfl) (slc_len hs1)) rfl ?_; clear S; intro a S
      refine lv S (rn_neq (S.tm rfl) rfl) rfl ?_; clear S; intro a S
      refine lv S (rn_assign (S.tm rfl)) rfl ?_; clear S; intro a S
      refine l_done ?_
      replace S := S.nk [.blk b2 [sV y1.Key, sV y1.Club, sV y1.Race, u1.val] 37] [(5, .pointer (some ⟨b2, 0, none⟩)), (11, v_p_l), (12, iV (p_l.length : Int)), (13, iV (i1 : Int)), (39, bV (!decide ((y1.Who.length : Int) = 4)))] [true] rfl (subR rfl)
      refine then_n (f_cond (S.tm rfl) (fun hb6 => ?_) (fun hb6 => ?_))
      ·replace h := iteT h hb6
       refine f_seq (f_region (lv S (rn_assign rfl) rfl ?_)); clear S; intro a S
       refine l_done (then_n (wp_ret (blk_r (then_r (blk_r (then_r ?_))))))
       refine then_r (blk_r (then_r (then_r ?_)))
       obtain rfl := Option.some.inj h
       exact f_ret S Tryz.results18 rfl rfl
      ·replace h := iteF h hb6
       refine wp_skip (blk_n (then_n (f_seq (f_region (lv S (rn_fld fa_37_0 (S.tm rfl)) rfl ?_))))); clear S; intro a S
       refine lv S (rn_load Tryz.isAgg9 (S.tm rfl) (S.cell (i := 0) rfl rfl)) rfl ?_; clear S; intro a S
       refine lv S (rn_assign (S.tm rfl)) rfl ?_; clear S; intro a S
       refine l_done (then_n (f_seq (f_region (lv S (rn_fld fa_37_3 (S.tm rfl)) rfl ?_)))); clear S; intro a S
       refine lv S (rn_load Tryz.isAgg35 (S.tm rfl) (S.cell (i := 0) rfl rfl)) rfl ?_; clear S; intro a S
       refine lv S (rn_lenT sl_35 (S.tm rfl) (slc_len hs1)) rfl ?_; clear S; intro a S
       refine lv S (rn_move rfl) rfl ?_; clear S; intro a S
       refine l_done (then_n ?_)
       replace S := S.nk [.blk b2 [sV y1.Key, sV y1.Club, sV y1.Race, u1.val] 37] [(3, sV y1.Key), (5, .pointer (some ⟨b2, 0, none⟩)), (11, v_p_l), (12, iV (p_l.length : Int)), (13, iV (i1 : Int)), (47, u1.val), (48, iV (y1.Who.length : Int)), (49, iV 0)] [true] rfl (subR rfl)
       obtain ⟨j4, hj4, h⟩ := joinE h
       refine f_join (fun a w' => j4 = some r ∧ Sx w [] nov [.blk b2 [sV y1.Key, sV y1.Club, sV y1.Race, u1.val] 37] [(3, sV y1.Key), (11, v_p_l), (12, iV (p_l.length : Int)), (13, iV (i1 : Int))] 65 a w') ?_ ?_
       ·refine wp_block (f_loop (fun (ys2 : List ByteArray) a w' => ∃ i2 : Nat, (∃ dn, y1.Who = dn ++ ys2 ∧ dn.length = i2) ∧ tumbref2_SquadsFault_l2 y1 j4 ys2 i2 = some r ∧ Sx w [] nov [.blk b2 [sV y1.Key, sV y1.Club, sV y1.Race, u1.val] 37] [(3, sV y1.Key), (5, .pointer (some ⟨b2, 0, none⟩)), (11, v_p_l), (12, iV (p_l.length : Int)), (13, iV (i1 : Int)), (47, u1.val), (48, iV (y1.Who.length : Int)), (49, iV (i2 : Int))] 65 a w') List.length y1.Who ⟨0, ⟨[], rfl, rfl⟩, h, S.nf [true] rfl (subR rfl)⟩ ?_)
        clear S h; rintro ys2 a w10 ⟨i2, ⟨dn, hd2, hi2⟩, h, S⟩
        cases ys2 with
        | nil =>
         rw [tumbref2_SquadsFault_l2.eq_1] at h
         refine f_seq (f_region (lv S (rn_lss (S.tm rfl) (S.tm rfl)) rfl ?_)); clear S; intro a S
         refine l_done ?_
         replace S := S.nk [.blk b2 [sV y1.Key, sV y1.Club, sV y1.Race, u1.val] 37] [(3, sV y1.Key), (5, .pointer (some ⟨b2, 0, none⟩)), (11, v_p_l), (12, iV (p_l.length : Int)), (13, iV (i1 : Int)), (47, u1.val), (48, iV (y1.Who.length : Int)), (49, iV (i2 : Int)), (50, bV (decide ((i2 : Int) < (y1.Who.length : Int))))] [true] rfl (subR rfl)
         refine then_n (f_seq (wp_cond_false ((S.tm rfl).trans (congrArg Value.bool (rng_nil hd2 hi2))) (wp_exit (then_x (then_x (x_same ?_))))))
         refine then_n ?_
         exact ⟨h, S.nf [true] rfl (subR rfl)⟩
        | cons y2 ys2 =>
         rw [tumbref2_SquadsFault_l2.eq_2] at h
         refine f_seq (f_region (lv S (rn_lss (S.tm rfl) (S.tm rfl)) rfl ?_)); clear S; intro a S
         refine l_done ?_
         replace S := S.nk [.blk b2 [sV y1.Key, sV y1.Club, sV y1.Race, u1.val] 37] [(3, sV y1.Key), (5, .pointer (some ⟨b2, 0, none⟩)), (11, v_p_l), (12, iV (p_l.length : Int)), (13, iV (i1 : Int)), (47, u1.val), (48, iV (y1.Who.length : Int)), (49, iV (i2 : Int)), (50, bV (decide ((i2 : Int) < (y1.Who.length : Int))))] [true] rfl (subR rfl)
         refine then_n (f_seq (wp_cond_true ((S.tm rfl).trans (congrArg Value.bool (rng_cons hd2 hi2))) (wp_skip (then_n (f_seq (wp_block ?_))))))
         refine f_seq (f_region (lv S (rn_move (S.tm rfl)) rfl ?_)); clear S; intro a S
         obtain ⟨b3, o2, hm2, hr5⟩ := rn_indexT (a := a) (x := .tmp 47) (y := .tmp 49) (ty := 0) sl_35 hs1 (get_mid hd2 hi2) rfl (S.tm rfl) (S.tm rfl)
         refine lv S (hr5 _) rfl ?_; clear S; intro a S
         clear hr5
         refine lv S (rn_ld Tryz.isAgg9 (off := o2) (o := 0) (S.tm rfl) (hm2.at S.emb0) rfl) rfl ?_; clear S; intro a S
         refine lv S (rn_assign (S.tm rfl)) rfl ?_; clear S; intro a S
         refine lv S (rn_assign (S.tm rfl)) rfl ?_; clear S; intro a S
         refine l_done (then_n (f_seq (f_seq (f_region (lv S (rn_move (S.tm rfl)) rfl ?_))))); clear S; intro a S
         obtain ⟨r5, hr6, h⟩ := bindE h
         refine l_enter S (fun _ => run_call (vs := [sV y2]) ⟨(S.tm rfl), trivial⟩ Tryz.call44) (tumbref2_Key_ok _ y2 _ hr6) rfl ?_; clear S; intro v4 a w12 hv4 hk8 hn4 S
         subst hv4
         refine lv S (rn_not (S.tm rfl)) rfl ?_; clear S; intro a S
         refine l_done ?_
         replace S := S.nk [.blk b2 [sV y1.Key, sV y1.Club, sV y1.Race, u1.val] 37] [(3, sV y1.Key), (5, .pointer (some ⟨b2, 0, none⟩)), (6, iV (i2 : Int)), (7, sV y2), (11, v_p_l), (12, iV (p_l.length : Int)), (13, iV (i1 : Int)), (47, u1.val), (48, iV (y1.Who.length : Int)), (49, iV (i2 : Int)), (56, bV (!r5))] [true] rfl (subR rfl)
         refine then_n (f_cond (S.tm rfl) (fun hb7 => ?_) (fun hb7 => ?_))
         ·replace h := iteT h hb7
          refine f_seq (f_region (lv S (rn_assign rfl) rfl ?_)); clear S; intro a S
          refine l_done (then_n (wp_ret (then_r (blk_r (then_r (then_r ?_))))))
          refine blk_r (then_r (blk_r (then_r (then_r (blk_r (then_r ?_))))))
          refine then_r ?_
          obtain rfl := Option.some.inj h
          exact f_ret S Tryz.results18 rfl rfl
         ·replace h := iteF h hb7
          refine wp_skip (then_n (f_seq (f_region (lv S (rn_fld fa_37_3 (S.tm rfl)) rfl ?_)))); clear S; intro a S
          refine lv S (rn_load Tryz.isAgg35 (S.tm rfl) (S.cell (i := 0) rfl rfl)) rfl ?_; clear S; intro a S
          refine lv S (rn_move (S.tm rfl)) rfl ?_; clear S; intro a S
          obtain ⟨hc1, h⟩ := chkE h
          obtain ⟨v5, hs2, hr7⟩ := rn_cutTh (a := a) (x := .tmp 58) (y' := .tmp 59) (ty := 35) sl_35 hs1 (S.tm rfl) (S.tm rfl) hc1
          refine lv S (hr7 _) rfl ?_; clear S; intro a S
          clear hr7
          refine lv S (rn_move (S.tm rfl)) rfl ?_; clear S; intro a S
          refine l_enter S (fun _ => run_call (vs := [v5, sV y2]) ⟨(S.tm rfl), (S.tm rfl), trivial⟩ Tryz.call48) (slices_Contains_string_ok _ v5 (cut y1.Who 0 (i2 : Int)) (hs2.mono (S.le_arg nil_sub)) y2 _ rfl) rfl ?_; clear S; intro v6 a w13 hv5 hk9 hn5 S
          subst hv5
          refine l_done ?_
          replace S := S.nk [.blk b2 [sV y1.Key, sV y1.Club, sV y1.Race, u1.val] 37] [(3, sV y1.Key), (5, .pointer (some ⟨b2, 0, none⟩)), (11, v_p_l), (12, iV (p_l.length : Int)), (13, iV (i1 : Int)), (47, u1.val), (48, iV (y1.Who.length : Int)), (49, iV (i2 : Int)), (62, bV (slices_Contains_string (cut y1.Who 0 (i2 : Int)) y2))] [true] rfl (subR rfl)
          refine then_n (f_cond (S.tm rfl) (fun hb8 => ?_) (fun hb8 => ?_))
          ·replace h := iteT h hb8
           refine f_seq (f_region (lv S (rn_assign rfl) rfl ?_)); clear S; intro a S
           refine l_done (then_n (wp_ret (blk_r (then_r (then_r (blk_r ?_))))))
           refine then_r (blk_r (then_r (then_r (blk_r (then_r (then_r ?_))))))
           obtain rfl := Option.some.inj h
           exact f_ret S Tryz.results18 rfl rfl
          ·replace h := iteF h hb8
           refine wp_skip (blk_n (then_n (f_region (lv S (rn_add (S.tm rfl) rfl) rfl ?_)))); clear S; intro a S
           refine lv S (rn_move (S.tm rfl)) rfl ?_; clear S; intro a S
           refine l_done (then_n ?_)
           exact ⟨ys2, ⟨i2 + 1, ⟨_, (hd2).trans (List.append_cons _ _ _), by simp [hi2]⟩, h, S.nf [true] rfl ⟨rfl, rfl, rfl, rfl, rfl, rfl, rfl, (congrArg (fun z => some (Value.int .i64 z)) (rng_next hd2 hi2 (slc_max hs1))), trivial⟩⟩, Nat.lt_succ_self _⟩
       clear S h; rintro a w11 ⟨h, S⟩; rw [hj4] at h; clear hj4 j4
       refine blk_n (then_n (f_region (lv S (rn_add (S.tm rfl) rfl) rfl ?_))); clear S; intro a S
       refine lv S (rn_move (S.tm rfl)) rfl ?_; clear S; intro a S
       refine l_done (then_n ?_)
       exact ⟨ys1, ⟨i1 + 1, y1.Key, ⟨_, (hd1).trans (List.append_cons _ _ _), by simp [hi1]⟩, h, S.nf [false] rfl ⟨rfl, rfl, rfl, (congrArg (fun z => some (Value.int .i64 z)) (rng_next hd1 hi1 (slc_maxD hs_p_l hr_p_l))), trivial⟩⟩, Nat.lt_succ_self _⟩
  clear S h; rintro a w2 ⟨h, S⟩; rw [hj1] at h; clear hj1 j1
  refine then_n (f_seq (f_region (lv S (rn_assign rfl) rfl ?_))); clear S; intro a S
  refine l_done (then_n (wp_ret ?_))
  obtain rfl := Option.some.inj h
  exact f_ret S Tryz.results18 rfl rfl
theorem tumblaw2_errs_ok (w : World) (v_p_l : Value) (p_l : List Int) (hs_p_l : Slc (view w []) 1 v_p_l (p_l.map eInt)) (r : Int) (h : tumblaw2_errs p_l = r) :
    Calls Tryz.prog 13 [v_p_l].toArray w (Ret w [] fun _ v _ => v = iV r) := by
 refine f_enter [] [] Tryz.func13 rfl Tryz.ntmps13 rfl (by simp) (by simp [fps]) (by simp [fps]) fun a S => ?_
 unfold tumblaw2_errs at h
 replace S := S.nk [] [(0, v_p_l)] [] rfl ⟨rfl, trivial⟩
 refine f_seq (f_region (lv S (rn_assign rfl) rfl ?_)); clear S; intro a S
 refine l_done (then_n (f_seq (f_seq (f_region (lv S (rn_move (S.tm rfl)) rfl ?_))))); clear S; intro a S
 refine lv S (rn_lenT sl_84 (S.tm rfl) (slc_len hs_p_l)) rfl ?_; clear S; intro a S
 refine lv S (rn_move rfl) rfl ?_; clear S; intro a S
 refine l_done (then_n ?_)
 replace S := S.nk [] [(5, v_p_l), (6, iV (p_l.length : Int)), (7, iV 0)] [] rfl (subR rfl)
 obtain ⟨j1, hj1, h⟩ := joinE h
 refine f_join (fun a w' => j1 = r ∧ Sx w [] nov [] [] 15 a w') ?_ ?_
 ·refine wp_block (f_loop (fun (ys1 : List Int) a w' => ∃ i1 : Nat, (∃ dn, p_l = dn ++ ys1 ∧ dn.length = i1) ∧ tumblaw2_errs_l1 j1 ys1 i1 = r ∧ Sx w [] nov [] [(5, v_p_l), (6, iV (p_l.length : Int)), (7, iV (i1 : Int))] 15 a w') List.length p_l ⟨0, ⟨[], rfl, rfl⟩, h, S.nf [] rfl (subR rfl)⟩ ?_)
  clear S h; rintro ys1 a w1 ⟨i1, ⟨dn, hd1, hi1⟩, h, S⟩
  cases ys1 with
  | nil =>
   rw [tumblaw2_errs_l1.eq_1] at h
   refine f_seq (f_region (lv S (rn_lss (S.tm rfl) (S.tm rfl)) rfl ?_)); clear S; intro a S
   refine l_done ?_
   replace S := S.nk [] [(5, v_p_l), (6, iV (p_l.length : Int)), (7, iV (i1 : Int)), (8, bV (decide ((i1 : Int) < (p_l.length : Int))))] [] rfl (subR rfl)
   refine then_n (f_seq (wp_cond_false ((S.tm rfl).trans (congrArg Value.bool (rng_nil hd1 hi1))) (wp_exit (then_x (then_x (x_same ?_))))))
   refine then_n ?_
   exact ⟨h, S.nf [] rfl trivial⟩
  | cons y1 ys1 =>
   rw [tumblaw2_errs_l1.eq_2] at h
   refine f_seq (f_region (lv S (rn_lss (S.tm rfl) (S.tm rfl)) rfl ?_)); clear S; intro a S
   refine l_done ?_
   replace S := S.nk [] [(5, v_p_l), (6, iV (p_l.length : Int)), (7, iV (i1 : Int)), (8, bV (decide ((i1 : Int) < (p_l.length : Int))))] [] rfl (subR rfl)
   refine then_n (f_seq (wp_cond_true ((S.tm rfl).trans (congrArg Value.bool (rng_cons hd1 hi1))) (wp_skip (then_n (f_seq (wp_block ?_))))))
   refine f_seq (f_region ?_)
   obtain ⟨b1, o1, hm1, hr1⟩ := rn_indexT (a := a) (x := .tmp 5) (y := .tmp 7) (ty := 0) sl_84 hs_p_l (get_mid hd1 hi1) rfl (S.tm rfl) (S.tm rfl)
   refine lv S (hr1 _) rfl ?_; clear S; intro a S
   clear hr1
   refine lv S (rn_ld Tryz.isAgg43 (off := o1) (o := 0) (S.tm rfl) (hm1.at S.emb0) rfl) rfl ?_; clear S; intro a S
   refine lv S (rn_assign (S.tm rfl)) rfl ?_; clear S; intro a S
   refine l_done (then_n (f_seq (f_region (lv S (rn_move (S.tm rfl)) rfl ?_)))); clear S; intro a S
   refine lv S (rn_neq (S.tm rfl) rfl) rfl ?_; clear S; intro a S
   refine l_done (then_n (f_cond (S.tm rfl) (fun hb1 => ?_) (fun hb1 => ?_)))
   ·replace h := iteT h hb1
    refine f_seq (f_region (lv S (rn_move (S.tm rfl)) rfl ?_)); clear S; intro a S
    refine lv S (rn_assign (S.tm rfl)) rfl ?_; clear S; intro a S
    refine l_done (then_n (wp_ret (blk_r (then_r (then_r (blk_r ?_))))))
    refine then_r (then_r ?_)
    subst h
    exact f_ret S Tryz.results13 rfl rfl
   ·replace h := iteF h hb1
    refine wp_skip (blk_n (then_n (f_region (lv S (rn_add (S.tm rfl) rfl) rfl ?_)))); clear S; intro a S
    refine lv S (rn_move (S.tm rfl)) rfl ?_; clear S; intro a S
    refine l_done (then_n ?_)
    exact ⟨ys1, ⟨i1 + 1, ⟨_, (hd1).trans (List.append_cons _ _ _), by simp [hi1]⟩, h, S.nf [] rfl ⟨rfl, rfl, (congrArg (fun z => some (Value.int .i64 z)) (rng_next hd1 hi1 (slc_max hs_p_l))), trivial⟩⟩, Nat.lt_succ_self _⟩
 clear S h; rintro a w2 ⟨h, S⟩; rw [hj1] at h; clear hj1 j1
 refine then_n (f_seq (f_region (lv S (rn_assign rfl) rfl ?_))); clear S; intro a S
 refine l_done (then_n (wp_ret ?_))
 subst h
 exact f_ret S Tryz.results13 rfl rfl
theorem tumbref2_raceOf_ok (w : World) (v_p_l : Value) (p_l : List GRace) (hs_p_l : Slc (view w []) 8 v_p_l (p_l.map GRace.enc)) (p_key : ByteArray) (r : GRace × Bool) (h : tumbref2_raceOf p_l p_key = r) :
    Calls Tryz.prog 49 [v_p_l, sV p_key].toArray w (Ret w [] fun _ v _ => v = .tuple #[.agg (GRace.enc r.1).toArray, bV r.2]) := by
 refine f_enter [] [] Tryz.func49 rfl Tryz.ntmps49 rfl (by simp) (by simp [fps]) (by simp [fps]) fun a S => ?_
 unfold tumbref2_raceOf at h
 replace S := S.nk [] [(0, v_p_l), (1, sV p_key)] [] rfl (subR rfl)
 refine f_seq (f_region (l_alloc S Tryz.zeroValue42 (cs := [sV k_empty, iV 0, iV 0, iV 0, iV 0, iV 0, iV 0, iV 0]) rfl rfl ?_)); clear S; intro a w1 b1 hz1 hk1 S
 refine lv S (rn_assign rfl) rfl ?_; clear S; intro a S
 refine l_done (then_n (f_seq (f_seq (f_region (lv S (rn_move (S.tm rfl)) rfl ?_))))); clear S; intro a S
 refine lv S (rn_lenT sl_26 (S.tm rfl) (slc_len hs_p_l)) rfl ?_; clear S; intro a S
 refine lv S (rn_move rfl) rfl ?_; clear S; intro a S
 refine l_done (then_n ?_)
 replace S := S.nk [.blk b1 (GRace.enc (GRace.mk k_empty 0 0 0 0 0 0 0)) 42] [(1, sV p_key), (4, .pointer (some ⟨b1, 0, none⟩)), (8, v_p_l), (9, iV (p_l.length : Int)), (10, iV 0)] [true] rfl (subR rfl)
 obtain ⟨j1, hj1, h⟩ := joinE h
 refine f_join (fun a w' => j1 = r ∧ Sx w [] nov [.blk b1 (GRace.enc (GRace.mk k_empty 0 0 0 0 0 0 0)) 42] [(4, .pointer (some ⟨b1, 0, none⟩))] 21 a w') ?_ ?_
 ·refine wp_block (f_loop (fun (ys1 : List GRace) a w' => ∃ i1 : Nat, (∃ dn, p_l = dn ++ ys1 ∧ dn.length = i1) ∧ tumbref2_raceOf_l1 p_key j1 ys1 i1 = r ∧ Sx w [] nov [.blk b1 (GRace.enc (GRace.mk k_empty 0 0 0 0 0 0 0)) 42] [(1, sV p_key), (4, .pointer (some ⟨b1, 0, none⟩)), (8, v_p_l), (9, iV (p_l.length : Int)), (10, iV (i1 : Int))] 21 a w') List.length p_l ⟨0, ⟨[], rfl, rfl⟩, h, S.nf [true] rfl (subR rfl)⟩ ?_)
  clear S h; rintro ys1 a w2 ⟨i1, ⟨dn, hd1, hi1⟩, h, S⟩
  cases ys1 with
  | nil =>
   rw [tumbref2_raceOf_l1.eq_1] at h
   refine f_seq (f_region (lv S (rn_lss (S.tm rfl) (S.tm rfl)) rfl ?_)); clear S; intro a S
   refine l_done ?_
   replace S := S.nk [.blk b1 (GRace.enc (GRace.mk k_empty 0 0 0 0 0 0 0)) 42] [(1, sV p_key), (4, .pointer (some ⟨b1, 0, none⟩)), (8, v_p_l), (9, iV (p_l.length : Int)), (10, iV (i1 : Int)), (11, bV (decide ((i1 : Int) < (p_l.length : Int))))] [true] rfl (subR rfl)
   refine then_n (f_seq (wp_cond_false ((S.tm rfl).trans (congrArg Value.bool (rng_nil hd1 hi1))) (wp_exit (then_x (then_x (x_same ?_))))))
   refine then_n ?_
   exact ⟨h, S.nf [true] rfl ⟨rfl, trivial⟩⟩
  | cons y1 ys1 =>
   rw [tumbref2_raceOf_l1.eq_2] at h
   refine f_seq (f_region (lv S (rn_lss (S.tm rfl) (S.tm rfl)) rfl ?_)); clear S; intro a S
   refine l_done ?_
   replace S := S.nk [.blk b1 (GRace.enc (GRace.mk k_empty 0 0 0 0 0 0 0)) 42] [(1, sV p_key), (4, .pointer (some ⟨b1, 0, none⟩)), (8, v_p_l), (9, iV (p_l.length : Int)), (10, iV (i1 : Int)), (11, bV (decide ((i1 : Int) < (p_l.length : Int))))] [true] rfl (subR rfl)
   refine then_n (f_seq (wp_cond_true ((S.tm rfl).trans (congrArg Value.bool (rng_cons hd1 hi1))) (wp_skip (then_n (f_seq (wp_block ?_))))))
   refine f_seq (f_region ?_)
   obtain ⟨b2, o1, hm1, hr1⟩ := rn_indexT (a := a) (x := .tmp 8) (y := .tmp 10) (ty := 0) sl_26 hs_p_l (get_mid hd1 hi1) rfl (S.tm rfl) (S.tm rfl)
   refine lv S (hr1 _) rfl ?_; clear S; intro a S
   clear hr1
   refine lv S (rn_ldA Tryz.isAgg42 Tryz.sizeOf42 (off := o1) (o := 0) (part := (GRace.enc y1)) rfl rfl (S.tm rfl) (hm1.at S.emb0)) rfl ?_; clear S; intro a S
   refine l_alloc S Tryz.zeroValue42 (cs := [sV k_empty, iV 0, iV 0, iV 0, iV 0, iV 0, iV 0, iV 0]) rfl rfl ?_; clear S; intro a w4 b3 hz2 hk2 S
   refine l_store S (S.tm rfl) (S.tm rfl) (i := 0) (off := 0) rfl Tryz.sizeOf42 (vs := (GRace.enc y1)) rfl rfl rfl rfl ?_; clear S; intro w5 hk3 S
   refine l_done (then_n (f_seq (f_region (lv S (rn_fld fa_42_0 (S.tm rfl)) rfl ?_)))); clear S; intro a S
   refine lv S (rn_load Tryz.isAgg9 (S.tm rfl) (S.cell (i := 0) rfl rfl)) rfl ?_; clear S; intro a S
   refine lv S (rn_move (S.tm rfl)) rfl ?_; clear S; intro a S
   refine lv S (rn_seql (S.tm rfl) (S.tm rfl)) rfl ?_; clear S; intro a S
   refine l_done (then_n (f_cond (S.tm rfl) (fun hb1 => ?_) (fun hb1 => ?_)))
   ·replace h := iteT h hb1
    refine f_seq (f_region (lv S (rn_ldA Tryz.isAgg42 Tryz.sizeOf42 (off := 0) (o := 0) (part := (GRace.enc y1)) rfl rfl (S.tm rfl) (S.cellsAt (i := 0) rfl)) rfl ?_)); clear S; intro a S
    refine l_store S (S.tm rfl) (S.tm rfl) (i := 1) (off := 0) rfl Tryz.sizeOf42 (vs := (GRace.enc y1)) rfl rfl rfl rfl ?_; clear S; intro w6 hk4 S
    refine lv S (rn_assign rfl) rfl ?_; clear S; intro a S
    refine l_done ?_
    replace S := S.nk [.blk b1 (GRace.enc y1) 42] [(4, .pointer (some ⟨b1, 0, none⟩)), (5, bV true)] [false, true] rfl (subR rfl)
    refine then_n (wp_ret (blk_r (then_r (then_r (blk_r (then_r ?_))))))
    refine then_r ?_
    subst h
    exact f_retG S (rs := [.cell 4 42, .tmp 5]) (vs := [.agg (GRace.enc y1).toArray, bV true]) Tryz.results49 ⟨(res_cell (off := 0) S rfl Tryz.isAgg42 Tryz.sizeOf42 rfl (S.cellsAt (i := 0) rfl)), (res_tmp S rfl), trivial⟩ rfl rfl
   ·replace h := iteF h hb1
    refine wp_skip (blk_n (then_n (f_region (lv S (rn_add (S.tm rfl) rfl) rfl ?_)))); clear S; intro a S
    refine lv S (rn_move (S.tm rfl)) rfl ?_; clear S; intro a S
    refine l_done (then_n ?_)
    exact ⟨ys1, ⟨i1 + 1, ⟨_, (hd1).trans (List.append_cons _ _ _), by simp [hi1]⟩, h, S.nf [false, true] rfl ⟨rfl, rfl, rfl, rfl, (congrArg (fun z => some (Value.int .i64 z)) (rng_next hd1 hi1 (slc_max hs_p_l))), trivial⟩⟩, Nat.lt_succ_self _⟩
 clear S h; rintro a w3 ⟨h, S⟩; rw [hj1] at h; clear hj1 j1
 refine then_n (f_seq (f_region (lv S (rn_bld bt_42 (pv := []) trivial (cs := [sV k_empty, iV 0, iV 0, iV 0, iV 0, iV 0, iV 0, iV 0]) (by kernel_rfl)) rfl ?_))); clear S; intro a S
 refine l_store S (S.tm rfl) (S.tm rfl) (i := 0) (off := 0) rfl Tryz.sizeOf42 (vs := (GRace.enc (GRace.mk k_empty 0 0 0 0 0 0 0))) rfl rfl rfl rfl ?_; clear S; intro w7 hk5 S
 refine lv S (rn_assign rfl) rfl ?_; clear S; intro a S
 refine l_done (then_n (wp_ret ?_))
 subst h
 exact f_retG S (rs := [.cell 4 42, .tmp 5]) (vs := [.agg (GRace.enc (GRace.mk k_empty 0 0 0 0 0 0 0)).toArray, bV false]) Tryz.results49 ⟨(res_cell (off := 0) S rfl Tryz.isAgg42 Tryz.sizeOf42 rfl (S.cellsAt (i := 0) rfl)), (res_tmp S rfl), trivial⟩ rfl rfl
theorem tumbref2_swimmerOf_ok (w : World) (v_p_l : Value) (p_l : List GSwimmer) (hs_p_l : Slc (view w []) 3 v_p_l (p_l.map GSwimmer.enc)) (p_key : ByteArray) (r : GSwimmer × Bool) (h : tumbref2_swimmerOf p_l p_key = r) :
    Calls Tryz.prog 50 [v_p_l, sV p_key].toArray w (Ret w [] fun _ v _ => v = .tuple #[.agg (GSwimmer.enc r.1).toArray, bV r.2]) := by
 refine f_enter [] [] Tryz.func50 rfl Tryz.ntmps50 rfl (by simp) (by simp [fps]) (by simp [fps]) fun a S => ?_
 unfold tumbref2_swimmerOf at h
 replace S := S.nk [] [(0, v_p_l), (1, sV p_key)] [] rfl (subR rfl)
 refine f_seq (f_region (l_alloc S Tryz.zeroValue71 (cs := [sV k_empty, iV 0, iV 0]) rfl rfl ?_)); clear S; intro a w1 b1 hz1 hk1 S
 refine lv S (rn_assign rfl) rfl ?_; clear S; intro a S
 refine l_done (then_n (f_seq (f_seq (f_region (lv S (rn_move (S.tm rfl)) rfl ?_))))); clear S; intro a S
 refine lv S (rn_lenT sl_28 (S.tm rfl) (slc_len hs_p_l)) rfl ?_; clear S; intro a S
 refine lv S (rn_move rfl) rfl ?_; clear S; intro a S
 refine l_done (then_n ?_)
 replace S := S.nk [.blk b1 [sV k_empty, iV 0, iV 0] 71] [(1, sV p_key), (4, .pointer (some ⟨b1, 0, none⟩)), (8, v_p_l), (9, iV (p_l.length : Int)), (10, iV 0)] [true] rfl (subR rfl)
 obtain ⟨j1, hj1, h⟩ := joinE h
 refine f_join (fun a w' => j1 = r ∧ Sx w [] nov [.blk b1 [sV k_empty, iV 0, iV 0] 71] [(4, .pointer (some ⟨b1, 0, none⟩))] 21 a w') ?_ ?_
 ·refine wp_block (f_loop (fun (ys1 : List GSwimmer) a w' => ∃ i1 : Nat, (∃ dn, p_l = dn ++ ys1 ∧ dn.length = i1) ∧ tumbref2_swimmerOf_l1 p_key j1 ys1 i1 = r ∧ Sx w [] nov [.blk b1 [sV k_empty, iV 0, iV 0] 71] [(1, sV p_key), (4, .pointer (some ⟨b1, 0, none⟩)), (8, v_p_l), (9, iV (p_l.length : Int)), (10, iV (i1 : Int))] 21 a w') List.length p_l ⟨0, ⟨[], rfl, rfl⟩, h, S.nf [true] rfl (subR rfl)⟩ ?_)
  clear S h; rintro ys1 a w2 ⟨i1, ⟨dn, hd1, hi1⟩, h, S⟩
  cases ys1 with
  | nil =>
   rw [tumbref2_swimmerOf_l1.eq_1] at h
   refine f_seq (f_region (lv S (rn_lss (S.tm rfl) (S.tm rfl)) rfl ?_)); clear S; intro a S
   refine l_done ?_
   replace S := S.nk [.blk b1 [sV k_empty, iV 0, iV 0] 71] [(1, sV p_key), (4, .pointer (some ⟨b1, 0, none⟩)), (8, v_p_l), (9, iV (p_l.length : Int)), (10, iV (i1 : Int)), (11, bV (decide ((i1 : Int) < (p_l.length : Int))))] [true] rfl (subR rfl)
   refine then_n (f_seq (wp_cond_false ((S.tm rfl).trans (congrArg Value.bool (rng_nil hd1 hi1))) (wp_exit (then_x (then_x (x_same ?_))))))
   refine then_n ?_
   exact ⟨h, S.nf [true] rfl ⟨rfl, trivial⟩⟩
  | cons y1 ys1 =>
   rw [tumbref2_swimmerOf_l1.eq_2] at h
   refine f_seq (f_region (lv S (rn_lss (S.tm rfl) (S.tm rfl)) rfl ?_)); clear S; intro a S
   refine l_done ?_
   replace S := S.nk [.blk b1 [sV k_empty, iV 0, iV 0] 71] [(1, sV p_key), (4, .pointer (some ⟨b1, 0, none⟩)), (8, v_p_l), (9, iV (p_l.length : Int)), (10, iV (i1 : Int)), (11, bV (decide ((i1 : Int) < (p_l.length : Int))))] [true] rfl (subR rfl)
   refine then_n (f_seq (wp_cond_true ((S.tm rfl).trans (congrArg Value.bool (rng_cons hd1 hi1))) (wp_skip (then_n (f_seq (wp_block ?_))))))
   refine f_seq (f_region ?_)
   obtain ⟨b2, o1, hm1, hr1⟩ := rn_indexT (a := a) (x := .tmp 8) (y := .tmp 10) (ty := 0) sl_28 hs_p_l (get_mid hd1 hi1) rfl (S.tm rfl) (S.tm rfl)
   refine lv S (hr1 _) rfl ?_; clear S; intro a S
   clear hr1
   refine lv S (rn_ldA Tryz.isAgg71 Tryz.sizeOf71 (off := o1) (o := 0) (part := (GSwimmer.enc y1)) rfl rfl (S.tm rfl) (hm1.at S.emb0)) rfl ?_; clear S; intro a S
   refine l_alloc S Tryz.zeroValue71 (cs := [sV k_empty, iV 0, iV 0]) rfl rfl ?_; clear S; intro a w4 b3 hz2 hk2 S
   refine l_store S (S.tm rfl) (S.tm rfl) (i := 0) (off := 0) rfl Tryz.sizeOf71 (vs := (GSwimmer.enc y1)) rfl rfl rfl rfl ?_; clear S; intro w5 hk3 S
   refine l_done (then_n (f_seq (f_region (lv S (rn_fld fa_71_0 (S.tm rfl)) rfl ?_)))); clear S; intro a S
   refine lv S (rn_load Tryz.isAgg9 (S.tm rfl) (S.cell (i := 0) rfl rfl)) rfl ?_; clear S; intro a S
   refine lv S (rn_move (S.tm rfl)) rfl ?_; clear S; intro a S
   refine lv S (rn_seql (S.tm rfl) (S.tm rfl)) rfl ?_; clear S; intro a S
   refine l_done (then_n (f_cond (S.tm rfl) (fun hb1 => ?_) (fun hb1 => ?_)))
   ·replace h := iteT h hb1
    refine f_seq (f_region (lv S (rn_ldA Tryz.isAgg71 Tryz.sizeOf71 (off := 0) (o := 0) (part := (GSwimmer.enc y1)) rfl rfl (S.tm rfl) (S.cellsAt (i := 0) rfl)) rfl ?_)); clear S; intro a S
    refine l_store S (S.tm rfl) (S.tm rfl) (i := 1) (off := 0) rfl Tryz.sizeOf71 (vs := (GSwimmer.enc y1)) rfl rfl rfl rfl ?_; clear S; intro w6 hk4 S
    refine lv S (rn_assign rfl) rfl ?_; clear S; intro a S
    refine l_done ?_
    replace S := S.nk [.blk b1 (GSwimmer.enc y1) 71] [(4, .pointer (some ⟨b1, 0, none⟩)), (5, bV true)] [false, true] rfl (subR rfl)
    refine then_n (wp_ret (blk_r (then_r (then_r (blk_r (then_r ?_))))))
    refine then_r ?_
    subst h
    exact f_retG S (rs := [.cell 4 71, .tmp 5]) (vs := [.agg (GSwimmer.enc y1).toArray, bV true]) Tryz.results50 ⟨(res_cell (off := 0) S rfl Tryz.isAgg71 Tryz.sizeOf71 rfl (S.cellsAt (i := 0) rfl)), (res_tmp S rfl), trivial⟩ rfl rfl
   ·replace h := iteF h hb1
    refine wp_skip (blk_n (then_n (f_region (lv S (rn_add (S.tm rfl) rfl) rfl ?_)))); clear S; intro a S
    refine lv S (rn_move (S.tm rfl)) rfl ?_; clear S; intro a S
    refine l_done (then_n ?_)
    exact ⟨ys1, ⟨i1 + 1, ⟨_, (hd1).trans (List.append_cons _ _ _), by simp [hi1]⟩, h, S.nf [false, true] rfl ⟨rfl, rfl, rfl, rfl, (congrArg (fun z => some (Value.int .i64 z)) (rng_next hd1 hi1 (slc_max hs_p_l))), trivial⟩⟩, Nat.lt_succ_self _⟩
 clear S h; rintro a w3 ⟨h, S⟩; rw [hj1] at h; clear hj1 j1
 refine then_n (f_seq (f_region (lv S (rn_bld bt_71 (pv := []) trivial (cs := [sV k_empty, iV 0, iV 0]) (by kernel_rfl)) rfl ?_))); clear S; intro a S
 refine l_store S (S.tm rfl) (S.tm rfl) (i := 0) (off := 0) rfl Tryz.sizeOf71 (vs := [sV k_empty, iV 0, iV 0]) rfl rfl rfl rfl ?_; clear S; intro w7 hk5 S
 refine lv S (rn_assign rfl) rfl ?_; clear S; intro a S
 refine l_done (then_n (wp_ret ?_))
 subst h
 exact f_retG S (rs := [.cell 4 71, .tmp 5]) (vs := [.agg #[sV k_empty, iV 0, iV 0], bV false]) Tryz.results50 ⟨(res_cell (off := 0) S rfl Tryz.isAgg71 Tryz.sizeOf71 rfl (S.cellsAt (i := 0) rfl)), (res_tmp S rfl), trivial⟩ rfl rfl
theorem tumbref2_ClubFor_ok (w : World) (v_p_l : Value) (p_l : List GMove) (hs_p_l : Slc (view w []) 3 v_p_l (p_l.map GMove.enc)) (p_who : ByteArray) (p_day : Int) (r : ByteArray) (h : tumbref2_ClubFor p_l p_who p_day = r) :
    Calls Tryz.prog 51 [v_p_l, sV p_who, iV p_day].toArray w (Ret w [] fun _ v _ => v = sV r) := by
 refine f_enter [] [] Tryz.func51 rfl Tryz.ntmps51 rfl (by simp) (by simp [fps]) (by simp [fps]) fun a S => ?_
 unfold tumbref2_ClubFor at h
 replace S := S.nk [] [(0, v_p_l), (1, sV p_who), (2, iV p_day)] [] rfl (subR rfl)
 refine f_seq (f_region (lv S (rn_assign rfl) rfl ?_)); clear S; intro a S
 refine l_done (then_n (f_seq (f_region (lv S (rn_assign rfl) rfl ?_)))); clear S; intro a S
 refine l_done (then_n (f_seq (f_seq (f_region (lv S (rn_move (S.tm rfl)) rfl ?_))))); clear S; intro a S
 refine lv S (rn_lenT sl_30 (S.tm rfl) (slc_len hs_p_l)) rfl ?_; clear S; intro a S
 refine lv S (rn_move rfl) rfl ?_; clear S; intro a S
 refine l_done (then_n ?_)
 replace S := S.nk [] [(1, sV p_who), (2, iV p_day), (7, sV k_empty), (10, v_p_l), (11, iV (p_l.length : Int)), (12, iV 0)] [] rfl (subR rfl)
 obtain ⟨j1, hj1, h⟩ := joinE h
 refine f_join (fun a w' => ∃ x1 : ByteArray, j1 x1 = r ∧ Sx w [] nov [] [(7, sV x1)] 30 a w') ?_ ?_
 ·refine wp_block (f_loop (fun (ys1 : List GMove) a w' => ∃ i1 : Nat, ∃ x1 : ByteArray, (∃ dn, p_l = dn ++ ys1 ∧ dn.length = i1) ∧ tumbref2_ClubFor_l1 p_who p_day j1 ys1 i1 x1 = r ∧ Sx w [] nov [] [(1, sV p_who), (2, iV p_day), (7, sV x1), (10, v_p_l), (11, iV (p_l.length : Int)), (12, iV (i1 : Int))] 30 a w') List.length p_l ⟨0, k_empty, ⟨[], rfl, rfl⟩, h, S.nf [] rfl (subR rfl)⟩ ?_)
  clear S h; rintro ys1 a w1 ⟨i1, x1, ⟨dn, hd1, hi1⟩, h, S⟩
  cases ys1 with
  | nil =>
   rw [tumbref2_ClubFor_l1.eq_1] at h
   refine f_seq (f_region (lv S (rn_lss (S.tm rfl) (S.tm rfl)) rfl ?_)); clear S; intro a S
   refine l_done ?_
   replace S := S.nk [] [(1, sV p_who), (2, iV p_day), (7, sV x1), (10, v_p_l), (11, iV (p_l.length : Int)), (12, iV (i1 : Int)), (13, bV (decide ((i1 : Int) < (p_l.length : Int))))] [] rfl (subR rfl)
   refine then_n (f_seq (wp_cond_false ((S.tm rfl).trans (congrArg Value.bool (rng_nil hd1 hi1))) (wp_exit (then_x (then_x (x_same ?_))))))
   refine then_n ?_
   exact ⟨x1, h, S.nf [] rfl ⟨rfl, trivial⟩⟩
  | cons y1 ys1 =>
   rw [tumbref2_ClubFor_l1.eq_2] at h
   refine f_seq (f_region (lv S (rn_lss (S.tm rfl) (S.tm rfl)) rfl ?_)); clear S; intro a S
   refine l_done ?_
   replace S := S.nk [] [(1, sV p_who), (2, iV p_day), (7, sV x1), (10, v_p_l), (11, iV (p_l.length : Int)), (12, iV (i1 : Int)), (13, bV (decide ((i1 : Int) < (p_l.length : Int))))] [] rfl (subR rfl)
   refine then_n (f_seq (wp_cond_true ((S.tm rfl).trans (congrArg Value.bool (rng_cons hd1 hi1))) (wp_skip (then_n (f_seq ?_)))))
   obtain ⟨j2, hj2, h⟩ := joinE h
   refine f_join (fun a w' => ∃ x2 : ByteArray, j2 x2 = r ∧ Sx w [] nov [] [(1, sV p_who), (2, iV p_day), (7, sV x2), (10, v_p_l), (11, iV (p_l.length : Int)), (12, iV (i1 : Int))] 30 a w') ?_ ?_
   ·refine wp_block (f_seq (f_region ?_))
    obtain ⟨b1, o1, hm1, hr1⟩ := rn_indexT (a := a) (x := .tmp 10) (y := .tmp 12) (ty := 0) sl_30 hs_p_l (get_mid hd1 hi1) rfl (S.tm rfl) (S.tm rfl)
    refine lv S (hr1 _) rfl ?_; clear S; intro a S
    clear hr1
    refine lv S (rn_ldA Tryz.isAgg74 Tryz.sizeOf74 (off := o1) (o := 0) (part := (GMove.enc y1)) rfl rfl (S.tm rfl) (hm1.at S.emb0)) rfl ?_; clear S; intro a S
    refine l_alloc S Tryz.zeroValue74 (cs := [sV k_empty, sV k_empty, iV 0]) rfl rfl ?_; clear S; intro a w4 b2 hz1 hk1 S
    refine l_store S (S.tm rfl) (S.tm rfl) (i := 0) (off := 0) rfl Tryz.sizeOf74 (vs := (GMove.enc y1)) rfl rfl rfl rfl ?_; clear S; intro w5 hk2 S
    refine l_done (then_n (f_seq (f_region (lv S (rn_fld fa_74_0 (S.tm rfl)) rfl ?_)))); clear S; intro a S
    refine lv S (rn_load Tryz.isAgg9 (S.tm rfl) (S.cell (i := 0) rfl rfl)) rfl ?_; clear S; intro a S
    refine lv S (rn_move (S.tm rfl)) rfl ?_; clear S; intro a S
    refine lv S (rn_seql (S.tm rfl) (S.tm rfl)) rfl ?_; clear S; intro a S
    refine lv S (rn_move (S.tm rfl)) rfl ?_; clear S; intro a S
    refine f_cutm 5 (fun a w' => Keep [] w5 w' ∧ Sx w [] nov [.blk b2 (GMove.enc y1) 74] [(1, sV p_who), (2, iV p_day), (7, sV x1), (9, .pointer (some ⟨b2, 0, none⟩)), (10, v_p_l), (11, iV (p_l.length : Int)), (12, iV (i1 : Int)), (25, bV ((decide (y1.Who = p_who)) && (decide (y1.Day ≤ p_day))))] 30 a w') ?_ ?_
    ·rcases Bool.eq_false_or_eq_true (decide (y1.Who = p_who)) with hb1 | hb1
     ·refine l_want S rfl rfl rfl hb1 (lv S (rn_fld fa_74_2 (S.tm rfl)) rfl ?_); clear S; intro a S
      refine l_want S rfl rfl rfl hb1 (lv S (rn_load Tryz.isAgg3 (S.tm rfl) (S.cell (i := 0) rfl rfl)) rfl ?_); clear S; intro a S
      refine l_want S rfl rfl rfl hb1 (lv S (rn_move (S.tm rfl)) rfl ?_); clear S; intro a S
      refine l_want S rfl rfl rfl hb1 (lv S (rn_leq (S.tm rfl) (S.tm rfl)) rfl ?_); clear S; intro a S
      refine lv S (rn_and_t hb1 (S.tm rfl) (S.tm rfl)) rfl ?_; clear S; intro a S
      refine l_done (then_n ?_)
      exact ⟨Keep.refl _ _, S.nf [true] rfl (subR rfl)⟩
     ·iterate 4 (refine l_skip S rfl rfl rfl (neq_f hb1) rfl ?_ rfl; clear S; intro a S)
      refine lv S (rn_and_f (decide (y1.Day ≤ p_day)) hb1 (S.tm rfl) rfl) rfl ?_; clear S; intro a S
      refine l_done (then_n ?_)
      exact ⟨Keep.refl _ _, S.nf [true] rfl (subR rfl)⟩
    clear S; rintro a w6 ⟨hk3, S⟩
    refine l_done (then_n ?_)
    obtain ⟨j3, hj3, h⟩ := joinE h
    refine f_join (fun a w' => ∃ x3 : ByteArray, j3 x3 = r ∧ Sx w [] nov [.blk b2 (GMove.enc y1) 74] [(1, sV p_who), (2, iV p_day), (7, sV x3), (10, v_p_l), (11, iV (p_l.length : Int)), (12, iV (i1 : Int))] 30 a w') ?_ ?_
    ·refine f_cond (S.tm rfl) (fun hb2 => ?_) (fun hb2 => ?_)
     ·replace h := iteT h hb2
      refine f_region (lv S (rn_fld fa_74_1 (S.tm rfl)) rfl ?_); clear S; intro a S
      refine lv S (rn_load Tryz.isAgg9 (S.tm rfl) (S.cell (i := 0) rfl rfl)) rfl ?_; clear S; intro a S
      refine lv S (rn_assign (S.tm rfl)) rfl ?_; clear S; intro a S
      refine l_done (then_n ?_)
      exact ⟨y1.Club, h, S.nf [true] rfl (subR rfl)⟩
     ·replace h := iteF h hb2
      refine wp_skip (then_n ?_)
      exact ⟨x1, h, S.nf [true] rfl (subR rfl)⟩
    clear S h; rintro a w7 ⟨x3, h, S⟩; rw [hj3] at h; clear hj3 j3
    refine blk_n (then_n ?_)
    exact ⟨x3, h, S.nf [false] rfl (subR rfl)⟩
   clear S h; rintro a w3 ⟨x2, h, S⟩; rw [hj2] at h; clear hj2 j2
   refine then_n (f_region (lv S (rn_add (S.tm rfl) rfl) rfl ?_)); clear S; intro a S
   refine lv S (rn_move (S.tm rfl)) rfl ?_; clear S; intro a S
   refine l_done (then_n ?_)
   exact ⟨ys1, ⟨i1 + 1, x2, ⟨_, (hd1).trans (List.append_cons _ _ _), by simp [hi1]⟩, h, S.nf [] rfl ⟨rfl, rfl, rfl, rfl, rfl, (congrArg (fun z => some (Value.int .i64 z)) (rng_next hd1 hi1 (slc_max hs_p_l))), trivial⟩⟩, Nat.lt_succ_self _⟩
 clear S h; rintro a w2 ⟨x1, h, S⟩; rw [hj1] at h; clear hj1 j1
 refine then_n (f_seq (f_region (lv S (rn_move (S.tm rfl)) rfl ?_))); clear S; intro a S
 refine lv S (rn_assign (S.tm rfl)) rfl ?_; clear S; intro a S
 refine l_done (then_n (wp_ret ?_))
 subst h
 exact f_ret S Tryz.results51 rfl rfl
theorem tumbref2_pastDate_ok (w : World) (r : GDate) (h : tumbref2_pastDate = r) :
    Calls Tryz.prog 94 [].toArray w (Ret w [] fun _ v _ => v = .agg (GDate.enc r).toArray) := by
 refine f_enter [] [] Tryz.func94 rfl Tryz.ntmps94 rfl (by simp) (by simp [fps]) (by simp [fps]) fun a S => ?_
 unfold tumbref2_pastDate at h
 replace S := S.nk [] [] [] rfl trivial
 refine f_seq (f_region (l_alloc S Tryz.zeroValue103 (cs := [iV 0, iV 0, iV 0]) rfl rfl ?_)); clear S; intro a w1 b1 hz1 hk1 S
 refine l_done (then_n (f_seq (f_region (lv S (rn_bld bt_103 (pv := [(0, iV 1914), (1, iV 6), (2, iV 27)]) ⟨rfl, rfl, rfl, rfl, rfl, rfl, trivial⟩ (cs := [iV 1914, iV 6, iV 27]) (by kernel_rfl)) rfl ?_)))); clear S; intro a S
 refine l_store S (S.tm rfl) (S.tm rfl) (i := 0) (off := 0) rfl Tryz.sizeOf103 (vs := [iV 1914, iV 6, iV 27]) rfl rfl rfl rfl ?_; clear S; intro w2 hk2 S
 refine l_done (then_n (wp_ret ?_))
 subst h
 exact f_retG S (rs := [.cell 0 103]) (vs := [.agg #[iV 1914, iV 6, iV 27]]) Tryz.results94 ⟨(res_cell (off := 0) S rfl Tryz.isAgg103 Tryz.sizeOf103 rfl (S.cellsAt (i := 0) rfl)), trivial⟩ rfl rfl
theorem tumbref2_monthLong_ok (w : World) (p_y : Int) (p_m : Int) (r : Int) (h : tumbref2_monthLong p_y p_m = some r) :
    Calls Tryz.prog 95 [iV p_y, iV p_m].toArray w (Ret w [] fun _ v _ => v = iV r) := by
 refine f_enter [] [] Tryz.func95 rfl Tryz.ntmps95 rfl (by simp) (by simp [fps]) (by simp [fps]) fun a S => ?_
 unfold tumbref2_monthLong at h
 replace S := S.nk [] [(0, iV p_y), (1, iV p_m)] [] rfl (subR rfl)
 refine f_seq (f_region (lv S (rn_assign rfl) rfl ?_)); clear S; intro a S
 refine l_done (then_n (f_seq (f_seq (f_region (lv S (rn_move (S.tm rfl)) rfl ?_))))); clear S; intro a S
 refine lv S (rn_eql (S.tm rfl) rfl) rfl ?_; clear S; intro a S
 refine lv S (rn_move (S.tm rfl)) rfl ?_; clear S; intro a S
 refine f_cutm 14 (fun a w' => Keep [] w w' ∧ Sx w [] nov [] [(1, iV p_m), (21, bV ((decide (p_m = 2)) && (((decide ((Int.tmod p_y 4) = 0)) && (!decide ((Int.tmod p_y 100) = 0))) || (decide ((Int.tmod p_y 400) = 0)))))] 27 a w') ?_ ?_
 ·rcases Bool.eq_false_or_eq_true (decide (p_m = 2)) with hb1 | hb1
  ·refine l_want S rfl rfl rfl hb1 (lv S (rn_move (S.tm rfl)) rfl ?_); clear S; intro a S
   refine l_want S rfl rfl rfl hb1 (lv S (rn_rem (S.tm rfl) rfl (by decide)) rfl ?_); clear S; intro a S
   refine l_want S rfl rfl rfl hb1 (lv S (rn_eql (S.tm rfl) rfl) rfl ?_); clear S; intro a S
   refine l_want S rfl rfl rfl hb1 (lv S (rn_move (S.tm rfl)) rfl ?_); clear S; intro a S
   refine f_cutm 4 (fun a w' => Keep [] w w' ∧ Sx w [] nov [] [(0, iV p_y), (1, iV p_m), (7, bV (decide (p_m = 2))), (15, bV ((decide ((Int.tmod p_y 4) = 0)) && (!decide ((Int.tmod p_y 100) = 0))))] 27 a w') ?_ ?_
   ·rcases Bool.eq_false_or_eq_true (decide ((Int.tmod p_y 4) = 0)) with hb2 | hb2
    ·refine l_want S rfl rfl rfl hb2 (lv S (rn_move (S.tm rfl)) rfl ?_); clear S; intro a S
     refine l_want S rfl rfl rfl hb2 (lv S (rn_rem (S.tm rfl) rfl (by decide)) rfl ?_); clear S; intro a S
     refine l_want S rfl rfl rfl hb2 (lv S (rn_neq (S.tm rfl) rfl) rfl ?_); clear S; intro a S
     refine l_want S rfl rfl rfl hb1 (lv S (rn_and_t hb2 (S.tm rfl) (S.tm rfl)) rfl ?_); clear S; intro a S
     refine l_done (then_n ?_)
     exact ⟨Keep.refl _ _, S.nf [] rfl (subR rfl)⟩
    ·iterate 3 (refine l_skip S rfl rfl rfl (neq_f hb2) rfl ?_ rfl; clear S; intro a S)
     refine l_want S rfl rfl rfl hb1 (lv S (rn_and_f (!decide ((Int.tmod p_y 100) = 0)) hb2 (S.tm rfl) rfl) rfl ?_); clear S; intro a S
     refine l_done (then_n ?_)
     exact ⟨Keep.refl _ _, S.nf [] rfl (subR rfl)⟩
   clear S; rintro a w2 ⟨hk1, S⟩
   refine l_want S rfl rfl rfl hb1 (lv S (rn_move (S.tm rfl)) rfl ?_); clear S; intro a S
   refine f_cutm 4 (fun a w' => Keep [] w2 w' ∧ Sx w [] nov [] [(1, iV p_m), (7, bV (decide (p_m = 2))), (20, bV (((decide ((Int.tmod p_y 4) = 0)) && (!decide ((Int.tmod p_y 100) = 0))) || (decide ((Int.tmod p_y 400) = 0))))] 27 a w') ?_ ?_
   ·rcases Bool.eq_false_or_eq_true ((decide ((Int.tmod p_y 4) = 0)) && (!decide ((Int.tmod p_y 100) = 0))) with hb3 | hb3
    ·iterate 3 (refine l_skip S rfl rfl rfl (neq_t hb3) rfl ?_ rfl; clear S; intro a S)
     refine l_want S rfl rfl rfl hb1 (lv S (rn_or_t (decide ((Int.tmod p_y 400) = 0)) hb3 (S.tm rfl) rfl) rfl ?_); clear S; intro a S
     refine l_done (then_n ?_)
     exact ⟨Keep.refl _ _, S.nf [] rfl (subR rfl)⟩
    ·refine l_want S rfl rfl rfl hb3 (lv S (rn_move (S.tm rfl)) rfl ?_); clear S; intro a S
     refine l_want S rfl rfl rfl hb3 (lv S (rn_rem (S.tm rfl) rfl (by decide)) rfl ?_); clear S; intro a S
     refine l_want S rfl rfl rfl hb3 (lv S (rn_eql (S.tm rfl) rfl) rfl ?_); clear S; intro a S
     refine l_want S rfl rfl rfl hb1 (lv S (rn_or_f hb3 (S.tm rfl) (S.tm rfl)) rfl ?_); clear S; intro a S
     refine l_done (then_n ?_)
     exact ⟨Keep.refl _ _, S.nf [] rfl (subR rfl)⟩
   clear S; rintro a w3 ⟨hk2, S⟩
   refine lv S (rn_and_t hb1 (S.tm rfl) (S.tm rfl)) rfl ?_; clear S; intro a S
   refine l_done (then_n ?_)
   exact ⟨(hk1).trans hk2, S.nf [] rfl (subR rfl)⟩
  ·iterate 4 (refine l_skip S rfl rfl rfl (neq_f hb1) rfl ?_ rfl; clear S; intro a S)
   iterate 3 (refine l_skipU S rfl rfl rfl rfl ?_; clear S; intro a S)
   refine l_skip S rfl rfl rfl (neq_f hb1) rfl ?_ rfl; clear S; intro a S
   refine l_skip S rfl rfl rfl (neq_f hb1) rfl ?_ rfl; clear S; intro a S
   iterate 3 (refine l_skipU S rfl rfl rfl rfl ?_; clear S; intro a S)
   refine l_skip S rfl rfl rfl (neq_f hb1) rfl ?_ rfl; clear S; intro a S
   refine lv S (rn_and_f (((decide ((Int.tmod p_y 4) = 0)) && (!decide ((Int.tmod p_y 100) = 0))) || (decide ((Int.tmod p_y 400) = 0))) hb1 (S.tm rfl) rfl) rfl ?_; clear S; intro a S
   refine l_done (then_n ?_)
   exact ⟨Keep.refl _ _, S.nf [] rfl (subR rfl)⟩
 clear S; rintro a w1 ⟨hk3, S⟩
 refine l_done (then_n (f_cond (S.tm rfl) (fun hb4 => ?_) (fun hb4 => ?_)))
 ·replace h := iteT h hb4
  refine f_seq (f_region (lv S (rn_assign rfl) rfl ?_)); clear S; intro a S
  refine l_done (then_n (wp_ret (then_r ?_)))
  obtain rfl := Option.some.inj h
  exact f_ret S Tryz.results95 rfl rfl
 ·replace h := iteF h hb4
  refine wp_skip (then_n (f_seq (f_region (l_buildSlice S Tryz.underlying22 Tryz.sizeOf3 Tryz.zeroValue3 rfl rfl (pv := [(0, iV 31), (1, iV 28), (2, iV 31), (3, iV 30), (4, iV 31), (5, iV 30), (6, iV 31), (7, iV 31), (8, iV 30), (9, iV 31), (10, iV 30), (11, iV 31)]) ⟨rfl, rfl, rfl, rfl, rfl, rfl, rfl, rfl, rfl, rfl, rfl, rfl, rfl, rfl, rfl, rfl, rfl, rfl, rfl, rfl, rfl, rfl, rfl, rfl, trivial⟩ (cs := [iV 31, iV 28, iV 31, iV 30, iV 31, iV 30, iV 31, iV 31, iV 30, iV 31, iV 30, iV 31]) (by kernel_rfl) rfl ?_)))); clear S; intro a w4 b1 hz1 hk4 S
  refine lv S (rn_move (S.tm rfl)) rfl ?_; clear S; intro a S
  refine lv S (rn_sub (S.tm rfl) rfl) rfl ?_; clear S; intro a S
  obtain ⟨hc1, h⟩ := chkE h
  obtain ⟨b2, o1, hm1, hr1⟩ := rn_indexT (a := a) (x := .tmp 22) (y := .tmp 24) (ty := 0) sl_22 (lit_slcT enc_int S (i := 0) rfl rfl rfl rfl ((ne_nil (e' := .blk b1 [iV 31, iV 28, iV 31, iV 30, iV 31, iV 30, iV 31, iV 31, iV 30, iV 31, iV 30, iV 31] 3)) _ rfl)) (inB_get hc1).1 (inB_get hc1).2 (S.tm rfl) (S.tm rfl)
  refine lv S (hr1 _) rfl ?_; clear S; intro a S
  clear hr1
  refine lv S (rn_ld Tryz.isAgg3 (off := o1) (o := 0) (S.tm rfl) hm1.now rfl) rfl ?_; clear S; intro a S
  refine lv S (rn_assign (S.tm rfl)) rfl ?_; clear S; intro a S
  refine l_done (then_n (wp_ret ?_))
  obtain rfl := Option.some.inj h
  exact f_ret S Tryz.results95 rfl rfl
set_option maxRecDepth 20000 in
theorem tumbref2_next_ok (w : World) (p_d : GDate) (r : GDate) (h : tumbref2_next p_d = some r) :
    Calls Tryz.prog 96 [.agg (GDate.enc p_d).toArray].toArray w (Ret w [] fun _ v _ => v = .agg (GDate.enc r).toArray) := by
 refine f_enter [] [] Tryz.func96 rfl Tryz.ntmps96 rfl (by simp) (by simp [fps]) (by simp [fps]) fun a S => ?_
 unfold tumbref2_next at h
 replace S := S.nk [] [(0, .agg (GDate.enc p_d).toArray)] [] rfl ⟨rfl, trivial⟩
 refine f_seq (f_region (l_box S (S.tm rfl) (cs := (GDate.enc p_d)) rfl rfl ?_)); clear S; intro a w1 b1 hz1 hk1 S
 refine l_alloc S Tryz.zeroValue103 (cs := [iV 0, iV 0, iV 0]) rfl rfl ?_; clear S; intro a w2 b2 hz2 hk2 S
 refine l_done (then_n (f_seq (f_seq (f_region (lv S (rn_fld fa_103_2 (S.tm rfl)) rfl ?_))))); clear S; intro a S
 refine lv S (rn_load Tryz.isAgg3 (S.tm rfl) (S.cell (i := 1) rfl rfl)) rfl ?_; clear S; intro a S
 refine lv S (rn_add (S.tm rfl) rfl) rfl ?_; clear S; intro a S
 refine lv S (rn_fld fa_103_2 (S.tm rfl)) rfl ?_; clear S; intro a S
 refine l_store S (S.tm rfl) (S.tm rfl) (i := 1) (off := 2) rfl Tryz.sizeOf3 (vs := [iV (W (p_d.Day + 1))]) rfl rfl rfl rfl ?_; clear S; intro w3 hk3 S
 refine l_done (then_n (f_seq ?_))
 obtain ⟨r1, hr1, h⟩ := bindE h
 refine d_region [] ([]) Tryz.mixed S rfl (by kernel_rfl) ?_; clear S; intro w5 hk5 hsel S
 refine d_quiet 0 S hsel rfl rfl rfl (by kernel_rfl) (by kernel_rfl) rfl (fun _ hw => (rn_fld fa_103_2 (S.tm rfl))) ?_; clear S; intro a S
 refine d_quiet 1 S hsel rfl rfl rfl (by kernel_rfl) (by kernel_rfl) rfl (fun _ hw => (rn_ld Tryz.isAgg3 (off := 0) (o := 2) (S.tm rfl) ((S.blk_mem (i := 1) (cells := [iV p_d.Year, iV p_d.Month, iV (W (p_d.Day + 1))]) (b := b1) (T := 103) rfl (ne_nil (e' := .blk b1 [iV p_d.Year, iV p_d.Month, iV (W (p_d.Day + 1))] 103))).kept hw) rfl)) ?_; clear S; intro a S
 refine d_quiet 2 S hsel rfl rfl rfl (by kernel_rfl) (by kernel_rfl) rfl (fun _ hw => (rn_fld fa_103_0 (S.tm rfl))) ?_; clear S; intro a S
 refine d_quiet 3 S hsel rfl rfl rfl (by kernel_rfl) (by kernel_rfl) rfl (fun _ hw => (rn_ld Tryz.isAgg3 (off := 0) (o := 0) (S.tm rfl) ((S.blk_mem (i := 1) (cells := [iV p_d.Year, iV p_d.Month, iV (W (p_d.Day + 1))]) (b := b1) (T := 103) rfl (ne_nil (e' := .blk b1 [iV p_d.Year, iV p_d.Month, iV (W (p_d.Day + 1))] 103))).kept hw) rfl)) ?_; clear S; intro a S
 refine d_quiet 4 S hsel rfl rfl rfl (by kernel_rfl) (by kernel_rfl) rfl (fun _ hw => (rn_fld fa_103_1 (S.tm rfl))) ?_; clear S; intro a S
 refine d_quiet 5 S hsel rfl rfl rfl (by kernel_rfl) (by kernel_rfl) rfl (fun _ hw => (rn_ld Tryz.isAgg3 (off := 0) (o := 1) (S.tm rfl) ((S.blk_mem (i := 1) (cells := [iV p_d.Year, iV p_d.Month, iV (W (p_d.Day + 1))]) (b := b1) (T := 103) rfl (ne_nil (e' := .blk b1 [iV p_d.Year, iV p_d.Month, iV (W (p_d.Day + 1))] 103))).kept hw) rfl)) ?_; clear S; intro a S
 refine d_loud1 6 (by kernel_rfl) rfl (l_enter S (fun _ => run_call (vs := [iV p_d.Year, iV p_d.Month]) ⟨(S.tm rfl), (S.tm rfl), trivial⟩ Tryz.call95) (tumbref2_monthLong_ok _ p_d.Year p_d.Month _ hr1) rfl ?_); clear S; intro v2 a w6 hv2 hk6 hn2 S
 subst hv2
 refine l_done (d_next hk6 (d_rest [7] hsel (by kernel_rfl) rfl ?_))
 clear hsel
 refine s_lv S rfl (rn_gtr (S.tm rfl) (S.tm rfl)) rfl ?_; clear S; intro a S
 refine s_done ?_
 replace S := S.nk [.blk b2 [iV 0, iV 0, iV 0] 103, .blk b1 [iV p_d.Year, iV p_d.Month, iV (W (p_d.Day + 1))] 103] [(1, .pointer (some ⟨b1, 0, none⟩)), (2, .pointer (some ⟨b2, 0, none⟩)), (14, bV (decide (r1 < (W (p_d.Day + 1)))))] [true, true] rfl (subR rfl)
 refine then_n ?_
 obtain ⟨j1, hj1, h⟩ := joinE h
 refine f_join (fun a w' => ∃ x1 : Int, ∃ x2 : Int, ∃ x3 : Int, j1 x1 x2 x3 = some r ∧ Sx w [] nov [.blk b2 [iV 0, iV 0, iV 0] 103, .blk b1 [iV x1, iV x2, iV x3] 103] [(1, .pointer (some ⟨b1, 0, none⟩)), (2, .pointer (some ⟨b2, 0, none⟩))] 29 a w') ?_ ?_
 ·refine f_cond (S.tm rfl) (fun hb1 => ?_) (fun hb1 => ?_)
  ·replace h := iteT h hb1
   refine f_seq (f_region (lv S (rn_fld fa_103_2 (S.tm rfl)) rfl ?_)); clear S; intro a S
   refine l_store S (S.tm rfl) rfl (i := 1) (off := 2) rfl Tryz.sizeOf3 (vs := [iV 1]) rfl rfl rfl rfl ?_; clear S; intro w8 hk7 S
   refine l_done (then_n (f_seq (f_region (lv S (rn_fld fa_103_1 (S.tm rfl)) rfl ?_)))); clear S; intro a S
   refine lv S (rn_load Tryz.isAgg3 (S.tm rfl) (S.cell (i := 1) rfl rfl)) rfl ?_; clear S; intro a S
   refine lv S (rn_add (S.tm rfl) rfl) rfl ?_; clear S; intro a S
   refine lv S (rn_fld fa_103_1 (S.tm rfl)) rfl ?_; clear S; intro a S
   refine l_store S (S.tm rfl) (S.tm rfl) (i := 1) (off := 1) rfl Tryz.sizeOf3 (vs := [iV (W (p_d.Month + 1))]) rfl rfl rfl rfl ?_; clear S; intro w9 hk8 S
   refine l_done (then_n (f_seq (f_region (lv S (rn_fld fa_103_1 (S.tm rfl)) rfl ?_)))); clear S; intro a S
   refine lv S (rn_load Tryz.isAgg3 (S.tm rfl) (S.cell (i := 1) rfl rfl)) rfl ?_; clear S; intro a S
   refine lv S (rn_gtr (S.tm rfl) rfl) rfl ?_; clear S; intro a S
   refine l_done (then_n ?_)
   obtain ⟨j2, hj2, h⟩ := joinE h
   refine f_join (fun a w' => ∃ x4 : Int, ∃ x5 : Int, j2 x4 x5 = some r ∧ Sx w [] nov [.blk b2 [iV 0, iV 0, iV 0] 103, .blk b1 [iV x4, iV x5, iV 1] 103] [(1, .pointer (some ⟨b1, 0, none⟩)), (2, .pointer (some ⟨b2, 0, none⟩))] 29 a w') ?_ ?_
   ·refine f_cond (S.tm rfl) (fun hb2 => ?_) (fun hb2 => ?_)
    ·replace h := iteT h hb2
     refine f_region (lv S (rn_fld fa_103_0 (S.tm rfl)) rfl ?_); clear S; intro a S
     refine lv S (rn_load Tryz.isAgg3 (S.tm rfl) (S.cell (i := 1) rfl rfl)) rfl ?_; clear S; intro a S
     refine lv S (rn_add (S.tm rfl) rfl) rfl ?_; clear S; intro a S
     refine lv S (rn_fld fa_103_1 (S.tm rfl)) rfl ?_; clear S; intro a S
     refine l_store S (S.tm rfl) rfl (i := 1) (off := 1) rfl Tryz.sizeOf3 (vs := [iV 1]) rfl rfl rfl rfl ?_; clear S; intro w11 hk9 S
     refine lv S (rn_fld fa_103_0 (S.tm rfl)) rfl ?_; clear S; intro a S
     refine l_store S (S.tm rfl) (S.tm rfl) (i := 1) (off := 0) rfl Tryz.sizeOf3 (vs := [iV (W (p_d.Year + 1))]) rfl rfl rfl rfl ?_; clear S; intro w12 hk10 S
     refine l_done ?_
     replace S := S.nk [.blk b2 [iV 0, iV 0, iV 0] 103, .blk b1 [iV (W (p_d.Year + 1)), iV 1, iV 1] 103] [(1, .pointer (some ⟨b1, 0, none⟩)), (2, .pointer (some ⟨b2, 0, none⟩))] [true, true] rfl (subR rfl)
     refine then_n ?_
     exact ⟨W (p_d.Year + 1), 1, h, S.nf [true, true] rfl (subR rfl)⟩
    ·replace h := iteF h hb2
     refine wp_skip (then_n ?_)
     exact ⟨p_d.Year, W (p_d.Month + 1), h, S.nf [true, true] rfl (subR rfl)⟩
   clear S h; rintro a w10 ⟨x4, x5, h, S⟩; rw [hj2] at h; clear hj2 j2
   refine then_n ?_
   exact ⟨x4, x5, 1, h, S.nf [true, true] rfl (subR rfl)⟩
  ·replace h := iteF h hb1
   refine wp_skip (then_n ?_)
   exact ⟨p_d.Year, p_d.Month, W (p_d.Day + 1), h, S.nf [true, true] rfl (subR rfl)⟩
 clear S h; rintro a w7 ⟨x1, x2, x3, h, S⟩; rw [hj1] at h; clear hj1 j1
 refine then_n (f_seq (f_region (lv S (rn_ldA Tryz.isAgg103 Tryz.sizeOf103 (off := 0) (o := 0) (part := [iV x1, iV x2, iV x3]) rfl rfl (S.tm rfl) (S.cellsAt (i := 1) rfl)) rfl ?_))); clear S; intro a S
 refine l_store S (S.tm rfl) (S.tm rfl) (i := 0) (off := 0) rfl Tryz.sizeOf103 (vs := [iV x1, iV x2, iV x3]) rfl rfl rfl rfl ?_; clear S; intro w13 hk11 S
 refine l_done (then_n (wp_ret ?_))
 obtain rfl := Option.some.inj h
 exact f_retG S (rs := [.cell 2 103]) (vs := [.agg #[iV x1, iV x2, iV x3]]) Tryz.results96 ⟨(res_cell (off := 0) S rfl Tryz.isAgg103 Tryz.sizeOf103 rfl (S.cellsAt (i := 0) rfl)), trivial⟩ rfl rfl
set_option maxRecDepth 20000 in
theorem tumbref2_DateFor_ok (w : World) (p_day : Int) (r : GDate) (h : tumbref2_DateFor p_day = some r) :
    Calls Tryz.prog 80 [iV p_day].toArray w (Ret w [] fun _ v _ => v = .agg (GDate.enc r).toArray) := by
 refine f_enter [] [] Tryz.func80 rfl Tryz.ntmps80 rfl (by simp) (by simp [fps]) (by simp [fps]) fun a S => ?_
 unfold tumbref2_DateFor at h
 replace S := S.nk [] [(0, iV p_day)] [] rfl ⟨rfl, trivial⟩
 refine f_seq (f_region (l_alloc S Tryz.zeroValue103 (cs := [iV 0, iV 0, iV 0]) rfl rfl ?_)); clear S; intro a w1 b1 hz1 hk1 S
 refine l_done (then_n (f_seq (f_region (l_enter S (fun _ => run_call (vs := []) trivial Tryz.call94) (tumbref2_pastDate_ok _ _ rfl) rfl ?_)))); clear S; intro v1 a w2 hv1 hk2 hn1 S
 subst hv1
 refine l_alloc S Tryz.zeroValue103 (cs := [iV 0, iV 0, iV 0]) rfl rfl ?_; clear S; intro a w3 b2 hz2 hk3 S
 refine l_store S (S.tm rfl) (S.tm rfl) (i := 0) (off := 0) rfl Tryz.sizeOf103 (vs := (GDate.enc tumbref2_pastDate)) rfl rfl rfl rfl ?_; clear S; intro w4 hk4 S
 refine lv S (rn_assign rfl) rfl ?_; clear S; intro a S
 refine l_done (then_n (f_seq ?_))
 replace S := S.nk [.blk b2 (GDate.enc tumbref2_pastDate) 103, .blk b1 [iV 0, iV 0, iV 0] 103] [(0, iV p_day), (2, .pointer (some ⟨b1, 0, none⟩)), (3, .pointer (some ⟨b2, 0, none⟩)), (4, iV (-40000))] [true, true] rfl (subR rfl)
 obtain ⟨j1, hj1, h⟩ := joinE h
 refine f_join (fun a w' => ∃ x1 : Int, ∃ x2 : Int, ∃ x3 : Int, j1 x1 x2 x3 = some r ∧ Sx w [] nov [.blk b2 [iV x1, iV x2, iV x3] 103, .blk b1 [iV 0, iV 0, iV 0] 103] [(2, .pointer (some ⟨b1, 0, none⟩)), (3, .pointer (some ⟨b2, 0, none⟩))] 46 a w') ?_ ?_
 ·refine wp_block (f_loop (fun (m1 : Nat) a w' => ∃ x1 : Int, ∃ x2 : Int, ∃ x3 : Int, ∃ x4 : Int, tumbref2_DateFor_l1 p_day j1 m1 x1 x2 x3 x4 = some r ∧ Sx w [] nov [.blk b2 [iV x1, iV x2, iV x3] 103, .blk b1 [iV 0, iV 0, iV 0] 103] [(0, iV p_day), (2, .pointer (some ⟨b1, 0, none⟩)), (3, .pointer (some ⟨b2, 0, none⟩)), (4, iV x4)] 46 a w') id ((p_day - (-40000)).toNat + 2) ⟨tumbref2_pastDate.Year, tumbref2_pastDate.Month, tumbref2_pastDate.Day, (-40000), h, S.nf [true, true] rfl (subR rfl)⟩ ?_)
  clear S h; rintro m1 a w5 ⟨x1, x2, x3, x4, h, S⟩
  cases m1 with
  | zero => rw [tumbref2_DateFor_l1.eq_1] at h; cases h
  | succ m1 =>
   rw [tumbref2_DateFor_l1.eq_2] at h
   refine f_seq (f_seq (f_region (lv S (rn_move (S.tm rfl)) rfl ?_))); clear S; intro a S
   refine lv S (rn_move (S.tm rfl)) rfl ?_; clear S; intro a S
   refine lv S (rn_lss (S.tm rfl) (S.tm rfl)) rfl ?_; clear S; intro a S
   refine l_done (then_n (f_cond (S.tm rfl) (fun hb1 => ?_) (fun hb1 => ?_)))
   ·replace h := iteT h hb1
    refine wp_skip (then_n (wp_block (f_seq (f_seq ?_))))
    obtain ⟨r1, hr1, h⟩ := bindE h
    refine d_region [] ([]) Tryz.mixed S rfl (by kernel_rfl) ?_; clear S; intro w8 hk6 hsel S
    refine d_quiet 0 S hsel rfl rfl rfl (by kernel_rfl) (by kernel_rfl) rfl (fun _ hw => (rn_fld fa_103_0 (S.tm rfl))) ?_; clear S; intro a S
    refine d_quiet 1 S hsel rfl rfl rfl (by kernel_rfl) (by kernel_rfl) rfl (fun _ hw => (rn_ld Tryz.isAgg3 (off := 0) (o := 0) (S.tm rfl) ((S.blk_mem (i := 0) (cells := [iV x1, iV x2, iV x3]) (b := b2) (T := 103) rfl (ne_nil (e' := .blk b2 [iV x1, iV x2, iV x3] 103))).kept hw) rfl)) ?_; clear S; intro a S
    refine d_quiet 2 S hsel rfl rfl rfl (by kernel_rfl) (by kernel_rfl) rfl (fun _ hw => (rn_fld fa_103_1 (S.tm rfl))) ?_; clear S; intro a S
    refine d_quiet 3 S hsel rfl rfl rfl (by kernel_rfl) (by kernel_rfl) rfl (fun _ hw => (rn_ld Tryz.isAgg3 (off := 0) (o := 1) (S.tm rfl) ((S.blk_mem (i := 0) (cells := [iV x1, iV x2, iV x3]) (b := b2) (T := 103) rfl (ne_nil (e' := .blk b2 [iV x1, iV x2, iV x3] 103))).kept hw) rfl)) ?_; clear S; intro a S
    refine d_quiet 5 S hsel rfl rfl rfl (by kernel_rfl) (by kernel_rfl) rfl (fun _ hw => (rn_fld fa_103_2 (S.tm rfl))) ?_; clear S; intro a S
    refine d_quiet 6 S hsel rfl rfl rfl (by kernel_rfl) (by kernel_rfl) rfl (fun _ hw => (rn_ld Tryz.isAgg3 (off := 0) (o := 2) (S.tm rfl) ((S.blk_mem (i := 0) (cells := [iV x1, iV x2, iV x3]) (b := b2) (T := 103) rfl (ne_nil (e' := .blk b2 [iV x1, iV x2, iV x3] 103))).kept hw) rfl)) ?_; clear S; intro a S
    refine d_loud1 4 (by kernel_rfl) rfl (l_enter S (fun _ => run_call (vs := [iV x1, iV x2]) ⟨(S.tm rfl), (S.tm rfl), trivial⟩ Tryz.call95) (tumbref2_monthLong_ok _ x1 x2 _ hr1) rfl ?_); clear S; intro v3 a w9 hv3 hk7 hn3 S
    subst hv3
    refine l_done (d_next hk7 (d_rest [7, 8] hsel (by kernel_rfl) rfl ?_))
    clear hsel
    refine s_lv S rfl (rn_sub (S.tm rfl) (S.tm rfl)) rfl ?_; clear S; intro a S
    refine s_lv S rfl (rn_assign (S.tm rfl)) rfl ?_; clear S; intro a S
    refine s_done ?_
    replace S := S.nk [.blk b2 [iV x1, iV x2, iV x3] 103, .blk b1 [iV 0, iV 0, iV 0] 103] [(0, iV p_day), (2, .pointer (some ⟨b1, 0, none⟩)), (3, .pointer (some ⟨b2, 0, none⟩)), (4, iV x4), (5, iV (W (r1 - x3)))] [true, true] rfl (subR rfl)
    refine then_n (f_seq (f_region (lv S (rn_move (S.tm rfl)) rfl ?_))); clear S; intro a S
    refine lv S (rn_move (S.tm rfl)) rfl ?_; clear S; intro a S
    refine lv S (rn_add (S.tm rfl) (S.tm rfl)) rfl ?_; clear S; intro a S
    refine lv S (rn_add (S.tm rfl) rfl) rfl ?_; clear S; intro a S
    refine lv S (rn_move (S.tm rfl)) rfl ?_; clear S; intro a S
    refine lv S (rn_leq (S.tm rfl) (S.tm rfl)) rfl ?_; clear S; intro a S
    refine l_done (then_n ?_)
    obtain ⟨j2, hj2, h⟩ := joinE h
    refine f_join (fun a w' => ∃ x5 : Int, ∃ x6 : Int, j2 x5 x6 = some r ∧ Sx w [] nov [.blk b2 [iV x1, iV x2, iV x5] 103, .blk b1 [iV 0, iV 0, iV 0] 103] [(0, iV p_day), (2, .pointer (some ⟨b1, 0, none⟩)), (3, .pointer (some ⟨b2, 0, none⟩)), (4, iV x6)] 46 a w') ?_ ?_
    ·refine f_cond (S.tm rfl) (fun hb2 => ?_) (fun hb2 => ?_)
     ·replace h := iteT h hb2
      refine f_seq (f_region (lv S (rn_move (S.tm rfl)) rfl ?_)); clear S; intro a S
      refine lv S (rn_move (S.tm rfl)) rfl ?_; clear S; intro a S
      refine lv S (rn_add (S.tm rfl) rfl) rfl ?_; clear S; intro a S
      refine lv S (rn_add (S.tm rfl) (S.tm rfl)) rfl ?_; clear S; intro a S
      refine lv S (rn_assign (S.tm rfl)) rfl ?_; clear S; intro a S
      refine l_done ?_
      replace S := S.nk [.blk b2 [iV x1, iV x2, iV x3] 103, .blk b1 [iV 0, iV 0, iV 0] 103] [(0, iV p_day), (2, .pointer (some ⟨b1, 0, none⟩)), (3, .pointer (some ⟨b2, 0, none⟩)), (4, iV (W (x4 + (W ((W (r1 - x3)) + 1)))))] [true, true] rfl (subR rfl)
      refine then_n (f_region (lv S (rn_fld fa_103_0 (S.tm rfl)) rfl ?_)); clear S; intro a S
      refine lv S (rn_load Tryz.isAgg3 (S.tm rfl) (S.cell (i := 0) rfl rfl)) rfl ?_; clear S; intro a S
      refine lv S (rn_fld fa_103_1 (S.tm rfl)) rfl ?_; clear S; intro a S
      refine lv S (rn_load Tryz.isAgg3 (S.tm rfl) (S.cell (i := 0) rfl rfl)) rfl ?_; clear S; intro a S
      obtain ⟨r2, hr2, h⟩ := bindE h
      refine l_enter S (fun _ => run_call (vs := [iV x1, iV x2]) ⟨(S.tm rfl), (S.tm rfl), trivial⟩ Tryz.call95) (tumbref2_monthLong_ok _ x1 x2 _ hr2) rfl ?_; clear S; intro v4 a w11 hv4 hk8 hn4 S
      subst hv4
      refine lv S (rn_fld fa_103_2 (S.tm rfl)) rfl ?_; clear S; intro a S
      refine l_store S (S.tm rfl) (S.tm rfl) (i := 0) (off := 2) rfl Tryz.sizeOf3 (vs := [iV r2]) rfl rfl rfl rfl ?_; clear S; intro w12 hk9 S
      refine l_done (then_n ?_)
      exact ⟨r2, W (x4 + (W ((W (r1 - x3)) + 1))), h, S.nf [true, true] rfl (subR rfl)⟩
     ·replace h := iteF h hb2
      refine f_seq (f_region (lv S (rn_fld fa_103_2 (S.tm rfl)) rfl ?_)); clear S; intro a S
      refine lv S (rn_load Tryz.isAgg3 (S.tm rfl) (S.cell (i := 0) rfl rfl)) rfl ?_; clear S; intro a S
      refine lv S (rn_move (S.tm rfl)) rfl ?_; clear S; intro a S
      refine lv S (rn_move (S.tm rfl)) rfl ?_; clear S; intro a S
      refine lv S (rn_sub (S.tm rfl) (S.tm rfl)) rfl ?_; clear S; intro a S
      refine lv S (rn_sub (S.tm rfl) rfl) rfl ?_; clear S; intro a S
      refine lv S (rn_add (S.tm rfl) (S.tm rfl)) rfl ?_; clear S; intro a S
      refine lv S (rn_fld fa_103_2 (S.tm rfl)) rfl ?_; clear S; intro a S
      refine l_store S (S.tm rfl) (S.tm rfl) (i := 0) (off := 2) rfl Tryz.sizeOf3 (vs := [iV (W (x3 + (W ((W (p_day - x4)) - 1))))]) rfl rfl rfl rfl ?_; clear S; intro w13 hk10 S
      refine l_done ?_
      replace S := S.nk [.blk b2 [iV x1, iV x2, iV (W (x3 + (W ((W (p_day - x4)) - 1))))] 103, .blk b1 [iV 0, iV 0, iV 0] 103] [(0, iV p_day), (2, .pointer (some ⟨b1, 0, none⟩)), (3, .pointer (some ⟨b2, 0, none⟩))] [true, true] rfl (subR rfl)
      refine then_n (f_region (lv S (rn_move (S.tm rfl)) rfl ?_)); clear S; intro a S
      refine lv S (rn_assign (S.tm rfl)) rfl ?_; clear S; intro a S
      refine l_done (then_n ?_)
      exact ⟨W (x3 + (W ((W (p_day - x4)) - 1))), p_day, h, S.nf [true, true] rfl (subR rfl)⟩
    clear S h; rintro a w10 ⟨x5, x6, h, S⟩; rw [hj2] at h; clear hj2 j2
    refine then_n (f_region (lv S (rn_ldA Tryz.isAgg103 Tryz.sizeOf103 (off := 0) (o := 0) (part := [iV x1, iV x2, iV x5]) rfl rfl (S.tm rfl) (S.cellsAt (i := 0) rfl)) rfl ?_)); clear S; intro a S
    obtain ⟨r3, hr3, h⟩ := bindE h
    refine l_enter S (fun _ => run_call (vs := [.agg (GDate.enc (GDate.mk x1 x2 x5)).toArray]) ⟨(S.tm rfl), trivial⟩ Tryz.call96) (tumbref2_next_ok _ (GDate.mk x1 x2 x5) _ hr3) rfl ?_; clear S; intro v5 a w14 hv5 hk11 hn5 S
    subst hv5
    refine l_store S (S.tm rfl) (S.tm rfl) (i := 0) (off := 0) rfl Tryz.sizeOf103 (vs := (GDate.enc r3)) rfl rfl rfl rfl ?_; clear S; intro w15 hk12 S
    refine l_done (blk_n (then_n ?_))
    exact ⟨m1, ⟨r3.Year, r3.Month, r3.Day, x6, h, S.nf [true, true] rfl ⟨rfl, rfl, rfl, rfl, trivial⟩⟩, Nat.lt_succ_self _⟩
   ·replace h := iteF h hb1
    refine wp_exit (then_x (then_x (x_same (then_n ?_))))
    exact ⟨x1, x2, x3, h, S.nf [true, true] rfl (subR rfl)⟩
 clear S h; rintro a w6 ⟨x1, x2, x3, h, S⟩; rw [hj1] at h; clear hj1 j1
 refine then_n (f_seq (f_region (lv S (rn_ldA Tryz.isAgg103 Tryz.sizeOf103 (off := 0) (o := 0) (part := [iV x1, iV x2, iV x3]) rfl rfl (S.tm rfl) (S.cellsAt (i := 0) rfl)) rfl ?_))); clear S; intro a S
 refine l_store S (S.tm rfl) (S.tm rfl) (i := 1) (off := 0) rfl Tryz.sizeOf103 (vs := [iV x1, iV x2, iV x3]) rfl rfl rfl rfl ?_; clear S; intro w16 hk13 S
 refine l_done (then_n (wp_ret ?_))
 obtain rfl := Option.some.inj h
 exact f_retG S (rs := [.cell 2 103]) (vs := [.agg #[iV x1, iV x2, iV x3]]) Tryz.results80 ⟨(res_cell (off := 0) S rfl Tryz.isAgg103 Tryz.sizeOf103 rfl (S.cellsAt (i := 1) rfl)), trivial⟩ rfl rfl
theorem slices_Compare_int_ok (w : World) (v_p_s1 : Value) (p_s1 : List Int) (hs_p_s1 : Slc (view w []) 1 v_p_s1 (p_s1.map eInt)) (v_p_s2 : Value) (p_s2 : List Int) (hs_p_s2 : Slc (view w []) 1 v_p_s2 (p_s2.map eInt)) (r : Int) (h : slices_Compare_int p_s1 p_s2 = some r) :
    Calls Tryz.prog 97 [v_p_s1, v_p_s2].toArray w (Ret w [] fun _ v _ => v = iV r) := by
 refine f_enter [] [] Tryz.func97 rfl Tryz.ntmps97 rfl (by simp) (by simp [fps]) (by simp [fps]) fun a S => ?_
 unfold slices_Compare_int at h
 replace S := S.nk [] [(0, v_p_s1), (1, v_p_s2)] [] rfl (subR rfl)
 refine f_seq (f_region (lv S (rn_assign rfl) rfl ?_)); clear S; intro a S
 refine l_done (then_n (f_seq (f_seq (f_region (lv S (rn_move (S.tm rfl)) rfl ?_))))); clear S; intro a S
 refine lv S (rn_lenT sl_22 (S.tm rfl) (slc_len hs_p_s1)) rfl ?_; clear S; intro a S
 refine lv S (rn_move rfl) rfl ?_; clear S; intro a S
 refine l_done (then_n ?_)
 replace S := S.nk [] [(0, v_p_s1), (1, v_p_s2), (9, v_p_s1), (10, iV (p_s1.length : Int)), (11, iV 0)] [] rfl (subR rfl)
 obtain ⟨j1, hj1, h⟩ := joinE h
 refine f_join (fun a w' => j1 = some r ∧ Sx w [] nov [] [(0, v_p_s1), (1, v_p_s2)] 36 a w') ?_ ?_
 ·refine wp_block (f_loop (fun (ys1 : List Int) a w' => ∃ i1 : Nat, (∃ dn, p_s1 = dn ++ ys1 ∧ dn.length = i1) ∧ slices_Compare_int_l1 p_s2 j1 ys1 i1 = some r ∧ Sx w [] nov [] [(0, v_p_s1), (1, v_p_s2), (9, v_p_s1), (10, iV (p_s1.length : Int)), (11, iV (i1 : Int))] 36 a w') List.length p_s1 ⟨0, ⟨[], rfl, rfl⟩, h, S.nf [] rfl (subR rfl)⟩ ?_)
  clear S h; rintro ys1 a w1 ⟨i1, ⟨dn, hd1, hi1⟩, h, S⟩
  cases ys1 with
  | nil =>
   rw [slices_Compare_int_l1.eq_1] at h
   refine f_seq (f_region (lv S (rn_lss (S.tm rfl) (S.tm rfl)) rfl ?_)); clear S; intro a S
   refine l_done ?_
   replace S := S.nk [] [(0, v_p_s1), (1, v_p_s2), (9, v_p_s1), (10, iV (p_s1.length : Int)), (11, iV (i1 : Int)), (12, bV (decide ((i1 : Int) < (p_s1.length : Int))))] [] rfl (subR rfl)
   refine then_n (f_seq (wp_cond_false ((S.tm rfl).trans (congrArg Value.bool (rng_nil hd1 hi1))) (wp_exit (then_x (then_x (x_same ?_))))))
   refine then_n ?_
   exact ⟨h, S.nf [] rfl (subR rfl)⟩
  | cons y1 ys1 =>
   rw [slices_Compare_int_l1.eq_2] at h
   refine f_seq (f_region (lv S (rn_lss (S.tm rfl) (S.tm rfl)) rfl ?_)); clear S; intro a S
   refine l_done ?_
   replace S := S.nk [] [(0, v_p_s1), (1, v_p_s2), (9, v_p_s1), (10, iV (p_s1.length : Int)), (11, iV (i1 : Int)), (12, bV (decide ((i1 : Int) < (p_s1.length : Int))))] [] rfl (subR rfl)
   refine then_n (f_seq (wp_cond_true ((S.tm rfl).trans (congrArg Value.bool (rng_cons hd1 hi1))) (wp_skip (then_n (f_seq (wp_block ?_))))))
   refine f_seq (f_region (lv S (rn_move (S.tm rfl)) rfl ?_)); clear S; intro a S
   obtain ⟨b1, o1, hm1, hr1⟩ := rn_indexT (a := a) (x := .tmp 9) (y := .tmp 11) (ty := 0) sl_22 hs_p_s1 (get_mid hd1 hi1) rfl (S.tm rfl) (S.tm rfl)
   refine lv S (hr1 _) rfl ?_; clear S; intro a S
   clear hr1
   refine lv S (rn_ld Tryz.isAgg3 (off := o1) (o := 0) (S.tm rfl) (hm1.at S.emb0) rfl) rfl ?_; clear S; intro a S
   refine lv S (rn_assign (S.tm rfl)) rfl ?_; clear S; intro a S
   refine lv S (rn_assign (S.tm rfl)) rfl ?_; clear S; intro a S
   refine l_done (then_n (f_seq (f_seq (f_region (lv S (rn_move (S.tm rfl)) rfl ?_))))); clear S; intro a S
   refine lv S (rn_move (S.tm rfl)) rfl ?_; clear S; intro a S
   refine lv S (rn_lenT sl_22 (S.tm rfl) (slc_len hs_p_s2)) rfl ?_; clear S; intro a S
   refine lv S (rn_geq (S.tm rfl) (S.tm rfl)) rfl ?_; clear S; intro a S
   refine l_done ?_
   replace S := S.nk [] [(0, v_p_s1), (1, v_p_s2), (5, iV (i1 : Int)), (6, iV y1), (9, v_p_s1), (10, iV (p_s1.length : Int)), (11, iV (i1 : Int)), (19, bV (decide ((p_s2.length : Int) ≤ (i1 : Int))))] [] rfl (subR rfl)
   refine then_n (f_cond (S.tm rfl) (fun hb1 => ?_) (fun hb1 => ?_))
   ·replace h := iteT h hb1
    refine f_seq (f_region (lv S (rn_assign rfl) rfl ?_)); clear S; intro a S
    refine l_done (then_n (wp_ret (then_r (blk_r (then_r (then_r ?_))))))
    refine blk_r (then_r (then_r ?_))
    obtain rfl := Option.some.inj h
    exact f_ret S Tryz.results97 rfl rfl
   ·replace h := iteF h hb1
    refine wp_skip (then_n (f_seq (f_region (lv S (rn_move (S.tm rfl)) rfl ?_)))); clear S; intro a S
    refine lv S (rn_move (S.tm rfl)) rfl ?_; clear S; intro a S
    obtain ⟨hc1, h⟩ := chkE h
    obtain ⟨b2, o2, hm2, hr2⟩ := rn_indexT (a := a) (x := .tmp 20) (y := .tmp 21) (ty := 0) sl_22 hs_p_s2 (inB_get hc1).1 (inB_get hc1).2 (S.tm rfl) (S.tm rfl)
    refine lv S (hr2 _) rfl ?_; clear S; intro a S
    clear hr2
    refine lv S (rn_ld Tryz.isAgg3 (off := o2) (o := 0) (S.tm rfl) (hm2.at S.emb0) rfl) rfl ?_; clear S; intro a S
    refine lv S (rn_assign (S.tm rfl)) rfl ?_; clear S; intro a S
    refine l_done (then_n (f_seq (f_region (lv S (rn_move (S.tm rfl)) rfl ?_)))); clear S; intro a S
    refine lv S (rn_move (S.tm rfl)) rfl ?_; clear S; intro a S
    refine l_enter S (fun _ => run_call (vs := [iV y1, iV (nth p_s2 (i1 : Int))]) ⟨(S.tm rfl), (S.tm rfl), trivial⟩ Tryz.call73) (cmp_Compare_int_ok _ y1 (nth p_s2 (i1 : Int)) _ rfl) rfl ?_; clear S; intro v1 a w3 hv1 hk1 hn1 S
    subst hv1
    refine lv S (rn_assign (S.tm rfl)) rfl ?_; clear S; intro a S
    refine l_done ?_
    replace S := S.nk [] [(0, v_p_s1), (1, v_p_s2), (8, iV (cmp_Compare_int y1 (nth p_s2 (i1 : Int)))), (9, v_p_s1), (10, iV (p_s1.length : Int)), (11, iV (i1 : Int))] [] rfl (subR rfl)
    refine then_n (f_seq (f_region (lv S (rn_move (S.tm rfl)) rfl ?_))); clear S; intro a S
    refine lv S (rn_neq (S.tm rfl) rfl) rfl ?_; clear S; intro a S
    refine l_done (then_n (f_cond (S.tm rfl) (fun hb2 => ?_) (fun hb2 => ?_)))
    ·replace h := iteT h hb2
     refine f_seq (f_region (lv S (rn_move (S.tm rfl)) rfl ?_)); clear S; intro a S
     refine lv S (rn_assign (S.tm rfl)) rfl ?_; clear S; intro a S
     refine l_done (then_n (wp_ret (blk_r (then_r (then_r (blk_r ?_))))))
     refine then_r (then_r ?_)
     obtain rfl := Option.some.inj h
     exact f_ret S Tryz.results97 rfl rfl
    ·replace h := iteF h hb2
     refine wp_skip (blk_n (then_n (f_region (lv S (rn_add (S.tm rfl) rfl) rfl ?_)))); clear S; intro a S
     refine lv S (rn_move (S.tm rfl)) rfl ?_; clear S; intro a S
     refine l_done (then_n ?_)
     exact ⟨ys1, ⟨i1 + 1, ⟨_, (hd1).trans (List.append_cons _ _ _), by simp [hi1]⟩, h, S.nf [] rfl ⟨rfl, rfl, rfl, rfl, (congrArg (fun z => some (Value.int .i64 z)) (rng_next hd1 hi1 (slc_max hs_p_s1))), trivial⟩⟩, Nat.lt_succ_self _⟩
 clear S h; rintro a w2 ⟨h, S⟩; rw [hj1] at h; clear hj1 j1
 refine then_n (f_seq (f_seq (f_region (lv S (rn_move (S.tm rfl)) rfl ?_)))); clear S; intro a S
 refine lv S (rn_lenT sl_22 (S.tm rfl) (slc_len hs_p_s1)) rfl ?_; clear S; intro a S
 refine lv S (rn_move (S.tm rfl)) rfl ?_; clear S; intro a S
 refine lv S (rn_lenT sl_22 (S.tm rfl) (slc_len hs_p_s2)) rfl ?_; clear S; intro a S
 refine lv S (rn_lss (S.tm rfl) (S.tm rfl)) rfl ?_; clear S; intro a S
 refine l_done (then_n (f_cond (S.tm rfl) (fun hb3 => ?_) (fun hb3 => ?_)))
 ·replace h := iteT h hb3
  refine f_seq (f_region (lv S (rn_assign rfl) rfl ?_)); clear S; intro a S
  refine l_done (then_n (wp_ret (then_r ?_)))
  obtain rfl := Option.some.inj h
  exact f_ret S Tryz.results97 rfl rfl
 ·replace h := iteF h hb3
  refine wp_skip (then_n (f_seq (f_region (lv S (rn_assign rfl) rfl ?_)))); clear S; intro a S
  refine l_done (then_n (wp_ret ?_))
  obtain rfl := Option.some.inj h
  exact f_ret S Tryz.results97 rfl rfl
theorem tumbref2_dateOrder_ok (w : World) (p_a : GDate) (p_b : GDate) (r : Int) (h : tumbref2_dateOrder p_a p_b = some r) :
    Calls Tryz.prog 81 [.agg (GDate.enc p_a).toArray, .agg (GDate.enc p_b).toArray].toArray w (Ret w [] fun _ v _ => v = iV r) := by
 refine f_enter [] [] Tryz.func81 rfl Tryz.ntmps81 rfl (by simp) (by simp [fps]) (by simp [fps]) fun a S => ?_
 unfold tumbref2_dateOrder at h
 replace S := S.nk [] [(0, .agg (GDate.enc p_a).toArray), (1, .agg (GDate.enc p_b).toArray)] [] rfl (subR rfl)
 refine f_seq (f_region (l_box S (S.tm rfl) (cs := (GDate.enc p_a)) rfl rfl ?_)); clear S; intro a w1 b1 hz1 hk1 S
 refine l_box S (S.tm rfl) (cs := (GDate.enc p_b)) rfl rfl ?_; clear S; intro a w2 b2 hz2 hk2 S
 refine lv S (rn_assign rfl) rfl ?_; clear S; intro a S
 refine l_done (then_n (f_seq (f_region (lv S (rn_fld fa_103_0 (S.tm rfl)) rfl ?_)))); clear S; intro a S
 refine lv S (rn_load Tryz.isAgg3 (S.tm rfl) (S.cell (i := 1) rfl rfl)) rfl ?_; clear S; intro a S
 refine lv S (rn_fld fa_103_1 (S.tm rfl)) rfl ?_; clear S; intro a S
 refine lv S (rn_load Tryz.isAgg3 (S.tm rfl) (S.cell (i := 1) rfl rfl)) rfl ?_; clear S; intro a S
 refine lv S (rn_fld fa_103_2 (S.tm rfl)) rfl ?_; clear S; intro a S
 refine lv S (rn_load Tryz.isAgg3 (S.tm rfl) (S.cell (i := 1) rfl rfl)) rfl ?_; clear S; intro a S
 refine l_buildSlice S Tryz.underlying22 Tryz.sizeOf3 Tryz.zeroValue3 rfl rfl (pv := [(0, iV p_a.Year), (1, iV p_a.Month), (2, iV p_a.Day)]) ⟨rfl, (S.tm rfl), rfl, (S.tm rfl), rfl, (S.tm rfl), trivial⟩ (cs := [iV p_a.Year, iV p_a.Month, iV p_a.Day]) (by kernel_rfl) rfl ?_; clear S; intro a w3 b3 hz3 hk3 S
 refine lv S (rn_fld fa_103_0 (S.tm rfl)) rfl ?_; clear S; intro a S
 refine lv S (rn_load Tryz.isAgg3 (S.tm rfl) (S.cell (i := 1) rfl rfl)) rfl ?_; clear S; intro a S
 refine lv S (rn_fld fa_103_1 (S.tm rfl)) rfl ?_; clear S; intro a S
 refine lv S (rn_load Tryz.isAgg3 (S.tm rfl) (S.cell (i := 1) rfl rfl)) rfl ?_; clear S; intro a S
 refine lv S (rn_fld fa_103_2 (S.tm rfl)) rfl ?_; clear S; intro a S
 refine lv S (rn_load Tryz.isAgg3 (S.tm rfl) (S.cell (i := 1) rfl rfl)) rfl ?_; clear S; intro a S
 refine l_buildSlice S Tryz.underlying22 Tryz.sizeOf3 Tryz.zeroValue3 rfl rfl (pv := [(0, iV p_b.Year), (1, iV p_b.Month), (2, iV p_b.Day)]) ⟨rfl, (S.tm rfl), rfl, (S.tm rfl), rfl, (S.tm rfl), trivial⟩ (cs := [iV p_b.Year, iV p_b.Month, iV p_b.Day]) (by kernel_rfl) rfl ?_; clear S; intro a w4 b4 hz4 hk4 S
 obtain ⟨r1, hr1, h⟩ := bindE h
 refine l_enter S (fun _ => run_call (vs := [.slice (some ⟨b3, 0, none⟩) 3 3, .slice (some ⟨b4, 0, none⟩) 3 3]) ⟨(S.tm rfl), (S.tm rfl), trivial⟩ Tryz.call97) (slices_Compare_int_ok _ (.slice (some ⟨b3, 0, none⟩) 3 3) [p_a.Year, p_a.Month, p_a.Day] (lit_slcT enc_int S (i := 1) rfl rfl rfl rfl ((ne_nil (e' := .blk b3 [iV p_a.Year, iV p_a.Month, iV p_a.Day] 3)) _ rfl)) (.slice (some ⟨b4, 0, none⟩) 3 3) [p_b.Year, p_b.Month, p_b.Day] (lit_slcT enc_int S (i := 0) rfl rfl rfl rfl ((ne_nil (e' := .blk b4 [iV p_b.Year, iV p_b.Month, iV p_b.Day] 3)) _ rfl)) _ hr1) rfl ?_; clear S; intro v1 a w5 hv1 hk5 hn1 S
 subst hv1
 refine lv S (rn_assign (S.tm rfl)) rfl ?_; clear S; intro a S
 refine l_done ?_
 replace S := S.nk [] [(4, iV r1)] [false, false, false, false] rfl ⟨rfl, trivial⟩
 refine then_n (wp_ret ?_)
 obtain rfl := Option.some.inj h
 exact f_ret S Tryz.results81 rfl rfl
theorem tumbref2_AgeFor_ok (w : World) (p_s : GSwimmer) (p_day : Int) (p_way : Int) (r : Int) (h : tumbref2_AgeFor p_s p_day p_way = some r) :
    Calls Tryz.prog 52 [.agg (GSwimmer.enc p_s).toArray, iV p_day, iV p_way].toArray w (Ret w [] fun _ v _ => v = iV r) := by
 refine f_enter [] [] Tryz.func52 rfl Tryz.ntmps52 rfl (by simp) (by simp [fps]) (by simp [fps]) fun a S => ?_
 unfold tumbref2_AgeFor at h
 replace S := S.nk [] [(0, .agg (GSwimmer.enc p_s).toArray), (1, iV p_day), (2, iV p_way)] [] rfl (subR rfl)
 refine f_seq (f_region (l_box S (S.tm rfl) (cs := (GSwimmer.enc p_s)) rfl rfl ?_)); clear S; intro a w1 b1 hz1 hk1 S
 refine lv S (rn_assign rfl) rfl ?_; clear S; intro a S
 refine l_done (then_n (f_seq (f_region (lv S (rn_fld fa_71_2 (S.tm rfl)) rfl ?_)))); clear S; intro a S
 refine lv S (rn_load Tryz.isAgg3 (S.tm rfl) (S.cell (i := 0) rfl rfl)) rfl ?_; clear S; intro a S
 obtain ⟨r1, hr1, h⟩ := bindE h
 refine l_enter S (fun _ => run_call (vs := [iV p_s.Born]) ⟨(S.tm rfl), trivial⟩ Tryz.call80) (tumbref2_DateFor_ok _ p_s.Born _ hr1) rfl ?_; clear S; intro v1 a w2 hv1 hk2 hn1 S
 subst hv1
 refine lv S (rn_move (S.tm rfl)) rfl ?_; clear S; intro a S
 obtain ⟨r2, hr2, h⟩ := bindE h
 refine l_enter S (fun _ => run_call (vs := [iV p_day]) ⟨(S.tm rfl), trivial⟩ Tryz.call80) (tumbref2_DateFor_ok _ p_day _ hr2) rfl ?_; clear S; intro v2 a w3 hv2 hk3 hn2 S
 subst hv2
 refine l_alloc S Tryz.zeroValue103 (cs := [iV 0, iV 0, iV 0]) rfl rfl ?_; clear S; intro a w4 b2 hz2 hk4 S
 refine l_alloc S Tryz.zeroValue103 (cs := [iV 0, iV 0, iV 0]) rfl rfl ?_; clear S; intro a w5 b3 hz3 hk5 S
 refine l_store S (S.tm rfl) (S.tm rfl) (i := 1) (off := 0) rfl Tryz.sizeOf103 (vs := (GDate.enc r1)) rfl rfl rfl rfl ?_; clear S; intro w6 hk6 S
 refine l_store S (S.tm rfl) (S.tm rfl) (i := 0) (off := 0) rfl Tryz.sizeOf103 (vs := (GDate.enc r2)) rfl rfl rfl rfl ?_; clear S; intro w7 hk7 S
 refine l_done (then_n (f_seq (f_seq (f_region (lv S (rn_move (S.tm rfl)) rfl ?_))))); clear S; intro a S
 refine lv S (rn_eql (S.tm rfl) rfl) rfl ?_; clear S; intro a S
 refine l_done (then_n (f_cond (S.tm rfl) (fun hb1 => ?_) (fun hb1 => ?_)))
 ·replace h := iteT h hb1
  refine f_seq (f_region (lv S (rn_fld fa_103_0 (S.tm rfl)) rfl ?_)); clear S; intro a S
  refine lv S (rn_load Tryz.isAgg3 (S.tm rfl) (S.cell (i := 0) rfl rfl)) rfl ?_; clear S; intro a S
  refine lv S (rn_fld fa_103_0 (S.tm rfl)) rfl ?_; clear S; intro a S
  refine lv S (rn_load Tryz.isAgg3 (S.tm rfl) (S.cell (i := 1) rfl rfl)) rfl ?_; clear S; intro a S
  refine lv S (rn_sub (S.tm rfl) (S.tm rfl)) rfl ?_; clear S; intro a S
  refine lv S (rn_assign (S.tm rfl)) rfl ?_; clear S; intro a S
  refine l_done ?_
  replace S := S.nk [] [(6, iV (W (r2.Year - r1.Year)))] [false, false, false] rfl ⟨rfl, trivial⟩
  refine then_n (wp_ret (then_r ?_))
  obtain rfl := Option.some.inj h
  exact f_ret S Tryz.results52 rfl rfl
 ·replace h := iteF h hb1
  refine wp_skip (then_n (f_seq (f_region (lv S (rn_assign rfl) rfl ?_)))); clear S; intro a S
  refine l_done ?_
  replace S := S.nk [.blk b3 (GDate.enc r2) 103, .blk b2 (GDate.enc r1) 103] [(7, .pointer (some ⟨b2, 0, none⟩)), (8, .pointer (some ⟨b3, 0, none⟩)), (9, iV 0)] [true, true, false] rfl (subR rfl)
  refine then_n (f_seq (f_seq (f_region (lv S (rn_fld fa_103_0 (S.tm rfl)) rfl ?_)))); clear S; intro a S
  refine lv S (rn_load Tryz.isAgg3 (S.tm rfl) (S.cell (i := 1) rfl rfl)) rfl ?_; clear S; intro a S
  refine lv S (rn_add (S.tm rfl) rfl) rfl ?_; clear S; intro a S
  refine lv S (rn_assign (S.tm rfl)) rfl ?_; clear S; intro a S
  refine l_done (then_n ?_)
  replace S := S.nk [.blk b3 (GDate.enc r2) 103, .blk b2 (GDate.enc r1) 103] [(7, .pointer (some ⟨b2, 0, none⟩)), (8, .pointer (some ⟨b3, 0, none⟩)), (9, iV 0), (10, iV (W (r1.Year + 1)))] [true, true] rfl (subR rfl)
  obtain ⟨j1, hj1, h⟩ := joinE h
  refine f_join (fun a w' => ∃ x1 : Int, j1 x1 = some r ∧ Sx w [] nov [.blk b3 (GDate.enc r2) 103, .blk b2 (GDate.enc r1) 103] [(9, iV x1)] 40 a w') ?_ ?_
  ·refine wp_block (f_loop (fun (m1 : Nat) a w' => ∃ x1 : Int, ∃ x2 : Int, tumbref2_AgeFor_l1 r1 r2 j1 m1 x1 x2 = some r ∧ Sx w [] nov [.blk b3 (GDate.enc r2) 103, .blk b2 (GDate.enc r1) 103] [(7, .pointer (some ⟨b2, 0, none⟩)), (8, .pointer (some ⟨b3, 0, none⟩)), (9, iV x1), (10, iV x2)] 40 a w') id 4611686018427387904 ⟨0, W (r1.Year + 1), h, S.nf [true, true] rfl (subR rfl)⟩ ?_)
   clear S h; rintro m1 a w8 ⟨x1, x2, h, S⟩
   cases m1 with
   | zero => rw [tumbref2_AgeFor_l1.eq_1] at h; cases h
   | succ m1 =>
    rw [tumbref2_AgeFor_l1.eq_2] at h
    refine f_seq (f_seq (f_region (lv S (rn_move (S.tm rfl)) rfl ?_))); clear S; intro a S
    refine lv S (rn_fld fa_103_1 (S.tm rfl)) rfl ?_; clear S; intro a S
    refine lv S (rn_load Tryz.isAgg3 (S.tm rfl) (S.cell (i := 1) rfl rfl)) rfl ?_; clear S; intro a S
    refine lv S (rn_fld fa_103_2 (S.tm rfl)) rfl ?_; clear S; intro a S
    refine lv S (rn_load Tryz.isAgg3 (S.tm rfl) (S.cell (i := 1) rfl rfl)) rfl ?_; clear S; intro a S
    refine lv S (rn_bld bt_103 (pv := [(0, iV x2), (1, iV r1.Month), (2, iV r1.Day)]) ⟨rfl, (S.tm rfl), rfl, (S.tm rfl), rfl, (S.tm rfl), trivial⟩ (cs := [iV x2, iV r1.Month, iV r1.Day]) (by kernel_rfl)) rfl ?_; clear S; intro a S
    refine lv S (rn_ldA Tryz.isAgg103 Tryz.sizeOf103 (off := 0) (o := 0) (part := (GDate.enc r2)) rfl rfl (S.tm rfl) (S.cellsAt (i := 0) rfl)) rfl ?_; clear S; intro a S
    obtain ⟨r3, hr3, h⟩ := bindE h
    refine l_enter S (fun _ => run_call (vs := [.agg (GDate.enc (GDate.mk x2 r1.Month r1.Day)).toArray, .agg (GDate.enc r2).toArray]) ⟨(S.tm rfl), (S.tm rfl), trivial⟩ Tryz.call81) (tumbref2_dateOrder_ok _ (GDate.mk x2 r1.Month r1.Day) r2 _ hr3) rfl ?_; clear S; intro v3 a w10 hv3 hk8 hn3 S
    subst hv3
    refine lv S (rn_leq (S.tm rfl) rfl) rfl ?_; clear S; intro a S
    refine l_done (then_n (f_cond (S.tm rfl) (fun hb2 => ?_) (fun hb2 => ?_)))
    ·replace h := iteT h hb2
     refine wp_skip (then_n (f_seq (wp_block (f_region (lv S (rn_move (S.tm rfl)) rfl ?_))))); clear S; intro a S
     refine lv S (rn_add (S.tm rfl) rfl) rfl ?_; clear S; intro a S
     refine lv S (rn_assign (S.tm rfl)) rfl ?_; clear S; intro a S
     refine l_done ?_
     replace S := S.nk [.blk b3 (GDate.enc r2) 103, .blk b2 (GDate.enc r1) 103] [(7, .pointer (some ⟨b2, 0, none⟩)), (8, .pointer (some ⟨b3, 0, none⟩)), (9, iV (W (x1 + 1))), (10, iV x2)] [true, true] rfl (subR rfl)
     refine blk_n (then_n (f_region (lv S (rn_move (S.tm rfl)) rfl ?_))); clear S; intro a S
     refine lv S (rn_add (S.tm rfl) rfl) rfl ?_; clear S; intro a S
     refine lv S (rn_assign (S.tm rfl)) rfl ?_; clear S; intro a S
     refine l_done (then_n ?_)
     exact ⟨m1, ⟨W (x1 + 1), W (x2 + 1), h, S.nf [true, true] rfl ⟨rfl, rfl, rfl, rfl, trivial⟩⟩, Nat.lt_succ_self _⟩
    ·replace h := iteF h hb2
     refine wp_exit (then_x (then_x (x_same (then_n ?_))))
     exact ⟨x1, h, S.nf [true, true] rfl ⟨rfl, trivial⟩⟩
  clear S h; rintro a w9 ⟨x1, h, S⟩; rw [hj1] at h; clear hj1 j1
  refine then_n (f_seq (f_region (lv S (rn_move (S.tm rfl)) rfl ?_))); clear S; intro a S
  refine lv S (rn_assign (S.tm rfl)) rfl ?_; clear S; intro a S
  refine l_done (then_n (wp_ret ?_))
  obtain rfl := Option.some.inj h
  exact f_ret S Tryz.results52 rfl rfl
set_option maxRecDepth 20000 in
theorem tumbref2_WrongOf_ok (w : World) (v_p_r : Value) (p_r : List GRace) (hs_p_r : Slc (view w []) 8 v_p_r (p_r.map GRace.enc)) (v_p_s : Value) (p_s : List GSwimmer) (hs_p_s : Slc (view w []) 3 v_p_s (p_s.map GSwimmer.enc)) (v_p_m : Value) (p_m : List GMove) (hs_p_m : Slc (view w []) 3 v_p_m (p_m.map GMove.enc)) (p_b : GBounds) (p_x : GSquad) (q_p_x : R37) (hq_p_x : rel_37 (view w []) p_x q_p_x) (r : ByteArray) (h : tumbref2_WrongOf p_r p_s p_m p_b p_x = some r) :
    Calls Tryz.prog 19 [v_p_r, v_p_s, v_p_m, .agg (GBounds.enc p_b).toArray, .agg (R37.enc q_p_x).toArray].toArray w (Ret w [] fun _ v _ => v = sV r) := by
 obtain ⟨u1, rfl, hs1⟩ := hq_p_x
 refine f_enter [] [] Tryz.func19 rfl Tryz.ntmps19 rfl (by simp) (by simp [fps]) (by simp [fps]) fun a S => ?_
 unfold tumbref2_WrongOf at h
 replace S := S.nk [] [(0, v_p_r), (1, v_p_s), (2, v_p_m), (3, .agg (GBounds.enc p_b).toArray), (4, .agg #[sV p_x.Key, sV p_x.Club, sV p_x.Race, u1.val])] [] rfl (subR rfl)
 refine f_seq (f_region (l_box S (S.tm rfl) (cs := (GBounds.enc p_b)) rfl rfl ?_)); clear S; intro a w1 b1 hz1 hk1 S
 refine l_box S (S.tm rfl) (cs := [sV p_x.Key, sV p_x.Club, sV p_x.Race, u1.val]) rfl rfl ?_; clear S; intro a w2 b2 hz2 hk2 S
 refine lv S (rn_assign rfl) rfl ?_; clear S; intro a S
 refine l_done (then_n (f_seq (f_region (lv S (rn_move (S.tm rfl)) rfl ?_)))); clear S; intro a S
 refine lv S (rn_fld fa_37_2 (S.tm rfl)) rfl ?_; clear S; intro a S
 refine lv S (rn_load Tryz.isAgg9 (S.tm rfl) (S.cell (i := 0) rfl rfl)) rfl ?_; clear S; intro a S
 refine l_enter S (fun _ => run_call (vs := [v_p_r, sV p_x.Race]) ⟨(S.tm rfl), (S.tm rfl), trivial⟩ Tryz.call49) (tumbref2_raceOf_ok _ v_p_r p_r (hs_p_r.mono (S.le_arg nil_sub)) p_x.Race _ rfl) rfl ?_; clear S; intro v1 a w3 hv1 hk3 hn1 S
 subst hv1
 refine lv S (rn_move (S.tm rfl)) rfl ?_; clear S; intro a S
 refine lv S (rn_extract (S.tm rfl) rfl) rfl ?_; clear S; intro a S
 refine lv S (rn_extract (S.tm rfl) rfl) rfl ?_; clear S; intro a S
 refine l_alloc S Tryz.zeroValue42 (cs := [sV k_empty, iV 0, iV 0, iV 0, iV 0, iV 0, iV 0, iV 0]) rfl rfl ?_; clear S; intro a w4 b3 hz3 hk4 S
 refine l_store S (S.tm rfl) (S.tm rfl) (i := 0) (off := 0) rfl Tryz.sizeOf42 (vs := (GRace.enc ((tumbref2_raceOf p_r p_x.Race).1))) rfl rfl rfl rfl ?_; clear S; intro w5 hk5 S
 refine lv S (rn_assign (S.tm rfl)) rfl ?_; clear S; intro a S
 refine l_done ?_
 replace S := S.nk [.blk b3 (GRace.enc ((tumbref2_raceOf p_r p_x.Race).1)) 42, .blk b2 [sV p_x.Key, sV p_x.Club, sV p_x.Race, u1.val] 37, .blk b1 (GBounds.enc p_b) 33] [(1, v_p_s), (2, v_p_m), (8, .pointer (some ⟨b1, 0, none⟩)), (9, .pointer (some ⟨b2, 0, none⟩)), (11, .pointer (some ⟨b3, 0, none⟩)), (12, bV ((tumbref2_raceOf p_r p_x.Race).2))] [true, true, true] rfl (subR rfl)
 refine then_n (f_seq (f_seq (f_region (lv S (rn_move (S.tm rfl)) rfl ?_)))); clear S; intro a S
 refine lv S (rn_not (S.tm rfl)) rfl ?_; clear S; intro a S
 refine lv S (rn_move (S.tm rfl)) rfl ?_; clear S; intro a S
 refine f_cutm 4 (fun a w' => Keep [] w5 w' ∧ Sx w [] nov [.blk b3 (GRace.enc ((tumbref2_raceOf p_r p_x.Race).1)) 42, .blk b2 [sV p_x.Key, sV p_x.Club, sV p_x.Race, u1.val] 37, .blk b1 (GBounds.enc p_b) 33] [(1, v_p_s), (2, v_p_m), (8, .pointer (some ⟨b1, 0, none⟩)), (9, .pointer (some ⟨b2, 0, none⟩)), (11, .pointer (some ⟨b3, 0, none⟩)), (35, bV ((!((tumbref2_raceOf p_r p_x.Race).2)) || (!decide ((((tumbref2_raceOf p_r p_x.Race).1).Legs) = 4))))] 120 a w') ?_ ?_
 ·rcases Bool.eq_false_or_eq_true (!((tumbref2_raceOf p_r p_x.Race).2)) with hb1 | hb1
  ·iterate 3 (refine l_skip S rfl rfl rfl (neq_t hb1) rfl ?_ rfl; clear S; intro a S)
   refine lv S (rn_or_t (!decide ((((tumbref2_raceOf p_r p_x.Race).1).Legs) = 4)) hb1 (S.tm rfl) rfl) rfl ?_; clear S; intro a S
   refine l_done (then_n ?_)
   exact ⟨Keep.refl _ _, S.nf [true, true, true] rfl (subR rfl)⟩
  ·refine l_want S rfl rfl rfl hb1 (lv S (rn_fld fa_42_4 (S.tm rfl)) rfl ?_); clear S; intro a S
   refine l_want S rfl rfl rfl hb1 (lv S (rn_load Tryz.isAgg3 (S.tm rfl) (S.cell (i := 0) rfl rfl)) rfl ?_); clear S; intro a S
   refine l_want S rfl rfl rfl hb1 (lv S (rn_neq (S.tm rfl) rfl) rfl ?_); clear S; intro a S
   refine lv S (rn_or_f hb1 (S.tm rfl) (S.tm rfl)) rfl ?_; clear S; intro a S
   refine l_done (then_n ?_)
   exact ⟨Keep.refl _ _, S.nf [true, true, true] rfl (subR rfl)⟩
 clear S; rintro a w6 ⟨hk6, S⟩
 refine l_done (then_n (f_cond (S.tm rfl) (fun hb2 => ?_) (fun hb2 => ?_)))
 ·replace h := iteT h hb2
  refine f_seq (f_region (lv S (rn_assign rfl) rfl ?_)); clear S; intro a S
  refine l_done (then_n (wp_ret (then_r ?_)))
  obtain rfl := Option.some.inj h
  exact f_ret S Tryz.results19 rfl rfl
 ·replace h := iteF h hb2
  refine wp_skip (then_n (f_seq (f_region (lv S (rn_assign rfl) rfl ?_)))); clear S; intro a S
  iterate 3 (refine lv S (rn_assign rfl) rfl ?_; clear S; intro a S)
  refine l_done (then_n (f_seq (f_region (lv S (rn_assign rfl) rfl ?_)))); clear S; intro a S
  refine l_done (then_n (f_seq (f_seq (f_region (lv S (rn_fld fa_37_3 (S.tm rfl)) rfl ?_))))); clear S; intro a S
  refine lv S (rn_load Tryz.isAgg35 (S.tm rfl) (S.cell (i := 1) rfl rfl)) rfl ?_; clear S; intro a S
  refine lv S (rn_lenT sl_35 (S.tm rfl) (slc_len hs1)) rfl ?_; clear S; intro a S
  refine lv S (rn_move rfl) rfl ?_; clear S; intro a S
  refine l_done ?_
  replace S := S.nk [.blk b3 (GRace.enc ((tumbref2_raceOf p_r p_x.Race).1)) 42, .blk b2 [sV p_x.Key, sV p_x.Club, sV p_x.Race, u1.val] 37, .blk b1 (GBounds.enc p_b) 33] [(1, v_p_s), (2, v_p_m), (8, .pointer (some ⟨b1, 0, none⟩)), (9, .pointer (some ⟨b2, 0, none⟩)), (11, .pointer (some ⟨b3, 0, none⟩)), (13, bV false), (14, bV false), (15, bV false), (16, bV false), (17, iV 0), (37, u1.val), (38, iV (p_x.Who.length : Int)), (39, iV 0)] [true, true, true] rfl (subR rfl)
  refine then_n ?_
  obtain ⟨j1, hj1, h⟩ := joinE h
  refine f_join (fun a w' => ∃ x1 : Bool, ∃ x2 : Bool, ∃ x3 : Bool, ∃ x4 : Bool, ∃ x5 : Int, j1 x1 x2 x3 x4 x5 = some r ∧ Sx w [] nov [.blk b3 (GRace.enc ((tumbref2_raceOf p_r p_x.Race).1)) 42, .blk b2 [sV p_x.Key, sV p_x.Club, sV p_x.Race, u1.val] 37, .blk b1 (GBounds.enc p_b) 33] [(11, .pointer (some ⟨b3, 0, none⟩)), (13, bV x1), (14, bV x2), (15, bV x3), (16, bV x4), (17, iV x5)] 120 a w') ?_ ?_
  ·refine wp_block (f_loop (fun (ys1 : List ByteArray) a w' => ∃ i1 : Nat, ∃ x1 : Bool, ∃ x2 : Bool, ∃ x3 : Bool, ∃ x4 : Bool, ∃ x5 : Int, (∃ dn, p_x.Who = dn ++ ys1 ∧ dn.length = i1) ∧ tumbref2_WrongOf_l1 p_s p_b p_r p_x p_m j1 ys1 i1 x1 x2 x3 x4 x5 = some r ∧ Sx w [] nov [.blk b3 (GRace.enc ((tumbref2_raceOf p_r p_x.Race).1)) 42, .blk b2 [sV p_x.Key, sV p_x.Club, sV p_x.Race, u1.val] 37, .blk b1 (GBounds.enc p_b) 33] [(1, v_p_s), (2, v_p_m), (8, .pointer (some ⟨b1, 0, none⟩)), (9, .pointer (some ⟨b2, 0, none⟩)), (11, .pointer (some ⟨b3, 0, none⟩)), (13, bV x1), (14, bV x2), (15, bV x3), (16, bV x4), (17, iV x5), (37, u1.val), (38, iV (p_x.Who.length : Int)), (39, iV (i1 : Int))] 120 a w') List.length p_x.Who ⟨0, false, false, false, false, 0, ⟨[], rfl, rfl⟩, h, S.nf [true, true, true] rfl (subR rfl)⟩ ?_)
   clear S h; rintro ys1 a w7 ⟨i1, x1, x2, x3, x4, x5, ⟨dn, hd1, hi1⟩, h, S⟩
   cases ys1 with
   | nil =>
    rw [tumbref2_WrongOf_l1.eq_1] at h
    refine f_seq (f_region (lv S (rn_lss (S.tm rfl) (S.tm rfl)) rfl ?_)); clear S; intro a S
    refine l_done ?_
    replace S := S.nk [.blk b3 (GRace.enc ((tumbref2_raceOf p_r p_x.Race).1)) 42, .blk b2 [sV p_x.Key, sV p_x.Club, sV p_x.Race, u1.val] 37, .blk b1 (GBounds.enc p_b) 33] [(1, v_p_s), (2, v_p_m), (8, .pointer (some ⟨b1, 0, none⟩)), (9, .pointer (some ⟨b2, 0, none⟩)), (11, .pointer (some ⟨b3, 0, none⟩)), (13, bV x1), (14, bV x2), (15, bV x3), (16, bV x4), (17, iV x5), (37, u1.val), (38, iV (p_x.Who.length : Int)), (39, iV (i1 : Int)), (40, bV (decide ((i1 : Int) < (p_x.Who.length : Int))))] [true, true, true] rfl (subR rfl)
    refine then_n (f_seq (wp_cond_false ((S.tm rfl).trans (congrArg Value.bool (rng_nil hd1 hi1))) (wp_exit (then_x (then_x (x_same ?_))))))
    refine then_n ?_
    exact ⟨x1, x2, x3, x4, x5, h, S.nf [true, true, true] rfl (subR rfl)⟩
   | cons y1 ys1 =>
    rw [tumbref2_WrongOf_l1.eq_2] at h
    refine f_seq (f_region (lv S (rn_lss (S.tm rfl) (S.tm rfl)) rfl ?_)); clear S; intro a S
    refine l_done ?_
    replace S := S.nk [.blk b3 (GRace.enc ((tumbref2_raceOf p_r p_x.Race).1)) 42, .blk b2 [sV p_x.Key, sV p_x.Club, sV p_x.Race, u1.val] 37, .blk b1 (GBounds.enc p_b) 33] [(1, v_p_s), (2, v_p_m), (8, .pointer (some ⟨b1, 0, none⟩)), (9, .pointer (some ⟨b2, 0, none⟩)), (11, .pointer (some ⟨b3, 0, none⟩)), (13, bV x1), (14, bV x2), (15, bV x3), (16, bV x4), (17, iV x5), (37, u1.val), (38, iV (p_x.Who.length : Int)), (39, iV (i1 : Int)), (40, bV (decide ((i1 : Int) < (p_x.Who.length : Int))))] [true, true, true] rfl (subR rfl)
    refine then_n (f_seq (wp_cond_true ((S.tm rfl).trans (congrArg Value.bool (rng_cons hd1 hi1))) (wp_skip (then_n (f_seq ?_)))))
    obtain ⟨j2, hj2, h⟩ := joinE h
    refine f_join (fun a w' => ∃ x6 : Bool, ∃ x7 : Bool, ∃ x8 : Bool, ∃ x9 : Bool, ∃ x10 : Int, j2 x6 x7 x8 x9 x10 = some r ∧ Sx w [] nov [.blk b3 (GRace.enc ((tumbref2_raceOf p_r p_x.Race).1)) 42, .blk b2 [sV p_x.Key, sV p_x.Club, sV p_x.Race, u1.val] 37, .blk b1 (GBounds.enc p_b) 33] [(1, v_p_s), (2, v_p_m), (8, .pointer (some ⟨b1, 0, none⟩)), (9, .pointer (some ⟨b2, 0, none⟩)), (11, .pointer (some ⟨b3, 0, none⟩)), (13, bV x6), (14, bV x7), (15, bV x8), (16, bV x9), (17, iV x10), (37, u1.val), (38, iV (p_x.Who.length : Int)), (39, iV (i1 : Int))] 120 a w') ?_ ?_
    ·refine wp_block (f_seq (f_region ?_))
     obtain ⟨b4, o1, hm1, hr1⟩ := rn_indexT (a := a) (x := .tmp 37) (y := .tmp 39) (ty := 0) sl_35 hs1 (get_mid hd1 hi1) rfl (S.tm rfl) (S.tm rfl)
     refine lv S (hr1 _) rfl ?_; clear S; intro a S
     clear hr1
     refine lv S (rn_ld Tryz.isAgg9 (off := o1) (o := 0) (S.tm rfl) (hm1.at S.emb0) rfl) rfl ?_; clear S; intro a S
     refine lv S (rn_assign (S.tm rfl)) rfl ?_; clear S; intro a S
     refine l_done ?_
     replace S := S.nk [.blk b3 (GRace.enc ((tumbref2_raceOf p_r p_x.Race).1)) 42, .blk b2 [sV p_x.Key, sV p_x.Club, sV p_x.Race, u1.val] 37, .blk b1 (GBounds.enc p_b) 33] [(1, v_p_s), (2, v_p_m), (8, .pointer (some ⟨b1, 0, none⟩)), (9, .pointer (some ⟨b2, 0, none⟩)), (11, .pointer (some ⟨b3, 0, none⟩)), (13, bV x1), (14, bV x2), (15, bV x3), (16, bV x4), (17, iV x5), (19, sV y1), (37, u1.val), (38, iV (p_x.Who.length : Int)), (39, iV (i1 : Int))] [true, true, true] rfl (subR rfl)
     refine then_n (f_seq (f_region (lv S (rn_move (S.tm rfl)) rfl ?_))); clear S; intro a S
     refine lv S (rn_move (S.tm rfl)) rfl ?_; clear S; intro a S
     refine l_enter S (fun _ => run_call (vs := [v_p_s, sV y1]) ⟨(S.tm rfl), (S.tm rfl), trivial⟩ Tryz.call50) (tumbref2_swimmerOf_ok _ v_p_s p_s (hs_p_s.mono (S.le_arg nil_sub)) y1 _ rfl) rfl ?_; clear S; intro v2 a w10 hv2 hk7 hn2 S
     subst hv2
     refine lv S (rn_move (S.tm rfl)) rfl ?_; clear S; intro a S
     refine lv S (rn_extract (S.tm rfl) rfl) rfl ?_; clear S; intro a S
     refine lv S (rn_extract (S.tm rfl) rfl) rfl ?_; clear S; intro a S
     refine l_alloc S Tryz.zeroValue71 (cs := [sV k_empty, iV 0, iV 0]) rfl rfl ?_; clear S; intro a w11 b5 hz4 hk8 S
     refine l_store S (S.tm rfl) (S.tm rfl) (i := 0) (off := 0) rfl Tryz.sizeOf71 (vs := (GSwimmer.enc ((tumbref2_swimmerOf p_s y1).1))) rfl rfl rfl rfl ?_; clear S; intro w12 hk9 S
     refine lv S (rn_assign (S.tm rfl)) rfl ?_; clear S; intro a S
     refine l_done ?_
     replace S := S.nk [.blk b5 (GSwimmer.enc ((tumbref2_swimmerOf p_s y1).1)) 71, .blk b3 (GRace.enc ((tumbref2_raceOf p_r p_x.Race).1)) 42, .blk b2 [sV p_x.Key, sV p_x.Club, sV p_x.Race, u1.val] 37, .blk b1 (GBounds.enc p_b) 33] [(1, v_p_s), (2, v_p_m), (8, .pointer (some ⟨b1, 0, none⟩)), (9, .pointer (some ⟨b2, 0, none⟩)), (11, .pointer (some ⟨b3, 0, none⟩)), (13, bV x1), (14, bV x2), (15, bV x3), (16, bV x4), (17, iV x5), (19, sV y1), (20, .pointer (some ⟨b5, 0, none⟩)), (21, bV ((tumbref2_swimmerOf p_s y1).2)), (37, u1.val), (38, iV (p_x.Who.length : Int)), (39, iV (i1 : Int))] [true, true, true, true] rfl (subR rfl)
     refine then_n (f_seq (f_seq (f_region (lv S (rn_move (S.tm rfl)) rfl ?_)))); clear S; intro a S
     refine lv S (rn_not (S.tm rfl)) rfl ?_; clear S; intro a S
     refine lv S (rn_move (S.tm rfl)) rfl ?_; clear S; intro a S
     refine f_cutm 6 (fun a w' => Keep [] w12 w' ∧ Sx w [] nov [.blk b5 (GSwimmer.enc ((tumbref2_swimmerOf p_s y1).1)) 71, .blk b3 (GRace.enc ((tumbref2_raceOf p_r p_x.Race).1)) 42, .blk b2 [sV p_x.Key, sV p_x.Club, sV p_x.Race, u1.val] 37, .blk b1 (GBounds.enc p_b) 33] [(1, v_p_s), (2, v_p_m), (8, .pointer (some ⟨b1, 0, none⟩)), (9, .pointer (some ⟨b2, 0, none⟩)), (11, .pointer (some ⟨b3, 0, none⟩)), (13, bV x1), (14, bV x2), (15, bV x3), (16, bV x4), (17, iV x5), (19, sV y1), (20, .pointer (some ⟨b5, 0, none⟩)), (37, u1.val), (38, iV (p_x.Who.length : Int)), (39, iV (i1 : Int)), (57, bV ((!((tumbref2_swimmerOf p_s y1).2)) || (decide (p_b.Day < (((tumbref2_swimmerOf p_s y1).1).Born)))))] 120 a w') ?_ ?_
     ·rcases Bool.eq_false_or_eq_true (!((tumbref2_swimmerOf p_s y1).2)) with hb3 | hb3
      ·iterate 5 (refine l_skip S rfl rfl rfl (neq_t hb3) rfl ?_ rfl; clear S; intro a S)
       refine lv S (rn_or_t (decide (p_b.Day < (((tumbref2_swimmerOf p_s y1).1).Born))) hb3 (S.tm rfl) rfl) rfl ?_; clear S; intro a S
       refine l_done (then_n ?_)
       exact ⟨Keep.refl _ _, S.nf [true, true, true, true] rfl (subR rfl)⟩
      ·refine l_want S rfl rfl rfl hb3 (lv S (rn_fld fa_71_2 (S.tm rfl)) rfl ?_); clear S; intro a S
       refine l_want S rfl rfl rfl hb3 (lv S (rn_load Tryz.isAgg3 (S.tm rfl) (S.cell (i := 0) rfl rfl)) rfl ?_); clear S; intro a S
       refine l_want S rfl rfl rfl hb3 (lv S (rn_fld fa_33_3 (S.tm rfl)) rfl ?_); clear S; intro a S
       refine l_want S rfl rfl rfl hb3 (lv S (rn_load Tryz.isAgg3 (S.tm rfl) (S.cell (i := 3) rfl rfl)) rfl ?_); clear S; intro a S
       refine l_want S rfl rfl rfl hb3 (lv S (rn_gtr (S.tm rfl) (S.tm rfl)) rfl ?_); clear S; intro a S
       refine lv S (rn_or_f hb3 (S.tm rfl) (S.tm rfl)) rfl ?_; clear S; intro a S
       refine l_done (then_n ?_)
       exact ⟨Keep.refl _ _, S.nf [true, true, true, true] rfl (subR rfl)⟩
     clear S; rintro a w13 ⟨hk10, S⟩
     refine l_done ?_
     replace S := S.nk [.blk b5 (GSwimmer.enc ((tumbref2_swimmerOf p_s y1).1)) 71, .blk b3 (GRace.enc ((tumbref2_raceOf p_r p_x.Race).1)) 42, .blk b2 [sV p_x.Key, sV p_x.Club, sV p_x.Race, u1.val] 37, .blk b1 (GBounds.enc p_b) 33] [(1, v_p_s), (2, v_p_m), (8, .pointer (some ⟨b1, 0, none⟩)), (9, .pointer (some ⟨b2, 0, none⟩)), (11, .pointer (some ⟨b3, 0, none⟩)), (13, bV x1), (14, bV x2), (15, bV x3), (16, bV x4), (17, iV x5), (19, sV y1), (20, .pointer (some ⟨b5, 0, none⟩)), (37, u1.val), (38, iV (p_x.Who.length : Int)), (39, iV (i1 : Int)), (57, bV ((!((tumbref2_swimmerOf p_s y1).2)) || (decide (p_b.Day < (((tumbref2_swimmerOf p_s y1).1).Born)))))] [true, true, true, true] rfl (subR rfl)
     refine then_n (f_cond (S.tm rfl) (fun hb4 => ?_) (fun hb4 => ?_))
     ·replace h := iteT h hb4
      refine f_seq (f_region (lv S (rn_assign rfl) rfl ?_)); clear S; intro a S
      refine l_done ?_
      replace S := S.nk [.blk b3 (GRace.enc ((tumbref2_raceOf p_r p_x.Race).1)) 42, .blk b2 [sV p_x.Key, sV p_x.Club, sV p_x.Race, u1.val] 37, .blk b1 (GBounds.enc p_b) 33] [(1, v_p_s), (2, v_p_m), (8, .pointer (some ⟨b1, 0, none⟩)), (9, .pointer (some ⟨b2, 0, none⟩)), (11, .pointer (some ⟨b3, 0, none⟩)), (13, bV true), (14, bV x2), (15, bV x3), (16, bV x4), (17, iV x5), (37, u1.val), (38, iV (p_x.Who.length : Int)), (39, iV (i1 : Int))] [false, true, true, true] rfl (subR rfl)
      refine then_n (wp_exit (then_x (x_same (then_n ?_))))
      exact ⟨true, x2, x3, x4, x5, h, S.nf [true, true, true] rfl (subR rfl)⟩
     ·replace h := iteF h hb4
      refine wp_skip (then_n (f_seq ?_))
      obtain ⟨j3, hj3, h⟩ := joinE h
      refine f_join (fun a w' => ∃ x11 : Bool, j3 x11 = some r ∧ Sx w [] nov [.blk b5 (GSwimmer.enc ((tumbref2_swimmerOf p_s y1).1)) 71, .blk b3 (GRace.enc ((tumbref2_raceOf p_r p_x.Race).1)) 42, .blk b2 [sV p_x.Key, sV p_x.Club, sV p_x.Race, u1.val] 37, .blk b1 (GBounds.enc p_b) 33] [(1, v_p_s), (2, v_p_m), (8, .pointer (some ⟨b1, 0, none⟩)), (9, .pointer (some ⟨b2, 0, none⟩)), (11, .pointer (some ⟨b3, 0, none⟩)), (13, bV x1), (14, bV x11), (15, bV x3), (16, bV x4), (17, iV x5), (20, .pointer (some ⟨b5, 0, none⟩)), (37, u1.val), (38, iV (p_x.Who.length : Int)), (39, iV (i1 : Int))] 120 a w') ?_ ?_
      ·rcases Bool.eq_false_or_eq_true x2 with hb5 | hb5
       ·replace h := iteT h hb5
        refine d_region [] ([]) Tryz.mixed S rfl (by kernel_rfl) ?_; clear S; intro w15 hk11 hsel S
        refine d_rest [0, 1, 2, 3, 4, 5, 6, 7, 8, 9, 10, 11] hsel (by kernel_rfl) rfl ?_
        clear hsel
        refine s_lv S rfl (rn_move (S.tm rfl)) rfl ?_; clear S; intro a S
        refine s_lv S rfl (rn_move (S.tm rfl)) rfl ?_; clear S; intro a S
        iterate 8 (refine s_skip S rfl rfl rfl rfl (neq_t hb5) rfl ?_ rfl; clear S; intro a S)
        refine s_lv S rfl (rn_pick_b hb5 (S.tm rfl) rfl) rfl ?_; clear S; intro a S
        refine s_lv S rfl (rn_assign (S.tm rfl)) rfl ?_; clear S; intro a S
        refine s_done ?_
        replace S := S.nk [.blk b5 (GSwimmer.enc ((tumbref2_swimmerOf p_s y1).1)) 71, .blk b3 (GRace.enc ((tumbref2_raceOf p_r p_x.Race).1)) 42, .blk b2 [sV p_x.Key, sV p_x.Club, sV p_x.Race, u1.val] 37, .blk b1 (GBounds.enc p_b) 33] [(1, v_p_s), (2, v_p_m), (8, .pointer (some ⟨b1, 0, none⟩)), (9, .pointer (some ⟨b2, 0, none⟩)), (11, .pointer (some ⟨b3, 0, none⟩)), (13, bV x1), (14, bV true), (15, bV x3), (16, bV x4), (17, iV x5), (20, .pointer (some ⟨b5, 0, none⟩)), (37, u1.val), (38, iV (p_x.Who.length : Int)), (39, iV (i1 : Int))] [true, true, true, true] rfl (subR rfl)
        refine then_n ?_
        exact ⟨true, h, S.nf [true, true, true, true] rfl (subR rfl)⟩
       ·replace h := iteF h hb5
        refine d_region [] ([]) Tryz.mixed S rfl (by kernel_rfl) ?_; clear S; intro w17 hk13 hsel S
        refine d_quiet 0 S hsel rfl rfl rfl (by kernel_rfl) (by kernel_rfl) rfl (fun _ hw => (rn_move (S.tm rfl))) ?_; clear S; intro a S
        refine d_quiet 1 S hsel rfl rfl rfl (by kernel_rfl) (by kernel_rfl) rfl (fun _ hw => (rn_move (S.tm rfl))) ?_; clear S; intro a S
        refine d_quiet_g 2 S hsel rfl rfl rfl rfl hb5 rfl rfl (by kernel_rfl) (by kernel_rfl) rfl (fun _ hw => (rn_move (S.tm rfl))) ?_; clear S; intro a S
        refine d_quiet_g 3 S hsel rfl rfl rfl rfl hb5 rfl rfl (by kernel_rfl) (by kernel_rfl) rfl (fun _ hw => (rn_move (S.tm rfl))) ?_; clear S; intro a S
        refine d_quiet_g 4 S hsel rfl rfl rfl rfl hb5 rfl rfl (by kernel_rfl) (by kernel_rfl) rfl (fun _ hw => (rn_fld fa_33_3 (S.tm rfl))) ?_; clear S; intro a S
        refine d_quiet_g 5 S hsel rfl rfl rfl rfl hb5 rfl rfl (by kernel_rfl) (by kernel_rfl) rfl (fun _ hw => (rn_ld Tryz.isAgg3 (off := 0) (o := 3) (S.tm rfl) ((S.blk_mem (i := 3) (cells := (GBounds.enc p_b)) (b := b1) (T := 33) rfl (ne_nil (e' := .blk b1 (GBounds.enc p_b) 33))).kept hw) rfl)) ?_; clear S; intro a S
        refine d_quiet_g 7 S hsel rfl rfl rfl rfl hb5 rfl rfl (by kernel_rfl) (by kernel_rfl) rfl (fun _ hw => (rn_fld fa_37_1 (S.tm rfl))) ?_; clear S; intro a S
        refine d_quiet_g 8 S hsel rfl rfl rfl rfl hb5 rfl rfl (by kernel_rfl) (by kernel_rfl) rfl (fun _ hw => (rn_ld Tryz.isAgg9 (off := 0) (o := 1) (S.tm rfl) ((S.blk_mem (i := 2) (cells := [sV p_x.Key, sV p_x.Club, sV p_x.Race, u1.val]) (b := b2) (T := 37) rfl (ne_nil (e' := .blk b2 [sV p_x.Key, sV p_x.Club, sV p_x.Race, u1.val] 37))).kept hw) rfl)) ?_; clear S; intro a S
        refine d_loud1 6 (by kernel_rfl) rfl (l_want S rfl rfl rfl hb5 (l_enter S (fun _ => run_call (vs := [v_p_m, sV y1, iV p_b.Day]) ⟨(S.tm rfl), (S.tm rfl), (S.tm rfl), trivial⟩ Tryz.call51) (tumbref2_ClubFor_ok _ v_p_m p_m (hs_p_m.mono (S.le_arg nil_sub)) y1 p_b.Day _ rfl) rfl ?_)); clear S; intro v4 a w18 hv4 hk14 hn4 S
        subst hv4
        refine l_done (d_next hk14 (d_rest [9, 10, 11] hsel (by kernel_rfl) rfl ?_))
        clear hsel
        refine s_want S rfl rfl rfl rfl hb5 (s_lv0 S (rn_sneq (S.tm rfl) (S.tm rfl)) rfl ?_); clear S; intro a S
        refine s_lv S rfl (rn_pick_c hb5 (S.tm rfl) (S.tm rfl)) rfl ?_; clear S; intro a S
        refine s_lv S rfl (rn_assign (S.tm rfl)) rfl ?_; clear S; intro a S
        refine s_done ?_
        replace S := S.nk [.blk b5 (GSwimmer.enc ((tumbref2_swimmerOf p_s y1).1)) 71, .blk b3 (GRace.enc ((tumbref2_raceOf p_r p_x.Race).1)) 42, .blk b2 [sV p_x.Key, sV p_x.Club, sV p_x.Race, u1.val] 37, .blk b1 (GBounds.enc p_b) 33] [(1, v_p_s), (2, v_p_m), (8, .pointer (some ⟨b1, 0, none⟩)), (9, .pointer (some ⟨b2, 0, none⟩)), (11, .pointer (some ⟨b3, 0, none⟩)), (13, bV x1), (14, bV (!decide ((tumbref2_ClubFor p_m y1 p_b.Day) = p_x.Club))), (15, bV x3), (16, bV x4), (17, iV x5), (20, .pointer (some ⟨b5, 0, none⟩)), (37, u1.val), (38, iV (p_x.Who.length : Int)), (39, iV (i1 : Int)), (60, v_p_m), (61, sV y1), (62, .pointer (some ⟨b1, 3, none⟩)), (63, iV p_b.Day), (64, sV (tumbref2_ClubFor p_m y1 p_b.Day)), (65, .pointer (some ⟨b2, 1, none⟩)), (66, sV p_x.Club), (67, bV (!decide ((tumbref2_ClubFor p_m y1 p_b.Day) = p_x.Club)))] [true, true, true, true] rfl (subR rfl)
        refine then_n ?_
        exact ⟨!decide ((tumbref2_ClubFor p_m y1 p_b.Day) = p_x.Club), h, S.nf [true, true, true, true] rfl (subR rfl)⟩
      clear S h; rintro a w14 ⟨x11, h, S⟩; rw [hj3] at h; clear hj3 j3
      refine then_n (f_seq (f_region (lv S (rn_move (S.tm rfl)) rfl ?_))); clear S; intro a S
      refine lv S (rn_move (S.tm rfl)) rfl ?_; clear S; intro a S
      refine f_cutm 11 (fun a w' => Keep [] w14 w' ∧ Sx w [] nov [.blk b5 (GSwimmer.enc ((tumbref2_swimmerOf p_s y1).1)) 71, .blk b3 (GRace.enc ((tumbref2_raceOf p_r p_x.Race).1)) 42, .blk b2 [sV p_x.Key, sV p_x.Club, sV p_x.Race, u1.val] 37, .blk b1 (GBounds.enc p_b) 33] [(1, v_p_s), (2, v_p_m), (8, .pointer (some ⟨b1, 0, none⟩)), (9, .pointer (some ⟨b2, 0, none⟩)), (11, .pointer (some ⟨b3, 0, none⟩)), (13, bV x1), (14, bV x11), (16, bV x4), (17, iV x5), (20, .pointer (some ⟨b5, 0, none⟩)), (37, u1.val), (38, iV (p_x.Who.length : Int)), (39, iV (i1 : Int)), (81, bV (x3 || ((!decide ((((tumbref2_raceOf p_r p_x.Race).1).Sex) = 0)) && (!decide ((((tumbref2_swimmerOf p_s y1).1).Sex) = (((tumbref2_raceOf p_r p_x.Race).1).Sex))))))] 120 a w') ?_ ?_
      ·rcases Bool.eq_false_or_eq_true x3 with hb6 | hb6
       ·iterate 4 (refine l_skip S rfl rfl rfl (neq_t hb6) rfl ?_ rfl; clear S; intro a S)
        iterate 5 (refine l_skipU S rfl rfl rfl rfl ?_; clear S; intro a S)
        refine l_skip S rfl rfl rfl (neq_t hb6) rfl ?_ rfl; clear S; intro a S
        refine lv S (rn_or_t ((!decide ((((tumbref2_raceOf p_r p_x.Race).1).Sex) = 0)) && (!decide ((((tumbref2_swimmerOf p_s y1).1).Sex) = (((tumbref2_raceOf p_r p_x.Race).1).Sex)))) hb6 (S.tm rfl) rfl) rfl ?_; clear S; intro a S
        refine l_done (then_n ?_)
        exact ⟨Keep.refl _ _, S.nf [true, true, true, true] rfl (subR rfl)⟩
       ·refine l_want S rfl rfl rfl hb6 (lv S (rn_fld fa_42_5 (S.tm rfl)) rfl ?_); clear S; intro a S
        refine l_want S rfl rfl rfl hb6 (lv S (rn_load Tryz.isAgg3 (S.tm rfl) (S.cell (i := 1) rfl rfl)) rfl ?_); clear S; intro a S
        refine l_want S rfl rfl rfl hb6 (lv S (rn_neq (S.tm rfl) rfl) rfl ?_); clear S; intro a S
        refine l_want S rfl rfl rfl hb6 (lv S (rn_move (S.tm rfl)) rfl ?_); clear S; intro a S
        refine f_cutm 6 (fun a w' => Keep [] w14 w' ∧ Sx w [] nov [.blk b5 (GSwimmer.enc ((tumbref2_swimmerOf p_s y1).1)) 71, .blk b3 (GRace.enc ((tumbref2_raceOf p_r p_x.Race).1)) 42, .blk b2 [sV p_x.Key, sV p_x.Club, sV p_x.Race, u1.val] 37, .blk b1 (GBounds.enc p_b) 33] [(1, v_p_s), (2, v_p_m), (8, .pointer (some ⟨b1, 0, none⟩)), (9, .pointer (some ⟨b2, 0, none⟩)), (11, .pointer (some ⟨b3, 0, none⟩)), (13, bV x1), (14, bV x11), (16, bV x4), (17, iV x5), (20, .pointer (some ⟨b5, 0, none⟩)), (37, u1.val), (38, iV (p_x.Who.length : Int)), (39, iV (i1 : Int)), (70, bV x3), (71, .pointer (some ⟨b3, 5, none⟩)), (72, iV (((tumbref2_raceOf p_r p_x.Race).1).Sex)), (73, bV (!decide ((((tumbref2_raceOf p_r p_x.Race).1).Sex) = 0))), (74, bV (!decide ((((tumbref2_raceOf p_r p_x.Race).1).Sex) = 0))), (80, bV ((!decide ((((tumbref2_raceOf p_r p_x.Race).1).Sex) = 0)) && (!decide ((((tumbref2_swimmerOf p_s y1).1).Sex) = (((tumbref2_raceOf p_r p_x.Race).1).Sex)))))] 120 a w') ?_ ?_
        ·rcases Bool.eq_false_or_eq_true (!decide ((((tumbref2_raceOf p_r p_x.Race).1).Sex) = 0)) with hb7 | hb7
         ·refine l_want S rfl rfl rfl hb7 (lv S (rn_fld fa_71_1 (S.tm rfl)) rfl ?_); clear S; intro a S
          refine l_want S rfl rfl rfl hb7 (lv S (rn_load Tryz.isAgg3 (S.tm rfl) (S.cell (i := 0) rfl rfl)) rfl ?_); clear S; intro a S
          refine l_want S rfl rfl rfl hb7 (lv S (rn_fld fa_42_5 (S.tm rfl)) rfl ?_); clear S; intro a S
          refine l_want S rfl rfl rfl hb7 (lv S (rn_load Tryz.isAgg3 (S.tm rfl) (S.cell (i := 1) rfl rfl)) rfl ?_); clear S; intro a S
          refine l_want S rfl rfl rfl hb7 (lv S (rn_neq (S.tm rfl) (S.tm rfl)) rfl ?_); clear S; intro a S
          refine l_want S rfl rfl rfl hb6 (lv S (rn_and_t hb7 (S.tm rfl) (S.tm rfl)) rfl ?_); clear S; intro a S
          refine l_done (then_n ?_)
          exact ⟨Keep.refl _ _, S.nf [true, true, true, true] rfl (subR rfl)⟩
         ·iterate 5 (refine l_skip S rfl rfl rfl (neq_f hb7) rfl ?_ rfl; clear S; intro a S)
          refine l_want S rfl rfl rfl hb6 (lv S (rn_and_f (!decide ((((tumbref2_swimmerOf p_s y1).1).Sex) = (((tumbref2_raceOf p_r p_x.Race).1).Sex))) hb7 (S.tm rfl) rfl) rfl ?_); clear S; intro a S
          refine l_done (then_n ?_)
          exact ⟨Keep.refl _ _, S.nf [true, true, true, true] rfl (subR rfl)⟩
        clear S; rintro a w20 ⟨hk15, S⟩
        refine lv S (rn_or_f hb6 (S.tm rfl) (S.tm rfl)) rfl ?_; clear S; intro a S
        refine l_done (then_n ?_)
        exact ⟨hk15, S.nf [true, true, true, true] rfl (subR rfl)⟩
      clear S; rintro a w19 ⟨hk16, S⟩
      refine lv S (rn_assign (S.tm rfl)) rfl ?_; clear S; intro a S
      refine l_done ?_
      replace S := S.nk [.blk b5 (GSwimmer.enc ((tumbref2_swimmerOf p_s y1).1)) 71, .blk b3 (GRace.enc ((tumbref2_raceOf p_r p_x.Race).1)) 42, .blk b2 [sV p_x.Key, sV p_x.Club, sV p_x.Race, u1.val] 37, .blk b1 (GBounds.enc p_b) 33] [(1, v_p_s), (2, v_p_m), (8, .pointer (some ⟨b1, 0, none⟩)), (9, .pointer (some ⟨b2, 0, none⟩)), (11, .pointer (some ⟨b3, 0, none⟩)), (13, bV x1), (14, bV x11), (15, bV (x3 || ((!decide ((((tumbref2_raceOf p_r p_x.Race).1).Sex) = 0)) && (!decide ((((tumbref2_swimmerOf p_s y1).1).Sex) = (((tumbref2_raceOf p_r p_x.Race).1).Sex)))))), (16, bV x4), (17, iV x5), (20, .pointer (some ⟨b5, 0, none⟩)), (37, u1.val), (38, iV (p_x.Who.length : Int)), (39, iV (i1 : Int))] [true, true, true, true] rfl (subR rfl)
      refine then_n (f_seq ?_)
      obtain ⟨j4, hj4, h⟩ := joinE h
      refine f_join (fun a w' => ∃ x12 : Bool, j4 x12 = some r ∧ Sx w [] nov [.blk b5 (GSwimmer.enc ((tumbref2_swimmerOf p_s y1).1)) 71, .blk b3 (GRace.enc ((tumbref2_raceOf p_r p_x.Race).1)) 42, .blk b2 [sV p_x.Key, sV p_x.Club, sV p_x.Race, u1.val] 37, .blk b1 (GBounds.enc p_b) 33] [(1, v_p_s), (2, v_p_m), (8, .pointer (some ⟨b1, 0, none⟩)), (9, .pointer (some ⟨b2, 0, none⟩)), (11, .pointer (some ⟨b3, 0, none⟩)), (13, bV x1), (14, bV x11), (15, bV (x3 || ((!decide ((((tumbref2_raceOf p_r p_x.Race).1).Sex) = 0)) && (!decide ((((tumbref2_swimmerOf p_s y1).1).Sex) = (((tumbref2_raceOf p_r p_x.Race).1).Sex)))))), (16, bV x12), (17, iV x5), (20, .pointer (some ⟨b5, 0, none⟩)), (37, u1.val), (38, iV (p_x.Who.length : Int)), (39, iV (i1 : Int))] 120 a w') ?_ ?_
      ·rcases Bool.eq_false_or_eq_true x4 with hb8 | hb8
       ·replace h := iteT h hb8
        refine d_region [] ([]) Tryz.mixed S rfl (by kernel_rfl) ?_; clear S; intro w22 hk17 hsel S
        refine d_rest [0, 1, 2, 3, 4, 5, 6, 7, 8, 9, 10, 11, 12, 13, 14, 15] hsel (by kernel_rfl) rfl ?_
        clear hsel
        refine s_lv S rfl (rn_move (S.tm rfl)) rfl ?_; clear S; intro a S
        refine s_lv S rfl (rn_move (S.tm rfl)) rfl ?_; clear S; intro a S
        iterate 12 (refine s_skip S rfl rfl rfl rfl (neq_t hb8) rfl ?_ rfl; clear S; intro a S)
        refine s_lv S rfl (rn_pick_b hb8 (S.tm rfl) rfl) rfl ?_; clear S; intro a S
        refine s_lv S rfl (rn_assign (S.tm rfl)) rfl ?_; clear S; intro a S
        refine s_done ?_
        replace S := S.nk [.blk b5 (GSwimmer.enc ((tumbref2_swimmerOf p_s y1).1)) 71, .blk b3 (GRace.enc ((tumbref2_raceOf p_r p_x.Race).1)) 42, .blk b2 [sV p_x.Key, sV p_x.Club, sV p_x.Race, u1.val] 37, .blk b1 (GBounds.enc p_b) 33] [(1, v_p_s), (2, v_p_m), (8, .pointer (some ⟨b1, 0, none⟩)), (9, .pointer (some ⟨b2, 0, none⟩)), (11, .pointer (some ⟨b3, 0, none⟩)), (13, bV x1), (14, bV x11), (15, bV (x3 || ((!decide ((((tumbref2_raceOf p_r p_x.Race).1).Sex) = 0)) && (!decide ((((tumbref2_swimmerOf p_s y1).1).Sex) = (((tumbref2_raceOf p_r p_x.Race).1).Sex)))))), (16, bV true), (17, iV x5), (20, .pointer (some ⟨b5, 0, none⟩)), (37, u1.val), (38, iV (p_x.Who.length : Int)), (39, iV (i1 : Int))] [true, true, true, true] rfl (subR rfl)
        refine then_n ?_
        exact ⟨true, h, S.nf [true, true, true, true] rfl (subR rfl)⟩
       ·replace h := iteF h hb8
        obtain ⟨r1, hr2, h⟩ := bindE h
        refine d_region [] ([]) Tryz.mixed S rfl (by kernel_rfl) ?_; clear S; intro w25 hk20 hsel S
        refine d_quiet 0 S hsel rfl rfl rfl (by kernel_rfl) (by kernel_rfl) rfl (fun _ hw => (rn_move (S.tm rfl))) ?_; clear S; intro a S
        refine d_quiet 1 S hsel rfl rfl rfl (by kernel_rfl) (by kernel_rfl) rfl (fun _ hw => (rn_move (S.tm rfl))) ?_; clear S; intro a S
        refine d_quiet_g 2 S hsel rfl rfl rfl rfl hb8 rfl rfl (by kernel_rfl) (by kernel_rfl) rfl (fun _ hw => (rn_ldA Tryz.isAgg71 Tryz.sizeOf71 (off := 0) (o := 0) (part := (GSwimmer.enc ((tumbref2_swimmerOf p_s y1).1))) rfl rfl (S.tm rfl) ((S.blk_mem (i := 0) (cells := (GSwimmer.enc ((tumbref2_swimmerOf p_s y1).1))) (b := b5) (T := 71) rfl (ne_nil (e' := .blk b5 (GSwimmer.enc ((tumbref2_swimmerOf p_s y1).1)) 71))).kept hw))) ?_; clear S; intro a S
        refine d_quiet_g 3 S hsel rfl rfl rfl rfl hb8 rfl rfl (by kernel_rfl) (by kernel_rfl) rfl (fun _ hw => (rn_fld fa_33_3 (S.tm rfl))) ?_; clear S; intro a S
        refine d_quiet_g 4 S hsel rfl rfl rfl rfl hb8 rfl rfl (by kernel_rfl) (by kernel_rfl) rfl (fun _ hw => (rn_ld Tryz.isAgg3 (off := 0) (o := 3) (S.tm rfl) ((S.blk_mem (i := 3) (cells := (GBounds.enc p_b)) (b := b1) (T := 33) rfl (ne_nil (e' := .blk b1 (GBounds.enc p_b) 33))).kept hw) rfl)) ?_; clear S; intro a S
        refine d_quiet_g 5 S hsel rfl rfl rfl rfl hb8 rfl rfl (by kernel_rfl) (by kernel_rfl) rfl (fun _ hw => (rn_fld fa_33_2 (S.tm rfl))) ?_; clear S; intro a S
        refine d_quiet_g 6 S hsel rfl rfl rfl rfl hb8 rfl rfl (by kernel_rfl) (by kernel_rfl) rfl (fun _ hw => (rn_ld Tryz.isAgg3 (off := 0) (o := 2) (S.tm rfl) ((S.blk_mem (i := 3) (cells := (GBounds.enc p_b)) (b := b1) (T := 33) rfl (ne_nil (e' := .blk b1 (GBounds.enc p_b) 33))).kept hw) rfl)) ?_; clear S; intro a S
        refine d_quiet_g 8 S hsel rfl rfl rfl rfl hb8 rfl rfl (by kernel_rfl) (by kernel_rfl) rfl (fun _ hw => (rn_fld fa_42_6 (S.tm rfl))) ?_; clear S; intro a S
        refine d_quiet_g 9 S hsel rfl rfl rfl rfl hb8 rfl rfl (by kernel_rfl) (by kernel_rfl) rfl (fun _ hw => (rn_ld Tryz.isAgg3 (off := 0) (o := 6) (S.tm rfl) ((S.blk_mem (i := 1) (cells := (GRace.enc ((tumbref2_raceOf p_r p_x.Race).1))) (b := b3) (T := 42) rfl (ne_nil (e' := .blk b3 (GRace.enc ((tumbref2_raceOf p_r p_x.Race).1)) 42))).kept hw) rfl)) ?_; clear S; intro a S
        refine d_quiet_g 10 S hsel rfl rfl rfl rfl hb8 rfl rfl (by kernel_rfl) (by kernel_rfl) rfl (fun _ hw => (rn_fld fa_42_7 (S.tm rfl))) ?_; clear S; intro a S
        refine d_quiet_g 11 S hsel rfl rfl rfl rfl hb8 rfl rfl (by kernel_rfl) (by kernel_rfl) rfl (fun _ hw => (rn_ld Tryz.isAgg3 (off := 0) (o := 7) (S.tm rfl) ((S.blk_mem (i := 1) (cells := (GRace.enc ((tumbref2_raceOf p_r p_x.Race).1))) (b := b3) (T := 42) rfl (ne_nil (e' := .blk b3 (GRace.enc ((tumbref2_raceOf p_r p_x.Race).1)) 42))).kept hw) rfl)) ?_; clear S; intro a S
        refine d_loud1 7 (by kernel_rfl) rfl (l_want S rfl rfl rfl hb8 (l_enter S (fun _ => run_call (vs := [.agg (GSwimmer.enc ((tumbref2_swimmerOf p_s y1).1)).toArray, iV p_b.Day, iV p_b.Age]) ⟨(S.tm rfl), (S.tm rfl), (S.tm rfl), trivial⟩ Tryz.call52) (tumbref2_AgeFor_ok _ ((tumbref2_swimmerOf p_s y1).1) p_b.Day p_b.Age _ hr2) rfl ?_)); clear S; intro v7 a w26 hv7 hk21 hn7 S
        subst hv7
        refine l_done (d_next hk21 (d_loud1 12 (by kernel_rfl) rfl (l_want S rfl rfl rfl hb8 (l_enter S (fun _ => run_call (vs := [iV r1, iV (((tumbref2_raceOf p_r p_x.Race).1).Young), iV (((tumbref2_raceOf p_r p_x.Race).1).Old)]) ⟨(S.tm rfl), (S.tm rfl), (S.tm rfl), trivial⟩ Tryz.call45) (tumbref2_in_ok _ r1 (((tumbref2_raceOf p_r p_x.Race).1).Young) (((tumbref2_raceOf p_r p_x.Race).1).Old) _ rfl) rfl ?_)))); clear S; intro v8 a w27 hv8 hk22 hn8 S
        subst hv8
        refine l_done (d_next hk22 (d_rest [13, 14, 15] hsel (by kernel_rfl) rfl ?_))
        clear hsel
        refine s_want S rfl rfl rfl rfl hb8 (s_lv0 S (rn_not (S.tm rfl)) rfl ?_); clear S; intro a S
        refine s_lv S rfl (rn_pick_c hb8 (S.tm rfl) (S.tm rfl)) rfl ?_; clear S; intro a S
        refine s_lv S rfl (rn_assign (S.tm rfl)) rfl ?_; clear S; intro a S
        refine s_done ?_
        replace S := S.nk [.blk b5 (GSwimmer.enc ((tumbref2_swimmerOf p_s y1).1)) 71, .blk b3 (GRace.enc ((tumbref2_raceOf p_r p_x.Race).1)) 42, .blk b2 [sV p_x.Key, sV p_x.Club, sV p_x.Race, u1.val] 37, .blk b1 (GBounds.enc p_b) 33] [(1, v_p_s), (2, v_p_m), (8, .pointer (some ⟨b1, 0, none⟩)), (9, .pointer (some ⟨b2, 0, none⟩)), (11, .pointer (some ⟨b3, 0, none⟩)), (13, bV x1), (14, bV x11), (15, bV (x3 || ((!decide ((((tumbref2_raceOf p_r p_x.Race).1).Sex) = 0)) && (!decide ((((tumbref2_swimmerOf p_s y1).1).Sex) = (((tumbref2_raceOf p_r p_x.Race).1).Sex)))))), (16, bV (!(tumbref2_in r1 (((tumbref2_raceOf p_r p_x.Race).1).Young) (((tumbref2_raceOf p_r p_x.Race).1).Old)))), (17, iV x5), (20, .pointer (some ⟨b5, 0, none⟩)), (37, u1.val), (38, iV (p_x.Who.length : Int)), (39, iV (i1 : Int)), (84, .agg (GSwimmer.enc ((tumbref2_swimmerOf p_s y1).1)).toArray), (85, .pointer (some ⟨b1, 3, none⟩)), (86, iV p_b.Day), (87, .pointer (some ⟨b1, 2, none⟩)), (88, iV p_b.Age), (89, iV r1), (90, .pointer (some ⟨b3, 6, none⟩)), (91, iV (((tumbref2_raceOf p_r p_x.Race).1).Young)), (92, .pointer (some ⟨b3, 7, none⟩)), (93, iV (((tumbref2_raceOf p_r p_x.Race).1).Old)), (94, bV (tumbref2_in r1 (((tumbref2_raceOf p_r p_x.Race).1).Young) (((tumbref2_raceOf p_r p_x.Race).1).Old))), (95, bV (!(tumbref2_in r1 (((tumbref2_raceOf p_r p_x.Race).1).Young) (((tumbref2_raceOf p_r p_x.Race).1).Old))))] [true, true, true, true] rfl (subR rfl)
        refine then_n ?_
        exact ⟨!(tumbref2_in r1 (((tumbref2_raceOf p_r p_x.Race).1).Young) (((tumbref2_raceOf p_r p_x.Race).1).Old)), h, S.nf [true, true, true, true] rfl (subR rfl)⟩
      clear S h; rintro a w21 ⟨x12, h, S⟩; rw [hj4] at h; clear hj4 j4
      refine then_n (f_seq (f_region (lv S (rn_fld fa_71_1 (S.tm rfl)) rfl ?_))); clear S; intro a S
      refine lv S (rn_load Tryz.isAgg3 (S.tm rfl) (S.cell (i := 0) rfl rfl)) rfl ?_; clear S; intro a S
      refine lv S (rn_eql (S.tm rfl) rfl) rfl ?_; clear S; intro a S
      refine l_done ?_
      replace S := S.nk [.blk b3 (GRace.enc ((tumbref2_raceOf p_r p_x.Race).1)) 42, .blk b2 [sV p_x.Key, sV p_x.Club, sV p_x.Race, u1.val] 37, .blk b1 (GBounds.enc p_b) 33] [(1, v_p_s), (2, v_p_m), (8, .pointer (some ⟨b1, 0, none⟩)), (9, .pointer (some ⟨b2, 0, none⟩)), (11, .pointer (some ⟨b3, 0, none⟩)), (13, bV x1), (14, bV x11), (15, bV (x3 || ((!decide ((((tumbref2_raceOf p_r p_x.Race).1).Sex) = 0)) && (!decide ((((tumbref2_swimmerOf p_s y1).1).Sex) = (((tumbref2_raceOf p_r p_x.Race).1).Sex)))))), (16, bV x12), (17, iV x5), (37, u1.val), (38, iV (p_x.Who.length : Int)), (39, iV (i1 : Int)), (99, bV (decide ((((tumbref2_swimmerOf p_s y1).1).Sex) = 1)))] [false, true, true, true] rfl (subR rfl)
      refine then_n ?_
      obtain ⟨j5, hj5, h⟩ := joinE h
      refine f_join (fun a w' => ∃ x13 : Int, j5 x13 = some r ∧ Sx w [] nov [.blk b3 (GRace.enc ((tumbref2_raceOf p_r p_x.Race).1)) 42, .blk b2 [sV p_x.Key, sV p_x.Club, sV p_x.Race, u1.val] 37, .blk b1 (GBounds.enc p_b) 33] [(1, v_p_s), (2, v_p_m), (8, .pointer (some ⟨b1, 0, none⟩)), (9, .pointer (some ⟨b2, 0, none⟩)), (11, .pointer (some ⟨b3, 0, none⟩)), (13, bV x1), (14, bV x11), (15, bV (x3 || ((!decide ((((tumbref2_raceOf p_r p_x.Race).1).Sex) = 0)) && (!decide ((((tumbref2_swimmerOf p_s y1).1).Sex) = (((tumbref2_raceOf p_r p_x.Race).1).Sex)))))), (16, bV x12), (17, iV x13), (37, u1.val), (38, iV (p_x.Who.length : Int)), (39, iV (i1 : Int))] 120 a w') ?_ ?_
      ·refine f_cond (S.tm rfl) (fun hb9 => ?_) (fun hb9 => ?_)
       ·replace h := iteT h hb9
        refine f_region (lv S (rn_move (S.tm rfl)) rfl ?_); clear S; intro a S
        refine lv S (rn_add (S.tm rfl) rfl) rfl ?_; clear S; intro a S
        refine lv S (rn_assign (S.tm rfl)) rfl ?_; clear S; intro a S
        refine l_done ?_
        replace S := S.nk [.blk b3 (GRace.enc ((tumbref2_raceOf p_r p_x.Race).1)) 42, .blk b2 [sV p_x.Key, sV p_x.Club, sV p_x.Race, u1.val] 37, .blk b1 (GBounds.enc p_b) 33] [(1, v_p_s), (2, v_p_m), (8, .pointer (some ⟨b1, 0, none⟩)), (9, .pointer (some ⟨b2, 0, none⟩)), (11, .pointer (some ⟨b3, 0, none⟩)), (13, bV x1), (14, bV x11), (15, bV (x3 || ((!decide ((((tumbref2_raceOf p_r p_x.Race).1).Sex) = 0)) && (!decide ((((tumbref2_swimmerOf p_s y1).1).Sex) = (((tumbref2_raceOf p_r p_x.Race).1).Sex)))))), (16, bV x12), (17, iV (W (x5 + 1))), (37, u1.val), (38, iV (p_x.Who.length : Int)), (39, iV (i1 : Int))] [true, true, true] rfl (subR rfl)
        refine then_n ?_
        exact ⟨W (x5 + 1), h, S.nf [true, true, true] rfl (subR rfl)⟩
       ·replace h := iteF h hb9
        refine wp_skip (then_n ?_)
        exact ⟨x5, h, S.nf [true, true, true] rfl (subR rfl)⟩
      clear S h; rintro a w28 ⟨x13, h, S⟩; rw [hj5] at h; clear hj5 j5
      refine blk_n (then_n ?_)
      exact ⟨x1, x11, (x3 || ((!decide ((((tumbref2_raceOf p_r p_x.Race).1).Sex) = 0)) && (!decide ((((tumbref2_swimmerOf p_s y1).1).Sex) = (((tumbref2_raceOf p_r p_x.Race).1).Sex))))), x12, x13, h, S.nf [true, true, true] rfl (subR rfl)⟩
    clear S h; rintro a w9 ⟨x6, x7, x8, x9, x10, h, S⟩; rw [hj2] at h; clear hj2 j2
    refine then_n (f_region (lv S (rn_add (S.tm rfl) rfl) rfl ?_)); clear S; intro a S
    refine lv S (rn_move (S.tm rfl)) rfl ?_; clear S; intro a S
    refine l_done (then_n ?_)
    exact ⟨ys1, ⟨i1 + 1, x6, x7, x8, x9, x10, ⟨_, (hd1).trans (List.append_cons _ _ _), by simp [hi1]⟩, h, S.nf [true, true, true] rfl ⟨rfl, rfl, rfl, rfl, rfl, rfl, rfl, rfl, rfl, rfl, rfl, rfl, (congrArg (fun z => some (Value.int .i64 z)) (rng_next hd1 hi1 (slc_max hs1))), trivial⟩⟩, Nat.lt_succ_self _⟩
  clear S h; rintro a w8 ⟨x1, x2, x3, x4, x5, h, S⟩; rw [hj1] at h; clear hj1 j1
  refine then_n (f_seq (wp_block (f_seq (f_region (lv S (rn_move (S.tm rfl)) rfl ?_))))); clear S; intro a S
  refine lv S (rn_assign (S.tm rfl)) rfl ?_; clear S; intro a S
  refine l_done (then_n (f_cond (S.tm rfl) (fun hb10 => ?_) (fun hb10 => ?_)))
  ·replace h := iteT h hb10
   refine f_seq (f_region (lv S (rn_assign rfl) rfl ?_)); clear S; intro a S
   refine l_done (then_n (wp_ret (blk_r (then_r ?_))))
   obtain rfl := Option.some.inj h
   exact f_ret S Tryz.results19 rfl rfl
  ·replace h := iteF h hb10
   refine f_seq (f_region (lv S (rn_move (S.tm rfl)) rfl ?_)); clear S; intro a S
   refine lv S (rn_assign (S.tm rfl)) rfl ?_; clear S; intro a S
   refine l_done (then_n (f_cond (S.tm rfl) (fun hb11 => ?_) (fun hb11 => ?_)))
   ·replace h := iteT h hb11
    refine f_seq (f_region (lv S (rn_assign rfl) rfl ?_)); clear S; intro a S
    refine l_done (then_n (wp_ret (blk_r (then_r ?_))))
    obtain rfl := Option.some.inj h
    exact f_ret S Tryz.results19 rfl rfl
   ·replace h := iteF h hb11
    refine f_seq (f_region (lv S (rn_move (S.tm rfl)) rfl ?_)); clear S; intro a S
    refine lv S (rn_move (S.tm rfl)) rfl ?_; clear S; intro a S
    refine f_cutm 8 (fun a w' => Keep [] w8 w' ∧ Sx w [] nov [.blk b3 (GRace.enc ((tumbref2_raceOf p_r p_x.Race).1)) 42, .blk b2 [sV p_x.Key, sV p_x.Club, sV p_x.Race, u1.val] 37, .blk b1 (GBounds.enc p_b) 33] [(16, bV x4), (117, bV (x3 || ((decide ((((tumbref2_raceOf p_r p_x.Race).1).Sex) = 0)) && (!decide (x5 = 2)))))] 120 a w') ?_ ?_
    ·rcases Bool.eq_false_or_eq_true x3 with hb12 | hb12
     ·iterate 4 (refine l_skip S rfl rfl rfl (neq_t hb12) rfl ?_ rfl; clear S; intro a S)
      refine l_skipU S rfl rfl rfl rfl ?_; clear S; intro a S
      refine l_skipU S rfl rfl rfl rfl ?_; clear S; intro a S
      refine l_skip S rfl rfl rfl (neq_t hb12) rfl ?_ rfl; clear S; intro a S
      refine lv S (rn_or_t ((decide ((((tumbref2_raceOf p_r p_x.Race).1).Sex) = 0)) && (!decide (x5 = 2))) hb12 (S.tm rfl) rfl) rfl ?_; clear S; intro a S
      refine l_done (then_n ?_)
      exact ⟨Keep.refl _ _, S.nf [true, true, true] rfl (subR rfl)⟩
     ·refine l_want S rfl rfl rfl hb12 (lv S (rn_fld fa_42_5 (S.tm rfl)) rfl ?_); clear S; intro a S
      refine l_want S rfl rfl rfl hb12 (lv S (rn_load Tryz.isAgg3 (S.tm rfl) (S.cell (i := 0) rfl rfl)) rfl ?_); clear S; intro a S
      refine l_want S rfl rfl rfl hb12 (lv S (rn_eql (S.tm rfl) rfl) rfl ?_); clear S; intro a S
      refine l_want S rfl rfl rfl hb12 (lv S (rn_move (S.tm rfl)) rfl ?_); clear S; intro a S
      refine f_cutm 3 (fun a w' => Keep [] w8 w' ∧ Sx w [] nov [.blk b3 (GRace.enc ((tumbref2_raceOf p_r p_x.Race).1)) 42, .blk b2 [sV p_x.Key, sV p_x.Club, sV p_x.Race, u1.val] 37, .blk b1 (GBounds.enc p_b) 33] [(16, bV x4), (109, bV x3), (116, bV ((decide ((((tumbref2_raceOf p_r p_x.Race).1).Sex) = 0)) && (!decide (x5 = 2))))] 120 a w') ?_ ?_
      ·rcases Bool.eq_false_or_eq_true (decide ((((tumbref2_raceOf p_r p_x.Race).1).Sex) = 0)) with hb13 | hb13
       ·refine l_want S rfl rfl rfl hb13 (lv S (rn_move (S.tm rfl)) rfl ?_); clear S; intro a S
        refine l_want S rfl rfl rfl hb13 (lv S (rn_neq (S.tm rfl) rfl) rfl ?_); clear S; intro a S
        refine l_want S rfl rfl rfl hb12 (lv S (rn_and_t hb13 (S.tm rfl) (S.tm rfl)) rfl ?_); clear S; intro a S
        refine l_done (then_n ?_)
        exact ⟨Keep.refl _ _, S.nf [true, true, true] rfl (subR rfl)⟩
       ·refine l_skip S rfl rfl rfl (neq_f hb13) rfl ?_ rfl; clear S; intro a S
        refine l_skip S rfl rfl rfl (neq_f hb13) rfl ?_ rfl; clear S; intro a S
        refine l_want S rfl rfl rfl hb12 (lv S (rn_and_f (!decide (x5 = 2)) hb13 (S.tm rfl) rfl) rfl ?_); clear S; intro a S
        refine l_done (then_n ?_)
        exact ⟨Keep.refl _ _, S.nf [true, true, true] rfl (subR rfl)⟩
      clear S; rintro a w30 ⟨hk23, S⟩
      refine lv S (rn_or_f hb12 (S.tm rfl) (S.tm rfl)) rfl ?_; clear S; intro a S
      refine l_done (then_n ?_)
      exact ⟨hk23, S.nf [true, true, true] rfl (subR rfl)⟩
    clear S; rintro a w29 ⟨hk24, S⟩
    refine lv S (rn_assign (S.tm rfl)) rfl ?_; clear S; intro a S
    refine l_done (then_n (f_cond (S.tm rfl) (fun hb14 => ?_) (fun hb14 => ?_)))
    ·replace h := iteT h hb14
     refine f_seq (f_region (lv S (rn_assign rfl) rfl ?_)); clear S; intro a S
     refine l_done (then_n (wp_ret (blk_r (then_r ?_))))
     obtain rfl := Option.some.inj h
     exact f_ret S Tryz.results19 rfl rfl
    ·replace h := iteF h hb14
     refine f_seq (f_region (lv S (rn_move (S.tm rfl)) rfl ?_)); clear S; intro a S
     refine lv S (rn_assign (S.tm rfl)) rfl ?_; clear S; intro a S
     refine l_done (then_n (f_cond (S.tm rfl) (fun hb15 => ?_) (fun hb15 => ?_)))
     ·replace h := iteT h hb15
      refine f_seq (f_region (lv S (rn_assign rfl) rfl ?_)); clear S; intro a S
      refine l_done (then_n (wp_ret (blk_r (then_r ?_))))
      obtain rfl := Option.some.inj h
      exact f_ret S Tryz.results19 rfl rfl
     ·replace h := iteF h hb15
      refine wp_skip (blk_n (then_n (f_seq (f_region (lv S (rn_assign rfl) rfl ?_))))); clear S; intro a S
      refine l_done (then_n (wp_ret ?_))
      obtain rfl := Option.some.inj h
      exact f_ret S Tryz.results19 rfl rfl
theorem Stream_Legs_ok (w : World) (b_p_s : Nat) (v_p_s_L : Value) (p_s_L : List Int) (hs_p_s_L : Slc (view w [b_p_s]) 1 v_p_s_L (p_s_L.map eInt)) (p_s_at : Int) (hb_b_p_s : (LEnt.blk b_p_s [v_p_s_L, iV p_s_at] 25).holds w) (r : (List GLeg) × Int) (h : Stream_Legs p_s_L p_s_at = some r) :
    Calls Tryz.prog 21 [.pointer (some ⟨b_p_s, 0, none⟩)].toArray w (Ret w [b_p_s] fun τ v w' => (LEnt.blk b_p_s [v_p_s_L, iV r.2] 25).holds w' ∧ OwnD τ 91 2 R91.enc rel_91 v r.1) := by
 refine f_enter [b_p_s] [.blk b_p_s [v_p_s_L, iV p_s_at] 25] Tryz.func21 rfl Tryz.ntmps21 rfl (fun e he => by simp only [List.mem_singleton] at he; subst he; exact hb_b_p_s) (by simp [fps, LEnt.fp]) (by simp [fps, LEnt.fp]) fun a S => ?_
 unfold Stream_Legs at h
 replace S := S.nk [.blk b_p_s [v_p_s_L, iV p_s_at] 25] [(0, .pointer (some ⟨b_p_s, 0, none⟩))] [true] rfl ⟨rfl, trivial⟩
 refine f_seq (f_region (lv S (rn_assign rfl) rfl ?_)); clear S; intro a S
 refine l_done (then_n (f_seq (f_region (lv S (rn_assign rfl) rfl ?_)))); clear S; intro a S
 replace S := S.nil 91 2
 refine l_done (then_n (f_seq (f_seq (f_region (l_buildSlice S Tryz.underlying35 Tryz.sizeOf9 Tryz.zeroValue9 rfl rfl (pv := [(0, sV k_aa), (1, sV k_bb), (2, sV k_cc), (3, sV k_xa), (4, sV k_xb), (5, sV k_xc)]) ⟨rfl, rfl, rfl, rfl, rfl, rfl, rfl, rfl, rfl, rfl, rfl, rfl, trivial⟩ (cs := [sV k_aa, sV k_bb, sV k_cc, sV k_xa, sV k_xb, sV k_xc]) (by kernel_rfl) rfl ?_))))); clear S; intro a w1 b1 hz1 hk1 S
 refine lv S (rn_lenT sl_35 (S.tm rfl) ⟨_, _, rfl⟩) rfl ?_; clear S; intro a S
 refine lv S (rn_move rfl) rfl ?_; clear S; intro a S
 refine l_done (then_n ?_)
 replace S := S.nk [.blk b1 [sV k_aa, sV k_bb, sV k_cc, sV k_xa, sV k_xb, sV k_xc] 9, .own (.slice none 0 0) 91 2 ([] : List R91).length (([] : List R91).flatMap R91.enc), .blk b_p_s [v_p_s_L, iV p_s_at] 25] [(0, .pointer (some ⟨b_p_s, 0, none⟩)), (3, (.slice none 0 0)), (7, .slice (some ⟨b1, 0, none⟩) 6 6), (8, iV (([k_aa, k_bb, k_cc, k_xa, k_xb, k_xc] : List ByteArray).length : Int)), (9, iV 0)] [true, true, true] rfl (subR rfl)
 replace S := S.litOwn (i := 0) (xs := [k_aa, k_bb, k_cc, k_xa, k_xb, k_xc]) rfl enc_str rfl rfl rfl
 replace S := S.nk [.own (.slice (some ⟨b1, 0, none⟩) 6 6) 9 1 ([k_aa, k_bb, k_cc, k_xa, k_xb, k_xc] : List ByteArray).length (([k_aa, k_bb, k_cc, k_xa, k_xb, k_xc] : List ByteArray).flatMap eStr), .own (.slice none 0 0) 91 2 ([] : List R91).length (([] : List R91).flatMap R91.enc), .blk b_p_s [v_p_s_L, iV p_s_at] 25] [(0, .pointer (some ⟨b_p_s, 0, none⟩)), (3, (.slice none 0 0)), (7, (.slice (some ⟨b1, 0, none⟩) 6 6)), (8, iV (([k_aa, k_bb, k_cc, k_xa, k_xb, k_xc] : List ByteArray).length : Int)), (9, iV 0)] [] rfl (subR rfl)
 obtain ⟨φ1, hl1, hs1, S⟩ := S.freezeT (xs := ([k_aa, k_bb, k_cc, k_xa, k_xb, k_xc] : List ByteArray)) (enc := eStr) (i := 0) rfl (fun c hc hh => not_fps S (i := 2) rfl rfl (j := 0) rfl rfl (by simp at hc; subst hc; exact hh))
 replace S := S.nk [.own (.slice none 0 0) 91 2 ([] : List R91).length (([] : List R91).flatMap R91.enc), .blk b_p_s [v_p_s_L, iV p_s_at] 25] [(0, .pointer (some ⟨b_p_s, 0, none⟩)), (3, (.slice none 0 0)), (7, (.slice (some ⟨b1, 0, none⟩) 6 6)), (8, iV (([k_aa, k_bb, k_cc, k_xa, k_xb, k_xc] : List ByteArray).length : Int)), (9, iV 0)] [] rfl (subR rfl)
 obtain ⟨j1, hj1, h⟩ := joinE h
 refine f_join (fun a w' => ∃ x1 : List GLeg, ∃ x2 : Int, ∃ φ2 : View, ∃ v1 : Value, ∃ rs1 : List R91, j1 x1 x2 = some r ∧ View.le φ1 φ2 ∧ All2 (rel_91 φ2) x1 rs1 ∧ Sx w [b_p_s] φ2 [.own v1 91 2 rs1.length (rs1.flatMap R91.enc), .blk b_p_s [v_p_s_L, iV x2] 25] [(3, v1)] 52 a w') ?_ ?_
 ·refine wp_block (f_loop (fun (ys1 : List ByteArray) a w' => ∃ i1 : Nat, ∃ x1 : List GLeg, ∃ x2 : Int, ∃ φ2 : View, ∃ v1 : Value, ∃ rs1 : List R91, (∃ dn, ([k_aa, k_bb, k_cc, k_xa, k_xb, k_xc] : List ByteArray) = dn ++ ys1 ∧ dn.length = i1) ∧ Stream_Legs_l1 p_s_L j1 ys1 i1 x1 x2 = some r ∧ View.le φ1 φ2 ∧ All2 (rel_91 φ2) x1 rs1 ∧ Sx w [b_p_s] φ2 [.own v1 91 2 rs1.length (rs1.flatMap R91.enc), .blk b_p_s [v_p_s_L, iV x2] 25] [(0, .pointer (some ⟨b_p_s, 0, none⟩)), (3, v1), (7, (.slice (some ⟨b1, 0, none⟩) 6 6)), (8, iV (([k_aa, k_bb, k_cc, k_xa, k_xb, k_xc] : List ByteArray).length : Int)), (9, iV (i1 : Int))] 52 a w') List.length ([k_aa, k_bb, k_cc, k_xa, k_xb, k_xc] : List ByteArray) ⟨0, ([] : List GLeg), p_s_at, φ1, (.slice none 0 0), ([] : List R91), ⟨[], rfl, rfl⟩, h, View.le_refl _, .nil, S.nf [true, true] rfl (subR rfl)⟩ ?_)
  clear S h; rintro ys1 a w2 ⟨i1, x1, x2, φ2, v1, rs1, ⟨dn, hd1, hi1⟩, h, hl2, hr1, S⟩
  cases ys1 with
  | nil =>
   rw [Stream_Legs_l1.eq_1] at h
   refine f_seq (f_region (lv S (rn_lss (S.tm rfl) (S.tm rfl)) rfl ?_)); clear S; intro a S
   refine l_done ?_
   replace S := S.nk [.own v1 91 2 rs1.length (rs1.flatMap R91.enc), .blk b_p_s [v_p_s_L, iV x2] 25] [(0, .pointer (some ⟨b_p_s, 0, none⟩)), (3, v1), (7, (.slice (some ⟨b1, 0, none⟩) 6 6)), (8, iV (([k_aa, k_bb, k_cc, k_xa, k_xb, k_xc] : List ByteArray).length : Int)), (9, iV (i1 : Int)), (10, bV (decide ((i1 : Int) < (([k_aa, k_bb, k_cc, k_xa, k_xb, k_xc] : List ByteArray).length : Int))))] [true, true] rfl (subR rfl)
   refine then_n (f_seq (wp_cond_false ((S.tm rfl).trans (congrArg Value.bool (rng_nil hd1 hi1))) (wp_exit (then_x (then_x (x_same ?_))))))
   refine then_n ?_
   exact ⟨x1, x2, φ2, v1, rs1, h, hl2, hr1, S.nf [true, true] rfl ⟨rfl, trivial⟩⟩
  | cons y1 ys1 =>
   rw [Stream_Legs_l1.eq_2] at h
   refine f_seq (f_region (lv S (rn_lss (S.tm rfl) (S.tm rfl)) rfl ?_)); clear S; intro a S
   refine l_done ?_
   replace S := S.nk [.own v1 91 2 rs1.length (rs1.flatMap R91.enc), .blk b_p_s [v_p_s_L, iV x2] 25] [(0, .pointer (some ⟨b_p_s, 0, none⟩)), (3, v1), (7, (.slice (some ⟨b1, 0, none⟩) 6 6)), (8, iV (([k_aa, k_bb, k_cc, k_xa, k_xb, k_xc] : List ByteArray).length : Int)), (9, iV (i1 : Int)), (10, bV (decide ((i1 : Int) < (([k_aa, k_bb, k_cc, k_xa, k_xb, k_xc] : List ByteArray).length : Int))))] [true, true] rfl (subR rfl)
   refine then_n (f_seq (wp_cond_true ((S.tm rfl).trans (congrArg Value.bool (rng_cons hd1 hi1))) (wp_skip (then_n (f_seq ?_)))))
   obtain ⟨j2, hj2, h⟩ := joinE h
   refine f_join (fun a w' => ∃ x3 : List GLeg, ∃ x4 : Int, ∃ φ3 : View, ∃ v2 : Value, ∃ rs2 : List R91, j2 x3 x4 = some r ∧ View.le φ2 φ3 ∧ All2 (rel_91 φ3) x3 rs2 ∧ Sx w [b_p_s] φ3 [.own v2 91 2 rs2.length (rs2.flatMap R91.enc), .blk b_p_s [v_p_s_L, iV x4] 25] [(0, .pointer (some ⟨b_p_s, 0, none⟩)), (3, v2), (7, (.slice (some ⟨b1, 0, none⟩) 6 6)), (8, iV (([k_aa, k_bb, k_cc, k_xa, k_xb, k_xc] : List ByteArray).length : Int)), (9, iV (i1 : Int))] 52 a w') ?_ ?_
   ·refine wp_block (f_seq (f_region ?_))
    obtain ⟨b2, o1, hm1, hr3⟩ := rn_indexT (a := a) (x := .tmp 7) (y := .tmp 9) (ty := 0) sl_35 (ownV_slcT enc_str hs1) (get_mid hd1 hi1) rfl (S.tm rfl) (S.tm rfl)
    refine lv S (hr3 _) rfl ?_; clear S; intro a S
    clear hr3
    refine lv S (rn_ld Tryz.isAgg9 (off := o1) (o := 0) (S.tm rfl) ((hm1.mono hl2).at S.emb) rfl) rfl ?_; clear S; intro a S
    refine lv S (rn_assign (S.tm rfl)) rfl ?_; clear S; intro a S
    refine l_done (then_n (f_seq (f_seq (f_region (lv S (rn_move (S.tm rfl)) rfl ?_))))); clear S; intro a S
    obtain ⟨r1, hr4, h⟩ := bindE h
    refine l_enter1 1 S (b := b_p_s) rfl rfl (fun _ => .blk b_p_s [v_p_s_L, iV r1.2] 25) (fun _ => run_call (vs := [.pointer (some ⟨b_p_s, 0, none⟩), iV 6]) ⟨(S.tm rfl), rfl, trivial⟩ Tryz.call9) (Stream_Flip_ok _ b_p_s v_p_s_L p_s_L (hs_p_s_L.mono (S.le_arg (fp_sub (i := 1) (e := .blk b_p_s [v_p_s_L, iV x2] 25) rfl))) x2 (S.holds _ (List.mem_of_getElem? (i := 1) rfl)) 6 _ hr4) rfl (fun _ _ _ h => ⟨h.1, fun _ hc => by cases hc; rfl⟩) ?_; clear S; intro v3 a w5 hv1 hk2 hn1 S
    replace hv1 := hv1.2
    subst hv1
    refine l_done (then_n (f_cond (S.tm rfl) (fun hb1 => ?_) (fun hb1 => ?_)))
    ·replace h := iteT h hb1
     refine wp_exit (then_x (x_same (then_n ?_)))
     exact ⟨x1, r1.2, φ2, v1, rs1, h, (View.le_refl _), hr1, S.nf [true, true] rfl (subR rfl)⟩
    ·replace h := iteF h hb1
     refine wp_skip (then_n (f_seq (f_region (lv S (rn_move (S.tm rfl)) rfl ?_)))); clear S; intro a S
     refine lv S (rn_bld bt_91 (pv := [(0, sV y1)]) ⟨rfl, (S.tm rfl), trivial⟩ (cs := [sV y1, .slice none 0 0]) (by kernel_rfl)) rfl ?_; clear S; intro a S
     refine l_alloc S Tryz.zeroValue91 (cs := [sV k_empty, .slice none 0 0]) rfl rfl ?_; clear S; intro a w6 b3 hz2 hk3 S
     replace S := S.nil 3 1
     refine l_store S (S.tm rfl) (S.tm rfl) (i := 1) (off := 0) rfl Tryz.sizeOf91 (vs := [sV y1, .slice none 0 0]) rfl rfl rfl rfl ?_; clear S; intro w7 hk4 S
     replace S := S.nil 3 1
     refine l_done (then_n (f_seq (f_seq (f_region (lv S (rn_move rfl) rfl ?_))))); clear S; intro a S
     refine l_done ?_
     replace S := S.nk [.own (.slice none 0 0) 3 1 ([] : List Int).length (([] : List Int).flatMap eInt), .blk b3 [sV y1, (.slice none 0 0)] 91, .own v1 91 2 rs1.length (rs1.flatMap R91.enc), .blk b_p_s [v_p_s_L, iV r1.2] 25] [(0, .pointer (some ⟨b_p_s, 0, none⟩)), (3, v1), (5, sV y1), (6, .pointer (some ⟨b3, 0, none⟩)), (7, (.slice (some ⟨b1, 0, none⟩) 6 6)), (8, iV (([k_aa, k_bb, k_cc, k_xa, k_xb, k_xc] : List ByteArray).length : Int)), (9, iV (i1 : Int)), (17, iV 0)] [true, false, true, true, true] rfl (subR rfl)
     refine then_n ?_
     obtain ⟨j3, hj3, h⟩ := joinE h
     refine f_join (fun a w' => ∃ x5 : List Int, ∃ x6 : Int, ∃ v4 : Value, j3 x5 x6 = some r ∧ Sx w [b_p_s] φ2 [.own v4 3 1 x5.length (x5.flatMap eInt), .blk b3 [sV y1, v4] 91, .own v1 91 2 rs1.length (rs1.flatMap R91.enc), .blk b_p_s [v_p_s_L, iV x6] 25] [(0, .pointer (some ⟨b_p_s, 0, none⟩)), (3, v1), (5, sV y1), (6, .pointer (some ⟨b3, 0, none⟩)), (7, (.slice (some ⟨b1, 0, none⟩) 6 6)), (8, iV (([k_aa, k_bb, k_cc, k_xa, k_xb, k_xc] : List ByteArray).length : Int)), (9, iV (i1 : Int))] 52 a w') ?_ ?_
     ·refine wp_block (f_loop (fun (m1 : Nat) a w' => ∃ x5 : List Int, ∃ x6 : Int, ∃ x7 : Int, ∃ v4 : Value, Stream_Legs_l2 p_s_L j3 m1 x5 x6 x7 = some r ∧ Sx w [b_p_s] φ2 [.own v4 3 1 x5.length (x5.flatMap eInt), .blk b3 [sV y1, v4] 91, .own v1 91 2 rs1.length (rs1.flatMap R91.enc), .blk b_p_s [v_p_s_L, iV x6] 25] [(0, .pointer (some ⟨b_p_s, 0, none⟩)), (3, v1), (5, sV y1), (6, .pointer (some ⟨b3, 0, none⟩)), (7, (.slice (some ⟨b1, 0, none⟩) 6 6)), (8, iV (([k_aa, k_bb, k_cc, k_xa, k_xb, k_xc] : List ByteArray).length : Int)), (9, iV (i1 : Int)), (17, iV x7)] 52 a w') id 6 ⟨([] : List Int), r1.2, 0, (.slice none 0 0), h, S.nf [true, true, true, true] rfl (subR rfl)⟩ ?_)
      clear S h; rintro m1 a w8 ⟨x5, x6, x7, v4, h, S⟩
      cases m1 with
      | zero => rw [Stream_Legs_l2.eq_1] at h; cases h
      | succ m1 =>
       rw [Stream_Legs_l2.eq_2] at h
       refine f_seq (f_region (lv S (rn_lss (S.tm rfl) rfl) rfl ?_)); clear S; intro a S
       refine l_done (then_n (f_seq (f_cond (S.tm rfl) (fun hb2 => ?_) (fun hb2 => ?_))))
       ·replace h := iteT h hb2
        refine wp_skip (then_n (f_seq (wp_block ?_)))
        obtain ⟨r2, hr5, h⟩ := bindE h
        obtain ⟨hc1, h⟩ := chkE h
        refine d_region [8] ([b_p_s] ++ v4.ownBlock.toList) Tryz.mixed S rfl (by kernel_rfl) ?_; clear S; intro w15 hk10 hsel S
        refine d_pure 0 S hsel rfl rfl (by kernel_rfl) (by kernel_rfl) rfl (fun _ => (rn_fld fa_91_1 (S.tm rfl))) ?_; clear S; intro a S
        refine d_quiet 1 S hsel rfl (by kernel_rfl) (by kernel_rfl) (by kernel_rfl) (by kernel_rfl) rfl (fun _ hw => (rn_ld Tryz.isAgg22 (off := 0) (o := 1) (S.tm rfl) ((S.blk_mem (i := 1) (cells := [sV y1, v4]) (b := b3) (T := 91) rfl (ne_app (ne_fp (i := 3) (j := 1) (e := .blk b_p_s [v_p_s_L, iV x6] 25) (e' := .blk b3 [sV y1, v4] 91) S rfl rfl rfl) (ne_fp (i := 0) (j := 1) (e := .own v4 3 1 x5.length (x5.flatMap eInt)) (e' := .blk b3 [sV y1, v4] 91) S rfl rfl rfl))).kept hw) rfl)) ?_; clear S; intro a S
        refine d_pure 2 S hsel rfl rfl (by kernel_rfl) (by kernel_rfl) rfl (fun _ => (rn_move (S.tm rfl))) ?_; clear S; intro a S
        refine d_loud1 3 (by kernel_rfl) rfl (l_buildSlice S Tryz.underlying22 Tryz.sizeOf3 Tryz.zeroValue3 rfl rfl (pv := [(0, iV 0), (1, iV 10), (2, iV 11), (3, iV 12), (4, iV 12), (5, iV 13), (6, iV 15)]) ⟨rfl, rfl, rfl, rfl, rfl, rfl, rfl, rfl, rfl, rfl, rfl, rfl, rfl, rfl, trivial⟩ (cs := [iV 0, iV 10, iV 11, iV 12, iV 12, iV 13, iV 15]) (by kernel_rfl) rfl ?_); clear S; intro a w16 b6 hz5 hk11 S
        refine l_done (d_next (Keep.none hk11) (d_loud1 4 (by kernel_rfl) rfl ?_))
        refine l_enter1 4 S (b := b_p_s) rfl rfl (fun _ => .blk b_p_s [v_p_s_L, iV r2.2] 25) (fun _ => run_call (vs := [.pointer (some ⟨b_p_s, 0, none⟩), .slice (some ⟨b6, 0, none⟩) 7 7]) ⟨(S.tm rfl), (S.tm rfl), trivial⟩ Tryz.call11) (Stream_Pick_ok _ b_p_s v_p_s_L p_s_L (hs_p_s_L.mono (S.le_arg (fp_sub (i := 4) (e := .blk b_p_s [v_p_s_L, iV x6] 25) rfl))) x6 (S.holds _ (List.mem_of_getElem? (i := 4) rfl)) (.slice (some ⟨b6, 0, none⟩) 7 7) [0, 10, 11, 12, 12, 13, 15] (lit_slcT enc_int S (i := 0) rfl rfl rfl rfl ((ne_fp (i := 4) (j := 0) (e := .blk b_p_s [v_p_s_L, iV x6] 25) (e' := .blk b6 [iV 0, iV 10, iV 11, iV 12, iV 12, iV 13, iV 15] 3) S rfl rfl rfl) _ rfl)) _ hr5) rfl (fun _ _ _ h => ⟨h.1, fun _ hc => by cases hc; rfl⟩) ?_; clear S; intro v7 a w17 hv3 hk12 hn3 S
        replace hv3 := hv3.2
        subst hv3
        refine l_done ?_
        refine d_next (hk12.sub (by intro y hy; simp at hy ⊢; simp [hy])) ?_
        refine d_loud1 5 (by kernel_rfl) rfl (l_buildSlice S Tryz.underlying22 Tryz.sizeOf3 Tryz.zeroValue3 rfl rfl (pv := [(0, iV r2.1)]) ⟨rfl, (S.tm rfl), trivial⟩ (cs := [iV r2.1]) (by kernel_rfl) rfl ?_); clear S; intro a w18 b7 hz6 hk13 S
        refine l_done (d_next (Keep.none hk13) (d_loud1 6 (by kernel_rfl) rfl ?_))
        refine l_appendT sl_22 enc_int S (S.tm rfl) (i := 2) rfl (S.tm rfl) (j := 0) rfl (ys := [r2.1]) rfl rfl rfl rfl (by have := room_lt hc1; omega) rfl ?_; clear S; intro v8 a w19 hk14 S
        refine l_done ?_
        refine d_next (hk14.sub (by intro y hy; simp at hy ⊢; simp [hy])) ?_
        refine d_pure 7 S hsel rfl rfl (by kernel_rfl) (by kernel_rfl) rfl (fun _ => (rn_fld fa_91_1 (S.tm rfl))) ?_; clear S; intro a S
        refine d_loudB 8 ([b_p_s] ++ (v8.ownBlock.toList ++ [b3])) rfl (by kernel_rfl) rfl (l_store S (S.tm rfl) (S.tm rfl) (i := 3) (off := 1) rfl Tryz.sizeOf22 (vs := [v8]) (SlcLen.cells (own_len (S.own_at (i := 2) rfl))) rfl rfl (all1 (SlcLen.one (own_len (S.own_at (i := 2) rfl))) rfl) ?_); clear S; intro w20 hk15 S
        refine l_done (d_nextB (d_end (by kernel_rfl) ?_))
        clear hsel
        replace S := S.nk [.own v8 3 1 (x5 ++ [r2.1]).length ((x5 ++ [r2.1]).flatMap eInt), .blk b3 [sV y1, v8] 91, .own v1 91 2 rs1.length (rs1.flatMap R91.enc), .blk b_p_s [v_p_s_L, iV r2.2] 25] [(0, .pointer (some ⟨b_p_s, 0, none⟩)), (3, v1), (5, sV y1), (6, .pointer (some ⟨b3, 0, none⟩)), (7, (.slice (some ⟨b1, 0, none⟩) 6 6)), (8, iV (([k_aa, k_bb, k_cc, k_xa, k_xb, k_xc] : List ByteArray).length : Int)), (9, iV (i1 : Int)), (17, iV x7)] [false, false, true, true, true, true] rfl (subR rfl)
        refine blk_n (then_n (f_region (lv S (rn_add (S.tm rfl) rfl) rfl ?_))); clear S; intro a S
        refine lv S (rn_move (S.tm rfl)) rfl ?_; clear S; intro a S
        refine l_done (then_n ?_)
        exact ⟨m1, ⟨(x5 ++ [r2.1]), r2.2, W (x7 + 1), v8, h, S.nf [true, true, true, true] rfl ⟨rfl, rfl, rfl, rfl, rfl, rfl, rfl, rfl, trivial⟩⟩, Nat.lt_succ_self _⟩
       ·replace h := iteF h hb2
        refine wp_exit (then_x (then_x (x_same (then_n ?_))))
        exact ⟨x5, x6, v4, h, S.nf [true, true, true, true] rfl (subR rfl)⟩
     clear S h; rintro a w9 ⟨x5, x6, v4, h, S⟩; rw [hj3] at h; clear hj3 j3
     refine then_n (f_seq (f_seq (f_region (lv S (rn_move (S.tm rfl)) rfl ?_)))); clear S; intro a S
     obtain ⟨r3, hr6, h⟩ := bindE h
     refine l_enter1 3 S (b := b_p_s) rfl rfl (fun _ => .blk b_p_s [v_p_s_L, iV r3.2] 25) (fun _ => run_call (vs := [.pointer (some ⟨b_p_s, 0, none⟩), iV 60]) ⟨(S.tm rfl), rfl, trivial⟩ Tryz.call9) (Stream_Flip_ok _ b_p_s v_p_s_L p_s_L (hs_p_s_L.mono (S.le_arg (fp_sub (i := 3) (e := .blk b_p_s [v_p_s_L, iV x6] 25) rfl))) x6 (S.holds _ (List.mem_of_getElem? (i := 3) rfl)) 60 _ hr6) rfl (fun _ _ _ h => ⟨h.1, fun _ hc => by cases hc; rfl⟩) ?_; clear S; intro v9 a w21 hv4 hk16 hn4 S
     replace hv4 := hv4.2
     subst hv4
     refine l_done (then_n ?_)
     obtain ⟨j4, hj4, h⟩ := joinE h
     refine f_join (fun a w' => ∃ x8 : List Int, ∃ x9 : ByteArray, ∃ x10 : Int, ∃ v10 : Value, j4 x8 x9 x10 = some r ∧ Sx w [b_p_s] φ2 [.own v10 3 1 x8.length (x8.flatMap eInt), .blk b3 [sV x9, v10] 91, .own v1 91 2 rs1.length (rs1.flatMap R91.enc), .blk b_p_s [v_p_s_L, iV x10] 25] [(0, .pointer (some ⟨b_p_s, 0, none⟩)), (3, v1), (6, .pointer (some ⟨b3, 0, none⟩)), (7, (.slice (some ⟨b1, 0, none⟩) 6 6)), (8, iV (([k_aa, k_bb, k_cc, k_xa, k_xb, k_xc] : List ByteArray).length : Int)), (9, iV (i1 : Int))] 52 a w') ?_ ?_
     ·refine f_cond (S.tm rfl) (fun hb3 => ?_) (fun hb3 => ?_)
      ·replace h := iteT h hb3
       refine f_seq (f_region (lv S (rn_move (S.tm rfl)) rfl ?_)); clear S; intro a S
       refine lv S (rn_move (S.tm rfl)) rfl ?_; clear S; intro a S
       refine l_buildSlice S Tryz.underlying35 Tryz.sizeOf9 Tryz.zeroValue9 rfl rfl (pv := [(0, sV y1), (1, sV k_empty), (2, sV k_aa)]) ⟨rfl, (S.tm rfl), rfl, rfl, rfl, rfl, trivial⟩ (cs := [sV y1, sV k_empty, sV k_aa]) (by kernel_rfl) rfl ?_; clear S; intro a w23 b8 hz7 hk17 S
       obtain ⟨r4, hr7, h⟩ := bindE h
       refine l_enter1 4 S (b := b_p_s) rfl rfl (fun _ => .blk b_p_s [v_p_s_L, iV r4.2] 25) (fun _ => run_call (vs := [.pointer (some ⟨b_p_s, 0, none⟩), .slice (some ⟨b8, 0, none⟩) 3 3]) ⟨(S.tm rfl), (S.tm rfl), trivial⟩ Tryz.call31) (Stream_Some_ok _ b_p_s v_p_s_L p_s_L (hs_p_s_L.mono (S.le_arg (fp_sub (i := 4) (e := .blk b_p_s [v_p_s_L, iV r3.2] 25) rfl))) r3.2 (S.holds _ (List.mem_of_getElem? (i := 4) rfl)) (.slice (some ⟨b8, 0, none⟩) 3 3) [y1, k_empty, k_aa] (lit_slcT enc_str S (i := 0) rfl rfl rfl rfl ((ne_fp (i := 4) (j := 0) (e := .blk b_p_s [v_p_s_L, iV r3.2] 25) (e' := .blk b8 [sV y1, sV k_empty, sV k_aa] 9) S rfl rfl rfl) _ rfl)) _ hr7) rfl (fun _ _ _ h => ⟨h.1, fun _ hc => by cases hc; rfl⟩) ?_; clear S; intro v11 a w24 hv5 hk18 hn5 S
       replace hv5 := hv5.2
       subst hv5
       refine lv S (rn_fld fa_91_0 (S.tm rfl)) rfl ?_; clear S; intro a S
       refine l_store S (S.tm rfl) (S.tm rfl) (i := 2) (off := 0) rfl Tryz.sizeOf9 (vs := [sV r4.1]) rfl rfl rfl rfl ?_; clear S; intro w25 hk19 S
       refine l_done (then_n (f_seq ?_))
       obtain ⟨r5, hr8, h⟩ := bindE h
       obtain ⟨hc2, h⟩ := chkE h
       refine d_region [6] ([b_p_s]) Tryz.mixed S rfl (by kernel_rfl) ?_; clear S; intro w28 hk22 hsel S
       refine d_pure 0 S hsel rfl rfl (by kernel_rfl) (by kernel_rfl) rfl (fun _ => (rn_fld fa_91_1 (S.tm rfl))) ?_; clear S; intro a S
       refine d_quiet 1 S hsel rfl (by kernel_rfl) (by kernel_rfl) (by kernel_rfl) (by kernel_rfl) rfl (fun _ hw => (rn_ld Tryz.isAgg22 (off := 0) (o := 1) (S.tm rfl) ((S.blk_mem (i := 2) (cells := [sV r4.1, v4]) (b := b3) (T := 91) rfl (ne_fp (i := 4) (j := 2) (e := .blk b_p_s [v_p_s_L, iV r4.2] 25) (e' := .blk b3 [sV r4.1, v4] 91) S rfl rfl rfl)).kept hw) rfl)) ?_; clear S; intro a S
       refine d_pure 2 S hsel rfl rfl (by kernel_rfl) (by kernel_rfl) rfl (fun _ => (rn_move (S.tm rfl))) ?_; clear S; intro a S
       refine d_loud1 3 (by kernel_rfl) rfl ?_
       refine l_enter1 4 S (b := b_p_s) rfl rfl (fun _ => .blk b_p_s [v_p_s_L, iV r5.2] 25) (fun _ => run_call (vs := [.pointer (some ⟨b_p_s, 0, none⟩), iV 3, iV 4]) ⟨(S.tm rfl), rfl, rfl, trivial⟩ Tryz.call36) (Stream_Range_ok _ b_p_s v_p_s_L p_s_L (hs_p_s_L.mono (S.le_arg (fp_sub (i := 4) (e := .blk b_p_s [v_p_s_L, iV r4.2] 25) rfl))) r4.2 (S.holds _ (List.mem_of_getElem? (i := 4) rfl)) 3 4 _ hr8) rfl (fun _ _ _ h => ⟨h.1, fun _ hc => by cases hc; rfl⟩) ?_; clear S; intro v13 a w29 hv7 hk23 hn7 S
       replace hv7 := hv7.2
       subst hv7
       refine l_done (d_next hk23 ?_)
       obtain ⟨u2, hu2, hr10⟩ := rn_subh (a := a) (x := .tmp 36) (y' := .tmp 38) (ty := 22) sl_22 S (i := 1) rfl (S.tm rfl) (S.tm rfl) hc2
       refine d_pure 4 S hsel rfl rfl (by kernel_rfl) (by kernel_rfl) rfl (fun _ => (hr10 _)) ?_; clear S; intro a S
       clear hr10
       refine d_pure 5 S hsel rfl rfl (by kernel_rfl) (by kernel_rfl) rfl (fun _ => (rn_fld fa_91_1 (S.tm rfl))) ?_; clear S; intro a S
       refine d_loudB 6 ([b_p_s] ++ [b3]) rfl (by kernel_rfl) rfl (l_store S (S.tm rfl) (S.tm rfl) (i := 2) (off := 1) rfl Tryz.sizeOf22 (vs := [u2]) (SlcLen.cells (subLen hu2)) rfl rfl (all1 (SlcLen.one (subLen hu2)) rfl) ?_); clear S; intro w30 hk24 S
       refine l_done (d_nextB (d_end (by kernel_rfl) ?_))
       clear hsel
       obtain ⟨S, hz9⟩ := S.ownCut (zh := r5.1) enc_int (i := 1) rfl hu2
       replace S := S.nk [.own u2 3 1 (cut x5 (0 : Int) r5.1).length ((cut x5 (0 : Int) r5.1).flatMap eInt), .blk b3 [sV r4.1, u2] 91, .own v1 91 2 rs1.length (rs1.flatMap R91.enc), .blk b_p_s [v_p_s_L, iV r5.2] 25] [(0, .pointer (some ⟨b_p_s, 0, none⟩)), (3, v1), (6, .pointer (some ⟨b3, 0, none⟩)), (7, (.slice (some ⟨b1, 0, none⟩) 6 6)), (8, iV (([k_aa, k_bb, k_cc, k_xa, k_xb, k_xc] : List ByteArray).length : Int)), (9, iV (i1 : Int))] [false, true, true, true, true] rfl (subR rfl)
       refine then_n ?_
       obtain ⟨r6, hr11, h⟩ := bindE h
       obtain ⟨hc3, h⟩ := chkE h
       refine d_region [] ([b_p_s] ++ u2.ownBlock.toList) Tryz.mixed S rfl (by kernel_rfl) ?_; clear S; intro w34 hk28 hsel S
       refine d_quiet 0 S hsel rfl rfl rfl (by kernel_rfl) (by kernel_rfl) rfl (fun _ hw => (rn_fld fa_91_1 (S.tm rfl))) ?_; clear S; intro a S
       refine d_quiet 1 S hsel rfl rfl rfl (by kernel_rfl) (by kernel_rfl) rfl (fun _ hw => (rn_ld Tryz.isAgg22 (off := 0) (o := 1) (S.tm rfl) ((S.blk_mem (i := 1) (cells := [sV r4.1, u2]) (b := b3) (T := 91) rfl (ne_app (ne_fp (i := 3) (j := 1) (e := .blk b_p_s [v_p_s_L, iV r5.2] 25) (e' := .blk b3 [sV r4.1, u2] 91) S rfl rfl rfl) (ne_fp (i := 0) (j := 1) (e := .own u2 3 1 (cut x5 (0 : Int) r5.1).length ((cut x5 (0 : Int) r5.1).flatMap eInt)) (e' := .blk b3 [sV r4.1, u2] 91) S rfl rfl rfl))).kept hw) rfl)) ?_; clear S; intro a S
       refine d_quiet 2 S hsel rfl rfl rfl (by kernel_rfl) (by kernel_rfl) rfl (fun _ hw => (rn_move (S.tm rfl))) ?_; clear S; intro a S
       refine d_loud1 3 (by kernel_rfl) rfl ?_
       refine l_enter1 3 S (b := b_p_s) rfl rfl (fun _ => .blk b_p_s [v_p_s_L, iV r6.2] 25) (fun _ => run_call (vs := [.pointer (some ⟨b_p_s, 0, none⟩), iV 0, iV 20]) ⟨(S.tm rfl), rfl, rfl, trivial⟩ Tryz.call32) (Stream_Odd_ok _ b_p_s v_p_s_L p_s_L (hs_p_s_L.mono (S.le_arg (fp_sub (i := 3) (e := .blk b_p_s [v_p_s_L, iV r5.2] 25) rfl))) r5.2 (S.holds _ (List.mem_of_getElem? (i := 3) rfl)) 0 20 _ hr11) rfl (fun _ _ _ h => ⟨h.1, fun _ hc => by cases hc; rfl⟩) ?_; clear S; intro v15 a w35 hv9 hk29 hn9 S
       replace hv9 := hv9.2
       subst hv9
       refine l_done ?_
       refine d_next (hk29.sub (by intro y hy; simp at hy ⊢; simp [hy])) ?_
       obtain ⟨b10, hg2, hr13⟩ := rn_indexS (a := a) (x := .tmp 42) (y := .const (iV 0)) (ty := 0) sl_22 enc_int S (i := 0) rfl (inB_get hc3).1 (inB_get hc3).2 (S.tm rfl) rfl
       refine d_quiet 4 S hsel rfl rfl rfl (by kernel_rfl) (by kernel_rfl) rfl (fun _ hw => (hr13 _)) ?_; clear S; intro a S
       clear hr13
       refine d_loud1 5 (by kernel_rfl) rfl (l_storeO (c := 0) (j := (0 : Int).toNat) r6.1 enc_int S (S.tm rfl) (S.tm rfl) (i := 0) rfl hg2 (inB_get hc3).1 Tryz.sizeOf3 (vs := [iV r6.1]) rfl rfl rfl rfl rfl ?_); clear S; intro w37 hk31 S
       refine l_done ?_
       refine d_next (hk31.sub (by intro y hy; simp at hy ⊢; simp [hy])) ?_
       refine d_end (by kernel_rfl) ?_
       clear hsel
       replace S := S.nk [.own u2 3 1 ((cut x5 (0 : Int) r5.1).set ((0 : Int).toNat) r6.1).length (((cut x5 (0 : Int) r5.1).set ((0 : Int).toNat) r6.1).flatMap eInt), .blk b3 [sV r4.1, u2] 91, .own v1 91 2 rs1.length (rs1.flatMap R91.enc), .blk b_p_s [v_p_s_L, iV r6.2] 25] [(0, .pointer (some ⟨b_p_s, 0, none⟩)), (3, v1), (6, .pointer (some ⟨b3, 0, none⟩)), (7, (.slice (some ⟨b1, 0, none⟩) 6 6)), (8, iV (([k_aa, k_bb, k_cc, k_xa, k_xb, k_xc] : List ByteArray).length : Int)), (9, iV (i1 : Int))] [true, true, true, true] rfl (subR rfl)
       refine then_n ?_
       exact ⟨((cut x5 (0 : Int) r5.1).set ((0 : Int).toNat) r6.1), r4.1, r6.2, u2, h, S.nf [true, true, true, true] rfl (subR rfl)⟩
      ·replace h := iteF h hb3
       refine wp_skip (then_n ?_)
       exact ⟨x5, y1, r3.2, v4, h, S.nf [true, true, true, true] rfl (subR rfl)⟩
     clear S h; rintro a w22 ⟨x8, x9, x10, v10, h, S⟩; rw [hj4] at h; clear hj4 j4
     refine then_n (f_region (lv S (rn_move (S.tm rfl)) rfl ?_)); clear S; intro a S
     refine lv S (rn_ldA Tryz.isAgg91 Tryz.sizeOf91 (off := 0) (o := 0) (part := [sV x9, v10]) rfl rfl (S.tm rfl) (S.cellsAt (i := 1) rfl)) rfl ?_; clear S; intro a S
     refine l_buildSlice S Tryz.underlying54 Tryz.sizeOf91 Tryz.zeroValue91 rfl rfl (pv := [(0, .agg #[sV x9, v10])]) ⟨rfl, (S.tm rfl), trivial⟩ (cs := [sV x9, v10]) (by kernel_rfl) rfl ?_; clear S; intro a w38 b11 hz10 hk32 S
     obtain ⟨φ4, hl4, hs2, S⟩ := S.freezeT (xs := x8) (enc := eInt) (i := 1) rfl (fun c hc hh => not_fps S (i := 4) rfl rfl (j := 1) rfl rfl (by simp at hc; subst hc; exact hh))
     replace S := S.nk [.blk b11 [sV x9, v10] 91, .blk b3 [sV x9, v10] 91, .own v1 91 2 rs1.length (rs1.flatMap R91.enc), .blk b_p_s [v_p_s_L, iV x10] 25] [(0, .pointer (some ⟨b_p_s, 0, none⟩)), (3, v1), (6, .pointer (some ⟨b3, 0, none⟩)), (7, (.slice (some ⟨b1, 0, none⟩) 6 6)), (8, iV (([k_aa, k_bb, k_cc, k_xa, k_xb, k_xc] : List ByteArray).length : Int)), (9, iV (i1 : Int)), (46, v1), (47, .agg #[sV x9, v10]), (48, .slice (some ⟨b11, 0, none⟩) 1 1)] [] rfl (subR rfl)
     obtain ⟨hc4, h⟩ := chkE h
     have hr14 : All2 (rel_91 φ4) (x1 ++ [(GLeg.mk x9 x8)]) (rs1 ++ [(R91.mk x9 ⟨v10, SlcLen.one (slc_len (ownV_slcT enc_int hs2))⟩)]) := All2.app (rels_91 hl4 hr1) (All2.cons ⟨⟨v10, SlcLen.one (slc_len (ownV_slcT enc_int hs2))⟩, rfl, (ownV_slcT enc_int hs2)⟩ All2.nil)
     refine l_appendT sl_54 R91.enc_ok S (S.tm rfl) (i := 2) rfl (S.tm rfl) (j := 0) rfl (ys := [(R91.mk x9 ⟨v10, SlcLen.one (slc_len (ownV_slcT enc_int hs2))⟩)]) rfl rfl rfl rfl (by have := room_lt hc4; have := All2.len (rels_91 hl4 hr1); simp at this ⊢; omega) rfl ?_; clear S; intro v16 a w39 hk33 S
     refine lv S (rn_assign (S.tm rfl)) rfl ?_; clear S; intro a S
     refine l_done (blk_n (then_n ?_))
     exact ⟨(x1 ++ [(GLeg.mk x9 x8)]), x10, φ4, v16, (rs1 ++ [(R91.mk x9 ⟨v10, SlcLen.one (slc_len (ownV_slcT enc_int hs2))⟩)]), h, hl4, hr14, S.nf [false, false, true, true] rfl (subR rfl)⟩
   clear S h; rintro a w4 ⟨x3, x4, φ3, v2, rs2, h, hl3, hr2, S⟩; rw [hj2] at h; clear hj2 j2
   refine then_n (f_region (lv S (rn_add (S.tm rfl) rfl) rfl ?_)); clear S; intro a S
   refine lv S (rn_move (S.tm rfl)) rfl ?_; clear S; intro a S
   refine l_done (then_n ?_)
   exact ⟨ys1, ⟨i1 + 1, x3, x4, φ3, v2, rs2, ⟨_, (hd1).trans (List.append_cons _ _ _), by simp [hi1]⟩, h, (View.le_trans hl2 hl3), hr2, S.nf [true, true] rfl ⟨rfl, rfl, rfl, rfl, (congrArg (fun z => some (Value.int .i64 z)) (rng_next hd1 hi1 (slc_max (ownV_slcT enc_str hs1)))), trivial⟩⟩, Nat.lt_succ_self _⟩
 clear S h; rintro a w3 ⟨x1, x2, φ2, v1, rs1, h, hl2, hr1, S⟩; rw [hj1] at h; clear hj1 j1
 refine then_n (f_seq (f_region (lv S (rn_move (S.tm rfl)) rfl ?_))); clear S; intro a S
 refine lv S (rn_assign (S.tm rfl)) rfl ?_; clear S; intro a S
 refine l_done (then_n (wp_ret ?_))
 obtain rfl := Option.some.inj h
 exact f_ret S Tryz.results21 rfl ⟨(S.holds _ (List.mem_of_getElem? (i := 1) rfl)), ⟨_, (own_retX S (i := 0) rfl (fun c hc hh => not_fps S (i := 1) rfl rfl (j := 0) rfl rfl (by simp at hc; subst hc; exact hh))), rels_91 (S.le_hide (i := 0) rfl) hr1⟩⟩
set_option maxRecDepth 20000 in
theorem swimmer_CheckLegs_ok (w : World) (v_p_l : Value) (p_l : List GLeg) (rs_p_l : List R91) (hs_p_l : Slc (view w []) 2 v_p_l (rs_p_l.map R91.enc)) (hr_p_l : All2 (rel_91 (view w [])) p_l rs_p_l) (r : Int) (h : swimmer_CheckLegs p_l = some r) :
    Calls Tryz.prog 26 [v_p_l].toArray w (Ret w [] fun _ v _ => v = iV r) := by
 refine f_enter [] [] Tryz.func26 rfl Tryz.ntmps26 rfl (by simp) (by simp [fps]) (by simp [fps]) fun a S => ?_
 unfold swimmer_CheckLegs at h
 replace S := S.nk [] [(0, v_p_l)] [] rfl ⟨rfl, trivial⟩
 refine f_seq (f_region (lv S (rn_assign rfl) rfl ?_)); clear S; intro a S
 refine l_done (then_n (f_seq (f_seq (f_region (lv S (rn_move (S.tm rfl)) rfl ?_))))); clear S; intro a S
 refine lv S (rn_lenT sl_54 (S.tm rfl) (slc_lenD hs_p_l hr_p_l)) rfl ?_; clear S; intro a S
 refine lv S (rn_gtr (S.tm rfl) rfl) rfl ?_; clear S; intro a S
 refine l_done (then_n (f_cond (S.tm rfl) (fun hb1 => ?_) (fun hb1 => ?_)))
 ·replace h := iteT h hb1
  refine f_seq (f_region (lv S (rn_assign rfl) rfl ?_)); clear S; intro a S
  refine l_done (then_n (wp_ret (then_r ?_)))
  obtain rfl := Option.some.inj h
  exact f_ret S Tryz.results26 rfl rfl
 ·replace h := iteF h hb1
  refine wp_skip (then_n (f_seq (f_seq (f_region (lv S (rn_move (S.tm rfl)) rfl ?_))))); clear S; intro a S
  refine lv S (rn_lenT sl_54 (S.tm rfl) (slc_lenD hs_p_l hr_p_l)) rfl ?_; clear S; intro a S
  refine lv S (rn_move rfl) rfl ?_; clear S; intro a S
  refine l_done (then_n ?_)
  replace S := S.nk [] [(0, v_p_l), (10, v_p_l), (11, iV (p_l.length : Int)), (12, iV 0)] [] rfl (subR rfl)
  obtain ⟨j1, hj1, h⟩ := joinE h
  refine f_join (fun a w' => j1 = some r ∧ Sx w [] nov [] [] 53 a w') ?_ ?_
  ·refine wp_block (f_loop (fun (ys1 : List GLeg) a w' => ∃ i1 : Nat, (∃ dn, p_l = dn ++ ys1 ∧ dn.length = i1) ∧ swimmer_CheckLegs_l1 p_l j1 ys1 i1 = some r ∧ Sx w [] nov [] [(0, v_p_l), (10, v_p_l), (11, iV (p_l.length : Int)), (12, iV (i1 : Int))] 53 a w') List.length p_l ⟨0, ⟨[], rfl, rfl⟩, h, S.nf [] rfl (subR rfl)⟩ ?_)
   clear S h; rintro ys1 a w1 ⟨i1, ⟨dn, hd1, hi1⟩, h, S⟩
   cases ys1 with
   | nil =>
    rw [swimmer_CheckLegs_l1.eq_1] at h
    refine f_seq (f_region (lv S (rn_lss (S.tm rfl) (S.tm rfl)) rfl ?_)); clear S; intro a S
    refine l_done ?_
    replace S := S.nk [] [(0, v_p_l), (10, v_p_l), (11, iV (p_l.length : Int)), (12, iV (i1 : Int)), (13, bV (decide ((i1 : Int) < (p_l.length : Int))))] [] rfl (subR rfl)
    refine then_n (f_seq (wp_cond_false ((S.tm rfl).trans (congrArg Value.bool (rng_nil hd1 hi1))) (wp_exit (then_x (then_x (x_same ?_))))))
    refine then_n ?_
    exact ⟨h, S.nf [] rfl trivial⟩
   | cons y1 ys1 =>
    rw [swimmer_CheckLegs_l1.eq_2] at h
    refine f_seq (f_region (lv S (rn_lss (S.tm rfl) (S.tm rfl)) rfl ?_)); clear S; intro a S
    refine l_done ?_
    replace S := S.nk [] [(0, v_p_l), (10, v_p_l), (11, iV (p_l.length : Int)), (12, iV (i1 : Int)), (13, bV (decide ((i1 : Int) < (p_l.length : Int))))] [] rfl (subR rfl)
    refine then_n (f_seq (wp_cond_true ((S.tm rfl).trans (congrArg Value.bool (rng_cons hd1 hi1))) (wp_skip (then_n (f_seq (wp_block ?_))))))
    refine f_seq (f_region (lv S (rn_move (S.tm rfl)) rfl ?_)); clear S; intro a S
    obtain ⟨r1, hg1, hl1⟩ := All2.at hr_p_l (get_mid hd1 hi1)
    obtain ⟨u1, rfl, hs1⟩ := hl1
    obtain ⟨b1, o1, hm1, hr1⟩ := rn_indexT (a := a) (x := .tmp 10) (y := .tmp 12) (ty := 0) sl_54 hs_p_l hg1 rfl (S.tm rfl) (S.tm rfl)
    refine lv S (hr1 _) rfl ?_; clear S; intro a S
    clear hr1
    refine lv S (rn_ldA Tryz.isAgg91 Tryz.sizeOf91 (off := o1) (o := 0) (part := [sV y1.Who, u1.val]) rfl rfl (S.tm rfl) (hm1.at S.emb0)) rfl ?_; clear S; intro a S
    refine l_alloc S Tryz.zeroValue91 (cs := [sV k_empty, .slice none 0 0]) rfl rfl ?_; clear S; intro a w3 b2 hz1 hk1 S
    refine lv S (rn_assign (S.tm rfl)) rfl ?_; clear S; intro a S
    refine l_store S (S.tm rfl) (S.tm rfl) (i := 0) (off := 0) rfl Tryz.sizeOf91 (vs := [sV y1.Who, u1.val]) rfl rfl rfl (all1 rfl (all1 (SlcLen.one (slc_len hs1)) rfl)) ?_; clear S; intro w4 hk2 S
    refine l_done (then_n (f_seq (wp_block (f_seq (f_region (lv S (rn_fld fa_91_0 (S.tm rfl)) rfl ?_)))))); clear S; intro a S
    refine lv S (rn_load Tryz.isAgg9 (S.tm rfl) (S.cell (i := 0) rfl rfl)) rfl ?_; clear S; intro a S
    obtain ⟨r2, hr2, h⟩ := bindE h
    refine l_enter S (fun _ => run_call (vs := [sV y1.Who]) ⟨(S.tm rfl), trivial⟩ Tryz.call53) (words_IsKey_ok _ y1.Who _ hr2) rfl ?_; clear S; intro v1 a w5 hv1 hk3 hn1 S
    subst hv1
    refine lv S (rn_not (S.tm rfl)) rfl ?_; clear S; intro a S
    refine lv S (rn_assign (S.tm rfl)) rfl ?_; clear S; intro a S
    refine l_done ?_
    replace S := S.nk [.blk b2 [sV y1.Who, u1.val] 91] [(0, v_p_l), (3, iV (i1 : Int)), (4, .pointer (some ⟨b2, 0, none⟩)), (10, v_p_l), (11, iV (p_l.length : Int)), (12, iV (i1 : Int)), (17, bV (!r2))] [true] rfl (subR rfl)
    refine then_n (f_cond (S.tm rfl) (fun hb2 => ?_) (fun hb2 => ?_))
    ·replace h := iteT h hb2
     refine f_seq (f_region (lv S (rn_assign rfl) rfl ?_)); clear S; intro a S
     refine l_done (then_n (wp_ret (blk_r (then_r (blk_r (then_r ?_))))))
     refine then_r (blk_r (then_r (then_r ?_)))
     obtain rfl := Option.some.inj h
     exact f_ret S Tryz.results26 rfl rfl
    ·replace h := iteF h hb2
     refine f_seq (d_region [] ([]) Tryz.mixed S rfl (by kernel_rfl) ?_); clear S; intro w6 hk4 hsel S
     refine d_rest [0, 1, 2, 3, 4, 5, 6, 7, 8, 9, 10, 11, 12, 13] hsel (by kernel_rfl) rfl ?_
     clear hsel
     refine s_lv S rfl (rn_move (S.tm rfl)) rfl ?_; clear S; intro a S
     refine s_lv S rfl (rn_gtr (S.tm rfl) rfl) rfl ?_; clear S; intro a S
     refine s_lv S rfl (rn_move (S.tm rfl)) rfl ?_; clear S; intro a S
     obtain ⟨j2, hj2, h⟩ := joinE h
     refine s_cutm 10 (fun a w' => ∃ c1, j2 c1 = some r ∧ Keep [] w6 w' ∧ Sx w [] nov [.blk b2 [sV y1.Who, u1.val] 91] [(0, v_p_l), (4, .pointer (some ⟨b2, 0, none⟩)), (10, v_p_l), (11, iV (p_l.length : Int)), (12, iV (i1 : Int)), (35, bV c1)] 53 a w') ?_ ?_
     ·rcases Bool.eq_false_or_eq_true (decide (0 < (i1 : Int))) with hb3 | hb3
      ·replace h := iteT h hb3
       refine s_want S rfl rfl rfl rfl hb3 (s_lv0 S (rn_fld fa_91_0 (S.tm rfl)) rfl ?_); clear S; intro a S
       refine s_want S rfl rfl rfl rfl hb3 (s_lv0 S (rn_load Tryz.isAgg9 (S.tm rfl) (S.cell (i := 0) rfl rfl)) rfl ?_); clear S; intro a S
       refine s_want S rfl rfl rfl rfl hb3 (s_lv0 S (rn_move (S.tm rfl)) rfl ?_); clear S; intro a S
       refine s_want S rfl rfl rfl rfl hb3 (s_lv0 S (rn_move (S.tm rfl)) rfl ?_); clear S; intro a S
       refine s_want S rfl rfl rfl rfl hb3 (s_lv0 S (rn_sub (S.tm rfl) rfl) rfl ?_); clear S; intro a S
       refine s_want S rfl rfl rfl rfl hb3 ?_
       obtain ⟨hc1, h⟩ := chkE h
       obtain ⟨r3, hg2, hl2⟩ := all2_get hr_p_l hc1
       obtain ⟨u2, rfl, hs2⟩ := hl2
       obtain ⟨b3, o2, hm2, hr3⟩ := rn_indexT (a := a) (x := .tmp 28) (y := .tmp 30) (ty := 0) sl_54 hs_p_l hg2 (inB_get hc1).2 (S.tm rfl) (S.tm rfl)
       refine s_lv0 S (hr3 _) rfl ?_; clear S; intro a S
       clear hr3
       refine s_want S rfl rfl rfl rfl hb3 (s_lv0 S (rn_fld fa_91_0 (S.tm rfl)) rfl ?_); clear S; intro a S
       refine s_want S rfl rfl rfl rfl hb3 (s_lv0 S (rn_ld Tryz.isAgg9 (off := o2) (o := 0) (S.tm rfl) (hm2.at S.emb0) rfl) rfl ?_); clear S; intro a S
       refine s_want S rfl rfl rfl rfl hb3 (s_lv0 S (rn_sleq (S.tm rfl) (S.tm rfl)) rfl ?_); clear S; intro a S
       refine s_lv S rfl (rn_and_t hb3 (S.tm rfl) (S.tm rfl)) rfl ?_; clear S; intro a S
       refine s_done ?_
       exact ⟨_, h, Keep.refl _ _, S.nf [true] rfl (subR rfl)⟩
      ·replace h := iteF h hb3
       iterate 9 (refine s_skip S rfl rfl rfl rfl (neq_f hb3) rfl ?_ rfl; clear S; intro a S)
       refine s_lv S rfl (rn_and_f true hb3 (S.tm rfl) rfl) rfl ?_; clear S; intro a S
       refine s_done ?_
       exact ⟨_, h, Keep.refl _ _, S.nf [true] rfl (subR rfl)⟩
     clear S h; rintro a w7 ⟨c1, h, hk5, S⟩; rw [hj2] at h; clear hj2 j2
     refine s_lv S rfl (rn_assign (S.tm rfl)) rfl ?_; clear S; intro a S
     refine s_done ?_
     replace S := S.nk [.blk b2 [sV y1.Who, u1.val] 91] [(0, v_p_l), (4, .pointer (some ⟨b2, 0, none⟩)), (10, v_p_l), (11, iV (p_l.length : Int)), (12, iV (i1 : Int)), (22, bV c1)] [true] rfl (subR rfl)
     refine then_n (f_cond (S.tm rfl) (fun hb4 => ?_) (fun hb4 => ?_))
     ·replace h := iteT h hb4
      refine f_seq (f_region (lv S (rn_assign rfl) rfl ?_)); clear S; intro a S
      refine l_done (then_n (wp_ret (blk_r (then_r (blk_r (then_r ?_))))))
      refine then_r (blk_r (then_r (then_r ?_)))
      obtain rfl := Option.some.inj h
      exact f_ret S Tryz.results26 rfl rfl
     ·replace h := iteF h hb4
      refine f_seq (f_region (lv S (rn_fld fa_91_1 (S.tm rfl)) rfl ?_)); clear S; intro a S
      refine lv S (rn_load Tryz.isAgg22 (S.tm rfl) (S.cell (i := 0) rfl rfl)) rfl ?_; clear S; intro a S
      refine lv S (rn_lenT sl_22 (S.tm rfl) (slc_len hs1)) rfl ?_; clear S; intro a S
      refine lv S (rn_neq (S.tm rfl) rfl) rfl ?_; clear S; intro a S
      refine lv S (rn_assign (S.tm rfl)) rfl ?_; clear S; intro a S
      refine l_done (then_n (f_cond (S.tm rfl) (fun hb5 => ?_) (fun hb5 => ?_)))
      ·replace h := iteT h hb5
       refine f_seq (f_region (lv S (rn_assign rfl) rfl ?_)); clear S; intro a S
       refine l_done (then_n (wp_ret (blk_r (then_r (blk_r (then_r ?_))))))
       refine then_r (blk_r (then_r (then_r ?_)))
       obtain rfl := Option.some.inj h
       exact f_ret S Tryz.results26 rfl rfl
      ·replace h := iteF h hb5
       refine wp_skip (blk_n (then_n (f_seq (f_region (lv S (rn_fld fa_91_1 (S.tm rfl)) rfl ?_))))); clear S; intro a S
       refine lv S (rn_load Tryz.isAgg22 (S.tm rfl) (S.cell (i := 0) rfl rfl)) rfl ?_; clear S; intro a S
       refine lv S (rn_lenT sl_22 (S.tm rfl) (slc_len hs1)) rfl ?_; clear S; intro a S
       refine lv S (rn_move rfl) rfl ?_; clear S; intro a S
       refine l_done ?_
       replace S := S.nk [] [(0, v_p_l), (10, v_p_l), (11, iV (p_l.length : Int)), (12, iV (i1 : Int)), (42, u1.val), (43, iV (y1.Times.length : Int)), (44, iV 0)] [false] rfl (subR rfl)
       refine then_n ?_
       obtain ⟨j3, hj3, h⟩ := joinE h
       refine f_join (fun a w' => j3 = some r ∧ Sx w [] nov [] [(0, v_p_l), (10, v_p_l), (11, iV (p_l.length : Int)), (12, iV (i1 : Int))] 53 a w') ?_ ?_
       ·refine wp_block (f_loop (fun (ys2 : List Int) a w' => ∃ i2 : Nat, (∃ dn, y1.Times = dn ++ ys2 ∧ dn.length = i2) ∧ swimmer_CheckLegs_l2 j3 ys2 i2 = some r ∧ Sx w [] nov [] [(0, v_p_l), (10, v_p_l), (11, iV (p_l.length : Int)), (12, iV (i1 : Int)), (42, u1.val), (43, iV (y1.Times.length : Int)), (44, iV (i2 : Int))] 53 a w') List.length y1.Times ⟨0, ⟨[], rfl, rfl⟩, h, S.nf [] rfl (subR rfl)⟩ ?_)
        clear S h; rintro ys2 a w8 ⟨i2, ⟨dn, hd2, hi2⟩, h, S⟩
        cases ys2 with
        | nil =>
         rw [swimmer_CheckLegs_l2.eq_1] at h
         refine f_seq (f_region (lv S (rn_lss (S.tm rfl) (S.tm rfl)) rfl ?_)); clear S; intro a S
         refine l_done ?_
         replace S := S.nk [] [(0, v_p_l), (10, v_p_l), (11, iV (p_l.length : Int)), (12, iV (i1 : Int)), (42, u1.val), (43, iV (y1.Times.length : Int)), (44, iV (i2 : Int)), (45, bV (decide ((i2 : Int) < (y1.Times.length : Int))))] [] rfl (subR rfl)
         refine then_n (f_seq (wp_cond_false ((S.tm rfl).trans (congrArg Value.bool (rng_nil hd2 hi2))) (wp_exit (then_x (then_x (x_same ?_))))))
         refine then_n ?_
         exact ⟨h, S.nf [] rfl (subR rfl)⟩
        | cons y2 ys2 =>
         rw [swimmer_CheckLegs_l2.eq_2] at h
         refine f_seq (f_region (lv S (rn_lss (S.tm rfl) (S.tm rfl)) rfl ?_)); clear S; intro a S
         refine l_done ?_
         replace S := S.nk [] [(0, v_p_l), (10, v_p_l), (11, iV (p_l.length : Int)), (12, iV (i1 : Int)), (42, u1.val), (43, iV (y1.Times.length : Int)), (44, iV (i2 : Int)), (45, bV (decide ((i2 : Int) < (y1.Times.length : Int))))] [] rfl (subR rfl)
         refine then_n (f_seq (wp_cond_true ((S.tm rfl).trans (congrArg Value.bool (rng_cons hd2 hi2))) (wp_skip (then_n (f_seq (wp_block ?_))))))
         refine f_seq (f_region ?_)
         obtain ⟨b4, o3, hm3, hr4⟩ := rn_indexT (a := a) (x := .tmp 42) (y := .tmp 44) (ty := 0) sl_22 hs1 (get_mid hd2 hi2) rfl (S.tm rfl) (S.tm rfl)
         refine lv S (hr4 _) rfl ?_; clear S; intro a S
         clear hr4
         refine lv S (rn_ld Tryz.isAgg3 (off := o3) (o := 0) (S.tm rfl) (hm3.at S.emb0) rfl) rfl ?_; clear S; intro a S
         refine lv S (rn_assign (S.tm rfl)) rfl ?_; clear S; intro a S
         refine l_done (then_n (f_seq (f_region (lv S (rn_move (S.tm rfl)) rfl ?_)))); clear S; intro a S
         refine l_enter S (fun _ => run_call (vs := [iV y2, iV 0, iV 360000]) ⟨(S.tm rfl), rfl, rfl, trivial⟩ Tryz.call41) (words_Within_ok _ y2 0 360000 _ rfl) rfl ?_; clear S; intro v2 a w10 hv2 hk6 hn2 S
         subst hv2
         refine lv S (rn_not (S.tm rfl)) rfl ?_; clear S; intro a S
         refine l_done (then_n (f_cond (S.tm rfl) (fun hb6 => ?_) (fun hb6 => ?_)))
         ·replace h := iteT h hb6
          refine f_seq (f_region (lv S (rn_assign rfl) rfl ?_)); clear S; intro a S
          refine l_done ?_
          replace S := S.nk [] [(2, iV 1)] [] rfl ⟨rfl, trivial⟩
          refine then_n (wp_ret (blk_r (then_r (then_r (blk_r (then_r ?_))))))
          refine blk_r (then_r (then_r (blk_r (then_r (then_r ?_)))))
          obtain rfl := Option.some.inj h
          exact f_ret S Tryz.results26 rfl rfl
         ·replace h := iteF h hb6
          refine wp_skip (blk_n (then_n (f_region (lv S (rn_add (S.tm rfl) rfl) rfl ?_)))); clear S; intro a S
          refine lv S (rn_move (S.tm rfl)) rfl ?_; clear S; intro a S
          refine l_done ?_
          replace S := S.nk [] [(0, v_p_l), (10, v_p_l), (11, iV (p_l.length : Int)), (12, iV (i1 : Int)), (42, u1.val), (43, iV (y1.Times.length : Int)), (44, iV (W ((i2 : Int) + 1)))] [] rfl (subR rfl)
          refine then_n ?_
          exact ⟨ys2, ⟨i2 + 1, ⟨_, (hd2).trans (List.append_cons _ _ _), by simp [hi2]⟩, h, S.nf [] rfl ⟨rfl, rfl, rfl, rfl, rfl, rfl, (congrArg (fun z => some (Value.int .i64 z)) (rng_next hd2 hi2 (slc_max hs1))), trivial⟩⟩, Nat.lt_succ_self _⟩
       clear S h; rintro a w9 ⟨h, S⟩; rw [hj3] at h; clear hj3 j3
       refine blk_n (then_n (f_region (lv S (rn_add (S.tm rfl) rfl) rfl ?_))); clear S; intro a S
       refine lv S (rn_move (S.tm rfl)) rfl ?_; clear S; intro a S
       refine l_done (then_n ?_)
       exact ⟨ys1, ⟨i1 + 1, ⟨_, (hd1).trans (List.append_cons _ _ _), by simp [hi1]⟩, h, S.nf [] rfl ⟨rfl, rfl, rfl, (congrArg (fun z => some (Value.int .i64 z)) (rng_next hd1 hi1 (slc_maxD hs_p_l hr_p_l))), trivial⟩⟩, Nat.lt_succ_self _⟩
  clear S h; rintro a w2 ⟨h, S⟩; rw [hj1] at h; clear hj1 j1
  refine then_n (f_seq (f_region (lv S (rn_assign rfl) rfl ?_))); clear S; intro a S
  refine l_done (then_n (wp_ret ?_))
  obtain rfl := Option.some.inj h
  exact f_ret S Tryz.results26 rfl rfl
theorem slices_Clone_string_ok (w : World) (v_p_s : Value) (p_s : List ByteArray) (hs_p_s : Slc (view w []) 1 v_p_s (p_s.map eStr)) (r : (List ByteArray)) (h : slices_Clone_string p_s = some r) :
    Calls Tryz.prog 59 [v_p_s].toArray w (Ret w [] fun τ v _ => OwnV τ 9 1 v r.length (r.flatMap eStr)) := by
 refine f_enter [] [] Tryz.func59 rfl Tryz.ntmps59 rfl (by simp) (by simp [fps]) (by simp [fps]) fun a S => ?_
 unfold slices_Clone_string at h
 replace S := S.nk [] [(0, v_p_s)] [] rfl ⟨rfl, trivial⟩
 refine f_seq (f_region (lv S (rn_assign rfl) rfl ?_)); clear S; intro a S
 refine l_done (then_n (f_seq (f_seq (f_region (lv S (rn_move (S.tm rfl)) rfl ?_))))); clear S; intro a S
 refine lv S (rn_nileq Tryz.underlying35 (slc_len hs_p_s) (S.tm rfl) rfl) rfl ?_; clear S; intro a S
 refine l_done (then_n (f_cond (S.tm rfl) (fun hb1 => ?_) (fun hb1 => ?_)))
 ·have hx1 := slc_nilB hs_p_s hb1
  subst hx1
  replace h : some ([] : List ByteArray) = some r := h
  refine f_seq (f_region (lv S (rn_assign rfl) rfl ?_)); clear S; intro a S
  refine l_done (then_n (wp_ret (then_r ?_)))
  obtain rfl := Option.some.inj h
  exact f_ret S Tryz.results59 rfl (ownV_nil _ _ _)
 ·refine wp_skip (then_n (f_seq (f_region (l_buildSlice0 S Tryz.underlying35 Tryz.sizeOf9 rfl ?_)))); clear S; intro a w1 b1 hz1 hk1 S
  refine lv S (rn_move (S.tm rfl)) rfl ?_; clear S; intro a S
  replace S := S.litOwn (i := 0) (xs := ([] : List ByteArray)) rfl enc_str rfl rfl rfl
  replace S := S.nk [.own (.slice (some ⟨b1, 0, none⟩) 0 0) 9 1 (([] : List ByteArray) : List ByteArray).length ((([] : List ByteArray) : List ByteArray).flatMap eStr)] [(0, v_p_s), (2, .slice none 0 0), (3, v_p_s), (4, bV (nilB v_p_s)), (5, (.slice (some ⟨b1, 0, none⟩) 0 0)), (6, v_p_s)] [] rfl (subR rfl)
  obtain ⟨hc1, h⟩ := chkE h
  refine l_appendS (Y := []) sl_35 enc_str S (S.tm rfl) (i := 0) rfl (S.tm rfl) (hs_p_s.mono (S.le_arg (fun _ h => by cases h))) rfl rfl (by have := room_lt hc1; omega) rfl ?_; clear S; intro v1 a w2 hk2 S
  refine lv S (rn_assign (S.tm rfl)) rfl ?_; clear S; intro a S
  refine l_done (then_n (wp_ret ?_))
  obtain rfl := Option.some.inj h
  exact f_ret S Tryz.results59 rfl (own_retT S (i := 0) rfl rfl)
theorem stringslite_HasPrefix_ok (w : World) (p_s : ByteArray) (p_prefix : ByteArray) (r : Bool) (h : stringslite_HasPrefix p_s p_prefix = some r) :
    Calls Tryz.prog 105 [sV p_s, sV p_prefix].toArray w (Ret w [] fun _ v _ => v = bV r) := by
 refine f_enter [] [] Tryz.func105 rfl Tryz.ntmps105 rfl (by simp) (by simp [fps]) (by simp [fps]) fun a S => ?_
 unfold stringslite_HasPrefix at h
 replace S := S.nk [] [(0, sV p_s), (1, sV p_prefix)] [] rfl (subR rfl)
 refine f_seq (f_region (lv S (rn_assign rfl) rfl ?_)); clear S; intro a S
 refine l_done (then_n (f_seq (f_region (lv S (rn_move (S.tm rfl)) rfl ?_)))); clear S; intro a S
 refine lv S (rn_len_str Tryz.underlying9 (S.tm rfl)) rfl ?_; clear S; intro a S
 refine lv S (rn_move (S.tm rfl)) rfl ?_; clear S; intro a S
 refine lv S (rn_len_str Tryz.underlying9 (S.tm rfl)) rfl ?_; clear S; intro a S
 refine lv S (rn_geq (S.tm rfl) (S.tm rfl)) rfl ?_; clear S; intro a S
 refine lv S (rn_move (S.tm rfl)) rfl ?_; clear S; intro a S
 obtain ⟨j1, hj1, h⟩ := joinE h
 refine f_cutm 7 (fun a w' => ∃ c1, j1 c1 = some r ∧ Keep [] w w' ∧ Sx w [] nov [] [(17, bV c1)] 18 a w') ?_ ?_
 ·rcases Bool.eq_false_or_eq_true (decide ((p_prefix.size : Int) ≤ (p_s.size : Int))) with hb1 | hb1
  ·replace h := iteT h hb1
   refine l_want S rfl rfl rfl hb1 (lv S (rn_move (S.tm rfl)) rfl ?_); clear S; intro a S
   refine l_want S rfl rfl rfl hb1 (lv S (rn_move (S.tm rfl)) rfl ?_); clear S; intro a S
   refine l_want S rfl rfl rfl hb1 (lv S (rn_len_str Tryz.underlying9 (S.tm rfl)) rfl ?_); clear S; intro a S
   refine l_want S rfl rfl rfl hb1 ?_
   obtain ⟨hc1, h⟩ := chkE h
   refine lv S (rn_scutTh Tryz.underlying9 (S.tm rfl) (S.tm rfl) hc1) rfl ?_; clear S; intro a S
   refine l_want S rfl rfl rfl hb1 (lv S (rn_move (S.tm rfl)) rfl ?_); clear S; intro a S
   refine l_want S rfl rfl rfl hb1 (lv S (rn_seql (S.tm rfl) (S.tm rfl)) rfl ?_); clear S; intro a S
   refine lv S (rn_and_t hb1 (S.tm rfl) (S.tm rfl)) rfl ?_; clear S; intro a S
   refine l_done (then_n ?_)
   exact ⟨_, h, Keep.refl _ _, S.nf [] rfl ⟨rfl, trivial⟩⟩
  ·replace h := iteF h hb1
   iterate 6 (refine l_skip S rfl rfl rfl (neq_f hb1) rfl ?_ rfl; clear S; intro a S)
   refine lv S (rn_and_f true hb1 (S.tm rfl) rfl) rfl ?_; clear S; intro a S
   refine l_done (then_n ?_)
   exact ⟨_, h, Keep.refl _ _, S.nf [] rfl ⟨rfl, trivial⟩⟩
 clear S h; rintro a w1 ⟨c1, h, hk1, S⟩; rw [hj1] at h; clear hj1 j1
 refine lv S (rn_assign (S.tm rfl)) rfl ?_; clear S; intro a S
 refine l_done (then_n (wp_ret ?_))
 obtain rfl := Option.some.inj h
 exact f_ret S Tryz.results105 rfl rfl
theorem strings_HasPrefix_ok (w : World) (p_s : ByteArray) (p_prefix : ByteArray) (r : Bool) (h : strings_HasPrefix p_s p_prefix = some r) :
    Calls Tryz.prog 83 [sV p_s, sV p_prefix].toArray w (Ret w [] fun _ v _ => v = bV r) := by
 refine f_enter [] [] Tryz.func83 rfl Tryz.ntmps83 rfl (by simp) (by simp [fps]) (by simp [fps]) fun a S => ?_
 unfold strings_HasPrefix at h
 replace S := S.nk [] [(0, sV p_s), (1, sV p_prefix)] [] rfl (subR rfl)
 refine f_seq (f_region (lv S (rn_assign rfl) rfl ?_)); clear S; intro a S
 refine l_done (then_n (f_seq (f_region (lv S (rn_move (S.tm rfl)) rfl ?_)))); clear S; intro a S
 refine lv S (rn_move (S.tm rfl)) rfl ?_; clear S; intro a S
 obtain ⟨r1, hr1, h⟩ := bindE h
 refine l_enter S (fun _ => run_call (vs := [sV p_s, sV p_prefix]) ⟨(S.tm rfl), (S.tm rfl), trivial⟩ Tryz.call105) (stringslite_HasPrefix_ok _ p_s p_prefix _ hr1) rfl ?_; clear S; intro v1 a w1 hv1 hk1 hn1 S
 subst hv1
 refine lv S (rn_assign (S.tm rfl)) rfl ?_; clear S; intro a S
 refine l_done (then_n (wp_ret ?_))
 obtain rfl := Option.some.inj h
 exact f_ret S Tryz.results83 rfl rfl
set_option maxRecDepth 20000 in
theorem crew_try_s_ok (self : (List GLeg) → Int → (List ByteArray) → (List ByteArray) → Int → Bool → Int → Int → Option ((List ByteArray) × (List ByteArray) × Int × Bool)) (hself : ∀ (w : World) (X : List Nat) (b_p_c : Nat) (v_p_c_l : Value) (p_c_l : List GLeg) (rs_p_c_l : List R91) (_ : Slc (view w X) 2 v_p_c_l (rs_p_c_l.map R91.enc)) (_ : All2 (rel_91 (view w X)) p_c_l rs_p_c_l) (p_c_bound : Int) (v_p_c_now : Value) (p_c_now : List ByteArray) (_ : (LEnt.own v_p_c_now 9 1 p_c_now.length (p_c_now.flatMap eStr)).holds w) (v_p_c_names : Value) (p_c_names : List ByteArray) (_ : (LEnt.own v_p_c_names 9 1 p_c_names.length (p_c_names.flatMap eStr)).holds w) (p_c_sum : Int) (p_c_found : Bool) (_ : (LEnt.blk b_p_c [v_p_c_l, iV p_c_bound, v_p_c_now, v_p_c_names, iV p_c_sum, bV p_c_found] 94).holds w) (p_guests : Int) (p_sum : Int) (_ : X.Nodup) (_ : X = fps [.blk b_p_c [v_p_c_l, iV p_c_bound, v_p_c_now, v_p_c_names, iV p_c_sum, bV p_c_found] 94, .own v_p_c_now 9 1 p_c_now.length (p_c_now.flatMap eStr), .own v_p_c_names 9 1 p_c_names.length (p_c_names.flatMap eStr)]) (r : (List ByteArray) × (List ByteArray) × Int × Bool) (_ : self p_c_l p_c_bound p_c_now p_c_names p_c_sum p_c_found p_guests p_sum = some r),
    Calls Tryz.prog 54 [.pointer (some ⟨b_p_c, 0, none⟩), iV p_guests, iV p_sum].toArray w (Ret w X fun _ v w' => ∃ y1 y2 : Value, Grp w w' X [.blk b_p_c [v_p_c_l, iV p_c_bound, y1, y2, iV r.2.2.1, bV r.2.2.2] 94, .own y1 9 1 r.1.length (r.1.flatMap eStr), .own y2 9 1 r.2.1.length (r.2.1.flatMap eStr)] ∧ v = .tuple #[])) (w : World) (X : List Nat) (b_p_c : Nat) (v_p_c_l : Value) (p_c_l : List GLeg) (rs_p_c_l : List R91) (hs_p_c_l : Slc (view w X) 2 v_p_c_l (rs_p_c_l.map R91.enc)) (hr_p_c_l : All2 (rel_91 (view w X)) p_c_l rs_p_c_l) (p_c_bound : Int) (v_p_c_now : Value) (p_c_now : List ByteArray) (hb_v_p_c_now : (LEnt.own v_p_c_now 9 1 p_c_now.length (p_c_now.flatMap eStr)).holds w) (v_p_c_names : Value) (p_c_names : List ByteArray) (hb_v_p_c_names : (LEnt.own v_p_c_names 9 1 p_c_names.length (p_c_names.flatMap eStr)).holds w) (p_c_sum : Int) (p_c_found : Bool) (hb_b_p_c : (LEnt.blk b_p_c [v_p_c_l, iV p_c_bound, v_p_c_now, v_p_c_names, iV p_c_sum, bV p_c_found] 94).holds w) (p_guests : Int) (p_sum : Int) (hXn : X.Nodup) (hXe : X = fps [.blk b_p_c [v_p_c_l, iV p_c_bound, v_p_c_now, v_p_c_names, iV p_c_sum, bV p_c_found] 94, .own v_p_c_now 9 1 p_c_now.length (p_c_now.flatMap eStr), .own v_p_c_names 9 1 p_c_names.length (p_c_names.flatMap eStr)]) (r : (List ByteArray) × (List ByteArray) × Int × Bool) (h : crew_try_s self p_c_l p_c_bound p_c_now p_c_names p_c_sum p_c_found p_guests p_sum = some r) :
    Calls Tryz.prog 54 [.pointer (some ⟨b_p_c, 0, none⟩), iV p_guests, iV p_sum].toArray w (Ret w X fun _ v w' => ∃ y1 y2 : Value, Grp w w' X [.blk b_p_c [v_p_c_l, iV p_c_bound, y1, y2, iV r.2.2.1, bV r.2.2.2] 94, .own y1 9 1 r.1.length (r.1.flatMap eStr), .own y2 9 1 r.2.1.length (r.2.1.flatMap eStr)] ∧ v = .tuple #[]) := by
 refine f_enter X [.blk b_p_c [v_p_c_l, iV p_c_bound, v_p_c_now, v_p_c_names, iV p_c_sum, bV p_c_found] 94, .own v_p_c_now 9 1 p_c_now.length (p_c_now.flatMap eStr), .own v_p_c_names 9 1 p_c_names.length (p_c_names.flatMap eStr)] Tryz.func54 rfl Tryz.ntmps54 rfl (fun e he => by simp only [List.mem_cons, List.not_mem_nil, or_false] at he; rcases he with rfl | rfl | rfl <;> assumption) (by rw [← hXe]; exact hXn) (fun b hb => by rw [hXe]; exact hb) fun a S => ?_
 unfold crew_try_s at h
 replace S := S.nk [.blk b_p_c [v_p_c_l, iV p_c_bound, v_p_c_now, v_p_c_names, iV p_c_sum, bV p_c_found] 94, .own v_p_c_now 9 1 p_c_now.length (p_c_now.flatMap eStr), .own v_p_c_names 9 1 p_c_names.length (p_c_names.flatMap eStr)] [(0, .pointer (some ⟨b_p_c, 0, none⟩)), (1, iV p_guests), (2, iV p_sum)] [true, true, true] rfl (subR rfl)
 refine f_seq (f_region (lv S (rn_move (S.tm rfl)) rfl ?_)); clear S; intro a S
 refine lv S (rn_nilCheck (S.tm rfl)) rfl ?_; clear S; intro a S
 refine lv S (rn_fld fa_94_2 (S.tm rfl)) rfl ?_; clear S; intro a S
 refine lv S (rn_load Tryz.isAgg35 (S.tm rfl) (S.cell (i := 0) rfl rfl)) rfl ?_; clear S; intro a S
 refine lv S (rn_lenT sl_35 (S.tm rfl) (own_len (S.own_at (i := 1) rfl))) rfl ?_; clear S; intro a S
 refine lv S (rn_assign (S.tm rfl)) rfl ?_; clear S; intro a S
 refine l_done (then_n (f_seq (f_seq (f_region (lv S (rn_move (S.tm rfl)) rfl ?_))))); clear S; intro a S
 refine lv S (rn_eql (S.tm rfl) rfl) rfl ?_; clear S; intro a S
 refine l_done (then_n (f_cond (S.tm rfl) (fun hb1 => ?_) (fun hb1 => ?_)))
 ·replace h := iteT h hb1
  refine f_seq (f_seq (f_region (lv S (rn_move (S.tm rfl)) rfl ?_))); clear S; intro a S
  refine lv S (rn_nilCheck (S.tm rfl)) rfl ?_; clear S; intro a S
  refine lv S (rn_fld fa_94_5 (S.tm rfl)) rfl ?_; clear S; intro a S
  refine lv S (rn_load Tryz.isAgg4 (S.tm rfl) (S.cell (i := 0) rfl rfl)) rfl ?_; clear S; intro a S
  refine lv S (rn_not (S.tm rfl)) rfl ?_; clear S; intro a S
  refine lv S (rn_move (S.tm rfl)) rfl ?_; clear S; intro a S
  refine f_cutm 7 (fun a w' => Keep [] w w' ∧ Sx w X nov [.blk b_p_c [v_p_c_l, iV p_c_bound, v_p_c_now, v_p_c_names, iV p_c_sum, bV p_c_found] 94, .own v_p_c_now 9 1 p_c_now.length (p_c_now.flatMap eStr), .own v_p_c_names 9 1 p_c_names.length (p_c_names.flatMap eStr)] [(0, .pointer (some ⟨b_p_c, 0, none⟩)), (2, iV p_sum), (29, bV ((!p_c_found) || (decide (p_sum < p_c_sum))))] 121 a w') ?_ ?_
  ·rcases Bool.eq_false_or_eq_true (!p_c_found) with hb2 | hb2
   ·iterate 6 (refine l_skip S rfl rfl rfl (neq_t hb2) rfl ?_ rfl; clear S; intro a S)
    refine lv S (rn_or_t (decide (p_sum < p_c_sum)) hb2 (S.tm rfl) rfl) rfl ?_; clear S; intro a S
    refine l_done (then_n ?_)
    exact ⟨Keep.refl _ _, S.nf [true, true, true] rfl (subR rfl)⟩
   ·refine l_want S rfl rfl rfl hb2 (lv S (rn_move (S.tm rfl)) rfl ?_); clear S; intro a S
    refine l_want S rfl rfl rfl hb2 (lv S (rn_move (S.tm rfl)) rfl ?_); clear S; intro a S
    refine l_want S rfl rfl rfl hb2 (lv S (rn_nilCheck (S.tm rfl)) rfl ?_); clear S; intro a S
    refine l_want S rfl rfl rfl hb2 (lv S (rn_fld fa_94_4 (S.tm rfl)) rfl ?_); clear S; intro a S
    refine l_want S rfl rfl rfl hb2 (lv S (rn_load Tryz.isAgg3 (S.tm rfl) (S.cell (i := 0) rfl rfl)) rfl ?_); clear S; intro a S
    refine l_want S rfl rfl rfl hb2 (lv S (rn_lss (S.tm rfl) (S.tm rfl)) rfl ?_); clear S; intro a S
    refine lv S (rn_or_f hb2 (S.tm rfl) (S.tm rfl)) rfl ?_; clear S; intro a S
    refine l_done (then_n ?_)
    exact ⟨Keep.refl _ _, S.nf [true, true, true] rfl (subR rfl)⟩
  clear S; rintro a w1 ⟨hk1, S⟩
  refine l_done (then_n ?_)
  obtain ⟨j1, hj1, h⟩ := joinE h
  refine f_join (fun a w' => ∃ x1 : Int, ∃ x2 : Bool, ∃ x3 : List ByteArray, ∃ v1 : Value, j1 x1 x2 x3 = some r ∧ Sx w X nov [.blk b_p_c [v_p_c_l, iV p_c_bound, v_p_c_now, v1, iV x1, bV x2] 94, .own v_p_c_now 9 1 p_c_now.length (p_c_now.flatMap eStr), .own v1 9 1 x3.length (x3.flatMap eStr)] [] 121 a w') ?_ ?_
  ·refine f_cond (S.tm rfl) (fun hb3 => ?_) (fun hb3 => ?_)
   ·replace h := iteT h hb3
    refine f_region (lv S (rn_move (S.tm rfl)) rfl ?_); clear S; intro a S
    iterate 3 (refine lv S (rn_move (S.tm rfl)) rfl ?_; clear S; intro a S)
    refine lv S (rn_nilCheck (S.tm rfl)) rfl ?_; clear S; intro a S
    refine lv S (rn_fld fa_94_2 (S.tm rfl)) rfl ?_; clear S; intro a S
    refine lv S (rn_load Tryz.isAgg35 (S.tm rfl) (S.cell (i := 0) rfl rfl)) rfl ?_; clear S; intro a S
    obtain ⟨r1, hr1, h⟩ := bindE h
    have hz1 := S.keep.size
    refine l_enter S (fun _ => run_call (vs := [v_p_c_now]) ⟨(S.tm rfl), trivial⟩ Tryz.call59) (slices_Clone_string_ok _ v_p_c_now p_c_now (own_slcT enc_str S (i := 1) rfl (ne_nil (e' := .own v_p_c_now 9 1 p_c_now.length (p_c_now.flatMap eStr)))) _ hr1) rfl ?_; clear S; intro v2 a w3 hv1 hk2 hn1 S
    replace S := S.take hn1 hz1 hv1
    refine lv S (rn_move (S.tm rfl)) rfl ?_; clear S; intro a S
    refine lv S (rn_nilCheck (S.tm rfl)) rfl ?_; clear S; intro a S
    refine lv S (rn_fld fa_94_3 (S.tm rfl)) rfl ?_; clear S; intro a S
    refine l_store S (S.tm rfl) (S.tm rfl) (i := 1) (off := 3) rfl Tryz.sizeOf35 (vs := [v2]) (SlcLen.cells (own_len (S.own_at (i := 0) rfl))) rfl rfl (all1 (SlcLen.one (own_len (S.own_at (i := 0) rfl))) rfl) ?_; clear S; intro w4 hk3 S
    refine lv S (rn_nilCheck (S.tm rfl)) rfl ?_; clear S; intro a S
    refine lv S (rn_fld fa_94_4 (S.tm rfl)) rfl ?_; clear S; intro a S
    refine l_store S (S.tm rfl) (S.tm rfl) (i := 1) (off := 4) rfl Tryz.sizeOf3 (vs := [iV p_sum]) rfl rfl rfl rfl ?_; clear S; intro w5 hk4 S
    refine lv S (rn_nilCheck (S.tm rfl)) rfl ?_; clear S; intro a S
    refine lv S (rn_fld fa_94_5 (S.tm rfl)) rfl ?_; clear S; intro a S
    refine l_store S (S.tm rfl) rfl (i := 1) (off := 5) rfl Tryz.sizeOf4 (vs := [bV true]) rfl rfl rfl rfl ?_; clear S; intro w6 hk5 S
    refine l_done ?_
    replace S := S.nk [.own v2 9 1 r1.length (r1.flatMap eStr), .blk b_p_c [v_p_c_l, iV p_c_bound, v_p_c_now, v2, iV p_sum, bV true] 94, .own v_p_c_now 9 1 p_c_now.length (p_c_now.flatMap eStr)] [] [true, true, true, false] rfl trivial
    refine then_n ?_
    exact ⟨p_sum, true, r1, v2, h, S.pn [1, 2, 0] [] rfl rfl trivial⟩
   ·replace h := iteF h hb3
    refine wp_skip (then_n ?_)
    exact ⟨p_c_sum, p_c_found, p_c_names, v_p_c_names, h, S.nf [true, true, true] rfl trivial⟩
  clear S h; rintro a w2 ⟨x1, x2, x3, v1, h, S⟩; rw [hj1] at h; clear hj1 j1
  refine then_n (wp_ret (then_r ?_))
  obtain rfl := Option.some.inj h
  exact f_ret0 S Tryz.results54 ⟨v_p_c_now, v1, S.grp [0, 1, 2] [] rfl rfl rfl, rfl⟩
 ·replace h := iteF h hb1
  refine wp_skip (then_n (f_seq (f_region (lv S (rn_move (S.tm rfl)) rfl ?_)))); clear S; intro a S
  refine lv S (rn_nilCheck (S.tm rfl)) rfl ?_; clear S; intro a S
  refine lv S (rn_fld fa_94_0 (S.tm rfl)) rfl ?_; clear S; intro a S
  refine lv S (rn_load Tryz.isAgg54 (S.tm rfl) (S.cell (i := 0) rfl rfl)) rfl ?_; clear S; intro a S
  refine lv S (rn_lenT sl_54 (S.tm rfl) (slc_lenD hs_p_c_l hr_p_c_l)) rfl ?_; clear S; intro a S
  refine lv S (rn_move rfl) rfl ?_; clear S; intro a S
  refine l_done ?_
  replace S := S.nk [.blk b_p_c [v_p_c_l, iV p_c_bound, v_p_c_now, v_p_c_names, iV p_c_sum, bV p_c_found] 94, .own v_p_c_now 9 1 p_c_now.length (p_c_now.flatMap eStr), .own v_p_c_names 9 1 p_c_names.length (p_c_names.flatMap eStr)] [(0, .pointer (some ⟨b_p_c, 0, none⟩)), (1, iV p_guests), (2, iV p_sum), (6, iV (p_c_now.length : Int)), (48, v_p_c_l), (49, iV (p_c_l.length : Int)), (50, iV 0)] [true, true, true] rfl (subR rfl)
  refine then_n ?_
  obtain ⟨j2, hj2, h⟩ := joinE h
  refine f_join (fun a w' => ∃ x4 : Int, ∃ x5 : Bool, ∃ x6 : List ByteArray, ∃ x7 : List ByteArray, ∃ v3 : Value, ∃ v4 : Value, j2 x4 x5 x6 x7 = some r ∧ Sx w X nov [.blk b_p_c [v_p_c_l, iV p_c_bound, v3, v4, iV x4, bV x5] 94, .own v3 9 1 x6.length (x6.flatMap eStr), .own v4 9 1 x7.length (x7.flatMap eStr)] [] 121 a w') ?_ ?_
  ·refine wp_block (f_loop (fun (ys1 : List GLeg) a w' => ∃ i1 : Nat, ∃ x4 : Int, ∃ x5 : Bool, ∃ x6 : List ByteArray, ∃ x7 : List ByteArray, ∃ v3 : Value, ∃ v4 : Value, (∃ dn, p_c_l = dn ++ ys1 ∧ dn.length = i1) ∧ crew_try_l1 p_c_now self p_c_l p_c_bound p_sum p_guests j2 ys1 i1 x4 x5 x6 x7 = some r ∧ Sx w X nov [.blk b_p_c [v_p_c_l, iV p_c_bound, v3, v4, iV x4, bV x5] 94, .own v3 9 1 x6.length (x6.flatMap eStr), .own v4 9 1 x7.length (x7.flatMap eStr)] [(0, .pointer (some ⟨b_p_c, 0, none⟩)), (1, iV p_guests), (2, iV p_sum), (6, iV (p_c_now.length : Int)), (48, v_p_c_l), (49, iV (p_c_l.length : Int)), (50, iV (i1 : Int))] 121 a w') List.length p_c_l ⟨0, p_c_sum, p_c_found, p_c_now, p_c_names, v_p_c_now, v_p_c_names, ⟨[], rfl, rfl⟩, h, S.nf [true, true, true] rfl (subR rfl)⟩ ?_)
   clear S h; rintro ys1 a w7 ⟨i1, x4, x5, x6, x7, v3, v4, ⟨dn, hd1, hi1⟩, h, S⟩
   cases ys1 with
   | nil =>
    rw [crew_try_l1.eq_1] at h
    refine f_seq (f_region (lv S (rn_lss (S.tm rfl) (S.tm rfl)) rfl ?_)); clear S; intro a S
    refine l_done ?_
    replace S := S.nk [.blk b_p_c [v_p_c_l, iV p_c_bound, v3, v4, iV x4, bV x5] 94, .own v3 9 1 x6.length (x6.flatMap eStr), .own v4 9 1 x7.length (x7.flatMap eStr)] [(0, .pointer (some ⟨b_p_c, 0, none⟩)), (1, iV p_guests), (2, iV p_sum), (6, iV (p_c_now.length : Int)), (48, v_p_c_l), (49, iV (p_c_l.length : Int)), (50, iV (i1 : Int)), (51, bV (decide ((i1 : Int) < (p_c_l.length : Int))))] [true, true, true] rfl (subR rfl)
    refine then_n (f_seq (wp_cond_false ((S.tm rfl).trans (congrArg Value.bool (rng_nil hd1 hi1))) (wp_exit (then_x (then_x (x_same ?_))))))
    refine then_n ?_
    exact ⟨x4, x5, x6, x7, v3, v4, h, S.nf [true, true, true] rfl trivial⟩
   | cons y1 ys1 =>
    rw [crew_try_l1.eq_2] at h
    refine f_seq (f_region (lv S (rn_lss (S.tm rfl) (S.tm rfl)) rfl ?_)); clear S; intro a S
    refine l_done ?_
    replace S := S.nk [.blk b_p_c [v_p_c_l, iV p_c_bound, v3, v4, iV x4, bV x5] 94, .own v3 9 1 x6.length (x6.flatMap eStr), .own v4 9 1 x7.length (x7.flatMap eStr)] [(0, .pointer (some ⟨b_p_c, 0, none⟩)), (1, iV p_guests), (2, iV p_sum), (6, iV (p_c_now.length : Int)), (48, v_p_c_l), (49, iV (p_c_l.length : Int)), (50, iV (i1 : Int)), (51, bV (decide ((i1 : Int) < (p_c_l.length : Int))))] [true, true, true] rfl (subR rfl)
    refine then_n (f_seq (wp_cond_true ((S.tm rfl).trans (congrArg Value.bool (rng_cons hd1 hi1))) (wp_skip (then_n (f_seq ?_)))))
    obtain ⟨j3, hj3, h⟩ := joinE h
    refine f_join (fun a w' => ∃ x8 : Int, ∃ x9 : Bool, ∃ x10 : List ByteArray, ∃ x11 : List ByteArray, ∃ v5 : Value, ∃ v6 : Value, j3 x8 x9 x10 x11 = some r ∧ Sx w X nov [.blk b_p_c [v_p_c_l, iV p_c_bound, v5, v6, iV x8, bV x9] 94, .own v5 9 1 x10.length (x10.flatMap eStr), .own v6 9 1 x11.length (x11.flatMap eStr)] [(0, .pointer (some ⟨b_p_c, 0, none⟩)), (1, iV p_guests), (2, iV p_sum), (6, iV (p_c_now.length : Int)), (48, v_p_c_l), (49, iV (p_c_l.length : Int)), (50, iV (i1 : Int))] 121 a w') ?_ ?_
    ·refine wp_block (f_seq (f_region ?_))
     obtain ⟨r2, hg1, hl1⟩ := All2.at hr_p_c_l (get_mid hd1 hi1)
     obtain ⟨u2, rfl, hs1⟩ := hl1
     obtain ⟨b1, o1, hm1, hr2⟩ := rn_indexT (a := a) (x := .tmp 48) (y := .tmp 50) (ty := 0) sl_54 hs_p_c_l hg1 rfl (S.tm rfl) (S.tm rfl)
     refine lv S (hr2 _) rfl ?_; clear S; intro a S
     clear hr2
     refine lv S (rn_ldA Tryz.isAgg91 Tryz.sizeOf91 (off := o1) (o := 0) (part := [sV y1.Who, u2.val]) rfl rfl (S.tm rfl) (hm1.at S.emb0)) rfl ?_; clear S; intro a S
     refine l_alloc S Tryz.zeroValue91 (cs := [sV k_empty, .slice none 0 0]) rfl rfl ?_; clear S; intro a w10 b2 hz2 hk6 S
     replace S := S.nil 3 1
     refine l_store S (S.tm rfl) (S.tm rfl) (i := 1) (off := 0) rfl Tryz.sizeOf91 (vs := [sV y1.Who, u2.val]) rfl rfl rfl (all1 rfl (all1 (SlcLen.one (slc_len hs1)) rfl)) ?_; clear S; intro w11 hk7 S
     refine l_done (then_n (f_seq (f_region (lv S (rn_move (S.tm rfl)) rfl ?_)))); clear S; intro a S
     refine lv S (rn_assign (S.tm rfl)) rfl ?_; clear S; intro a S
     refine l_done (then_n (f_seq (f_seq (f_region (lv S (rn_fld fa_91_0 (S.tm rfl)) rfl ?_))))); clear S; intro a S
     refine lv S (rn_load Tryz.isAgg9 (S.tm rfl) (S.cell (i := 1) rfl rfl)) rfl ?_; clear S; intro a S
     obtain ⟨r3, hr3, h⟩ := bindE h
     refine l_enter S (fun _ => run_call (vs := [sV y1.Who, sV k_x]) ⟨(S.tm rfl), rfl, trivial⟩ Tryz.call83) (strings_HasPrefix_ok _ y1.Who k_x _ hr3) rfl ?_; clear S; intro v7 a w12 hv2 hk8 hn2 S
     subst hv2
     refine l_done ?_
     replace S := S.nk [.blk b2 [sV y1.Who, u2.val] 91, .blk b_p_c [v_p_c_l, iV p_c_bound, v3, v4, iV x4, bV x5] 94, .own v3 9 1 x6.length (x6.flatMap eStr), .own v4 9 1 x7.length (x7.flatMap eStr)] [(0, .pointer (some ⟨b_p_c, 0, none⟩)), (1, iV p_guests), (2, iV p_sum), (6, iV (p_c_now.length : Int)), (8, .pointer (some ⟨b2, 0, none⟩)), (9, iV p_guests), (48, v_p_c_l), (49, iV (p_c_l.length : Int)), (50, iV (i1 : Int)), (57, bV r3)] [false, true, true, true, true] rfl (subR rfl)
     refine then_n ?_
     obtain ⟨j4, hj4, h⟩ := joinE h
     refine f_join (fun a w' => ∃ x12 : Int, j4 x12 = some r ∧ Sx w X nov [.blk b2 [sV y1.Who, u2.val] 91, .blk b_p_c [v_p_c_l, iV p_c_bound, v3, v4, iV x4, bV x5] 94, .own v3 9 1 x6.length (x6.flatMap eStr), .own v4 9 1 x7.length (x7.flatMap eStr)] [(0, .pointer (some ⟨b_p_c, 0, none⟩)), (1, iV p_guests), (2, iV p_sum), (6, iV (p_c_now.length : Int)), (8, .pointer (some ⟨b2, 0, none⟩)), (9, iV x12), (48, v_p_c_l), (49, iV (p_c_l.length : Int)), (50, iV (i1 : Int))] 121 a w') ?_ ?_
     ·refine f_cond (S.tm rfl) (fun hb4 => ?_) (fun hb4 => ?_)
      ·replace h := iteT h hb4
       refine f_region (lv S (rn_move (S.tm rfl)) rfl ?_); clear S; intro a S
       refine lv S (rn_add (S.tm rfl) rfl) rfl ?_; clear S; intro a S
       refine lv S (rn_assign (S.tm rfl)) rfl ?_; clear S; intro a S
       refine l_done (then_n ?_)
       exact ⟨W (p_guests + 1), h, S.nf [true, true, true, true] rfl (subR rfl)⟩
      ·replace h := iteF h hb4
       refine wp_skip (then_n ?_)
       exact ⟨p_guests, h, S.nf [true, true, true, true] rfl (subR rfl)⟩
     clear S h; rintro a w13 ⟨x12, h, S⟩; rw [hj4] at h; clear hj4 j4
     refine then_n (f_seq (f_seq ?_))
     obtain ⟨j5, hj5, h⟩ := joinE h
     refine f_join (fun a w' => ∃ x13 : Bool, j5 x13 = some r ∧ Sx w X nov [.blk b2 [sV y1.Who, u2.val] 91, .blk b_p_c [v_p_c_l, iV p_c_bound, v3, v4, iV x4, bV x5] 94, .own v3 9 1 x6.length (x6.flatMap eStr), .own v4 9 1 x7.length (x7.flatMap eStr)] [(0, .pointer (some ⟨b_p_c, 0, none⟩)), (1, iV p_guests), (2, iV p_sum), (6, iV (p_c_now.length : Int)), (8, .pointer (some ⟨b2, 0, none⟩)), (9, iV x12), (48, v_p_c_l), (49, iV (p_c_l.length : Int)), (50, iV (i1 : Int)), (89, bV x13)] 121 a w') ?_ ?_
     ·obtain ⟨hc1, h⟩ := chkE h
      rcases Bool.eq_false_or_eq_true (decide ((nth y1.Times (p_c_now.length : Int)) = 0)) with hb5 | hb5
      ·replace h := iteT h hb5
       rcases Bool.eq_false_or_eq_true true with hb6 | hb6
       ·replace h := iteT h hb6
        refine d_region [] ([]) Tryz.mixed S rfl (by kernel_rfl) ?_; clear S; intro w15 hk9 hsel S
        refine d_rest [0, 1, 2, 3, 4, 5, 6, 7, 8, 9, 10, 11, 12, 13, 14, 15, 16, 17, 18, 19, 20, 21, 22, 23, 24, 25, 26, 27, 28, 29] hsel (by kernel_rfl) rfl ?_
        clear hsel
        refine s_lv S rfl (rn_fld fa_91_1 (S.tm rfl)) rfl ?_; clear S; intro a S
        refine s_lv S rfl (rn_load Tryz.isAgg22 (S.tm rfl) (S.cell (i := 0) rfl rfl)) rfl ?_; clear S; intro a S
        refine s_lv S rfl (rn_move (S.tm rfl)) rfl ?_; clear S; intro a S
        obtain ⟨hc2, h⟩ := chkE h
        obtain ⟨b5, o4, hm4, hr6⟩ := rn_indexT (a := a) (x := .tmp 61) (y := .tmp 62) (ty := 0) sl_22 hs1 (inB_get hc2).1 (inB_get hc2).2 (S.tm rfl) (S.tm rfl)
        refine s_lv S rfl (hr6 _) rfl ?_; clear S; intro a S
        clear hr6
        refine s_lv S rfl (rn_ld Tryz.isAgg3 (off := o4) (o := 0) (S.tm rfl) (hm4.at S.emb0) rfl) rfl ?_; clear S; intro a S
        refine s_lv S rfl (rn_eql (S.tm rfl) rfl) rfl ?_; clear S; intro a S
        refine s_lv S rfl (rn_move (S.tm rfl)) rfl ?_; clear S; intro a S
        iterate 6 (refine s_skip S rfl rfl rfl rfl (neq_t hb5) rfl ?_ rfl; clear S; intro a S)
        iterate 6 (refine s_skipU S rfl rfl rfl rfl rfl ?_; clear S; intro a S)
        refine s_skip S rfl rfl rfl rfl (neq_t hb5) rfl ?_ rfl; clear S; intro a S
        refine s_lv S rfl (rn_pick_b hb5 (S.tm rfl) rfl) rfl ?_; clear S; intro a S
        refine s_lv S rfl (rn_move (S.tm rfl)) rfl ?_; clear S; intro a S
        iterate 7 (refine s_skip S rfl rfl rfl rfl (neq_t hb6) rfl ?_ rfl; clear S; intro a S)
        refine s_lv S rfl (rn_pick_b hb6 (S.tm rfl) rfl) rfl ?_; clear S; intro a S
        refine s_done ?_
        replace S := S.nk [.blk b2 [sV y1.Who, u2.val] 91, .blk b_p_c [v_p_c_l, iV p_c_bound, v3, v4, iV x4, bV x5] 94, .own v3 9 1 x6.length (x6.flatMap eStr), .own v4 9 1 x7.length (x7.flatMap eStr)] [(0, .pointer (some ⟨b_p_c, 0, none⟩)), (1, iV p_guests), (2, iV p_sum), (6, iV (p_c_now.length : Int)), (8, .pointer (some ⟨b2, 0, none⟩)), (9, iV x12), (48, v_p_c_l), (49, iV (p_c_l.length : Int)), (50, iV (i1 : Int)), (89, bV true)] [true, true, true, true] rfl (subR rfl)
        refine then_n ?_
        exact ⟨true, h, S.nf [true, true, true, true] rfl (subR rfl)⟩
       ·replace h := iteF h hb6
        refine d_region [] ([]) Tryz.mixed S rfl (by kernel_rfl) ?_; clear S; intro w17 hk11 hsel S
        refine d_quiet 0 S hsel rfl rfl rfl (by kernel_rfl) (by kernel_rfl) rfl (fun _ hw => (rn_fld fa_91_1 (S.tm rfl))) ?_; clear S; intro a S
        refine d_quiet 1 S hsel rfl rfl rfl (by kernel_rfl) (by kernel_rfl) rfl (fun _ hw => (rn_ld Tryz.isAgg22 (off := 0) (o := 1) (S.tm rfl) ((S.blk_mem (i := 0) (cells := [sV y1.Who, u2.val]) (b := b2) (T := 91) rfl (ne_nil (e' := .blk b2 [sV y1.Who, u2.val] 91))).kept hw) rfl)) ?_; clear S; intro a S
        refine d_quiet 2 S hsel rfl rfl rfl (by kernel_rfl) (by kernel_rfl) rfl (fun _ hw => (rn_move (S.tm rfl))) ?_; clear S; intro a S
        obtain ⟨b7, o6, hm6, hr8⟩ := rn_indexT (a := a) (x := .tmp 61) (y := .tmp 62) (ty := 0) sl_22 (hs1.mono (S.le_arg nil_sub)) (inB_get hc1).1 (inB_get hc1).2 (S.tm rfl) (S.tm rfl)
        refine d_quiet 3 S hsel rfl rfl rfl (by kernel_rfl) (by kernel_rfl) rfl (fun _ hw => hr8 _) ?_; clear S; intro a S
        clear hr8
        refine d_quiet 4 S hsel rfl rfl rfl (by kernel_rfl) (by kernel_rfl) rfl (fun _ hw => (rn_ld Tryz.isAgg3 (off := o6) (o := 0) (S.tm rfl) (hm6.kept hw) rfl)) ?_; clear S; intro a S
        refine d_quiet 5 S hsel rfl rfl rfl (by kernel_rfl) (by kernel_rfl) rfl (fun _ hw => (rn_eql (S.tm rfl) rfl)) ?_; clear S; intro a S
        refine d_quiet 6 S hsel rfl rfl rfl (by kernel_rfl) (by kernel_rfl) rfl (fun _ hw => (rn_move (S.tm rfl))) ?_; clear S; intro a S
        refine d_skip 7 S hsel rfl rfl rfl rfl (neq_t hb5) rfl (by kernel_rfl) (by kernel_rfl) rfl ?_; clear S; intro a S
        refine d_skip 8 S hsel rfl rfl rfl rfl (neq_t hb5) rfl (by kernel_rfl) (by kernel_rfl) rfl ?_; clear S; intro a S
        refine d_skip 9 S hsel rfl rfl rfl rfl (neq_t hb5) rfl (by kernel_rfl) (by kernel_rfl) rfl ?_; clear S; intro a S
        refine d_skip 10 S hsel rfl rfl rfl rfl (neq_t hb5) rfl (by kernel_rfl) (by kernel_rfl) rfl ?_; clear S; intro a S
        refine d_skip 11 S hsel rfl rfl rfl rfl (neq_t hb5) rfl (by kernel_rfl) (by kernel_rfl) rfl ?_; clear S; intro a S
        refine d_skip 12 S hsel rfl rfl rfl rfl (neq_t hb5) rfl (by kernel_rfl) (by kernel_rfl) rfl ?_; clear S; intro a S
        refine d_skipU 13 S hsel rfl rfl rfl rfl rfl (by kernel_rfl) (by kernel_rfl) rfl ?_; clear S; intro a S
        refine d_skipU 14 S hsel rfl rfl rfl rfl rfl (by kernel_rfl) (by kernel_rfl) rfl ?_; clear S; intro a S
        refine d_skipU 15 S hsel rfl rfl rfl rfl rfl (by kernel_rfl) (by kernel_rfl) rfl ?_; clear S; intro a S
        refine d_skipU 16 S hsel rfl rfl rfl rfl rfl (by kernel_rfl) (by kernel_rfl) rfl ?_; clear S; intro a S
        refine d_skipU 17 S hsel rfl rfl rfl rfl rfl (by kernel_rfl) (by kernel_rfl) rfl ?_; clear S; intro a S
        refine d_skipU 18 S hsel rfl rfl rfl rfl rfl (by kernel_rfl) (by kernel_rfl) rfl ?_; clear S; intro a S
        refine d_skip 19 S hsel rfl rfl rfl rfl (neq_t hb5) rfl (by kernel_rfl) (by kernel_rfl) rfl ?_; clear S; intro a S
        refine d_quiet 20 S hsel rfl rfl rfl (by kernel_rfl) (by kernel_rfl) rfl (fun _ hw => (rn_pick_b hb5 (S.tm rfl) rfl)) ?_; clear S; intro a S
        refine d_quiet 21 S hsel rfl rfl rfl (by kernel_rfl) (by kernel_rfl) rfl (fun _ hw => (rn_move (S.tm rfl))) ?_; clear S; intro a S
        refine d_quiet_g 22 S hsel rfl rfl rfl rfl hb6 rfl rfl (by kernel_rfl) (by kernel_rfl) rfl (fun _ hw => (rn_move (S.tm rfl))) ?_; clear S; intro a S
        refine d_quiet_g 23 S hsel rfl rfl rfl rfl hb6 rfl rfl (by kernel_rfl) (by kernel_rfl) rfl (fun _ hw => (rn_nilCheck (S.tm rfl))) ?_; clear S; intro a S
        refine d_quiet_g 24 S hsel rfl rfl rfl rfl hb6 rfl rfl (by kernel_rfl) (by kernel_rfl) rfl (fun _ hw => (rn_fld fa_94_2 (S.tm rfl))) ?_; clear S; intro a S
        refine d_quiet_g 25 S hsel rfl rfl rfl rfl hb6 rfl rfl (by kernel_rfl) (by kernel_rfl) rfl (fun _ hw => (rn_ld Tryz.isAgg35 (off := 0) (o := 2) (S.tm rfl) ((S.blk_mem (i := 1) (cells := [v_p_c_l, iV p_c_bound, v3, v4, iV x4, bV x5]) (b := b_p_c) (T := 94) rfl (ne_nil (e' := .blk b_p_c [v_p_c_l, iV p_c_bound, v3, v4, iV x4, bV x5] 94))).kept hw) rfl)) ?_; clear S; intro a S
        refine d_quiet_g 26 S hsel rfl rfl rfl rfl hb6 rfl rfl (by kernel_rfl) (by kernel_rfl) rfl (fun _ hw => (rn_fld fa_91_0 (S.tm rfl))) ?_; clear S; intro a S
        refine d_quiet_g 27 S hsel rfl rfl rfl rfl hb6 rfl rfl (by kernel_rfl) (by kernel_rfl) rfl (fun _ hw => (rn_ld Tryz.isAgg9 (off := 0) (o := 0) (S.tm rfl) ((S.blk_mem (i := 0) (cells := [sV y1.Who, u2.val]) (b := b2) (T := 91) rfl (ne_nil (e' := .blk b2 [sV y1.Who, u2.val] 91))).kept hw) rfl)) ?_; clear S; intro a S
        refine d_loud1 28 (by kernel_rfl) rfl (l_want S rfl rfl rfl hb6 (l_enter S (fun _ => run_call (vs := [v3, sV y1.Who]) ⟨(S.tm rfl), (S.tm rfl), trivial⟩ Tryz.call48) (slices_Contains_string_ok _ v3 x6 (own_slcT enc_str S (i := 2) rfl (ne_nil (e' := .own v3 9 1 x6.length (x6.flatMap eStr)))) y1.Who _ rfl) rfl ?_)); clear S; intro v9 a w18 hv4 hk12 hn4 S
        subst hv4
        refine l_done (d_next hk12 (d_rest [29] hsel (by kernel_rfl) rfl ?_))
        clear hsel
        refine s_lv S rfl (rn_pick_c hb6 (S.tm rfl) (S.tm rfl)) rfl ?_; clear S; intro a S
        refine s_done ?_
        replace S := S.nk [.blk b2 [sV y1.Who, u2.val] 91, .blk b_p_c [v_p_c_l, iV p_c_bound, v3, v4, iV x4, bV x5] 94, .own v3 9 1 x6.length (x6.flatMap eStr), .own v4 9 1 x7.length (x7.flatMap eStr)] [(0, .pointer (some ⟨b_p_c, 0, none⟩)), (1, iV p_guests), (2, iV p_sum), (6, iV (p_c_now.length : Int)), (8, .pointer (some ⟨b2, 0, none⟩)), (9, iV x12), (48, v_p_c_l), (49, iV (p_c_l.length : Int)), (50, iV (i1 : Int)), (82, .pointer (some ⟨b_p_c, 0, none⟩)), (83, .pointer (some ⟨b_p_c, 0, none⟩)), (84, .pointer (some ⟨b_p_c, 2, none⟩)), (85, v3), (86, .pointer (some ⟨b2, 0, none⟩)), (87, sV y1.Who), (88, bV (slices_Contains_string x6 y1.Who)), (89, bV (slices_Contains_string x6 y1.Who))] [true, true, true, true] rfl (subR rfl)
        refine then_n ?_
        exact ⟨(slices_Contains_string x6 y1.Who), h, S.nf [true, true, true, true] rfl (subR rfl)⟩
      ·replace h := iteF h hb5
       rcases Bool.eq_false_or_eq_true (decide (0 < p_c_bound)) with hb7 | hb7
       ·replace h := iteT h hb7
        rcases Bool.eq_false_or_eq_true (decide (p_c_bound < x12)) with hb8 | hb8
        ·replace h := iteT h hb8
         refine d_region [] ([]) Tryz.mixed S rfl (by kernel_rfl) ?_; clear S; intro w19 hk13 hsel S
         refine d_rest [0, 1, 2, 3, 4, 5, 6, 7, 8, 9, 10, 11, 12, 13, 14, 15, 16, 17, 18, 19, 20, 21, 22, 23, 24, 25, 26, 27, 28, 29] hsel (by kernel_rfl) rfl ?_
         clear hsel
         refine s_lv S rfl (rn_fld fa_91_1 (S.tm rfl)) rfl ?_; clear S; intro a S
         refine s_lv S rfl (rn_load Tryz.isAgg22 (S.tm rfl) (S.cell (i := 0) rfl rfl)) rfl ?_; clear S; intro a S
         refine s_lv S rfl (rn_move (S.tm rfl)) rfl ?_; clear S; intro a S
         obtain ⟨hc3, h⟩ := chkE h
         obtain ⟨b10, o9, hm9, hr11⟩ := rn_indexT (a := a) (x := .tmp 61) (y := .tmp 62) (ty := 0) sl_22 hs1 (inB_get hc3).1 (inB_get hc3).2 (S.tm rfl) (S.tm rfl)
         refine s_lv S rfl (hr11 _) rfl ?_; clear S; intro a S
         clear hr11
         refine s_lv S rfl (rn_ld Tryz.isAgg3 (off := o9) (o := 0) (S.tm rfl) (hm9.at S.emb0) rfl) rfl ?_; clear S; intro a S
         refine s_lv S rfl (rn_eql (S.tm rfl) rfl) rfl ?_; clear S; intro a S
         refine s_lv S rfl (rn_move (S.tm rfl)) rfl ?_; clear S; intro a S
         refine s_want S rfl rfl rfl rfl hb5 (s_lv0 S (rn_move (S.tm rfl)) rfl ?_); clear S; intro a S
         refine s_want S rfl rfl rfl rfl hb5 (s_lv0 S (rn_nilCheck (S.tm rfl)) rfl ?_); clear S; intro a S
         refine s_want S rfl rfl rfl rfl hb5 (s_lv0 S (rn_fld fa_94_1 (S.tm rfl)) rfl ?_); clear S; intro a S
         refine s_want S rfl rfl rfl rfl hb5 (s_lv0 S (rn_load Tryz.isAgg3 (S.tm rfl) (S.cell (i := 1) rfl rfl)) rfl ?_); clear S; intro a S
         refine s_want S rfl rfl rfl rfl hb5 (s_lv0 S (rn_gtr (S.tm rfl) rfl) rfl ?_); clear S; intro a S
         refine s_want S rfl rfl rfl rfl hb5 (s_lv0 S (rn_move (S.tm rfl)) rfl ?_); clear S; intro a S
         refine s_want S rfl rfl rfl rfl hb7 (s_lv0 S (rn_move (S.tm rfl)) rfl ?_); clear S; intro a S
         refine s_want S rfl rfl rfl rfl hb7 (s_lv0 S (rn_move (S.tm rfl)) rfl ?_); clear S; intro a S
         refine s_want S rfl rfl rfl rfl hb7 (s_lv0 S (rn_nilCheck (S.tm rfl)) rfl ?_); clear S; intro a S
         refine s_want S rfl rfl rfl rfl hb7 (s_lv0 S (rn_fld fa_94_1 (S.tm rfl)) rfl ?_); clear S; intro a S
         refine s_want S rfl rfl rfl rfl hb7 (s_lv0 S (rn_load Tryz.isAgg3 (S.tm rfl) (S.cell (i := 1) rfl rfl)) rfl ?_); clear S; intro a S
         refine s_want S rfl rfl rfl rfl hb7 (s_lv0 S (rn_gtr (S.tm rfl) (S.tm rfl)) rfl ?_); clear S; intro a S
         refine s_want S rfl rfl rfl rfl hb5 (s_lv0 S (rn_pick_b hb7 (S.tm rfl) (S.tm rfl)) rfl ?_); clear S; intro a S
         refine s_lv S rfl (rn_pick_c hb5 (S.tm rfl) (S.tm rfl)) rfl ?_; clear S; intro a S
         refine s_lv S rfl (rn_move (S.tm rfl)) rfl ?_; clear S; intro a S
         iterate 7 (refine s_skip S rfl rfl rfl rfl (neq_t hb8) rfl ?_ rfl; clear S; intro a S)
         refine s_lv S rfl (rn_pick_b hb8 (S.tm rfl) rfl) rfl ?_; clear S; intro a S
         refine s_done ?_
         replace S := S.nk [.blk b2 [sV y1.Who, u2.val] 91, .blk b_p_c [v_p_c_l, iV p_c_bound, v3, v4, iV x4, bV x5] 94, .own v3 9 1 x6.length (x6.flatMap eStr), .own v4 9 1 x7.length (x7.flatMap eStr)] [(0, .pointer (some ⟨b_p_c, 0, none⟩)), (1, iV p_guests), (2, iV p_sum), (6, iV (p_c_now.length : Int)), (8, .pointer (some ⟨b2, 0, none⟩)), (9, iV x12), (48, v_p_c_l), (49, iV (p_c_l.length : Int)), (50, iV (i1 : Int)), (67, .pointer (some ⟨b_p_c, 0, none⟩)), (68, .pointer (some ⟨b_p_c, 0, none⟩)), (69, .pointer (some ⟨b_p_c, 1, none⟩)), (70, iV p_c_bound), (71, bV (decide (0 < p_c_bound))), (72, bV (decide (0 < p_c_bound))), (73, iV x12), (74, .pointer (some ⟨b_p_c, 0, none⟩)), (75, .pointer (some ⟨b_p_c, 0, none⟩)), (76, .pointer (some ⟨b_p_c, 1, none⟩)), (77, iV p_c_bound), (78, bV (decide (p_c_bound < x12))), (79, bV (decide (p_c_bound < x12))), (89, bV true)] [true, true, true, true] rfl (subR rfl)
         refine then_n ?_
         exact ⟨true, h, S.nf [true, true, true, true] rfl (subR rfl)⟩
        ·replace h := iteF h hb8
         refine d_region [] ([]) Tryz.mixed S rfl (by kernel_rfl) ?_; clear S; intro w21 hk15 hsel S
         refine d_quiet 0 S hsel rfl rfl rfl (by kernel_rfl) (by kernel_rfl) rfl (fun _ hw => (rn_fld fa_91_1 (S.tm rfl))) ?_; clear S; intro a S
         refine d_quiet 1 S hsel rfl rfl rfl (by kernel_rfl) (by kernel_rfl) rfl (fun _ hw => (rn_ld Tryz.isAgg22 (off := 0) (o := 1) (S.tm rfl) ((S.blk_mem (i := 0) (cells := [sV y1.Who, u2.val]) (b := b2) (T := 91) rfl (ne_nil (e' := .blk b2 [sV y1.Who, u2.val] 91))).kept hw) rfl)) ?_; clear S; intro a S
         refine d_quiet 2 S hsel rfl rfl rfl (by kernel_rfl) (by kernel_rfl) rfl (fun _ hw => (rn_move (S.tm rfl))) ?_; clear S; intro a S
         obtain ⟨b12, o11, hm11, hr13⟩ := rn_indexT (a := a) (x := .tmp 61) (y := .tmp 62) (ty := 0) sl_22 (hs1.mono (S.le_arg nil_sub)) (inB_get hc1).1 (inB_get hc1).2 (S.tm rfl) (S.tm rfl)
         refine d_quiet 3 S hsel rfl rfl rfl (by kernel_rfl) (by kernel_rfl) rfl (fun _ hw => hr13 _) ?_; clear S; intro a S
         clear hr13
         refine d_quiet 4 S hsel rfl rfl rfl (by kernel_rfl) (by kernel_rfl) rfl (fun _ hw => (rn_ld Tryz.isAgg3 (off := o11) (o := 0) (S.tm rfl) (hm11.kept hw) rfl)) ?_; clear S; intro a S
         refine d_quiet 5 S hsel rfl rfl rfl (by kernel_rfl) (by kernel_rfl) rfl (fun _ hw => (rn_eql (S.tm rfl) rfl)) ?_; clear S; intro a S
         refine d_quiet 6 S hsel rfl rfl rfl (by kernel_rfl) (by kernel_rfl) rfl (fun _ hw => (rn_move (S.tm rfl))) ?_; clear S; intro a S
         refine d_quiet_g 7 S hsel rfl rfl rfl rfl hb5 rfl rfl (by kernel_rfl) (by kernel_rfl) rfl (fun _ hw => (rn_move (S.tm rfl))) ?_; clear S; intro a S
         refine d_quiet_g 8 S hsel rfl rfl rfl rfl hb5 rfl rfl (by kernel_rfl) (by kernel_rfl) rfl (fun _ hw => (rn_nilCheck (S.tm rfl))) ?_; clear S; intro a S
         refine d_quiet_g 9 S hsel rfl rfl rfl rfl hb5 rfl rfl (by kernel_rfl) (by kernel_rfl) rfl (fun _ hw => (rn_fld fa_94_1 (S.tm rfl))) ?_; clear S; intro a S
         refine d_quiet_g 10 S hsel rfl rfl rfl rfl hb5 rfl rfl (by kernel_rfl) (by kernel_rfl) rfl (fun _ hw => (rn_ld Tryz.isAgg3 (off := 0) (o := 1) (S.tm rfl) ((S.blk_mem (i := 1) (cells := [v_p_c_l, iV p_c_bound, v3, v4, iV x4, bV x5]) (b := b_p_c) (T := 94) rfl (ne_nil (e' := .blk b_p_c [v_p_c_l, iV p_c_bound, v3, v4, iV x4, bV x5] 94))).kept hw) rfl)) ?_; clear S; intro a S
         refine d_quiet_g 11 S hsel rfl rfl rfl rfl hb5 rfl rfl (by kernel_rfl) (by kernel_rfl) rfl (fun _ hw => (rn_gtr (S.tm rfl) rfl)) ?_; clear S; intro a S
         refine d_quiet_g 12 S hsel rfl rfl rfl rfl hb5 rfl rfl (by kernel_rfl) (by kernel_rfl) rfl (fun _ hw => (rn_move (S.tm rfl))) ?_; clear S; intro a S
         refine d_quiet_g 13 S hsel rfl rfl rfl rfl hb7 rfl rfl (by kernel_rfl) (by kernel_rfl) rfl (fun _ hw => (rn_move (S.tm rfl))) ?_; clear S; intro a S
         refine d_quiet_g 14 S hsel rfl rfl rfl rfl hb7 rfl rfl (by kernel_rfl) (by kernel_rfl) rfl (fun _ hw => (rn_move (S.tm rfl))) ?_; clear S; intro a S
         refine d_quiet_g 15 S hsel rfl rfl rfl rfl hb7 rfl rfl (by kernel_rfl) (by kernel_rfl) rfl (fun _ hw => (rn_nilCheck (S.tm rfl))) ?_; clear S; intro a S
         refine d_quiet_g 16 S hsel rfl rfl rfl rfl hb7 rfl rfl (by kernel_rfl) (by kernel_rfl) rfl (fun _ hw => (rn_fld fa_94_1 (S.tm rfl))) ?_; clear S; intro a S
         refine d_quiet_g 17 S hsel rfl rfl rfl rfl hb7 rfl rfl (by kernel_rfl) (by kernel_rfl) rfl (fun _ hw => (rn_ld Tryz.isAgg3 (off := 0) (o := 1) (S.tm rfl) ((S.blk_mem (i := 1) (cells := [v_p_c_l, iV p_c_bound, v3, v4, iV x4, bV x5]) (b := b_p_c) (T := 94) rfl (ne_nil (e' := .blk b_p_c [v_p_c_l, iV p_c_bound, v3, v4, iV x4, bV x5] 94))).kept hw) rfl)) ?_; clear S; intro a S
         refine d_quiet_g 18 S hsel rfl rfl rfl rfl hb7 rfl rfl (by kernel_rfl) (by kernel_rfl) rfl (fun _ hw => (rn_gtr (S.tm rfl) (S.tm rfl))) ?_; clear S; intro a S
         refine d_quiet_g 19 S hsel rfl rfl rfl rfl hb5 rfl rfl (by kernel_rfl) (by kernel_rfl) rfl (fun _ hw => (rn_pick_b hb7 (S.tm rfl) (S.tm rfl))) ?_; clear S; intro a S
         refine d_quiet 20 S hsel rfl rfl rfl (by kernel_rfl) (by kernel_rfl) rfl (fun _ hw => (rn_pick_c hb5 (S.tm rfl) (S.tm rfl))) ?_; clear S; intro a S
         refine d_quiet 21 S hsel rfl rfl rfl (by kernel_rfl) (by kernel_rfl) rfl (fun _ hw => (rn_move (S.tm rfl))) ?_; clear S; intro a S
         refine d_quiet_g 22 S hsel rfl rfl rfl rfl hb8 rfl rfl (by kernel_rfl) (by kernel_rfl) rfl (fun _ hw => (rn_move (S.tm rfl))) ?_; clear S; intro a S
         refine d_quiet_g 23 S hsel rfl rfl rfl rfl hb8 rfl rfl (by kernel_rfl) (by kernel_rfl) rfl (fun _ hw => (rn_nilCheck (S.tm rfl))) ?_; clear S; intro a S
         refine d_quiet_g 24 S hsel rfl rfl rfl rfl hb8 rfl rfl (by kernel_rfl) (by kernel_rfl) rfl (fun _ hw => (rn_fld fa_94_2 (S.tm rfl))) ?_; clear S; intro a S
         refine d_quiet_g 25 S hsel rfl rfl rfl rfl hb8 rfl rfl (by kernel_rfl) (by kernel_rfl) rfl (fun _ hw => (rn_ld Tryz.isAgg35 (off := 0) (o := 2) (S.tm rfl) ((S.blk_mem (i := 1) (cells := [v_p_c_l, iV p_c_bound, v3, v4, iV x4, bV x5]) (b := b_p_c) (T := 94) rfl (ne_nil (e' := .blk b_p_c [v_p_c_l, iV p_c_bound, v3, v4, iV x4, bV x5] 94))).kept hw) rfl)) ?_; clear S; intro a S
         refine d_quiet_g 26 S hsel rfl rfl rfl rfl hb8 rfl rfl (by kernel_rfl) (by kernel_rfl) rfl (fun _ hw => (rn_fld fa_91_0 (S.tm rfl))) ?_; clear S; intro a S
         refine d_quiet_g 27 S hsel rfl rfl rfl rfl hb8 rfl rfl (by kernel_rfl) (by kernel_rfl) rfl (fun _ hw => (rn_ld Tryz.isAgg9 (off := 0) (o := 0) (S.tm rfl) ((S.blk_mem (i := 0) (cells := [sV y1.Who, u2.val]) (b := b2) (T := 91) rfl (ne_nil (e' := .blk b2 [sV y1.Who, u2.val] 91))).kept hw) rfl)) ?_; clear S; intro a S
         refine d_loud1 28 (by kernel_rfl) rfl (l_want S rfl rfl rfl hb8 (l_enter S (fun _ => run_call (vs := [v3, sV y1.Who]) ⟨(S.tm rfl), (S.tm rfl), trivial⟩ Tryz.call48) (slices_Contains_string_ok _ v3 x6 (own_slcT enc_str S (i := 2) rfl (ne_nil (e' := .own v3 9 1 x6.length (x6.flatMap eStr)))) y1.Who _ rfl) rfl ?_)); clear S; intro v11 a w22 hv6 hk16 hn6 S
         subst hv6
         refine l_done (d_next hk16 (d_rest [29] hsel (by kernel_rfl) rfl ?_))
         clear hsel
         refine s_lv S rfl (rn_pick_c hb8 (S.tm rfl) (S.tm rfl)) rfl ?_; clear S; intro a S
         refine s_done ?_
         replace S := S.nk [.blk b2 [sV y1.Who, u2.val] 91, .blk b_p_c [v_p_c_l, iV p_c_bound, v3, v4, iV x4, bV x5] 94, .own v3 9 1 x6.length (x6.flatMap eStr), .own v4 9 1 x7.length (x7.flatMap eStr)] [(0, .pointer (some ⟨b_p_c, 0, none⟩)), (1, iV p_guests), (2, iV p_sum), (6, iV (p_c_now.length : Int)), (8, .pointer (some ⟨b2, 0, none⟩)), (9, iV x12), (48, v_p_c_l), (49, iV (p_c_l.length : Int)), (50, iV (i1 : Int)), (67, .pointer (some ⟨b_p_c, 0, none⟩)), (68, .pointer (some ⟨b_p_c, 0, none⟩)), (69, .pointer (some ⟨b_p_c, 1, none⟩)), (70, iV p_c_bound), (71, bV (decide (0 < p_c_bound))), (72, bV (decide (0 < p_c_bound))), (73, iV x12), (74, .pointer (some ⟨b_p_c, 0, none⟩)), (75, .pointer (some ⟨b_p_c, 0, none⟩)), (76, .pointer (some ⟨b_p_c, 1, none⟩)), (77, iV p_c_bound), (78, bV (decide (p_c_bound < x12))), (79, bV (decide (p_c_bound < x12))), (82, .pointer (some ⟨b_p_c, 0, none⟩)), (83, .pointer (some ⟨b_p_c, 0, none⟩)), (84, .pointer (some ⟨b_p_c, 2, none⟩)), (85, v3), (86, .pointer (some ⟨b2, 0, none⟩)), (87, sV y1.Who), (88, bV (slices_Contains_string x6 y1.Who)), (89, bV (slices_Contains_string x6 y1.Who))] [true, true, true, true] rfl (subR rfl)
         refine then_n ?_
         exact ⟨(slices_Contains_string x6 y1.Who), h, S.nf [true, true, true, true] rfl (subR rfl)⟩
       ·replace h := iteF h hb7
        rcases Bool.eq_false_or_eq_true false with hb9 | hb9
        ·replace h := iteT h hb9
         refine d_region [] ([]) Tryz.mixed S rfl (by kernel_rfl) ?_; clear S; intro w23 hk17 hsel S
         refine d_rest [0, 1, 2, 3, 4, 5, 6, 7, 8, 9, 10, 11, 12, 13, 14, 15, 16, 17, 18, 19, 20, 21, 22, 23, 24, 25, 26, 27, 28, 29] hsel (by kernel_rfl) rfl ?_
         clear hsel
         refine s_lv S rfl (rn_fld fa_91_1 (S.tm rfl)) rfl ?_; clear S; intro a S
         refine s_lv S rfl (rn_load Tryz.isAgg22 (S.tm rfl) (S.cell (i := 0) rfl rfl)) rfl ?_; clear S; intro a S
         refine s_lv S rfl (rn_move (S.tm rfl)) rfl ?_; clear S; intro a S
         obtain ⟨hc4, h⟩ := chkE h
         obtain ⟨b14, o13, hm13, hr15⟩ := rn_indexT (a := a) (x := .tmp 61) (y := .tmp 62) (ty := 0) sl_22 hs1 (inB_get hc4).1 (inB_get hc4).2 (S.tm rfl) (S.tm rfl)
         refine s_lv S rfl (hr15 _) rfl ?_; clear S; intro a S
         clear hr15
         refine s_lv S rfl (rn_ld Tryz.isAgg3 (off := o13) (o := 0) (S.tm rfl) (hm13.at S.emb0) rfl) rfl ?_; clear S; intro a S
         refine s_lv S rfl (rn_eql (S.tm rfl) rfl) rfl ?_; clear S; intro a S
         refine s_lv S rfl (rn_move (S.tm rfl)) rfl ?_; clear S; intro a S
         refine s_want S rfl rfl rfl rfl hb5 (s_lv0 S (rn_move (S.tm rfl)) rfl ?_); clear S; intro a S
         refine s_want S rfl rfl rfl rfl hb5 (s_lv0 S (rn_nilCheck (S.tm rfl)) rfl ?_); clear S; intro a S
         refine s_want S rfl rfl rfl rfl hb5 (s_lv0 S (rn_fld fa_94_1 (S.tm rfl)) rfl ?_); clear S; intro a S
         refine s_want S rfl rfl rfl rfl hb5 (s_lv0 S (rn_load Tryz.isAgg3 (S.tm rfl) (S.cell (i := 1) rfl rfl)) rfl ?_); clear S; intro a S
         refine s_want S rfl rfl rfl rfl hb5 (s_lv0 S (rn_gtr (S.tm rfl) rfl) rfl ?_); clear S; intro a S
         refine s_want S rfl rfl rfl rfl hb5 (s_lv0 S (rn_move (S.tm rfl)) rfl ?_); clear S; intro a S
         iterate 6 (refine s_skip S rfl rfl rfl rfl (neq_f hb7) rfl ?_ rfl; clear S; intro a S)
         refine s_want S rfl rfl rfl rfl hb5 (s_lv0 S (rn_pick_c hb7 (S.tm rfl) rfl) rfl ?_); clear S; intro a S
         refine s_lv S rfl (rn_pick_c hb5 (S.tm rfl) (S.tm rfl)) rfl ?_; clear S; intro a S
         refine s_lv S rfl (rn_move (S.tm rfl)) rfl ?_; clear S; intro a S
         iterate 7 (refine s_skip S rfl rfl rfl rfl (neq_t hb9) rfl ?_ rfl; clear S; intro a S)
         refine s_lv S rfl (rn_pick_b hb9 (S.tm rfl) rfl) rfl ?_; clear S; intro a S
         refine s_done ?_
         replace S := S.nk [.blk b2 [sV y1.Who, u2.val] 91, .blk b_p_c [v_p_c_l, iV p_c_bound, v3, v4, iV x4, bV x5] 94, .own v3 9 1 x6.length (x6.flatMap eStr), .own v4 9 1 x7.length (x7.flatMap eStr)] [(0, .pointer (some ⟨b_p_c, 0, none⟩)), (1, iV p_guests), (2, iV p_sum), (6, iV (p_c_now.length : Int)), (8, .pointer (some ⟨b2, 0, none⟩)), (9, iV x12), (48, v_p_c_l), (49, iV (p_c_l.length : Int)), (50, iV (i1 : Int)), (67, .pointer (some ⟨b_p_c, 0, none⟩)), (68, .pointer (some ⟨b_p_c, 0, none⟩)), (69, .pointer (some ⟨b_p_c, 1, none⟩)), (70, iV p_c_bound), (71, bV (decide (0 < p_c_bound))), (72, bV (decide (0 < p_c_bound))), (79, bV false), (89, bV true)] [true, true, true, true] rfl (subR rfl)
         refine then_n ?_
         exact ⟨true, h, S.nf [true, true, true, true] rfl (subR rfl)⟩
        ·replace h := iteF h hb9
         refine d_region [] ([]) Tryz.mixed S rfl (by kernel_rfl) ?_; clear S; intro w25 hk19 hsel S
         refine d_quiet 0 S hsel rfl rfl rfl (by kernel_rfl) (by kernel_rfl) rfl (fun _ hw => (rn_fld fa_91_1 (S.tm rfl))) ?_; clear S; intro a S
         refine d_quiet 1 S hsel rfl rfl rfl (by kernel_rfl) (by kernel_rfl) rfl (fun _ hw => (rn_ld Tryz.isAgg22 (off := 0) (o := 1) (S.tm rfl) ((S.blk_mem (i := 0) (cells := [sV y1.Who, u2.val]) (b := b2) (T := 91) rfl (ne_nil (e' := .blk b2 [sV y1.Who, u2.val] 91))).kept hw) rfl)) ?_; clear S; intro a S
         refine d_quiet 2 S hsel rfl rfl rfl (by kernel_rfl) (by kernel_rfl) rfl (fun _ hw => (rn_move (S.tm rfl))) ?_; clear S; intro a S
         obtain ⟨b16, o15, hm15, hr17⟩ := rn_indexT (a := a) (x := .tmp 61) (y := .tmp 62) (ty := 0) sl_22 (hs1.mono (S.le_arg nil_sub)) (inB_get hc1).1 (inB_get hc1).2 (S.tm rfl) (S.tm rfl)
         refine d_quiet 3 S hsel rfl rfl rfl (by kernel_rfl) (by kernel_rfl) rfl (fun _ hw => hr17 _) ?_; clear S; intro a S
         clear hr17
         refine d_quiet 4 S hsel rfl rfl rfl (by kernel_rfl) (by kernel_rfl) rfl (fun _ hw => (rn_ld Tryz.isAgg3 (off := o15) (o := 0) (S.tm rfl) (hm15.kept hw) rfl)) ?_; clear S; intro a S
         refine d_quiet 5 S hsel rfl rfl rfl (by kernel_rfl) (by kernel_rfl) rfl (fun _ hw => (rn_eql (S.tm rfl) rfl)) ?_; clear S; intro a S
         refine d_quiet 6 S hsel rfl rfl rfl (by kernel_rfl) (by kernel_rfl) rfl (fun _ hw => (rn_move (S.tm rfl))) ?_; clear S; intro a S
         refine d_quiet_g 7 S hsel rfl rfl rfl rfl hb5 rfl rfl (by kernel_rfl) (by kernel_rfl) rfl (fun _ hw => (rn_move (S.tm rfl))) ?_; clear S; intro a S
         refine d_quiet_g 8 S hsel rfl rfl rfl rfl hb5 rfl rfl (by kernel_rfl) (by kernel_rfl) rfl (fun _ hw => (rn_nilCheck (S.tm rfl))) ?_; clear S; intro a S
         refine d_quiet_g 9 S hsel rfl rfl rfl rfl hb5 rfl rfl (by kernel_rfl) (by kernel_rfl) rfl (fun _ hw => (rn_fld fa_94_1 (S.tm rfl))) ?_; clear S; intro a S
         refine d_quiet_g 10 S hsel rfl rfl rfl rfl hb5 rfl rfl (by kernel_rfl) (by kernel_rfl) rfl (fun _ hw => (rn_ld Tryz.isAgg3 (off := 0) (o := 1) (S.tm rfl) ((S.blk_mem (i := 1) (cells := [v_p_c_l, iV p_c_bound, v3, v4, iV x4, bV x5]) (b := b_p_c) (T := 94) rfl (ne_nil (e' := .blk b_p_c [v_p_c_l, iV p_c_bound, v3, v4, iV x4, bV x5] 94))).kept hw) rfl)) ?_; clear S; intro a S
         refine d_quiet_g 11 S hsel rfl rfl rfl rfl hb5 rfl rfl (by kernel_rfl) (by kernel_rfl) rfl (fun _ hw => (rn_gtr (S.tm rfl) rfl)) ?_; clear S; intro a S
         refine d_quiet_g 12 S hsel rfl rfl rfl rfl hb5 rfl rfl (by kernel_rfl) (by kernel_rfl) rfl (fun _ hw => (rn_move (S.tm rfl))) ?_; clear S; intro a S
         refine d_skip 13 S hsel rfl rfl rfl rfl (neq_f hb7) rfl (by kernel_rfl) (by kernel_rfl) rfl ?_; clear S; intro a S
         refine d_skip 14 S hsel rfl rfl rfl rfl (neq_f hb7) rfl (by kernel_rfl) (by kernel_rfl) rfl ?_; clear S; intro a S
         refine d_skip 15 S hsel rfl rfl rfl rfl (neq_f hb7) rfl (by kernel_rfl) (by kernel_rfl) rfl ?_; clear S; intro a S
         refine d_skip 16 S hsel rfl rfl rfl rfl (neq_f hb7) rfl (by kernel_rfl) (by kernel_rfl) rfl ?_; clear S; intro a S
         refine d_skip 17 S hsel rfl rfl rfl rfl (neq_f hb7) rfl (by kernel_rfl) (by kernel_rfl) rfl ?_; clear S; intro a S
         refine d_skip 18 S hsel rfl rfl rfl rfl (neq_f hb7) rfl (by kernel_rfl) (by kernel_rfl) rfl ?_; clear S; intro a S
         refine d_quiet_g 19 S hsel rfl rfl rfl rfl hb5 rfl rfl (by kernel_rfl) (by kernel_rfl) rfl (fun _ hw => (rn_pick_c hb7 (S.tm rfl) rfl)) ?_; clear S; intro a S
         refine d_quiet 20 S hsel rfl rfl rfl (by kernel_rfl) (by kernel_rfl) rfl (fun _ hw => (rn_pick_c hb5 (S.tm rfl) (S.tm rfl))) ?_; clear S; intro a S
         refine d_quiet 21 S hsel rfl rfl rfl (by kernel_rfl) (by kernel_rfl) rfl (fun _ hw => (rn_move (S.tm rfl))) ?_; clear S; intro a S
         refine d_quiet_g 22 S hsel rfl rfl rfl rfl hb9 rfl rfl (by kernel_rfl) (by kernel_rfl) rfl (fun _ hw => (rn_move (S.tm rfl))) ?_; clear S; intro a S
         refine d_quiet_g 23 S hsel rfl rfl rfl rfl hb9 rfl rfl (by kernel_rfl) (by kernel_rfl) rfl (fun _ hw => (rn_nilCheck (S.tm rfl))) ?_; clear S; intro a S
         refine d_quiet_g 24 S hsel rfl rfl rfl rfl hb9 rfl rfl (by kernel_rfl) (by kernel_rfl) rfl (fun _ hw => (rn_fld fa_94_2 (S.tm rfl))) ?_; clear S; intro a S
         refine d_quiet_g 25 S hsel rfl rfl rfl rfl hb9 rfl rfl (by kernel_rfl) (by kernel_rfl) rfl (fun _ hw => (rn_ld Tryz.isAgg35 (off := 0) (o := 2) (S.tm rfl) ((S.blk_mem (i := 1) (cells := [v_p_c_l, iV p_c_bound, v3, v4, iV x4, bV x5]) (b := b_p_c) (T := 94) rfl (ne_nil (e' := .blk b_p_c [v_p_c_l, iV p_c_bound, v3, v4, iV x4, bV x5] 94))).kept hw) rfl)) ?_; clear S; intro a S
         refine d_quiet_g 26 S hsel rfl rfl rfl rfl hb9 rfl rfl (by kernel_rfl) (by kernel_rfl) rfl (fun _ hw => (rn_fld fa_91_0 (S.tm rfl))) ?_; clear S; intro a S
         refine d_quiet_g 27 S hsel rfl rfl rfl rfl hb9 rfl rfl (by kernel_rfl) (by kernel_rfl) rfl (fun _ hw => (rn_ld Tryz.isAgg9 (off := 0) (o := 0) (S.tm rfl) ((S.blk_mem (i := 0) (cells := [sV y1.Who, u2.val]) (b := b2) (T := 91) rfl (ne_nil (e' := .blk b2 [sV y1.Who, u2.val] 91))).kept hw) rfl)) ?_; clear S; intro a S
         refine d_loud1 28 (by kernel_rfl) rfl (l_want S rfl rfl rfl hb9 (l_enter S (fun _ => run_call (vs := [v3, sV y1.Who]) ⟨(S.tm rfl), (S.tm rfl), trivial⟩ Tryz.call48) (slices_Contains_string_ok _ v3 x6 (own_slcT enc_str S (i := 2) rfl (ne_nil (e' := .own v3 9 1 x6.length (x6.flatMap eStr)))) y1.Who _ rfl) rfl ?_)); clear S; intro v13 a w26 hv8 hk20 hn8 S
         subst hv8
         refine l_done (d_next hk20 (d_rest [29] hsel (by kernel_rfl) rfl ?_))
         clear hsel
         refine s_lv S rfl (rn_pick_c hb9 (S.tm rfl) (S.tm rfl)) rfl ?_; clear S; intro a S
         refine s_done ?_
         replace S := S.nk [.blk b2 [sV y1.Who, u2.val] 91, .blk b_p_c [v_p_c_l, iV p_c_bound, v3, v4, iV x4, bV x5] 94, .own v3 9 1 x6.length (x6.flatMap eStr), .own v4 9 1 x7.length (x7.flatMap eStr)] [(0, .pointer (some ⟨b_p_c, 0, none⟩)), (1, iV p_guests), (2, iV p_sum), (6, iV (p_c_now.length : Int)), (8, .pointer (some ⟨b2, 0, none⟩)), (9, iV x12), (48, v_p_c_l), (49, iV (p_c_l.length : Int)), (50, iV (i1 : Int)), (67, .pointer (some ⟨b_p_c, 0, none⟩)), (68, .pointer (some ⟨b_p_c, 0, none⟩)), (69, .pointer (some ⟨b_p_c, 1, none⟩)), (70, iV p_c_bound), (71, bV (decide (0 < p_c_bound))), (72, bV (decide (0 < p_c_bound))), (79, bV false), (82, .pointer (some ⟨b_p_c, 0, none⟩)), (83, .pointer (some ⟨b_p_c, 0, none⟩)), (84, .pointer (some ⟨b_p_c, 2, none⟩)), (85, v3), (86, .pointer (some ⟨b2, 0, none⟩)), (87, sV y1.Who), (88, bV (slices_Contains_string x6 y1.Who)), (89, bV (slices_Contains_string x6 y1.Who))] [true, true, true, true] rfl (subR rfl)
         refine then_n ?_
         exact ⟨(slices_Contains_string x6 y1.Who), h, S.nf [true, true, true, true] rfl (subR rfl)⟩
     clear S h; rintro a w14 ⟨x13, h, S⟩; rw [hj5] at h; clear hj5 j5
     refine then_n (f_cond (S.tm rfl) (fun hb10 => ?_) (fun hb10 => ?_))
     ·replace h := iteT h hb10
      refine wp_exit (then_x (x_same (then_n ?_)))
      exact ⟨x4, x5, x6, x7, v3, v4, h, S.nf [false, true, true, true] rfl (subR rfl)⟩
     ·replace h := iteF h hb10
      refine wp_skip (then_n (f_seq ?_))
      obtain ⟨hc5, h⟩ := chkE h
      refine d_region [11] (v3.ownBlock.toList) Tryz.mixed S rfl (by kernel_rfl) ?_; clear S; intro w30 hk24 hsel S
      refine d_pure 0 S hsel rfl rfl (by kernel_rfl) (by kernel_rfl) rfl (fun _ => (rn_move (S.tm rfl))) ?_; clear S; intro a S
      refine d_pure 1 S hsel rfl rfl (by kernel_rfl) (by kernel_rfl) rfl (fun _ => (rn_move (S.tm rfl))) ?_; clear S; intro a S
      refine d_pure 2 S hsel rfl rfl (by kernel_rfl) (by kernel_rfl) rfl (fun _ => (rn_nilCheck (S.tm rfl))) ?_; clear S; intro a S
      refine d_pure 3 S hsel rfl rfl (by kernel_rfl) (by kernel_rfl) rfl (fun _ => (rn_fld fa_94_2 (S.tm rfl))) ?_; clear S; intro a S
      refine d_quiet 4 S hsel rfl (by kernel_rfl) (by kernel_rfl) (by kernel_rfl) (by kernel_rfl) rfl (fun _ hw => (rn_ld Tryz.isAgg35 (off := 0) (o := 2) (S.tm rfl) ((S.blk_mem (i := 1) (cells := [v_p_c_l, iV p_c_bound, v3, v4, iV x4, bV x5]) (b := b_p_c) (T := 94) rfl (ne_fp (i := 2) (j := 1) (e := .own v3 9 1 x6.length (x6.flatMap eStr)) (e' := .blk b_p_c [v_p_c_l, iV p_c_bound, v3, v4, iV x4, bV x5] 94) S rfl rfl rfl)).kept hw) rfl)) ?_; clear S; intro a S
      refine d_pure 5 S hsel rfl rfl (by kernel_rfl) (by kernel_rfl) rfl (fun _ => (rn_fld fa_91_0 (S.tm rfl))) ?_; clear S; intro a S
      refine d_quiet 6 S hsel rfl (by kernel_rfl) (by kernel_rfl) (by kernel_rfl) (by kernel_rfl) rfl (fun _ hw => (rn_ld Tryz.isAgg9 (off := 0) (o := 0) (S.tm rfl) ((S.blk_mem (i := 0) (cells := [sV y1.Who, u2.val]) (b := b2) (T := 91) rfl (ne_fp (i := 2) (j := 0) (e := .own v3 9 1 x6.length (x6.flatMap eStr)) (e' := .blk b2 [sV y1.Who, u2.val] 91) S rfl rfl rfl)).kept hw) rfl)) ?_; clear S; intro a S
      refine d_loud1 7 (by kernel_rfl) rfl (l_buildSlice S Tryz.underlying35 Tryz.sizeOf9 Tryz.zeroValue9 rfl rfl (pv := [(0, sV y1.Who)]) ⟨rfl, (S.tm rfl), trivial⟩ (cs := [sV y1.Who]) (by kernel_rfl) rfl ?_); clear S; intro a w31 b18 hz4 hk25 S
      refine l_done (d_next (Keep.none hk25) (d_loud1 8 (by kernel_rfl) rfl ?_))
      refine l_appendT sl_35 enc_str S (S.tm rfl) (i := 3) rfl (S.tm rfl) (j := 0) rfl (ys := [y1.Who]) rfl rfl rfl rfl (by have := room_lt hc5; omega) rfl ?_; clear S; intro v15 a w32 hk26 S
      refine l_done (d_next hk26 (d_pure 9 S hsel rfl rfl (by kernel_rfl) (by kernel_rfl) rfl (fun _ => (rn_nilCheck (S.tm rfl))) ?_)); clear S; intro a S
      refine d_pure 10 S hsel rfl rfl (by kernel_rfl) (by kernel_rfl) rfl (fun _ => (rn_fld fa_94_2 (S.tm rfl))) ?_; clear S; intro a S
      refine d_loudB 11 (v15.ownBlock.toList ++ [b_p_c]) rfl (by kernel_rfl) rfl (l_store S (S.tm rfl) (S.tm rfl) (i := 2) (off := 2) rfl Tryz.sizeOf35 (vs := [v15]) (SlcLen.cells (own_len (S.own_at (i := 3) rfl))) rfl rfl (all1 (SlcLen.one (own_len (S.own_at (i := 3) rfl))) rfl) ?_); clear S; intro w33 hk27 S
      refine l_done (d_nextB (d_end (by kernel_rfl) ?_))
      clear hsel
      replace S := S.nk [.blk b2 [sV y1.Who, u2.val] 91, .blk b_p_c [v_p_c_l, iV p_c_bound, v15, v4, iV x4, bV x5] 94, .own v15 9 1 (x6 ++ [y1.Who]).length ((x6 ++ [y1.Who]).flatMap eStr), .own v4 9 1 x7.length (x7.flatMap eStr)] [(0, .pointer (some ⟨b_p_c, 0, none⟩)), (1, iV p_guests), (2, iV p_sum), (6, iV (p_c_now.length : Int)), (8, .pointer (some ⟨b2, 0, none⟩)), (9, iV x12), (48, v_p_c_l), (49, iV (p_c_l.length : Int)), (50, iV (i1 : Int))] [false, true, true, true, true] rfl (subR rfl)
      refine then_n (f_seq (f_region (lv S (rn_move (S.tm rfl)) rfl ?_))); clear S; intro a S
      refine lv S (rn_move (S.tm rfl)) rfl ?_; clear S; intro a S
      refine lv S (rn_move (S.tm rfl)) rfl ?_; clear S; intro a S
      refine lv S (rn_fld fa_91_1 (S.tm rfl)) rfl ?_; clear S; intro a S
      refine lv S (rn_load Tryz.isAgg22 (S.tm rfl) (S.cell (i := 0) rfl rfl)) rfl ?_; clear S; intro a S
      refine lv S (rn_move (S.tm rfl)) rfl ?_; clear S; intro a S
      obtain ⟨hc6, h⟩ := chkE h
      obtain ⟨b19, o16, hm16, hr18⟩ := rn_indexT (a := a) (x := .tmp 105) (y := .tmp 106) (ty := 0) sl_22 hs1 (inB_get hc6).1 (inB_get hc6).2 (S.tm rfl) (S.tm rfl)
      refine lv S (hr18 _) rfl ?_; clear S; intro a S
      clear hr18
      refine lv S (rn_ld Tryz.isAgg3 (off := o16) (o := 0) (S.tm rfl) (hm16.at S.emb0) rfl) rfl ?_; clear S; intro a S
      refine lv S (rn_add (S.tm rfl) (S.tm rfl)) rfl ?_; clear S; intro a S
      obtain ⟨r4, hr19, h⟩ := bindE h
      refine l_enterG [1, 2, 3] [0] (Ls := [.blk b_p_c [v_p_c_l, iV p_c_bound, v15, v4, iV x4, bV x5] 94, .own v15 9 1 (x6 ++ [y1.Who]).length ((x6 ++ [y1.Who]).flatMap eStr), .own v4 9 1 x7.length (x7.flatMap eStr)]) (Lr := [.blk b2 [sV y1.Who, u2.val] 91]) (Y := [b_p_c] ++ (v15.ownBlock.toList ++ v4.ownBlock.toList)) S rfl rfl rfl (by simp [fps_cons, fps_nil, LEnt.fp]) (fun _ => run_call (vs := [.pointer (some ⟨b_p_c, 0, none⟩), iV x12, iV (W (p_sum + (nth y1.Times (p_c_now.length : Int))))]) ⟨(S.tm rfl), (S.tm rfl), (S.tm rfl), trivial⟩ Tryz.call54) (hself _ ([b_p_c] ++ (v15.ownBlock.toList ++ v4.ownBlock.toList)) b_p_c v_p_c_l p_c_l rs_p_c_l (hs_p_c_l.mono (S.le_arg (app_sub (fp_sub (i := 1) (e := .blk b_p_c [v_p_c_l, iV p_c_bound, v15, v4, iV x4, bV x5] 94) rfl) (app_sub (fp_sub (i := 2) (e := .own v15 9 1 (x6 ++ [y1.Who]).length ((x6 ++ [y1.Who]).flatMap eStr)) rfl) (fp_sub (i := 3) (e := .own v4 9 1 x7.length (x7.flatMap eStr)) rfl))))) (rels_91 (S.le_arg (app_sub (fp_sub (i := 1) (e := .blk b_p_c [v_p_c_l, iV p_c_bound, v15, v4, iV x4, bV x5] 94) rfl) (app_sub (fp_sub (i := 2) (e := .own v15 9 1 (x6 ++ [y1.Who]).length ((x6 ++ [y1.Who]).flatMap eStr)) rfl) (fp_sub (i := 3) (e := .own v4 9 1 x7.length (x7.flatMap eStr)) rfl)))) hr_p_c_l) p_c_bound v15 (x6 ++ [y1.Who]) (S.holds _ (List.mem_of_getElem? (i := 2) rfl)) v4 x7 (S.holds _ (List.mem_of_getElem? (i := 3) rfl)) x4 x5 (S.holds _ (List.mem_of_getElem? (i := 1) rfl)) x12 (W (p_sum + (nth y1.Times (p_c_now.length : Int)))) (S.ndg [1, 2, 3] [0] rfl rfl rfl (by simp [fps_cons, fps_nil, LEnt.fp])) (by simp [fps_cons, fps_nil, LEnt.fp]) _ hr19) rfl ?_; clear S; intro v16 a w34 hv9 hk28 hn9 S
      obtain ⟨v17, v18, hg2, hv9⟩ := hv9; replace S := S _ hg2; clear hg2
      subst hv9
      refine l_done ?_
      replace S := S.nk [.blk b_p_c [v_p_c_l, iV p_c_bound, v17, v18, iV r4.2.2.1, bV r4.2.2.2] 94, .own v17 9 1 r4.1.length (r4.1.flatMap eStr), .own v18 9 1 r4.2.1.length (r4.2.1.flatMap eStr)] [(0, .pointer (some ⟨b_p_c, 0, none⟩)), (1, iV p_guests), (2, iV p_sum), (6, iV (p_c_now.length : Int)), (48, v_p_c_l), (49, iV (p_c_l.length : Int)), (50, iV (i1 : Int))] [true, true, true, false] rfl (subR rfl)
      refine then_n (f_region (lv S (rn_move (S.tm rfl)) rfl ?_)); clear S; intro a S
      refine lv S (rn_move (S.tm rfl)) rfl ?_; clear S; intro a S
      refine lv S (rn_nilCheck (S.tm rfl)) rfl ?_; clear S; intro a S
      refine lv S (rn_fld fa_94_2 (S.tm rfl)) rfl ?_; clear S; intro a S
      refine lv S (rn_load Tryz.isAgg35 (S.tm rfl) (S.cell (i := 0) rfl rfl)) rfl ?_; clear S; intro a S
      refine lv S (rn_move (S.tm rfl)) rfl ?_; clear S; intro a S
      obtain ⟨hc7, h⟩ := chkE h
      obtain ⟨u3, hu1, hr20⟩ := rn_subh (a := a) (x := .tmp 115) (y' := .tmp 116) (ty := 35) sl_35 S (i := 1) rfl (S.tm rfl) (S.tm rfl) hc7
      refine lv S (hr20 _) rfl ?_; clear S; intro a S
      clear hr20
      obtain ⟨S, hz5⟩ := S.ownCut (zh := (p_c_now.length : Int)) enc_str (i := 1) rfl hu1
      refine lv S (rn_nilCheck (S.tm rfl)) rfl ?_; clear S; intro a S
      refine lv S (rn_fld fa_94_2 (S.tm rfl)) rfl ?_; clear S; intro a S
      refine l_store S (S.tm rfl) (S.tm rfl) (i := 0) (off := 2) rfl Tryz.sizeOf35 (vs := [u3]) (SlcLen.cells (own_len (S.own_at (i := 1) rfl))) rfl rfl (all1 (SlcLen.one (own_len (S.own_at (i := 1) rfl))) rfl) ?_; clear S; intro w35 hk29 S
      refine l_done ?_
      replace S := S.nk [.blk b_p_c [v_p_c_l, iV p_c_bound, u3, v18, iV r4.2.2.1, bV r4.2.2.2] 94, .own u3 9 1 (cut r4.1 (0 : Int) (p_c_now.length : Int)).length ((cut r4.1 (0 : Int) (p_c_now.length : Int)).flatMap eStr), .own v18 9 1 r4.2.1.length (r4.2.1.flatMap eStr)] [(0, .pointer (some ⟨b_p_c, 0, none⟩)), (1, iV p_guests), (2, iV p_sum), (6, iV (p_c_now.length : Int)), (48, v_p_c_l), (49, iV (p_c_l.length : Int)), (50, iV (i1 : Int))] [true, true, true] rfl (subR rfl)
      refine blk_n (then_n ?_)
      exact ⟨r4.2.2.1, r4.2.2.2, (cut r4.1 (0 : Int) (p_c_now.length : Int)), r4.2.1, u3, v18, h, S.nf [true, true, true] rfl (subR rfl)⟩
    clear S h; rintro a w9 ⟨x8, x9, x10, x11, v5, v6, h, S⟩; rw [hj3] at h; clear hj3 j3
    refine then_n (f_region (lv S (rn_add (S.tm rfl) rfl) rfl ?_)); clear S; intro a S
    refine lv S (rn_move (S.tm rfl)) rfl ?_; clear S; intro a S
    refine l_done (then_n ?_)
    exact ⟨ys1, ⟨i1 + 1, x8, x9, x10, x11, v5, v6, ⟨_, (hd1).trans (List.append_cons _ _ _), by simp [hi1]⟩, h, S.nf [true, true, true] rfl ⟨rfl, rfl, rfl, rfl, rfl, rfl, (congrArg (fun z => some (Value.int .i64 z)) (rng_next hd1 hi1 (slc_maxD hs_p_c_l hr_p_c_l))), trivial⟩⟩, Nat.lt_succ_self _⟩
  clear S h; rintro a w8 ⟨x4, x5, x6, x7, v3, v4, h, S⟩; rw [hj2] at h; clear hj2 j2
  obtain rfl := Option.some.inj h
  exact f_ret0 S Tryz.results54 ⟨v3, v4, S.grp [0, 1, 2] [] rfl rfl rfl, rfl⟩
theorem crew_try_ok (m : Nat) : ∀ (w : World) (X : List Nat) (b_p_c : Nat) (v_p_c_l : Value) (p_c_l : List GLeg) (rs_p_c_l : List R91) (_ : Slc (view w X) 2 v_p_c_l (rs_p_c_l.map R91.enc)) (_ : All2 (rel_91 (view w X)) p_c_l rs_p_c_l) (p_c_bound : Int) (v_p_c_now : Value) (p_c_now : List ByteArray) (_ : (LEnt.own v_p_c_now 9 1 p_c_now.length (p_c_now.flatMap eStr)).holds w) (v_p_c_names : Value) (p_c_names : List ByteArray) (_ : (LEnt.own v_p_c_names 9 1 p_c_names.length (p_c_names.flatMap eStr)).holds w) (p_c_sum : Int) (p_c_found : Bool) (_ : (LEnt.blk b_p_c [v_p_c_l, iV p_c_bound, v_p_c_now, v_p_c_names, iV p_c_sum, bV p_c_found] 94).holds w) (p_guests : Int) (p_sum : Int) (_ : X.Nodup) (_ : X = fps [.blk b_p_c [v_p_c_l, iV p_c_bound, v_p_c_now, v_p_c_names, iV p_c_sum, bV p_c_found] 94, .own v_p_c_now 9 1 p_c_now.length (p_c_now.flatMap eStr), .own v_p_c_names 9 1 p_c_names.length (p_c_names.flatMap eStr)]) (r : (List ByteArray) × (List ByteArray) × Int × Bool) (_ : crew_try m p_c_l p_c_bound p_c_now p_c_names p_c_sum p_c_found p_guests p_sum = some r),
    Calls Tryz.prog 54 [.pointer (some ⟨b_p_c, 0, none⟩), iV p_guests, iV p_sum].toArray w (Ret w X fun _ v w' => ∃ y1 y2 : Value, Grp w w' X [.blk b_p_c [v_p_c_l, iV p_c_bound, y1, y2, iV r.2.2.1, bV r.2.2.2] 94, .own y1 9 1 r.1.length (r.1.flatMap eStr), .own y2 9 1 r.2.1.length (r.2.1.flatMap eStr)] ∧ v = .tuple #[]) := by
  induction m with
  | zero => intros; rename_i h; rw [crew_try] at h; cases h
  | succ m ih => exact fun w X b_p_c v_p_c_l p_c_l rs_p_c_l hs_p_c_l hr_p_c_l p_c_bound v_p_c_now p_c_now hb_v_p_c_now v_p_c_names p_c_names hb_v_p_c_names p_c_sum p_c_found hb_b_p_c p_guests p_sum hXn hXe r h => crew_try_s_ok (crew_try m) ih w X b_p_c v_p_c_l p_c_l rs_p_c_l hs_p_c_l hr_p_c_l p_c_bound v_p_c_now p_c_now hb_v_p_c_now v_p_c_names p_c_names hb_v_p_c_names p_c_sum p_c_found hb_b_p_c p_guests p_sum hXn hXe r h
set_option maxRecDepth 20000 in
theorem swimmer_Fastest_ok (w : World) (v_p_l : Value) (p_l : List GLeg) (rs_p_l : List R91) (hs_p_l : Slc (view w []) 2 v_p_l (rs_p_l.map R91.enc)) (hr_p_l : All2 (rel_91 (view w [])) p_l rs_p_l) (p_b : Int) (r : (List ByteArray) × Int × Bool × Int) (h : swimmer_Fastest p_l p_b = some r) :
    Calls Tryz.prog 22 [v_p_l, iV p_b].toArray w (Ret w [] fun τ v _ => ∃ u1 : Value, v = .tuple #[u1, iV r.2.1, bV r.2.2.1, iV r.2.2.2] ∧ OwnV τ 9 1 u1 r.1.length (r.1.flatMap eStr)) := by
 refine f_enter [] [] Tryz.func22 rfl Tryz.ntmps22 rfl (by simp) (by simp [fps]) (by simp [fps]) fun a S => ?_
 unfold swimmer_Fastest at h
 replace S := S.nk [] [(0, v_p_l), (1, iV p_b)] [] rfl (subR rfl)
 refine f_seq (f_region (lv S (rn_assign rfl) rfl ?_)); clear S; intro a S
 iterate 3 (refine lv S (rn_assign rfl) rfl ?_; clear S; intro a S)
 refine l_done (then_n (f_seq (f_seq (f_region (lv S (rn_move (S.tm rfl)) rfl ?_))))); clear S; intro a S
 obtain ⟨r1, hr1, h⟩ := bindE h
 refine l_enter S (fun _ => run_call (vs := [v_p_l]) ⟨(S.tm rfl), trivial⟩ Tryz.call26) (swimmer_CheckLegs_ok _ v_p_l p_l rs_p_l (hs_p_l.mono (S.le_arg nil_sub)) (rels_91 (S.le_arg nil_sub) hr_p_l) _ hr1) rfl ?_; clear S; intro v1 a w1 hv1 hk1 hn1 S
 subst hv1
 refine lv S (rn_assign (S.tm rfl)) rfl ?_; clear S; intro a S
 refine l_done (then_n (f_seq (f_region (lv S (rn_move (S.tm rfl)) rfl ?_)))); clear S; intro a S
 refine lv S (rn_neq (S.tm rfl) rfl) rfl ?_; clear S; intro a S
 refine l_done (then_n (f_cond (S.tm rfl) (fun hb1 => ?_) (fun hb1 => ?_)))
 ·replace h := iteT h hb1
  refine f_seq (f_region (lv S (rn_move (S.tm rfl)) rfl ?_)); clear S; intro a S
  iterate 3 (refine lv S (rn_assign rfl) rfl ?_; clear S; intro a S)
  refine lv S (rn_assign (S.tm rfl)) rfl ?_; clear S; intro a S
  refine l_done (then_n (wp_ret (then_r ?_)))
  obtain rfl := Option.some.inj h
  exact f_ret4 S Tryz.results22 rfl rfl rfl rfl ⟨_, rfl, (ownV_nil _ _ _)⟩
 ·replace h := iteF h hb1
  refine wp_skip (then_n (f_seq (f_seq (f_region (lv S (rn_move (S.tm rfl)) rfl ?_))))); clear S; intro a S
  refine l_enter S (fun _ => run_call (vs := [iV p_b, iV 0, iV 4]) ⟨(S.tm rfl), rfl, rfl, trivial⟩ Tryz.call41) (words_Within_ok _ p_b 0 4 _ rfl) rfl ?_; clear S; intro v2 a w2 hv2 hk2 hn2 S
  subst hv2
  refine lv S (rn_not (S.tm rfl)) rfl ?_; clear S; intro a S
  refine l_done (then_n (f_cond (S.tm rfl) (fun hb2 => ?_) (fun hb2 => ?_)))
  ·replace h := iteT h hb2
   refine f_seq (f_region (lv S (rn_assign rfl) rfl ?_)); clear S; intro a S
   iterate 3 (refine lv S (rn_assign rfl) rfl ?_; clear S; intro a S)
   refine l_done (then_n (wp_ret (then_r ?_)))
   obtain rfl := Option.some.inj h
   exact f_ret4 S Tryz.results22 rfl rfl rfl rfl ⟨_, rfl, (ownV_nil _ _ _)⟩
  ·replace h := iteF h hb2
   refine wp_skip (then_n (f_seq (f_region (lv S (rn_move (S.tm rfl)) rfl ?_)))); clear S; intro a S
   refine lv S (rn_move (S.tm rfl)) rfl ?_; clear S; intro a S
   refine lv S (rn_bld bt_94 (pv := [(0, v_p_l), (1, iV p_b)]) ⟨rfl, (S.tm rfl), rfl, (S.tm rfl), trivial⟩ (cs := [v_p_l, iV p_b, .slice none 0 0, .slice none 0 0, iV 0, bV false]) (by obtain ⟨_, _, hv⟩ := (slc_lenD hs_p_l hr_p_l); rw [hv]; clear hv; kernel_rfl)) rfl ?_; clear S; intro a S
   refine l_box S (S.tm rfl) (cs := [v_p_l, iV p_b, .slice none 0 0, .slice none 0 0, iV 0, bV false]) rfl rfl ?_; clear S; intro a w3 b1 hz1 hk3 S
   refine lv S (rn_assign (S.tm rfl)) rfl ?_; clear S; intro a S
   refine l_done ?_
   replace S := S.nk [.blk b1 [v_p_l, iV p_b, .slice none 0 0, .slice none 0 0, iV 0, bV false] 94] [(9, .pointer (some ⟨b1, 0, none⟩))] [true] rfl ⟨rfl, trivial⟩
   refine then_n (f_seq (f_region (lv S (rn_move (S.tm rfl)) rfl ?_))); clear S; intro a S
   replace S := S.nil 9 1
   replace S := S.nil 9 1
   obtain ⟨r2, hr2, h⟩ := bindE h
   refine l_enterG [2, 1, 0] [] (Ls := [.blk b1 [v_p_l, iV p_b, (.slice none 0 0), (.slice none 0 0), iV 0, bV false] 94, .own (.slice none 0 0) 9 1 ([] : List ByteArray).length (([] : List ByteArray).flatMap eStr), .own (.slice none 0 0) 9 1 ([] : List ByteArray).length (([] : List ByteArray).flatMap eStr)]) (Lr := []) (Y := [b1] ++ ((Value.ownBlock (.slice none 0 0)).toList ++ (Value.ownBlock (.slice none 0 0)).toList)) S rfl rfl rfl (by simp [fps_cons, fps_nil, LEnt.fp]) (fun _ => run_call (vs := [.pointer (some ⟨b1, 0, none⟩), iV 0, iV 0]) ⟨(S.tm rfl), rfl, rfl, trivial⟩ Tryz.call54) (crew_try_ok 16 _ ([b1] ++ ((Value.ownBlock (.slice none 0 0)).toList ++ (Value.ownBlock (.slice none 0 0)).toList)) b1 v_p_l p_l rs_p_l (hs_p_l.mono (S.le_arg (app_sub (fp_sub (i := 2) (e := .blk b1 [v_p_l, iV p_b, (.slice none 0 0), (.slice none 0 0), iV 0, bV false] 94) rfl) (app_sub (fp_sub (i := 1) (e := .own (.slice none 0 0) 9 1 ([] : List ByteArray).length (([] : List ByteArray).flatMap eStr)) rfl) (fp_sub (i := 0) (e := .own (.slice none 0 0) 9 1 ([] : List ByteArray).length (([] : List ByteArray).flatMap eStr)) rfl))))) (rels_91 (S.le_arg (app_sub (fp_sub (i := 2) (e := .blk b1 [v_p_l, iV p_b, (.slice none 0 0), (.slice none 0 0), iV 0, bV false] 94) rfl) (app_sub (fp_sub (i := 1) (e := .own (.slice none 0 0) 9 1 ([] : List ByteArray).length (([] : List ByteArray).flatMap eStr)) rfl) (fp_sub (i := 0) (e := .own (.slice none 0 0) 9 1 ([] : List ByteArray).length (([] : List ByteArray).flatMap eStr)) rfl)))) hr_p_l) p_b (.slice none 0 0) ([] : List ByteArray) (S.holds _ (List.mem_of_getElem? (i := 1) rfl)) (.slice none 0 0) ([] : List ByteArray) (S.holds _ (List.mem_of_getElem? (i := 0) rfl)) 0 false (S.holds _ (List.mem_of_getElem? (i := 2) rfl)) 0 0 (S.ndg [2, 1, 0] [] rfl rfl rfl (by simp [fps_cons, fps_nil, LEnt.fp])) (by simp [fps_cons, fps_nil, LEnt.fp]) _ hr2) rfl ?_; clear S; intro v3 a w4 hv3 hk4 hn3 S
   obtain ⟨v4, v5, hg1, hv3⟩ := hv3; replace S := S _ hg1; clear hg1
   subst hv3
   refine l_done (then_n (f_seq (d_region [] ([]) Tryz.mixed S rfl (by kernel_rfl) ?_))); clear S; intro w5 hk5 hsel S
   refine d_rest [0, 1, 2, 3, 4, 5, 6, 7, 8, 9, 10, 11, 12, 13, 14, 15] hsel (by kernel_rfl) rfl ?_
   clear hsel
   refine s_lv S rfl (rn_move (S.tm rfl)) rfl ?_; clear S; intro a S
   refine s_lv S rfl (rn_nilCheck (S.tm rfl)) rfl ?_; clear S; intro a S
   refine s_lv S rfl (rn_fld fa_94_3 (S.tm rfl)) rfl ?_; clear S; intro a S
   refine s_lv S rfl (rn_load Tryz.isAgg35 (S.tm rfl) (S.cell (i := 0) rfl rfl)) rfl ?_; clear S; intro a S
   refine s_lv S rfl (rn_move (S.tm rfl)) rfl ?_; clear S; intro a S
   refine s_lv S rfl (rn_nilCheck (S.tm rfl)) rfl ?_; clear S; intro a S
   refine s_lv S rfl (rn_fld fa_94_4 (S.tm rfl)) rfl ?_; clear S; intro a S
   refine s_lv S rfl (rn_load Tryz.isAgg3 (S.tm rfl) (S.cell (i := 0) rfl rfl)) rfl ?_; clear S; intro a S
   refine s_lv S rfl (rn_move (S.tm rfl)) rfl ?_; clear S; intro a S
   refine s_lv S rfl (rn_nilCheck (S.tm rfl)) rfl ?_; clear S; intro a S
   refine s_lv S rfl (rn_fld fa_94_5 (S.tm rfl)) rfl ?_; clear S; intro a S
   refine s_lv S rfl (rn_load Tryz.isAgg4 (S.tm rfl) (S.cell (i := 0) rfl rfl)) rfl ?_; clear S; intro a S
   iterate 3 (refine s_lv S rfl (rn_assign (S.tm rfl)) rfl ?_; clear S; intro a S)
   refine s_lv S rfl (rn_assign rfl) rfl ?_; clear S; intro a S
   refine s_done ?_
   replace S := S.nk [.own v5 9 1 r2.2.1.length (r2.2.1.flatMap eStr)] [(4, v5), (5, iV r2.2.2.1), (6, bV r2.2.2.2), (7, iV 0)] [false, false, true] rfl (subR rfl)
   refine then_n (wp_ret ?_)
   obtain rfl := Option.some.inj h
   exact f_ret4 S Tryz.results22 rfl rfl rfl rfl ⟨_, rfl, (own_retT S (i := 0) rfl rfl)⟩
theorem tumbref2_LegsFault_c1_ok (w : World) (p_t : Int) (r : Bool) (h : tumbref2_LegsFault_c1 p_t = r) :
    Calls Tryz.prog 56 [iV p_t].toArray w (Ret w [] fun _ v _ => v = bV r) := by
 refine f_enter [] [] Tryz.func56 rfl Tryz.ntmps56 rfl (by simp) (by simp [fps]) (by simp [fps]) fun a S => ?_
 unfold tumbref2_LegsFault_c1 at h
 replace S := S.nk [] [(0, iV p_t)] [] rfl ⟨rfl, trivial⟩
 refine f_seq (f_region (lv S (rn_assign rfl) rfl ?_)); clear S; intro a S
 refine l_done (then_n (f_seq (f_region (lv S (rn_move (S.tm rfl)) rfl ?_)))); clear S; intro a S
 refine l_enter S (fun _ => run_call (vs := [iV p_t, iV 0, iV 360000]) ⟨(S.tm rfl), rfl, rfl, trivial⟩ Tryz.call45) (tumbref2_in_ok _ p_t 0 360000 _ rfl) rfl ?_; clear S; intro v1 a w1 hv1 hk1 hn1 S
 subst hv1
 refine lv S (rn_not (S.tm rfl)) rfl ?_; clear S; intro a S
 refine lv S (rn_assign (S.tm rfl)) rfl ?_; clear S; intro a S
 refine l_done (then_n (wp_ret ?_))
 subst h
 exact f_ret S Tryz.results56 rfl rfl
theorem slices_IndexFunc_int_tumbref2_LegsFault_c1_ok (w : World) (v_p_s : Value) (p_s : List Int) (hs_p_s : Slc (view w []) 1 v_p_s (p_s.map eInt)) (r : Int) (h : slices_IndexFunc_int_tumbref2_LegsFault_c1 p_s = r) :
    Calls Tryz.prog 84 [v_p_s, .func (.func 56) #[] #[]].toArray w (Ret w [] fun _ v _ => v = iV r) := by
 refine f_enter [] [] Tryz.func84 rfl Tryz.ntmps84 rfl (by simp) (by simp [fps]) (by simp [fps]) fun a S => ?_
 unfold slices_IndexFunc_int_tumbref2_LegsFault_c1 at h
 replace S := S.nk [] [(0, v_p_s), (1, .func (.func 56) #[] #[])] [] rfl (subR rfl)
 refine f_seq (f_region (lv S (rn_assign rfl) rfl ?_)); clear S; intro a S
 refine l_done (then_n (f_seq (f_seq (f_region (lv S (rn_move (S.tm rfl)) rfl ?_))))); clear S; intro a S
 refine lv S (rn_lenT sl_22 (S.tm rfl) (slc_len hs_p_s)) rfl ?_; clear S; intro a S
 refine lv S (rn_move rfl) rfl ?_; clear S; intro a S
 refine l_done (then_n ?_)
 replace S := S.nk [] [(0, v_p_s), (1, .func (.func 56) #[] #[]), (7, iV (p_s.length : Int)), (8, iV 0)] [] rfl (subR rfl)
 obtain ⟨j1, hj1, h⟩ := joinE h
 refine f_join (fun a w' => j1 = r ∧ Sx w [] nov [] [] 19 a w') ?_ ?_
 ·refine wp_block (f_loop (fun (ys1 : List Int) a w' => ∃ i1 : Nat, (∃ dn, p_s = dn ++ ys1 ∧ dn.length = i1) ∧ slices_IndexFunc_int_tumbref2_LegsFault_c1_l1 j1 ys1 i1 = r ∧ Sx w [] nov [] [(0, v_p_s), (1, .func (.func 56) #[] #[]), (7, iV (p_s.length : Int)), (8, iV (i1 : Int))] 19 a w') List.length p_s ⟨0, ⟨[], rfl, rfl⟩, h, S.nf [] rfl (subR rfl)⟩ ?_)
  clear S h; rintro ys1 a w1 ⟨i1, ⟨dn, hd1, hi1⟩, h, S⟩
  cases ys1 with
  | nil =>
   rw [slices_IndexFunc_int_tumbref2_LegsFault_c1_l1.eq_1] at h
   refine f_seq (f_region (lv S (rn_lss (S.tm rfl) (S.tm rfl)) rfl ?_)); clear S; intro a S
   refine l_done ?_
   replace S := S.nk [] [(0, v_p_s), (1, .func (.func 56) #[] #[]), (7, iV (p_s.length : Int)), (8, iV (i1 : Int)), (9, bV (decide ((i1 : Int) < (p_s.length : Int))))] [] rfl (subR rfl)
   refine then_n (f_seq (wp_cond_false ((S.tm rfl).trans (congrArg Value.bool (rng_nil hd1 hi1))) (wp_exit (then_x (then_x (x_same ?_))))))
   refine then_n ?_
   exact ⟨h, S.nf [] rfl trivial⟩
  | cons y1 ys1 =>
   rw [slices_IndexFunc_int_tumbref2_LegsFault_c1_l1.eq_2] at h
   refine f_seq (f_region (lv S (rn_lss (S.tm rfl) (S.tm rfl)) rfl ?_)); clear S; intro a S
   refine l_done ?_
   replace S := S.nk [] [(0, v_p_s), (1, .func (.func 56) #[] #[]), (7, iV (p_s.length : Int)), (8, iV (i1 : Int)), (9, bV (decide ((i1 : Int) < (p_s.length : Int))))] [] rfl (subR rfl)
   refine then_n (f_seq (wp_cond_true ((S.tm rfl).trans (congrArg Value.bool (rng_cons hd1 hi1))) (wp_skip (then_n (f_seq (wp_block ?_))))))
   refine f_seq (f_region (lv S (rn_move (S.tm rfl)) rfl ?_)); clear S; intro a S
   refine lv S (rn_assign (S.tm rfl)) rfl ?_; clear S; intro a S
   refine l_done (then_n (f_seq (f_region (lv S (rn_move (S.tm rfl)) rfl ?_)))); clear S; intro a S
   refine lv S (rn_move (S.tm rfl)) rfl ?_; clear S; intro a S
   refine lv S (rn_move (S.tm rfl)) rfl ?_; clear S; intro a S
   obtain ⟨b1, o1, hm1, hr1⟩ := rn_indexT (a := a) (x := .tmp 12) (y := .tmp 13) (ty := 0) sl_22 hs_p_s (get_mid hd1 hi1) rfl (S.tm rfl) (S.tm rfl)
   refine lv S (hr1 _) rfl ?_; clear S; intro a S
   clear hr1
   refine lv S (rn_ld Tryz.isAgg3 (off := o1) (o := 0) (S.tm rfl) (hm1.at S.emb0) rfl) rfl ?_; clear S; intro a S
   refine l_enter S (fun _ => run_callV (cap := []) (S.tm rfl) (vs := [iV y1]) ⟨(S.tm rfl), trivial⟩ Tryz.call56) (tumbref2_LegsFault_c1_ok _ y1 _ rfl) rfl ?_; clear S; intro v1 a w3 hv1 hk1 hn1 S
   subst hv1
   refine l_done (then_n (f_cond (S.tm rfl) (fun hb1 => ?_) (fun hb1 => ?_)))
   ·replace h := iteT h hb1
    refine f_seq (f_region (lv S (rn_move (S.tm rfl)) rfl ?_)); clear S; intro a S
    refine lv S (rn_assign (S.tm rfl)) rfl ?_; clear S; intro a S
    refine l_done ?_
    replace S := S.nk [] [(4, iV (i1 : Int))] [] rfl ⟨rfl, trivial⟩
    refine then_n (wp_ret (blk_r (then_r (then_r (blk_r (then_r ?_))))))
    refine then_r ?_
    subst h
    exact f_ret S Tryz.results84 rfl rfl
   ·replace h := iteF h hb1
    refine wp_skip (blk_n (then_n (f_region (lv S (rn_add (S.tm rfl) rfl) rfl ?_)))); clear S; intro a S
    refine lv S (rn_move (S.tm rfl)) rfl ?_; clear S; intro a S
    refine l_done (then_n ?_)
    exact ⟨ys1, ⟨i1 + 1, ⟨_, (hd1).trans (List.append_cons _ _ _), by simp [hi1]⟩, h, S.nf [] rfl ⟨rfl, rfl, rfl, (congrArg (fun z => some (Value.int .i64 z)) (rng_next hd1 hi1 (slc_max hs_p_s))), trivial⟩⟩, Nat.lt_succ_self _⟩
 clear S h; rintro a w2 ⟨h, S⟩; rw [hj1] at h; clear hj1 j1
 refine then_n (f_seq (f_region (lv S (rn_assign rfl) rfl ?_))); clear S; intro a S
 refine l_done (then_n (wp_ret ?_))
 subst h
 exact f_ret S Tryz.results84 rfl rfl
theorem slices_ContainsFunc_int_tumbref2_LegsFault_c1_ok (w : World) (v_p_s : Value) (p_s : List Int) (hs_p_s : Slc (view w []) 1 v_p_s (p_s.map eInt)) (r : Bool) (h : slices_ContainsFunc_int_tumbref2_LegsFault_c1 p_s = r) :
    Calls Tryz.prog 55 [v_p_s, .func (.func 56) #[] #[]].toArray w (Ret w [] fun _ v _ => v = bV r) := by
 refine f_enter [] [] Tryz.func55 rfl Tryz.ntmps55 rfl (by simp) (by simp [fps]) (by simp [fps]) fun a S => ?_
 unfold slices_ContainsFunc_int_tumbref2_LegsFault_c1 at h
 replace S := S.nk [] [(0, v_p_s), (1, .func (.func 56) #[] #[])] [] rfl (subR rfl)
 refine f_seq (f_region (lv S (rn_assign rfl) rfl ?_)); clear S; intro a S
 refine l_done (then_n (f_seq (f_region (lv S (rn_move (S.tm rfl)) rfl ?_)))); clear S; intro a S
 refine lv S (rn_move (S.tm rfl)) rfl ?_; clear S; intro a S
 refine l_enter S (fun _ => run_call (vs := [v_p_s, .func (.func 56) #[] #[]]) ⟨(S.tm rfl), (S.tm rfl), trivial⟩ Tryz.call84) (slices_IndexFunc_int_tumbref2_LegsFault_c1_ok _ v_p_s p_s (hs_p_s.mono (S.le_arg nil_sub)) _ rfl) rfl ?_; clear S; intro v1 a w1 hv1 hk1 hn1 S
 subst hv1
 refine lv S (rn_geq (S.tm rfl) rfl) rfl ?_; clear S; intro a S
 refine lv S (rn_assign (S.tm rfl)) rfl ?_; clear S; intro a S
 refine l_done (then_n (wp_ret ?_))
 subst h
 exact f_ret S Tryz.results55 rfl rfl
theorem tumbref2_LegsFault_ok (w : World) (v_p_l : Value) (p_l : List GLeg) (rs_p_l : List R91) (hs_p_l : Slc (view w []) 2 v_p_l (rs_p_l.map R91.enc)) (hr_p_l : All2 (rel_91 (view w [])) p_l rs_p_l) (r : Int) (h : tumbref2_LegsFault p_l = some r) :
    Calls Tryz.prog 23 [v_p_l].toArray w (Ret w [] fun _ v _ => v = iV r) := by
 refine f_enter [] [] Tryz.func23 rfl Tryz.ntmps23 rfl (by simp) (by simp [fps]) (by simp [fps]) fun a S => ?_
 unfold tumbref2_LegsFault at h
 replace S := S.nk [] [(0, v_p_l)] [] rfl ⟨rfl, trivial⟩
 refine f_seq (f_region (lv S (rn_assign rfl) rfl ?_)); clear S; intro a S
 refine l_done (then_n (f_seq (f_seq (f_region (lv S (rn_move (S.tm rfl)) rfl ?_))))); clear S; intro a S
 refine lv S (rn_lenT sl_54 (S.tm rfl) (slc_lenD hs_p_l hr_p_l)) rfl ?_; clear S; intro a S
 refine lv S (rn_gtr (S.tm rfl) rfl) rfl ?_; clear S; intro a S
 refine l_done (then_n (f_cond (S.tm rfl) (fun hb1 => ?_) (fun hb1 => ?_)))
 ·replace h := iteT h hb1
  refine f_seq (f_region (lv S (rn_assign rfl) rfl ?_)); clear S; intro a S
  refine l_done (then_n (wp_ret (then_r ?_)))
  obtain rfl := Option.some.inj h
  exact f_ret S Tryz.results23 rfl rfl
 ·replace h := iteF h hb1
  refine wp_skip (then_n (f_seq (f_region (lv S (rn_assign rfl) rfl ?_)))); clear S; intro a S
  refine l_done (then_n (f_seq (f_seq (f_region (lv S (rn_move (S.tm rfl)) rfl ?_))))); clear S; intro a S
  refine lv S (rn_lenT sl_54 (S.tm rfl) (slc_lenD hs_p_l hr_p_l)) rfl ?_; clear S; intro a S
  refine lv S (rn_move rfl) rfl ?_; clear S; intro a S
  refine l_done (then_n ?_)
  replace S := S.nk [] [(3, sV k_empty), (9, v_p_l), (10, iV (p_l.length : Int)), (11, iV 0)] [] rfl (subR rfl)
  obtain ⟨j1, hj1, h⟩ := joinE h
  refine f_join (fun a w' => j1 = some r ∧ Sx w [] nov [] [] 37 a w') ?_ ?_
  ·refine wp_block (f_loop (fun (ys1 : List GLeg) a w' => ∃ i1 : Nat, ∃ x1 : ByteArray, (∃ dn, p_l = dn ++ ys1 ∧ dn.length = i1) ∧ tumbref2_LegsFault_l1 j1 ys1 i1 x1 = some r ∧ Sx w [] nov [] [(3, sV x1), (9, v_p_l), (10, iV (p_l.length : Int)), (11, iV (i1 : Int))] 37 a w') List.length p_l ⟨0, k_empty, ⟨[], rfl, rfl⟩, h, S.nf [] rfl (subR rfl)⟩ ?_)
   clear S h; rintro ys1 a w1 ⟨i1, x1, ⟨dn, hd1, hi1⟩, h, S⟩
   cases ys1 with
   | nil =>
    rw [tumbref2_LegsFault_l1.eq_1] at h
    refine f_seq (f_region (lv S (rn_lss (S.tm rfl) (S.tm rfl)) rfl ?_)); clear S; intro a S
    refine l_done ?_
    replace S := S.nk [] [(3, sV x1), (9, v_p_l), (10, iV (p_l.length : Int)), (11, iV (i1 : Int)), (12, bV (decide ((i1 : Int) < (p_l.length : Int))))] [] rfl (subR rfl)
    refine then_n (f_seq (wp_cond_false ((S.tm rfl).trans (congrArg Value.bool (rng_nil hd1 hi1))) (wp_exit (then_x (then_x (x_same ?_))))))
    refine then_n ?_
    exact ⟨h, S.nf [] rfl trivial⟩
   | cons y1 ys1 =>
    rw [tumbref2_LegsFault_l1.eq_2] at h
    refine f_seq (f_region (lv S (rn_lss (S.tm rfl) (S.tm rfl)) rfl ?_)); clear S; intro a S
    refine l_done ?_
    replace S := S.nk [] [(3, sV x1), (9, v_p_l), (10, iV (p_l.length : Int)), (11, iV (i1 : Int)), (12, bV (decide ((i1 : Int) < (p_l.length : Int))))] [] rfl (subR rfl)
    refine then_n (f_seq (wp_cond_true ((S.tm rfl).trans (congrArg Value.bool (rng_cons hd1 hi1))) (wp_skip (then_n (f_seq (wp_block ?_))))))
    refine f_seq (f_region ?_)
    obtain ⟨r1, hg1, hl1⟩ := All2.at hr_p_l (get_mid hd1 hi1)
    obtain ⟨u1, rfl, hs1⟩ := hl1
    obtain ⟨b1, o1, hm1, hr1⟩ := rn_indexT (a := a) (x := .tmp 9) (y := .tmp 11) (ty := 0) sl_54 hs_p_l hg1 rfl (S.tm rfl) (S.tm rfl)
    refine lv S (hr1 _) rfl ?_; clear S; intro a S
    clear hr1
    refine lv S (rn_ldA Tryz.isAgg91 Tryz.sizeOf91 (off := o1) (o := 0) (part := [sV y1.Who, u1.val]) rfl rfl (S.tm rfl) (hm1.at S.emb0)) rfl ?_; clear S; intro a S
    refine l_alloc S Tryz.zeroValue91 (cs := [sV k_empty, .slice none 0 0]) rfl rfl ?_; clear S; intro a w3 b2 hz1 hk1 S
    refine l_store S (S.tm rfl) (S.tm rfl) (i := 0) (off := 0) rfl Tryz.sizeOf91 (vs := [sV y1.Who, u1.val]) rfl rfl rfl (all1 rfl (all1 (SlcLen.one (slc_len hs1)) rfl)) ?_; clear S; intro w4 hk2 S
    refine l_done (then_n (f_seq (wp_block (f_seq (f_region (lv S (rn_fld fa_91_0 (S.tm rfl)) rfl ?_)))))); clear S; intro a S
    refine lv S (rn_load Tryz.isAgg9 (S.tm rfl) (S.cell (i := 0) rfl rfl)) rfl ?_; clear S; intro a S
    obtain ⟨r2, hr2, h⟩ := bindE h
    refine l_enter S (fun _ => run_call (vs := [sV y1.Who]) ⟨(S.tm rfl), trivial⟩ Tryz.call44) (tumbref2_Key_ok _ y1.Who _ hr2) rfl ?_; clear S; intro v1 a w5 hv1 hk3 hn1 S
    subst hv1
    refine lv S (rn_not (S.tm rfl)) rfl ?_; clear S; intro a S
    refine lv S (rn_assign (S.tm rfl)) rfl ?_; clear S; intro a S
    refine l_done (then_n (f_cond (S.tm rfl) (fun hb2 => ?_) (fun hb2 => ?_)))
    ·replace h := iteT h hb2
     refine f_seq (f_region (lv S (rn_assign rfl) rfl ?_)); clear S; intro a S
     refine l_done (then_n (wp_ret (blk_r (then_r (blk_r (then_r ?_))))))
     refine then_r (blk_r (then_r (then_r ?_)))
     obtain rfl := Option.some.inj h
     exact f_ret S Tryz.results23 rfl rfl
    ·replace h := iteF h hb2
     refine f_seq (f_region (lv S (rn_fld fa_91_0 (S.tm rfl)) rfl ?_)); clear S; intro a S
     refine lv S (rn_load Tryz.isAgg9 (S.tm rfl) (S.cell (i := 0) rfl rfl)) rfl ?_; clear S; intro a S
     refine lv S (rn_move (S.tm rfl)) rfl ?_; clear S; intro a S
     refine lv S (rn_sleq (S.tm rfl) (S.tm rfl)) rfl ?_; clear S; intro a S
     refine lv S (rn_assign (S.tm rfl)) rfl ?_; clear S; intro a S
     refine l_done ?_
     replace S := S.nk [.blk b2 [sV y1.Who, u1.val] 91] [(5, .pointer (some ⟨b2, 0, none⟩)), (9, v_p_l), (10, iV (p_l.length : Int)), (11, iV (i1 : Int)), (20, bV (Sless y1.Who x1 || decide (y1.Who = x1)))] [true] rfl (subR rfl)
     refine then_n (f_cond (S.tm rfl) (fun hb3 => ?_) (fun hb3 => ?_))
     ·replace h := iteT h hb3
      refine f_seq (f_region (lv S (rn_assign rfl) rfl ?_)); clear S; intro a S
      refine l_done (then_n (wp_ret (blk_r (then_r (blk_r (then_r ?_))))))
      refine then_r (blk_r (then_r (then_r ?_)))
      obtain rfl := Option.some.inj h
      exact f_ret S Tryz.results23 rfl rfl
     ·replace h := iteF h hb3
      refine f_seq (f_region (lv S (rn_fld fa_91_1 (S.tm rfl)) rfl ?_)); clear S; intro a S
      refine lv S (rn_load Tryz.isAgg22 (S.tm rfl) (S.cell (i := 0) rfl rfl)) rfl ?_; clear S; intro a S
      refine lv S (rn_lenT sl_22 (S.tm rfl) (slc_len hs1)) rfl ?_; clear S; intro a S
      refine lv S (rn_neq (S.tm rfl) rfl) rfl ?_; clear S; intro a S
      refine lv S (rn_assign (S.tm rfl)) rfl ?_; clear S; intro a S
      refine l_done (then_n (f_cond (S.tm rfl) (fun hb4 => ?_) (fun hb4 => ?_)))
      ·replace h := iteT h hb4
       refine f_seq (f_region (lv S (rn_assign rfl) rfl ?_)); clear S; intro a S
       refine l_done (then_n (wp_ret (blk_r (then_r (blk_r (then_r ?_))))))
       refine then_r (blk_r (then_r (then_r ?_)))
       obtain rfl := Option.some.inj h
       exact f_ret S Tryz.results23 rfl rfl
      ·replace h := iteF h hb4
       refine f_seq (f_region (lv S (rn_fld fa_91_1 (S.tm rfl)) rfl ?_)); clear S; intro a S
       refine lv S (rn_load Tryz.isAgg22 (S.tm rfl) (S.cell (i := 0) rfl rfl)) rfl ?_; clear S; intro a S
       refine l_enter S (fun _ => run_call (vs := [u1.val, .func (.func 56) #[] #[]]) ⟨(S.tm rfl), rfl, trivial⟩ Tryz.call55) (slices_ContainsFunc_int_tumbref2_LegsFault_c1_ok _ u1.val y1.Times (hs1.mono (S.le_arg nil_sub)) _ rfl) rfl ?_; clear S; intro v2 a w6 hv2 hk4 hn2 S
       subst hv2
       refine lv S (rn_assign (S.tm rfl)) rfl ?_; clear S; intro a S
       refine l_done (then_n (f_cond (S.tm rfl) (fun hb5 => ?_) (fun hb5 => ?_)))
       ·replace h := iteT h hb5
        refine f_seq (f_region (lv S (rn_assign rfl) rfl ?_)); clear S; intro a S
        refine l_done ?_
        replace S := S.nk [] [(2, iV 1)] [false] rfl ⟨rfl, trivial⟩
        refine then_n (wp_ret (blk_r (then_r (blk_r (then_r (then_r ?_))))))
        refine blk_r (then_r (then_r ?_))
        obtain rfl := Option.some.inj h
        exact f_ret S Tryz.results23 rfl rfl
       ·replace h := iteF h hb5
        refine wp_skip (blk_n (then_n (f_region (lv S (rn_fld fa_91_0 (S.tm rfl)) rfl ?_)))); clear S; intro a S
        refine lv S (rn_load Tryz.isAgg9 (S.tm rfl) (S.cell (i := 0) rfl rfl)) rfl ?_; clear S; intro a S
        refine lv S (rn_assign (S.tm rfl)) rfl ?_; clear S; intro a S
        refine l_done ?_
        replace S := S.nk [] [(3, sV y1.Who), (9, v_p_l), (10, iV (p_l.length : Int)), (11, iV (i1 : Int))] [false] rfl (subR rfl)
        refine blk_n (then_n (f_region (lv S (rn_add (S.tm rfl) rfl) rfl ?_))); clear S; intro a S
        refine lv S (rn_move (S.tm rfl)) rfl ?_; clear S; intro a S
        refine l_done (then_n ?_)
        exact ⟨ys1, ⟨i1 + 1, y1.Who, ⟨_, (hd1).trans (List.append_cons _ _ _), by simp [hi1]⟩, h, S.nf [] rfl ⟨rfl, rfl, rfl, (congrArg (fun z => some (Value.int .i64 z)) (rng_next hd1 hi1 (slc_maxD hs_p_l hr_p_l))), trivial⟩⟩, Nat.lt_succ_self _⟩
  clear S h; rintro a w2 ⟨h, S⟩; rw [hj1] at h; clear hj1 j1
  refine then_n (f_seq (f_region (lv S (rn_assign rfl) rfl ?_))); clear S; intro a S
  refine l_done (then_n (wp_ret ?_))
  obtain rfl := Option.some.inj h
  exact f_ret S Tryz.results23 rfl rfl
theorem tumblaw2_when_ok (w : World) (p_is : Bool) (p_e : Int) (r : Int) (h : tumblaw2_when p_is p_e = r) :
    Calls Tryz.prog 24 [bV p_is, iV p_e].toArray w (Ret w [] fun _ v _ => v = iV r) := by
 refine f_enter [] [] Tryz.func24 rfl Tryz.ntmps24 rfl (by simp) (by simp [fps]) (by simp [fps]) fun a S => ?_
 unfold tumblaw2_when at h
 replace S := S.nk [] [(0, bV p_is), (1, iV p_e)] [] rfl (subR rfl)
 refine f_seq (f_region (lv S (rn_assign rfl) rfl ?_)); clear S; intro a S
 refine l_done (then_n (f_seq (f_seq (f_region (lv S (rn_move (S.tm rfl)) rfl ?_))))); clear S; intro a S
 refine l_done (then_n (f_cond (S.tm rfl) (fun hb1 => ?_) (fun hb1 => ?_)))
 ·replace h := iteT h hb1
  refine f_seq (f_region (lv S (rn_move (S.tm rfl)) rfl ?_)); clear S; intro a S
  refine lv S (rn_assign (S.tm rfl)) rfl ?_; clear S; intro a S
  refine l_done (then_n (wp_ret (then_r ?_)))
  subst h
  exact f_ret S Tryz.results24 rfl rfl
 ·replace h := iteF h hb1
  refine wp_skip (then_n (f_seq (f_region (lv S (rn_assign rfl) rfl ?_)))); clear S; intro a S
  refine l_done (then_n (wp_ret ?_))
  subst h
  exact f_ret S Tryz.results24 rfl rfl
theorem cmp_isNaN_string_ok (w : World) (p_x : ByteArray) (r : Bool) (h : cmp_isNaN_string p_x = r) :
    Calls Tryz.prog 106 [sV p_x].toArray w (Ret w [] fun _ v _ => v = bV r) := by
 refine f_enter [] [] Tryz.func106 rfl Tryz.ntmps106 rfl (by simp) (by simp [fps]) (by simp [fps]) fun a S => ?_
 unfold cmp_isNaN_string at h
 replace S := S.nk [] [(0, sV p_x)] [] rfl ⟨rfl, trivial⟩
 refine f_seq (f_region (lv S (rn_assign rfl) rfl ?_)); clear S; intro a S
 refine l_done (then_n (f_seq (f_region (lv S (rn_move (S.tm rfl)) rfl ?_)))); clear S; intro a S
 refine lv S (rn_move (S.tm rfl)) rfl ?_; clear S; intro a S
 refine lv S (rn_sneq (S.tm rfl) (S.tm rfl)) rfl ?_; clear S; intro a S
 refine lv S (rn_assign (S.tm rfl)) rfl ?_; clear S; intro a S
 refine l_done (then_n (wp_ret ?_))
 subst h
 exact f_ret S Tryz.results106 rfl rfl
end Go.Proofs.YtmngaaffadcccaaGreatDoor
