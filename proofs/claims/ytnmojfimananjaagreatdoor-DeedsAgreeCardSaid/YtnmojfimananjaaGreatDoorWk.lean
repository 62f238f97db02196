/- Each Go function computes its plain twin, by program. -/
import Derived.Test.YtnmojfimananjaaGreatDoorWk3
namespace Go.Proofs.YtnmojfimananjaaGreatDoor
open Go
theorem tumbkeep2_DeedsAgree_ok (w : World) (v_p_l : Value) (p_l : List Int) (hs_p_l : Slc (view w []) 1 v_p_l (p_l.map eInt)) (hg_maxlen : GlobI (view w []) 0) (hg_pow10 : Glob (view w []) 3 pow10Cells) (r : Bool) (h : tumbkeep2_DeedsAgree p_l = some r) :
    Calls Tryz.prog 3 [v_p_l].toArray w (Ret w [] fun _ v _ => v = bV r) := by
 refine f_enter [] [] Tryz.func3 rfl Tryz.ntmps3 rfl (by simp) (by simp [fps]) (by simp [fps]) fun a S => ?_
 unfold tumbkeep2_DeedsAgree at h
 replace S := S.nk [] [(0, v_p_l)] [] rfl ⟨rfl, trivial⟩
 refine f_seq (f_region (lv S (rn_assign rfl) rfl ?_)); clear S; intro a S
 refine l_done (then_n (f_seq (f_region (lv S (rn_move (S.tm rfl)) rfl ?_)))); clear S; intro a S
 refine lv S (rn_bld bt_25 (pv := [(0, v_p_l)]) ⟨rfl, (S.tm rfl), trivial⟩ (cs := [v_p_l, iV 0]) (by obtain ⟨_, _, hv⟩ := (slc_len hs_p_l); rw [hv]; clear hv; kernel_rfl)) rfl ?_; clear S; intro a S
 refine l_box S (S.tm rfl) (cs := [v_p_l, iV 0]) rfl rfl ?_; clear S; intro a w1 b1 hz1 hk1 S
 refine lv S (rn_assign (S.tm rfl)) rfl ?_; clear S; intro a S
 refine l_done (then_n (f_seq (f_region (lv S (rn_move (S.tm rfl)) rfl ?_)))); clear S; intro a S
 refine lv S (rn_move (S.tm rfl)) rfl ?_; clear S; intro a S
 obtain ⟨r1, hr1, h⟩ := bindE h
 refine l_enter1 0 S (b := b1) rfl rfl (fun _ => .blk b1 [v_p_l, iV r1.2] 25) (fun _ => run_call (vs := [.pointer (some ⟨b1, 0, none⟩), iV 0, iV 12]) ⟨(S.tm rfl), rfl, rfl, trivial⟩ Tryz.call5) (Stream_Range_ok _ b1 v_p_l p_l (hs_p_l.mono (S.le_arg (fp_sub (i := 0) (e := .blk b1 [v_p_l, iV 0] 25) rfl))) 0 (S.holds _ (List.mem_of_getElem? (i := 0) rfl)) 0 12 _ hr1) rfl (fun _ _ _ h => ⟨h.1, fun _ hc => by cases hc; rfl⟩) ?_; clear S; intro v1 a w2 hv1 hk2 hn1 S
 replace hv1 := hv1.2
 subst hv1
 obtain ⟨r2, hr2, h⟩ := bindE h
 have hz2 := S.keep.size
 refine l_enter1 0 S (b := b1) rfl rfl (fun _ => .blk b1 [v_p_l, iV r2.2] 25) (fun _ => run_call (vs := [.pointer (some ⟨b1, 0, none⟩), iV r1.1]) ⟨(S.tm rfl), (S.tm rfl), trivial⟩ Tryz.call4) (Stream_RightDeeds_ok _ b1 v_p_l p_l (hs_p_l.mono (S.le_arg (fp_sub (i := 0) (e := .blk b1 [v_p_l, iV r1.2] 25) rfl))) r1.2 (S.holds _ (List.mem_of_getElem? (i := 0) rfl)) r1.1 _ hr2) rfl (fun _ _ _ h => ⟨h.1, fun _ hc => by cases hc; rfl⟩) ?_; clear S; intro v2 a w3 hv2 hk3 hn2 S
 replace hv2 := hv2.2
 obtain ⟨φ1, hl1, hm1, S⟩ := S.see' hn2 hz2
 have hs1 := hv2.mono hm1
 refine lv S (rn_move (S.tm rfl)) rfl ?_; clear S; intro a S
 obtain ⟨r3, hr3, h⟩ := bindE h
 refine l_enter1 0 S (b := b1) rfl rfl (fun _ => .blk b1 [v_p_l, iV r3.2] 25) (fun _ => run_call (vs := [.pointer (some ⟨b1, 0, none⟩), iV 0, iV 60]) ⟨(S.tm rfl), rfl, rfl, trivial⟩ Tryz.call5) (Stream_Range_ok _ b1 v_p_l p_l (hs_p_l.mono (S.le_arg (fp_sub (i := 0) (e := .blk b1 [v_p_l, iV r2.2] 25) rfl))) r2.2 (S.holds _ (List.mem_of_getElem? (i := 0) rfl)) 0 60 _ hr3) rfl (fun _ _ _ h => ⟨h.1, fun _ hc => by cases hc; rfl⟩) ?_; clear S; intro v3 a w4 hv3 hk4 hn3 S
 replace hv3 := hv3.2
 subst hv3
 refine lv S (rn_assign (S.tm rfl)) rfl ?_; clear S; intro a S
 refine lv S (rn_assign (S.tm rfl)) rfl ?_; clear S; intro a S
 refine l_done (then_n (f_seq (f_region (lv S (rn_move (S.tm rfl)) rfl ?_)))); clear S; intro a S
 refine lv S (rn_move (S.tm rfl)) rfl ?_; clear S; intro a S
 obtain ⟨r4, hr4, h⟩ := bindE h
 have hz3 := S.keep.size
 refine l_enter1 0 S (b := b1) rfl rfl (fun _ => .blk b1 [v_p_l, iV r4.2.2] 25) (fun _ => run_call (vs := [.pointer (some ⟨b1, 0, none⟩), v2]) ⟨(S.tm rfl), (S.tm rfl), trivial⟩ Tryz.call6) (tumbkeep2_parts_Deed_ok _ b1 v_p_l p_l (hs_p_l.mono (S.le_arg (fp_sub (i := 0) (e := .blk b1 [v_p_l, iV r3.2] 25) rfl))) r3.2 (S.holds _ (List.mem_of_getElem? (i := 0) rfl)) v2 r2.1 ((ownV_slcT GDeed.enc_ok hs1).mono (S.le_new (fp_sub (i := 0) (e := .blk b1 [v_p_l, iV r3.2] 25) rfl))) _ hr4) rfl (fun _ _ _ h => ⟨h.1, fun _ hc => by cases hc; rfl⟩) ?_; clear S; intro v4 a w5 hv4 hk5 hn4 S
 replace hv4 := hv4.2
 obtain ⟨u2, u3, rfl, ho2, ho3⟩ := hv4
 obtain ⟨φ2, hl2, hm2, S⟩ := S.see' hn4 hz3
 have hs2 := ho2.mono hm2
 have hs3 := ho3.mono hm2
 refine lv S (rn_move (S.tm rfl)) rfl ?_; clear S; intro a S
 refine lv S (rn_extract (S.tm rfl) rfl) rfl ?_; clear S; intro a S
 refine lv S (rn_extract (S.tm rfl) rfl) rfl ?_; clear S; intro a S
 refine lv S (rn_assign (S.tm rfl)) rfl ?_; clear S; intro a S
 refine lv S (rn_assign (S.tm rfl)) rfl ?_; clear S; intro a S
 refine l_done ?_
 replace S := S.nk [] [(4, v2), (5, iV r3.1), (6, u2), (7, u3)] [false] rfl (subR rfl)
 refine then_n (f_seq (f_region (lv S (rn_move (S.tm rfl)) rfl ?_))); clear S; intro a S
 refine lv S (rn_move (S.tm rfl)) rfl ?_; clear S; intro a S
 obtain ⟨r5, hr5, h⟩ := bindE h
 have hz4 := S.keep.size
 refine l_enter S (fun _ => run_call (vs := [u2, u3]) ⟨(S.tm rfl), (S.tm rfl), trivial⟩ Tryz.call7) (meet_Merge_ok _ u2 r4.1 ((ownV_slcT GDeed.enc_ok hs2).mono (S.le_new nil_sub)) u3 r4.2.1 ((ownV_slcT GDeed.enc_ok hs3).mono (S.le_new nil_sub)) _ hr5) rfl ?_; clear S; intro v5 a w6 hv5 hk6 hn5 S
 obtain ⟨u4, rfl, ho4⟩ := hv5
 obtain ⟨φ3, hl3, hm3, S⟩ := S.see' hn5 hz4
 have hs4 := ho4.mono hm3
 refine lv S (rn_move (S.tm rfl)) rfl ?_; clear S; intro a S
 refine lv S (rn_extract (S.tm rfl) rfl) rfl ?_; clear S; intro a S
 refine lv S (rn_extract (S.tm rfl) rfl) rfl ?_; clear S; intro a S
 refine lv S (rn_assign (S.tm rfl)) rfl ?_; clear S; intro a S
 refine lv S (rn_assign (S.tm rfl)) rfl ?_; clear S; intro a S
 refine l_done (then_n (f_seq (f_region (lv S (rn_move (S.tm rfl)) rfl ?_)))); clear S; intro a S
 refine lv S (rn_move (S.tm rfl)) rfl ?_; clear S; intro a S
 obtain ⟨r6, hr6, h⟩ := bindE h
 have hz5 := S.keep.size
 refine l_enter S (fun _ => run_call (vs := [u3, u2]) ⟨(S.tm rfl), (S.tm rfl), trivial⟩ Tryz.call7) (meet_Merge_ok _ u3 r4.2.1 ((ownV_slcT GDeed.enc_ok hs3).mono (View.le_trans hl3 (S.le_new nil_sub))) u2 r4.1 ((ownV_slcT GDeed.enc_ok hs2).mono (View.le_trans hl3 (S.le_new nil_sub))) _ hr6) rfl ?_; clear S; intro v6 a w7 hv6 hk7 hn6 S
 obtain ⟨u5, rfl, ho5⟩ := hv6
 obtain ⟨φ4, hl4, hm4, S⟩ := S.see' hn6 hz5
 have hs5 := ho5.mono hm4
 refine lv S (rn_move (S.tm rfl)) rfl ?_; clear S; intro a S
 refine lv S (rn_extract (S.tm rfl) rfl) rfl ?_; clear S; intro a S
 refine lv S (rn_extract (S.tm rfl) rfl) rfl ?_; clear S; intro a S
 refine lv S (rn_assign (S.tm rfl)) rfl ?_; clear S; intro a S
 refine lv S (rn_assign (S.tm rfl)) rfl ?_; clear S; intro a S
 refine l_done ?_
 replace S := S.nk [] [(4, v2), (5, iV r3.1), (8, u4), (9, iV r5.2), (10, u5), (11, iV r6.2)] [] rfl (subR rfl)
 refine then_n (f_seq (f_region (lv S (rn_move (S.tm rfl)) rfl ?_))); clear S; intro a S
 obtain ⟨r7, hr7, h⟩ := bindE h
 refine l_enter S (fun _ => run_call (vs := [v2]) ⟨(S.tm rfl), trivial⟩ Tryz.call8) (meet_Text_ok _ v2 r2.1 ((ownV_slcT GDeed.enc_ok hs1).mono (View.le_trans (View.le_trans (View.le_trans hl2 hl3) hl4) (S.le_new nil_sub))) (hg_pow10.mono (S.le_arg nil_sub)) _ hr7) rfl ?_; clear S; intro v7 a w8 hv7 hk8 hn7 S
 subst hv7
 refine lv S (rn_move (S.tm rfl)) rfl ?_; clear S; intro a S
 refine lv S (rn_extract (S.tm rfl) rfl) rfl ?_; clear S; intro a S
 refine lv S (rn_extract (S.tm rfl) rfl) rfl ?_; clear S; intro a S
 refine lv S (rn_assign (S.tm rfl)) rfl ?_; clear S; intro a S
 refine lv S (rn_assign (S.tm rfl)) rfl ?_; clear S; intro a S
 refine l_done (then_n (f_seq (f_region (lv S (rn_move (S.tm rfl)) rfl ?_)))); clear S; intro a S
 obtain ⟨r8, hr8, h⟩ := bindE h
 have hz6 := S.keep.size
 refine l_enter S (fun _ => run_call (vs := [sV r7.1]) ⟨(S.tm rfl), trivial⟩ Tryz.call9) (meet_Read_ok _ r7.1 (hg_maxlen.mono (S.le_arg nil_sub)) _ hr8) rfl ?_; clear S; intro v8 a w9 hv8 hk9 hn8 S
 obtain ⟨u6, rfl, ho6⟩ := hv8
 obtain ⟨φ5, hl5, hm5, S⟩ := S.see' hn8 hz6
 have hs6 := ho6.mono hm5
 refine lv S (rn_move (S.tm rfl)) rfl ?_; clear S; intro a S
 iterate 3 (refine lv S (rn_extract (S.tm rfl) rfl) rfl ?_; clear S; intro a S)
 iterate 3 (refine lv S (rn_assign (S.tm rfl)) rfl ?_; clear S; intro a S)
 refine l_done ?_
 replace S := S.nk [] [(4, v2), (5, iV r3.1), (8, u4), (9, iV r5.2), (10, u5), (11, iV r6.2), (13, iV r7.2), (14, u6), (16, iV r8.2.2)] [] rfl (subR rfl)
 refine then_n (f_seq (f_seq (f_region (lv S (rn_move (S.tm rfl)) rfl ?_)))); clear S; intro a S
 iterate 3 (refine lv S (rn_move (S.tm rfl)) rfl ?_; clear S; intro a S)
 refine l_buildSlice S Tryz.underlying81 Tryz.sizeOf33 Tryz.zeroValue33 rfl rfl (pv := [(0, iV r5.2), (1, iV r6.2), (2, iV r7.2), (3, iV r8.2.2)]) ⟨rfl, (S.tm rfl), rfl, (S.tm rfl), rfl, (S.tm rfl), rfl, (S.tm rfl), trivial⟩ (cs := [iV r5.2, iV r6.2, iV r7.2, iV r8.2.2]) (by kernel_rfl) rfl ?_; clear S; intro a w10 b2 hz7 hk10 S
 refine l_enter S (fun _ => run_call (vs := [.slice (some ⟨b2, 0, none⟩) 4 4]) ⟨(S.tm rfl), trivial⟩ Tryz.call10) (tumbkeep2_errs_ok _ (.slice (some ⟨b2, 0, none⟩) 4 4) [r5.2, r6.2, r7.2, r8.2.2] (lit_slcT enc_int S (i := 0) rfl rfl rfl rfl ((ne_nil (e' := .blk b2 [iV r5.2, iV r6.2, iV r7.2, iV r8.2.2] 33)) _ rfl)) _ rfl) rfl ?_; clear S; intro v9 a w11 hv9 hk11 hn9 S
 subst hv9
 refine lv S (rn_neq (S.tm rfl) rfl) rfl ?_; clear S; intro a S
 refine lv S (rn_move (S.tm rfl)) rfl ?_; clear S; intro a S
 obtain ⟨j1, hj1, h⟩ := joinE h
 refine f_cutm 5 (fun a w' => ∃ c1, j1 c1 = some r ∧ Keep [] w11 w' ∧ Sx w [] φ5 [.blk b2 [iV r5.2, iV r6.2, iV r7.2, iV r8.2.2] 33] [(4, v2), (5, iV r3.1), (10, u5), (14, u6), (75, bV c1)] 144 a w') ?_ ?_
 ·rcases Bool.eq_false_or_eq_true (!decide ((tumbkeep2_errs [r5.2, r6.2, r7.2, r8.2.2]) = 0)) with hb1 | hb1
  ·replace h := iteT h hb1
   iterate 4 (refine l_skip S rfl rfl rfl (neq_t hb1) rfl ?_ rfl; clear S; intro a S)
   refine lv S (rn_or_t true hb1 (S.tm rfl) rfl) rfl ?_; clear S; intro a S
   refine l_done (then_n ?_)
   exact ⟨_, h, Keep.refl _ _, S.nf [true] rfl (subR rfl)⟩
  ·replace h := iteF h hb1
   refine l_want S rfl rfl rfl hb1 (lv S (rn_move (S.tm rfl)) rfl ?_); clear S; intro a S
   refine l_want S rfl rfl rfl hb1 (lv S (rn_move (S.tm rfl)) rfl ?_); clear S; intro a S
   refine l_want S rfl rfl rfl hb1 ?_
   obtain ⟨r9, hr9, h⟩ := bindE h
   refine l_enter S (fun _ => run_call (vs := [u4, v2]) ⟨(S.tm rfl), (S.tm rfl), trivial⟩ Tryz.call11) (slices_Equal_Deed_ok _ u4 r5.1 ((ownV_slcT GDeed.enc_ok hs4).mono (View.le_trans (View.le_trans hl4 hl5) (S.le_new nil_sub))) v2 r2.1 ((ownV_slcT GDeed.enc_ok hs1).mono (View.le_trans (View.le_trans (View.le_trans (View.le_trans hl2 hl3) hl4) hl5) (S.le_new nil_sub))) _ hr9) rfl ?_; clear S; intro v10 a w13 hv10 hk12 hn10 S
   subst hv10
   refine l_want S rfl rfl rfl hb1 (lv S (rn_not (S.tm rfl)) rfl ?_); clear S; intro a S
   refine lv S (rn_or_f hb1 (S.tm rfl) (S.tm rfl)) rfl ?_; clear S; intro a S
   refine l_done (then_n ?_)
   exact ⟨_, h, hk12, S.nf [true] rfl (subR rfl)⟩
 clear S h; rintro a w12 ⟨c1, h, hk13, S⟩; rw [hj1] at h; clear hj1 j1
 refine lv S (rn_move (S.tm rfl)) rfl ?_; clear S; intro a S
 obtain ⟨j2, hj2, h⟩ := joinE h
 refine f_cutm 5 (fun a w' => ∃ c2, j2 c2 = some r ∧ Keep [] w12 w' ∧ Sx w [] φ5 [.blk b2 [iV r5.2, iV r6.2, iV r7.2, iV r8.2.2] 33] [(4, v2), (5, iV r3.1), (14, u6), (81, bV c2)] 144 a w') ?_ ?_
 ·rcases Bool.eq_false_or_eq_true c1 with hb2 | hb2
  ·replace h := iteT h hb2
   iterate 4 (refine l_skip S rfl rfl rfl (neq_t hb2) rfl ?_ rfl; clear S; intro a S)
   refine lv S (rn_or_t true hb2 (S.tm rfl) rfl) rfl ?_; clear S; intro a S
   refine l_done (then_n ?_)
   exact ⟨_, h, Keep.refl _ _, S.nf [true] rfl (subR rfl)⟩
  ·replace h := iteF h hb2
   refine l_want S rfl rfl rfl hb2 (lv S (rn_move (S.tm rfl)) rfl ?_); clear S; intro a S
   refine l_want S rfl rfl rfl hb2 (lv S (rn_move (S.tm rfl)) rfl ?_); clear S; intro a S
   refine l_want S rfl rfl rfl hb2 ?_
   obtain ⟨r10, hr10, h⟩ := bindE h
   refine l_enter S (fun _ => run_call (vs := [u5, v2]) ⟨(S.tm rfl), (S.tm rfl), trivial⟩ Tryz.call11) (slices_Equal_Deed_ok _ u5 r6.1 ((ownV_slcT GDeed.enc_ok hs5).mono (View.le_trans hl5 (S.le_new nil_sub))) v2 r2.1 ((ownV_slcT GDeed.enc_ok hs1).mono (View.le_trans (View.le_trans (View.le_trans (View.le_trans hl2 hl3) hl4) hl5) (S.le_new nil_sub))) _ hr10) rfl ?_; clear S; intro v11 a w15 hv11 hk14 hn11 S
   subst hv11
   refine l_want S rfl rfl rfl hb2 (lv S (rn_not (S.tm rfl)) rfl ?_); clear S; intro a S
   refine lv S (rn_or_f hb2 (S.tm rfl) (S.tm rfl)) rfl ?_; clear S; intro a S
   refine l_done (then_n ?_)
   exact ⟨_, h, hk14, S.nf [true] rfl (subR rfl)⟩
 clear S h; rintro a w14 ⟨c2, h, hk15, S⟩; rw [hj2] at h; clear hj2 j2
 refine lv S (rn_move (S.tm rfl)) rfl ?_; clear S; intro a S
 obtain ⟨j3, hj3, h⟩ := joinE h
 refine f_cutm 5 (fun a w' => ∃ c3, j3 c3 = some r ∧ Keep [] w14 w' ∧ Sx w [] φ5 [.blk b2 [iV r5.2, iV r6.2, iV r7.2, iV r8.2.2] 33] [(4, v2), (5, iV r3.1), (87, bV c3)] 144 a w') ?_ ?_
 ·rcases Bool.eq_false_or_eq_true c2 with hb3 | hb3
  ·replace h := iteT h hb3
   iterate 4 (refine l_skip S rfl rfl rfl (neq_t hb3) rfl ?_ rfl; clear S; intro a S)
   refine lv S (rn_or_t true hb3 (S.tm rfl) rfl) rfl ?_; clear S; intro a S
   refine l_done (then_n ?_)
   exact ⟨_, h, Keep.refl _ _, S.nf [true] rfl (subR rfl)⟩
  ·replace h := iteF h hb3
   refine l_want S rfl rfl rfl hb3 (lv S (rn_move (S.tm rfl)) rfl ?_); clear S; intro a S
   refine l_want S rfl rfl rfl hb3 (lv S (rn_move (S.tm rfl)) rfl ?_); clear S; intro a S
   refine l_want S rfl rfl rfl hb3 ?_
   obtain ⟨r11, hr11, h⟩ := bindE h
   refine l_enter S (fun _ => run_call (vs := [u6, v2]) ⟨(S.tm rfl), (S.tm rfl), trivial⟩ Tryz.call11) (slices_Equal_Deed_ok _ u6 r8.1 ((ownV_slcT GDeed.enc_ok hs6).mono (S.le_new nil_sub)) v2 r2.1 ((ownV_slcT GDeed.enc_ok hs1).mono (View.le_trans (View.le_trans (View.le_trans (View.le_trans hl2 hl3) hl4) hl5) (S.le_new nil_sub))) _ hr11) rfl ?_; clear S; intro v12 a w17 hv12 hk16 hn12 S
   subst hv12
   refine l_want S rfl rfl rfl hb3 (lv S (rn_not (S.tm rfl)) rfl ?_); clear S; intro a S
   refine lv S (rn_or_f hb3 (S.tm rfl) (S.tm rfl)) rfl ?_; clear S; intro a S
   refine l_done (then_n ?_)
   exact ⟨_, h, hk16, S.nf [true] rfl (subR rfl)⟩
 clear S h; rintro a w16 ⟨c3, h, hk17, S⟩; rw [hj3] at h; clear hj3 j3
 refine l_done (then_n (f_cond (S.tm rfl) (fun hb4 => ?_) (fun hb4 => ?_)))
 ·replace h := iteT h hb4
  refine f_seq (f_region (lv S (rn_assign rfl) rfl ?_)); clear S; intro a S
  refine l_done (then_n (wp_ret (then_r ?_)))
  obtain rfl := Option.some.inj h
  exact f_ret S Tryz.results3 rfl rfl
 ·replace h := iteF h hb4
  refine wp_skip (then_n (f_seq (f_region (lv S (rn_assign rfl) rfl ?_)))); clear S; intro a S
  replace S := S.nil 32 11
  refine l_done (then_n (f_seq (f_seq (f_region (lv S (rn_move (S.tm rfl)) rfl ?_))))); clear S; intro a S
  refine lv S (rn_lenT sl_26 (S.tm rfl) (slc_len (ownV_slcT GDeed.enc_ok hs1))) rfl ?_; clear S; intro a S
  refine lv S (rn_move rfl) rfl ?_; clear S; intro a S
  refine l_done (then_n ?_)
  replace S := S.nk [.own (.slice none 0 0) 32 11 ([] : List GDeed).length (([] : List GDeed).flatMap GDeed.enc)] [(5, iV r3.1), (17, (.slice none 0 0)), (88, v2), (89, iV (r2.1.length : Int)), (90, iV 0)] [true, false] rfl (subR rfl)
  obtain ⟨j4, hj4, h⟩ := joinE h
  refine f_join (fun a w' => ∃ x1 : List GDeed, ∃ v13 : Value, j4 x1 = some r ∧ Sx w [] φ5 [.own v13 32 11 x1.length (x1.flatMap GDeed.enc)] [(5, iV r3.1), (17, v13)] 144 a w') ?_ ?_
  ·refine wp_block (f_loop (fun (ys1 : List GDeed) a w' => ∃ i1 : Nat, ∃ x1 : List GDeed, ∃ v13 : Value, (∃ dn, r2.1 = dn ++ ys1 ∧ dn.length = i1) ∧ tumbkeep2_DeedsAgree_l1 j4 ys1 i1 x1 = some r ∧ Sx w [] φ5 [.own v13 32 11 x1.length (x1.flatMap GDeed.enc)] [(5, iV r3.1), (17, v13), (88, v2), (89, iV (r2.1.length : Int)), (90, iV (i1 : Int))] 144 a w') List.length r2.1 ⟨0, ([] : List GDeed), (.slice none 0 0), ⟨[], rfl, rfl⟩, h, S.nf [true] rfl (subR rfl)⟩ ?_)
   clear S h; rintro ys1 a w18 ⟨i1, x1, v13, ⟨dn, hd1, hi1⟩, h, S⟩
   cases ys1 with
   | nil =>
    rw [tumbkeep2_DeedsAgree_l1.eq_1] at h
    refine f_seq (f_region (lv S (rn_lss (S.tm rfl) (S.tm rfl)) rfl ?_)); clear S; intro a S
    refine l_done ?_
    replace S := S.nk [.own v13 32 11 x1.length (x1.flatMap GDeed.enc)] [(5, iV r3.1), (17, v13), (88, v2), (89, iV (r2.1.length : Int)), (90, iV (i1 : Int)), (91, bV (decide ((i1 : Int) < (r2.1.length : Int))))] [true] rfl (subR rfl)
    refine then_n (f_seq (wp_cond_false ((S.tm rfl).trans (congrArg Value.bool (rng_nil hd1 hi1))) (wp_exit (then_x (then_x (x_same ?_))))))
    refine then_n ?_
    exact ⟨x1, v13, h, S.nf [true] rfl (subR rfl)⟩
   | cons y1 ys1 =>
    rw [tumbkeep2_DeedsAgree_l1.eq_2] at h
    refine f_seq (f_region (lv S (rn_lss (S.tm rfl) (S.tm rfl)) rfl ?_)); clear S; intro a S
    refine l_done ?_
    replace S := S.nk [.own v13 32 11 x1.length (x1.flatMap GDeed.enc)] [(5, iV r3.1), (17, v13), (88, v2), (89, iV (r2.1.length : Int)), (90, iV (i1 : Int)), (91, bV (decide ((i1 : Int) < (r2.1.length : Int))))] [true] rfl (subR rfl)
    refine then_n (f_seq (wp_cond_true ((S.tm rfl).trans (congrArg Value.bool (rng_cons hd1 hi1))) (wp_skip (then_n (f_seq ?_)))))
    obtain ⟨j5, hj5, h⟩ := joinE h
    refine f_join (fun a w' => ∃ x2 : List GDeed, ∃ v14 : Value, j5 x2 = some r ∧ Sx w [] φ5 [.own v14 32 11 x2.length (x2.flatMap GDeed.enc)] [(5, iV r3.1), (17, v14), (88, v2), (89, iV (r2.1.length : Int)), (90, iV (i1 : Int))] 144 a w') ?_ ?_
    ·refine wp_block (f_seq (f_region ?_))
     obtain ⟨b3, o1, hm6, hr12⟩ := rn_indexT (a := a) (x := .tmp 88) (y := .tmp 90) (ty := 0) sl_26 (ownV_slcT GDeed.enc_ok hs1) (get_mid hd1 hi1) rfl (S.tm rfl) (S.tm rfl)
     refine lv S (hr12 _) rfl ?_; clear S; intro a S
     clear hr12
     refine lv S (rn_ldA Tryz.isAgg32 Tryz.sizeOf32 (off := o1) (o := 0) (part := (GDeed.enc y1)) rfl rfl (S.tm rfl) ((hm6.mono (View.le_trans (View.le_trans (View.le_trans hl2 hl3) hl4) hl5)).at S.emb)) rfl ?_; clear S; intro a S
     refine l_alloc S Tryz.zeroValue32 (cs := [sV k_empty, iV 0, iV 0, iV 0, sV k_empty, sV k_empty, sV k_empty, iV 0, iV 0, sV k_empty, iV 0]) rfl rfl ?_; clear S; intro a w21 b4 hz8 hk18 S
     refine l_store S (S.tm rfl) (S.tm rfl) (i := 0) (off := 0) rfl Tryz.sizeOf32 (vs := (GDeed.enc y1)) rfl rfl rfl rfl ?_; clear S; intro w22 hk19 S
     refine l_done (then_n (f_seq (f_region (lv S (rn_fld fa_32_3 (S.tm rfl)) rfl ?_)))); clear S; intro a S
     refine lv S (rn_load Tryz.isAgg3 (S.tm rfl) (S.cell (i := 0) rfl rfl)) rfl ?_; clear S; intro a S
     refine lv S (rn_neq (S.tm rfl) rfl) rfl ?_; clear S; intro a S
     refine l_done (then_n ?_)
     obtain ⟨j6, hj6, h⟩ := joinE h
     refine f_join (fun a w' => ∃ x3 : List GDeed, ∃ v15 : Value, j6 x3 = some r ∧ Sx w [] φ5 [.own v15 32 11 x3.length (x3.flatMap GDeed.enc)] [(5, iV r3.1), (17, v15), (88, v2), (89, iV (r2.1.length : Int)), (90, iV (i1 : Int))] 144 a w') ?_ ?_
     ·refine f_cond (S.tm rfl) (fun hb5 => ?_) (fun hb5 => ?_)
      ·replace h := iteT h hb5
       refine f_region (lv S (rn_move (S.tm rfl)) rfl ?_); clear S; intro a S
       refine lv S (rn_ldA Tryz.isAgg32 Tryz.sizeOf32 (off := 0) (o := 0) (part := (GDeed.enc y1)) rfl rfl (S.tm rfl) (S.cellsAt (i := 0) rfl)) rfl ?_; clear S; intro a S
       refine l_buildSlice S Tryz.underlying26 Tryz.sizeOf32 Tryz.zeroValue32 rfl rfl (pv := [(0, .agg (GDeed.enc y1).toArray)]) ⟨rfl, (S.tm rfl), trivial⟩ (cs := [sV y1.Site, iV y1.No, iV y1.At, iV y1.Kind, sV y1.Who, sV y1.Club, sV y1.Race, iV y1.Time, iV y1.Fault, sV y1.Of, iV y1.Other]) (by kernel_rfl) rfl ?_; clear S; intro a w24 b5 hz9 hk20 S
       obtain ⟨hc1, h⟩ := chkE h
       refine l_appendT sl_26 GDeed.enc_ok S (S.tm rfl) (i := 2) rfl (S.tm rfl) (j := 0) rfl (ys := [y1]) rfl rfl rfl rfl (by have := room_lt hc1; omega) rfl ?_; clear S; intro v16 a w25 hk21 S
       refine lv S (rn_assign (S.tm rfl)) rfl ?_; clear S; intro a S
       refine l_done ?_
       replace S := S.nk [.own v16 32 11 (x1 ++ [y1]).length ((x1 ++ [y1]).flatMap GDeed.enc)] [(5, iV r3.1), (17, v16), (88, v2), (89, iV (r2.1.length : Int)), (90, iV (i1 : Int))] [false, false, true] rfl (subR rfl)
       refine then_n ?_
       exact ⟨(x1 ++ [y1]), v16, h, S.nf [true] rfl (subR rfl)⟩
      ·replace h := iteF h hb5
       refine wp_skip (then_n ?_)
       exact ⟨x1, v13, h, S.nf [false, true] rfl (subR rfl)⟩
     clear S h; rintro a w23 ⟨x3, v15, h, S⟩; rw [hj6] at h; clear hj6 j6
     refine blk_n (then_n ?_)
     exact ⟨x3, v15, h, S.nf [true] rfl (subR rfl)⟩
    clear S h; rintro a w20 ⟨x2, v14, h, S⟩; rw [hj5] at h; clear hj5 j5
    refine then_n (f_region (lv S (rn_add (S.tm rfl) rfl) rfl ?_)); clear S; intro a S
    refine lv S (rn_move (S.tm rfl)) rfl ?_; clear S; intro a S
    refine l_done (then_n ?_)
    exact ⟨ys1, ⟨i1 + 1, x2, v14, ⟨_, (hd1).trans (List.append_cons _ _ _), by simp [hi1]⟩, h, S.nf [true] rfl ⟨rfl, rfl, rfl, rfl, (congrArg (fun z => some (Value.int .i64 z)) (rng_next hd1 hi1 (slc_max (ownV_slcT GDeed.enc_ok hs1)))), trivial⟩⟩, Nat.lt_succ_self _⟩
  clear S h; rintro a w19 ⟨x1, v13, h, S⟩; rw [hj4] at h; clear hj4 j4
  refine then_n (f_seq (f_region (lv S (rn_move (S.tm rfl)) rfl ?_))); clear S; intro a S
  refine lv S (rn_move (S.tm rfl)) rfl ?_; clear S; intro a S
  obtain ⟨r12, hr13, h⟩ := bindE h
  have hz10 := S.keep.size
  refine l_enter S (fun _ => run_call (vs := [v13, iV r3.1]) ⟨(S.tm rfl), (S.tm rfl), trivial⟩ Tryz.call12) (meet_Counting_ok _ v13 x1 (own_slcT GDeed.enc_ok S (i := 0) rfl (ne_nil (e' := .own v13 32 11 x1.length (x1.flatMap GDeed.enc)))) r3.1 _ hr13) rfl ?_; clear S; intro v17 a w26 hv13 hk22 hn13 S
  obtain ⟨u7, rfl, ho7⟩ := hv13
  obtain ⟨φ6, hl6, hm7, S⟩ := S.see' hn13 hz10
  have hs7 := ho7.mono hm7
  refine lv S (rn_move (S.tm rfl)) rfl ?_; clear S; intro a S
  refine lv S (rn_extract (S.tm rfl) rfl) rfl ?_; clear S; intro a S
  refine lv S (rn_extract (S.tm rfl) rfl) rfl ?_; clear S; intro a S
  refine lv S (rn_assign (S.tm rfl)) rfl ?_; clear S; intro a S
  refine lv S (rn_assign (S.tm rfl)) rfl ?_; clear S; intro a S
  refine l_done (then_n (f_seq (f_seq (f_region (lv S (rn_move (S.tm rfl)) rfl ?_))))); clear S; intro a S
  refine lv S (rn_lenT sl_22 (S.tm rfl) (slc_len (ownV_slcT enc_int hs7))) rfl ?_; clear S; intro a S
  refine lv S (rn_move rfl) rfl ?_; clear S; intro a S
  refine l_done (then_n ?_)
  replace S := S.nk [.own v13 32 11 x1.length (x1.flatMap GDeed.enc)] [(5, iV r3.1), (9, iV r12.2), (17, v13), (20, u7), (109, iV (r12.1.length : Int)), (110, iV 0)] [true] rfl (subR rfl)
  obtain ⟨j7, hj7, h⟩ := joinE h
  refine f_join (fun a w' => j7 = some r ∧ Sx w [] φ6 [.own v13 32 11 x1.length (x1.flatMap GDeed.enc)] [(5, iV r3.1), (9, iV r12.2), (17, v13), (20, u7)] 144 a w') ?_ ?_
  ·refine wp_block (f_loop (fun (ys2 : List Int) a w' => ∃ i2 : Nat, (∃ dn, r12.1 = dn ++ ys2 ∧ dn.length = i2) ∧ tumbkeep2_DeedsAgree_l2 j7 ys2 i2 = some r ∧ Sx w [] φ6 [.own v13 32 11 x1.length (x1.flatMap GDeed.enc)] [(5, iV r3.1), (9, iV r12.2), (17, v13), (20, u7), (109, iV (r12.1.length : Int)), (110, iV (i2 : Int))] 144 a w') List.length r12.1 ⟨0, ⟨[], rfl, rfl⟩, h, S.nf [true] rfl (subR rfl)⟩ ?_)
   clear S h; rintro ys2 a w27 ⟨i2, ⟨dn, hd2, hi2⟩, h, S⟩
   cases ys2 with
   | nil =>
    rw [tumbkeep2_DeedsAgree_l2.eq_1] at h
    refine f_seq (f_region (lv S (rn_lss (S.tm rfl) (S.tm rfl)) rfl ?_)); clear S; intro a S
    refine l_done ?_
    replace S := S.nk [.own v13 32 11 x1.length (x1.flatMap GDeed.enc)] [(5, iV r3.1), (9, iV r12.2), (17, v13), (20, u7), (109, iV (r12.1.length : Int)), (110, iV (i2 : Int)), (111, bV (decide ((i2 : Int) < (r12.1.length : Int))))] [true] rfl (subR rfl)
    refine then_n (f_seq (wp_cond_false ((S.tm rfl).trans (congrArg Value.bool (rng_nil hd2 hi2))) (wp_exit (then_x (then_x (x_same ?_))))))
    refine then_n ?_
    exact ⟨h, S.nf [true] rfl (subR rfl)⟩
   | cons y2 ys2 =>
    rw [tumbkeep2_DeedsAgree_l2.eq_2] at h
    refine f_seq (f_region (lv S (rn_lss (S.tm rfl) (S.tm rfl)) rfl ?_)); clear S; intro a S
    refine l_done ?_
    replace S := S.nk [.own v13 32 11 x1.length (x1.flatMap GDeed.enc)] [(5, iV r3.1), (9, iV r12.2), (17, v13), (20, u7), (109, iV (r12.1.length : Int)), (110, iV (i2 : Int)), (111, bV (decide ((i2 : Int) < (r12.1.length : Int))))] [true] rfl (subR rfl)
    refine then_n (f_seq (wp_cond_true ((S.tm rfl).trans (congrArg Value.bool (rng_cons hd2 hi2))) (wp_skip (then_n (f_seq (wp_block ?_))))))
    refine f_seq (f_region (lv S (rn_move (S.tm rfl)) rfl ?_)); clear S; intro a S
    refine lv S (rn_assign (S.tm rfl)) rfl ?_; clear S; intro a S
    refine l_done (then_n (f_seq (f_region (lv S (rn_move (S.tm rfl)) rfl ?_)))); clear S; intro a S
    refine lv S (rn_move (S.tm rfl)) rfl ?_; clear S; intro a S
    obtain ⟨b6, o2, hm8, hr14⟩ := rn_indexT (a := a) (x := .tmp 113) (y := .tmp 114) (ty := 0) sl_22 (ownV_slcT enc_int hs7) (get_mid hd2 hi2) rfl (S.tm rfl) (S.tm rfl)
    refine lv S (hr14 _) rfl ?_; clear S; intro a S
    clear hr14
    refine lv S (rn_ld Tryz.isAgg3 (off := o2) (o := 0) (S.tm rfl) (hm8.at S.emb) rfl) rfl ?_; clear S; intro a S
    refine lv S (rn_move (S.tm rfl)) rfl ?_; clear S; intro a S
    refine lv S (rn_neq (S.tm rfl) (S.tm rfl)) rfl ?_; clear S; intro a S
    refine l_done ?_
    replace S := S.nk [.own v13 32 11 x1.length (x1.flatMap GDeed.enc)] [(5, iV r3.1), (9, iV r12.2), (17, v13), (20, u7), (109, iV (r12.1.length : Int)), (110, iV (i2 : Int)), (118, bV (!decide (y2 = (i2 : Int))))] [true] rfl (subR rfl)
    refine then_n (f_cond (S.tm rfl) (fun hb6 => ?_) (fun hb6 => ?_))
    ·replace h := iteT h hb6
     refine f_seq (f_region (lv S (rn_assign rfl) rfl ?_)); clear S; intro a S
     refine l_done (then_n (wp_ret (blk_r (then_r (then_r (blk_r ?_))))))
     refine then_r (then_r ?_)
     obtain rfl := Option.some.inj h
     exact f_ret S Tryz.results3 rfl rfl
    ·replace h := iteF h hb6
     refine wp_skip (blk_n (then_n (f_region (lv S (rn_add (S.tm rfl) rfl) rfl ?_)))); clear S; intro a S
     refine lv S (rn_move (S.tm rfl)) rfl ?_; clear S; intro a S
     refine l_done (then_n ?_)
     exact ⟨ys2, ⟨i2 + 1, ⟨_, (hd2).trans (List.append_cons _ _ _), by simp [hi2]⟩, h, S.nf [true] rfl ⟨rfl, rfl, rfl, rfl, rfl, (congrArg (fun z => some (Value.int .i64 z)) (rng_next hd2 hi2 (slc_max (ownV_slcT enc_int hs7)))), trivial⟩⟩, Nat.lt_succ_self _⟩
  clear S h; rintro a w28 ⟨h, S⟩; rw [hj7] at h; clear hj7 j7
  refine then_n (f_seq (f_region (lv S (rn_assign rfl) rfl ?_))); clear S; intro a S
  refine l_done (then_n (f_seq (f_seq (f_region (lv S (rn_move (S.tm rfl)) rfl ?_))))); clear S; intro a S
  refine lv S (rn_lenT sl_26 (S.tm rfl) (own_len (S.own_at (i := 0) rfl))) rfl ?_; clear S; intro a S
  refine lv S (rn_move rfl) rfl ?_; clear S; intro a S
  refine l_done (then_n ?_)
  replace S := S.nk [.own v13 32 11 x1.length (x1.flatMap GDeed.enc)] [(5, iV r3.1), (9, iV r12.2), (20, u7), (22, iV 0), (120, v13), (121, iV (x1.length : Int)), (122, iV 0)] [true] rfl (subR rfl)
  have hm9 := own_max (S.own_at (i := 0) rfl)
  obtain ⟨j8, hj8, h⟩ := joinE h
  refine f_join (fun a w' => ∃ x4 : Int, j8 x4 = some r ∧ Sx w [] φ6 [.own v13 32 11 x1.length (x1.flatMap GDeed.enc)] [(9, iV r12.2), (20, u7), (22, iV x4)] 144 a w') ?_ ?_
  ·refine wp_block (f_loop (fun (ys3 : List GDeed) a w' => ∃ i3 : Nat, ∃ x4 : Int, (∃ dn, x1 = dn ++ ys3 ∧ dn.length = i3) ∧ tumbkeep2_DeedsAgree_l3 r3 j8 ys3 i3 x4 = some r ∧ Sx w [] φ6 [.own v13 32 11 x1.length (x1.flatMap GDeed.enc)] [(5, iV r3.1), (9, iV r12.2), (20, u7), (22, iV x4), (120, v13), (121, iV (x1.length : Int)), (122, iV (i3 : Int))] 144 a w') List.length x1 ⟨0, 0, ⟨[], rfl, rfl⟩, h, S.nf [true] rfl (subR rfl)⟩ ?_)
   clear S h; rintro ys3 a w29 ⟨i3, x4, ⟨dn, hd3, hi3⟩, h, S⟩
   cases ys3 with
   | nil =>
    rw [tumbkeep2_DeedsAgree_l3.eq_1] at h
    refine f_seq (f_region (lv S (rn_lss (S.tm rfl) (S.tm rfl)) rfl ?_)); clear S; intro a S
    refine l_done ?_
    replace S := S.nk [.own v13 32 11 x1.length (x1.flatMap GDeed.enc)] [(5, iV r3.1), (9, iV r12.2), (20, u7), (22, iV x4), (120, v13), (121, iV (x1.length : Int)), (122, iV (i3 : Int)), (123, bV (decide ((i3 : Int) < (x1.length : Int))))] [true] rfl (subR rfl)
    refine then_n (f_seq (wp_cond_false ((S.tm rfl).trans (congrArg Value.bool (rng_nil hd3 hi3))) (wp_exit (then_x (then_x (x_same ?_))))))
    refine then_n ?_
    exact ⟨x4, h, S.nf [true] rfl (subR rfl)⟩
   | cons y3 ys3 =>
    rw [tumbkeep2_DeedsAgree_l3.eq_2] at h
    refine f_seq (f_region (lv S (rn_lss (S.tm rfl) (S.tm rfl)) rfl ?_)); clear S; intro a S
    refine l_done ?_
    replace S := S.nk [.own v13 32 11 x1.length (x1.flatMap GDeed.enc)] [(5, iV r3.1), (9, iV r12.2), (20, u7), (22, iV x4), (120, v13), (121, iV (x1.length : Int)), (122, iV (i3 : Int)), (123, bV (decide ((i3 : Int) < (x1.length : Int))))] [true] rfl (subR rfl)
    refine then_n (f_seq (wp_cond_true ((S.tm rfl).trans (congrArg Value.bool (rng_cons hd3 hi3))) (wp_skip (then_n (f_seq ?_)))))
    obtain ⟨j9, hj9, h⟩ := joinE h
    refine f_join (fun a w' => ∃ x5 : Int, j9 x5 = some r ∧ Sx w [] φ6 [.own v13 32 11 x1.length (x1.flatMap GDeed.enc)] [(5, iV r3.1), (9, iV r12.2), (20, u7), (22, iV x5), (120, v13), (121, iV (x1.length : Int)), (122, iV (i3 : Int))] 144 a w') ?_ ?_
    ·refine wp_block (f_seq (f_region ?_))
     obtain ⟨b7, hg1, hr15⟩ := rn_indexS (a := a) (x := .tmp 120) (y := .tmp 122) (ty := 0) sl_26 GDeed.enc_ok S (i := 0) rfl (get_mid hd3 hi3) rfl (S.tm rfl) (S.tm rfl)
     refine lv S (hr15 _) rfl ?_; clear S; intro a S
     clear hr15
     refine lv S (rn_ldA Tryz.isAgg32 Tryz.sizeOf32 (off := i3 * 11) (o := 0) (part := (GDeed.enc y3)) rfl rfl (S.tm rfl) (own_cells GDeed.enc_ok S (i := 0) rfl hg1 (get_mid hd3 hi3))) rfl ?_; clear S; intro a S
     refine l_alloc S Tryz.zeroValue32 (cs := [sV k_empty, iV 0, iV 0, iV 0, sV k_empty, sV k_empty, sV k_empty, iV 0, iV 0, sV k_empty, iV 0]) rfl rfl ?_; clear S; intro a w32 b8 hz11 hk23 S
     refine l_store S (S.tm rfl) (S.tm rfl) (i := 0) (off := 0) rfl Tryz.sizeOf32 (vs := (GDeed.enc y3)) rfl rfl rfl rfl ?_; clear S; intro w33 hk24 S
     refine l_done (then_n (f_seq (f_region (lv S (rn_fld fa_32_2 (S.tm rfl)) rfl ?_)))); clear S; intro a S
     refine lv S (rn_load Tryz.isAgg3 (S.tm rfl) (S.cell (i := 0) rfl rfl)) rfl ?_; clear S; intro a S
     refine lv S (rn_move (S.tm rfl)) rfl ?_; clear S; intro a S
     refine lv S (rn_leq (S.tm rfl) (S.tm rfl)) rfl ?_; clear S; intro a S
     refine l_done ?_
     replace S := S.nk [.own v13 32 11 x1.length (x1.flatMap GDeed.enc)] [(5, iV r3.1), (9, iV r12.2), (20, u7), (22, iV x4), (120, v13), (121, iV (x1.length : Int)), (122, iV (i3 : Int)), (129, bV (decide (y3.At ≤ r3.1)))] [false, true] rfl (subR rfl)
     refine then_n ?_
     obtain ⟨j10, hj10, h⟩ := joinE h
     refine f_join (fun a w' => ∃ x6 : Int, j10 x6 = some r ∧ Sx w [] φ6 [.own v13 32 11 x1.length (x1.flatMap GDeed.enc)] [(5, iV r3.1), (9, iV r12.2), (20, u7), (22, iV x6), (120, v13), (121, iV (x1.length : Int)), (122, iV (i3 : Int))] 144 a w') ?_ ?_
     ·refine f_cond (S.tm rfl) (fun hb7 => ?_) (fun hb7 => ?_)
      ·replace h := iteT h hb7
       refine f_region (lv S (rn_move (S.tm rfl)) rfl ?_); clear S; intro a S
       refine lv S (rn_add (S.tm rfl) rfl) rfl ?_; clear S; intro a S
       refine lv S (rn_assign (S.tm rfl)) rfl ?_; clear S; intro a S
       refine l_done (then_n ?_)
       exact ⟨W (x4 + 1), h, S.nf [true] rfl (subR rfl)⟩
      ·replace h := iteF h hb7
       refine wp_skip (then_n ?_)
       exact ⟨x4, h, S.nf [true] rfl (subR rfl)⟩
     clear S h; rintro a w34 ⟨x6, h, S⟩; rw [hj10] at h; clear hj10 j10
     refine blk_n (then_n ?_)
     exact ⟨x6, h, S.nf [true] rfl (subR rfl)⟩
    clear S h; rintro a w31 ⟨x5, h, S⟩; rw [hj9] at h; clear hj9 j9
    refine then_n (f_region (lv S (rn_add (S.tm rfl) rfl) rfl ?_)); clear S; intro a S
    refine lv S (rn_move (S.tm rfl)) rfl ?_; clear S; intro a S
    refine l_done (then_n ?_)
    exact ⟨ys3, ⟨i3 + 1, x5, ⟨_, (hd3).trans (List.append_cons _ _ _), by simp [hi3]⟩, h, S.nf [true] rfl ⟨rfl, rfl, rfl, rfl, rfl, rfl, (congrArg (fun z => some (Value.int .i64 z)) (rng_next hd3 hi3 hm9)), trivial⟩⟩, Nat.lt_succ_self _⟩
  clear S h; rintro a w30 ⟨x4, h, S⟩; rw [hj8] at h; clear hj8 j8
  refine then_n (f_seq (f_region (lv S (rn_move (S.tm rfl)) rfl ?_))); clear S; intro a S
  refine lv S (rn_eql (S.tm rfl) rfl) rfl ?_; clear S; intro a S
  refine lv S (rn_move (S.tm rfl)) rfl ?_; clear S; intro a S
  refine f_cutm 5 (fun a w' => Keep [] w30 w' ∧ Sx w [] φ6 [.own v13 32 11 x1.length (x1.flatMap GDeed.enc)] [(140, bV ((decide (r12.2 = 0)) && (decide ((r12.1.length : Int) = x4))))] 144 a w') ?_ ?_
  ·rcases Bool.eq_false_or_eq_true (decide (r12.2 = 0)) with hb8 | hb8
   ·refine l_want S rfl rfl rfl hb8 (lv S (rn_move (S.tm rfl)) rfl ?_); clear S; intro a S
    refine l_want S rfl rfl rfl hb8 (lv S (rn_lenT sl_22 (S.tm rfl) (slc_len (ownV_slcT enc_int hs7))) rfl ?_); clear S; intro a S
    refine l_want S rfl rfl rfl hb8 (lv S (rn_move (S.tm rfl)) rfl ?_); clear S; intro a S
    refine l_want S rfl rfl rfl hb8 (lv S (rn_eql (S.tm rfl) (S.tm rfl)) rfl ?_); clear S; intro a S
    refine lv S (rn_and_t hb8 (S.tm rfl) (S.tm rfl)) rfl ?_; clear S; intro a S
    refine l_done (then_n ?_)
    exact ⟨Keep.refl _ _, S.nf [true] rfl ⟨rfl, trivial⟩⟩
   ·iterate 4 (refine l_skip S rfl rfl rfl (neq_f hb8) rfl ?_ rfl; clear S; intro a S)
    refine lv S (rn_and_f (decide ((r12.1.length : Int) = x4)) hb8 (S.tm rfl) rfl) rfl ?_; clear S; intro a S
    refine l_done (then_n ?_)
    exact ⟨Keep.refl _ _, S.nf [true] rfl ⟨rfl, trivial⟩⟩
  clear S; rintro a w35 ⟨hk25, S⟩
  refine lv S (rn_move (S.tm rfl)) rfl ?_; clear S; intro a S
  obtain ⟨j11, hj11, h⟩ := joinE h
  refine f_cutm 2 (fun a w' => ∃ c4, j11 c4 = some r ∧ Keep [] w35 w' ∧ Sx w [] φ6 [.own v13 32 11 x1.length (x1.flatMap GDeed.enc)] [(143, bV c4)] 144 a w') ?_ ?_
  ·rcases Bool.eq_false_or_eq_true ((decide (r12.2 = 0)) && (decide ((r12.1.length : Int) = x4))) with hb9 | hb9
   ·replace h := iteT h hb9
    refine l_want S rfl rfl rfl hb9 ?_
    obtain ⟨r13, hr16, h⟩ := bindE h
    refine l_enter S (fun _ => run_call (vs := []) trivial Tryz.call13) (tumbkeep2_ready_ok _ _ hr16) rfl ?_; clear S; intro v18 a w37 hv14 hk26 hn14 S
    subst hv14
    refine lv S (rn_and_t hb9 (S.tm rfl) (S.tm rfl)) rfl ?_; clear S; intro a S
    refine l_done (then_n ?_)
    exact ⟨_, h, hk26, S.nf [true] rfl ⟨rfl, trivial⟩⟩
   ·replace h := iteF h hb9
    refine l_skip S rfl rfl rfl (neq_f hb9) rfl ?_ rfl; clear S; intro a S
    refine lv S (rn_and_f true hb9 (S.tm rfl) rfl) rfl ?_; clear S; intro a S
    refine l_done (then_n ?_)
    exact ⟨_, h, Keep.refl _ _, S.nf [true] rfl ⟨rfl, trivial⟩⟩
  clear S h; rintro a w36 ⟨c4, h, hk27, S⟩; rw [hj11] at h; clear hj11 j11
  refine lv S (rn_assign (S.tm rfl)) rfl ?_; clear S; intro a S
  refine l_done (then_n (wp_ret ?_))
  obtain rfl := Option.some.inj h
  exact f_ret S Tryz.results3 rfl rfl
end Go.Proofs.YtnmojfimananjaaGreatDoor
