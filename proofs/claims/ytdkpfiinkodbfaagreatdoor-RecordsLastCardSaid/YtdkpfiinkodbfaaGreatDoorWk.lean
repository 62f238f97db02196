/- Each Go function computes its plain twin, by program. -/
import Derived.Test.YtdkpfiinkodbfaaGreatDoorWk3
namespace Go.Proofs.YtdkpfiinkodbfaaGreatDoor
open Go
set_option maxRecDepth 20000 in
theorem tumblaw2_RecordsLast_ok (w : World) (v_p_l : Value) (p_l : List Int) (hs_p_l : Slc (view w []) 1 v_p_l (p_l.map eInt)) (r : Bool) (h : tumblaw2_RecordsLast p_l = some r) :
    Calls Tryz.prog 3 [v_p_l].toArray w (Ret w [] fun _ v _ => v = bV r) := by
 refine f_enter [] [] Tryz.func3 rfl Tryz.ntmps3 rfl (by simp) (by simp [fps]) (by simp [fps]) fun a S => ?_
 unfold tumblaw2_RecordsLast at h
 replace S := S.nk [] [(0, v_p_l)] [] rfl ⟨rfl, trivial⟩
 refine f_seq (f_region (lv S (rn_assign rfl) rfl ?_)); clear S; intro a S
 refine l_done (then_n (f_seq (f_region (lv S (rn_move (S.tm rfl)) rfl ?_)))); clear S; intro a S
 refine lv S (rn_bld bt_25 (pv := [(0, v_p_l)]) ⟨rfl, (S.tm rfl), trivial⟩ (cs := [v_p_l, iV 0]) (by obtain ⟨_, _, hv⟩ := (slc_len hs_p_l); rw [hv]; clear hv; kernel_rfl)) rfl ?_; clear S; intro a S
 refine l_box S (S.tm rfl) (cs := [v_p_l, iV 0]) rfl rfl ?_; clear S; intro a w1 b1 hz1 hk1 S
 refine lv S (rn_assign (S.tm rfl)) rfl ?_; clear S; intro a S
 refine l_done (then_n (f_seq (f_region (lv S (rn_move (S.tm rfl)) rfl ?_)))); clear S; intro a S
 obtain ⟨r1, hr1, h⟩ := bindE h
 have hz2 := S.keep.size
 refine l_enter1 0 S (b := b1) rfl rfl (fun _ => .blk b1 [v_p_l, iV r1.2] 25) (fun _ => run_call (vs := [.pointer (some ⟨b1, 0, none⟩)]) ⟨(S.tm rfl), trivial⟩ Tryz.call4) (Stream_Kinds_ok _ b1 v_p_l p_l (hs_p_l.mono (S.le_arg (fp_sub (i := 0) (e := .blk b1 [v_p_l, iV 0] 25) rfl))) 0 (S.holds _ (List.mem_of_getElem? (i := 0) rfl)) _ hr1) rfl (fun _ _ _ h => ⟨h.1, fun _ hc => by cases hc; rfl⟩) ?_; clear S; intro v1 a w2 hv1 hk2 hn1 S
 replace hv1 := hv1.2
 obtain ⟨rs1, ho2, hr2⟩ := hv1
 obtain ⟨φ1, hl1, hm1, S⟩ := S.see' hn1 hz2
 have hs1 := ho2.mono hm1
 have hr3 := rels_57 (View.le_trans (hide_le _ _) hm1) hr2
 refine lv S (rn_move (S.tm rfl)) rfl ?_; clear S; intro a S
 refine lv S (rn_move (S.tm rfl)) rfl ?_; clear S; intro a S
 obtain ⟨r2, hr4, h⟩ := bindE h
 refine l_enter1 0 S (b := b1) rfl rfl (fun _ => .blk b1 [v_p_l, iV r2.2] 25) (fun _ => run_call (vs := [.pointer (some ⟨b1, 0, none⟩), iV 0, iV 16]) ⟨(S.tm rfl), rfl, rfl, trivial⟩ Tryz.call6) (Stream_Range_ok _ b1 v_p_l p_l (hs_p_l.mono (S.le_arg (fp_sub (i := 0) (e := .blk b1 [v_p_l, iV r1.2] 25) rfl))) r1.2 (S.holds _ (List.mem_of_getElem? (i := 0) rfl)) 0 16 _ hr4) rfl (fun _ _ _ h => ⟨h.1, fun _ hc => by cases hc; rfl⟩) ?_; clear S; intro v2 a w3 hv2 hk3 hn2 S
 replace hv2 := hv2.2
 subst hv2
 obtain ⟨r3, hr5, h⟩ := bindE h
 have hz3 := S.keep.size
 refine l_enter1 0 S (b := b1) rfl rfl (fun _ => .blk b1 [v_p_l, iV r3.2] 25) (fun _ => run_call (vs := [.pointer (some ⟨b1, 0, none⟩), iV r2.1]) ⟨(S.tm rfl), (S.tm rfl), trivial⟩ Tryz.call5) (Stream_Steps_ok _ b1 v_p_l p_l (hs_p_l.mono (S.le_arg (fp_sub (i := 0) (e := .blk b1 [v_p_l, iV r2.2] 25) rfl))) r2.2 (S.holds _ (List.mem_of_getElem? (i := 0) rfl)) r2.1 _ hr5) rfl (fun _ _ _ h => ⟨h.1, fun _ hc => by cases hc; rfl⟩) ?_; clear S; intro v3 a w4 hv3 hk4 hn3 S
 replace hv3 := hv3.2
 obtain ⟨φ2, hl2, hm2, S⟩ := S.see' hn3 hz3
 have hs2 := hv3.mono hm2
 refine lv S (rn_move (S.tm rfl)) rfl ?_; clear S; intro a S
 refine l_buildSlice S Tryz.underlying37 Tryz.sizeOf9 Tryz.zeroValue9 rfl rfl (pv := [(0, sV k_ka), (1, sV k_kb), (2, sV k_kc), (3, sV k_zz)]) ⟨rfl, rfl, rfl, rfl, rfl, rfl, rfl, rfl, trivial⟩ (cs := [sV k_ka, sV k_kb, sV k_kc, sV k_zz]) (by kernel_rfl) rfl ?_; clear S; intro a w5 b2 hz4 hk5 S
 obtain ⟨r4, hr6, h⟩ := bindE h
 refine l_enter1 1 S (b := b1) rfl rfl (fun _ => .blk b1 [v_p_l, iV r4.2] 25) (fun _ => run_call (vs := [.pointer (some ⟨b1, 0, none⟩), .slice (some ⟨b2, 0, none⟩) 4 4]) ⟨(S.tm rfl), (S.tm rfl), trivial⟩ Tryz.call7) (Stream_Some_ok _ b1 v_p_l p_l (hs_p_l.mono (S.le_arg (fp_sub (i := 1) (e := .blk b1 [v_p_l, iV r3.2] 25) rfl))) r3.2 (S.holds _ (List.mem_of_getElem? (i := 1) rfl)) (.slice (some ⟨b2, 0, none⟩) 4 4) [k_ka, k_kb, k_kc, k_zz] (lit_slcT enc_str S (i := 0) rfl rfl rfl rfl ((ne_fp (i := 1) (j := 0) (e := .blk b1 [v_p_l, iV r3.2] 25) (e' := .blk b2 [sV k_ka, sV k_kb, sV k_kc, sV k_zz] 9) S rfl rfl rfl) _ rfl)) _ hr6) rfl (fun _ _ _ h => ⟨h.1, fun _ hc => by cases hc; rfl⟩) ?_; clear S; intro v4 a w6 hv4 hk6 hn4 S
 replace hv4 := hv4.2
 subst hv4
 refine lv S (rn_move (S.tm rfl)) rfl ?_; clear S; intro a S
 refine l_buildSlice S Tryz.underlying37 Tryz.sizeOf9 Tryz.zeroValue9 rfl rfl (pv := [(0, sV k_ia), (1, sV k_ib), (2, sV k_ic), (3, sV k_zz)]) ⟨rfl, rfl, rfl, rfl, rfl, rfl, rfl, rfl, trivial⟩ (cs := [sV k_ia, sV k_ib, sV k_ic, sV k_zz]) (by kernel_rfl) rfl ?_; clear S; intro a w7 b3 hz5 hk7 S
 obtain ⟨r5, hr7, h⟩ := bindE h
 refine l_enter1 2 S (b := b1) rfl rfl (fun _ => .blk b1 [v_p_l, iV r5.2] 25) (fun _ => run_call (vs := [.pointer (some ⟨b1, 0, none⟩), .slice (some ⟨b3, 0, none⟩) 4 4]) ⟨(S.tm rfl), (S.tm rfl), trivial⟩ Tryz.call7) (Stream_Some_ok _ b1 v_p_l p_l (hs_p_l.mono (S.le_arg (fp_sub (i := 2) (e := .blk b1 [v_p_l, iV r4.2] 25) rfl))) r4.2 (S.holds _ (List.mem_of_getElem? (i := 2) rfl)) (.slice (some ⟨b3, 0, none⟩) 4 4) [k_ia, k_ib, k_ic, k_zz] (lit_slcT enc_str S (i := 0) rfl rfl rfl rfl ((ne_fp (i := 2) (j := 0) (e := .blk b1 [v_p_l, iV r4.2] 25) (e' := .blk b3 [sV k_ia, sV k_ib, sV k_ic, sV k_zz] 9) S rfl rfl rfl) _ rfl)) _ hr7) rfl (fun _ _ _ h => ⟨h.1, fun _ hc => by cases hc; rfl⟩) ?_; clear S; intro v5 a w8 hv5 hk8 hn5 S
 replace hv5 := hv5.2
 subst hv5
 refine lv S (rn_move (S.tm rfl)) rfl ?_; clear S; intro a S
 refine l_buildSlice S Tryz.underlying22 Tryz.sizeOf3 Tryz.zeroValue3 rfl rfl (pv := [(0, iV 0), (1, iV 5), (2, iV 10), (3, iV 20), (4, iV 60), (5, iV (-1))]) ⟨rfl, rfl, rfl, rfl, rfl, rfl, rfl, rfl, rfl, rfl, rfl, rfl, trivial⟩ (cs := [iV 0, iV 5, iV 10, iV 20, iV 60, iV (-1)]) (by kernel_rfl) rfl ?_; clear S; intro a w9 b4 hz6 hk9 S
 obtain ⟨r6, hr8, h⟩ := bindE h
 refine l_enter1 3 S (b := b1) rfl rfl (fun _ => .blk b1 [v_p_l, iV r6.2] 25) (fun _ => run_call (vs := [.pointer (some ⟨b1, 0, none⟩), .slice (some ⟨b4, 0, none⟩) 6 6]) ⟨(S.tm rfl), (S.tm rfl), trivial⟩ Tryz.call8) (Stream_Pick_ok _ b1 v_p_l p_l (hs_p_l.mono (S.le_arg (fp_sub (i := 3) (e := .blk b1 [v_p_l, iV r5.2] 25) rfl))) r5.2 (S.holds _ (List.mem_of_getElem? (i := 3) rfl)) (.slice (some ⟨b4, 0, none⟩) 6 6) [0, 5, 10, 20, 60, (-1)] (lit_slcT enc_int S (i := 0) rfl rfl rfl rfl ((ne_fp (i := 3) (j := 0) (e := .blk b1 [v_p_l, iV r5.2] 25) (e' := .blk b4 [iV 0, iV 5, iV 10, iV 20, iV 60, iV (-1)] 3) S rfl rfl rfl) _ rfl)) _ hr8) rfl (fun _ _ _ h => ⟨h.1, fun _ hc => by cases hc; rfl⟩) ?_; clear S; intro v6 a w10 hv6 hk10 hn6 S
 replace hv6 := hv6.2
 subst hv6
 refine lv S (rn_move (S.tm rfl)) rfl ?_; clear S; intro a S
 obtain ⟨r7, hr9, h⟩ := bindE h
 refine l_enter1 3 S (b := b1) rfl rfl (fun _ => .blk b1 [v_p_l, iV r7.2] 25) (fun _ => run_call (vs := [.pointer (some ⟨b1, 0, none⟩), iV 70]) ⟨(S.tm rfl), rfl, trivial⟩ Tryz.call9) (Stream_SwumStep_ok _ b1 v_p_l p_l (hs_p_l.mono (S.le_arg (fp_sub (i := 3) (e := .blk b1 [v_p_l, iV r6.2] 25) rfl))) r6.2 (S.holds _ (List.mem_of_getElem? (i := 3) rfl)) 70 _ hr9) rfl (fun _ _ _ h => ⟨h.1, fun _ hc => by cases hc; rfl⟩) ?_; clear S; intro v7 a w11 hv7 hk11 hn7 S
 replace hv7 := hv7.2
 subst hv7
 refine l_alloc S Tryz.zeroValue34 (cs := [iV 0, iV 0, sV k_empty, sV k_empty, sV k_empty, sV k_empty, iV 0, iV 0]) rfl rfl ?_; clear S; intro a w12 b5 hz7 hk12 S
 iterate 5 (refine lv S (rn_assign (S.tm rfl)) rfl ?_; clear S; intro a S)
 refine l_store S (S.tm rfl) (S.tm rfl) (i := 0) (off := 0) rfl Tryz.sizeOf34 (vs := (GStep.enc r7.1)) rfl rfl rfl rfl ?_; clear S; intro w13 hk13 S
 refine l_done ?_
 replace S := S.nk [.blk b5 (GStep.enc r7.1) 34, .blk b1 [v_p_l, iV r7.2] 25] [(3, .pointer (some ⟨b1, 0, none⟩)), (4, v1), (5, v3), (6, sV r4.1), (7, sV r5.1), (8, iV r6.1), (9, .pointer (some ⟨b5, 0, none⟩))] [true, false, false, false, true] rfl (subR rfl)
 refine then_n (f_seq (f_seq (f_region (lv S (rn_move (S.tm rfl)) rfl ?_)))); clear S; intro a S
 obtain ⟨r8, hr10, h⟩ := bindE h
 refine l_enter1 1 S (b := b1) rfl rfl (fun _ => .blk b1 [v_p_l, iV r8.2] 25) (fun _ => run_call (vs := [.pointer (some ⟨b1, 0, none⟩), iV 2]) ⟨(S.tm rfl), rfl, trivial⟩ Tryz.call10) (Stream_Flip_ok _ b1 v_p_l p_l (hs_p_l.mono (S.le_arg (fp_sub (i := 1) (e := .blk b1 [v_p_l, iV r7.2] 25) rfl))) r7.2 (S.holds _ (List.mem_of_getElem? (i := 1) rfl)) 2 _ hr10) rfl (fun _ _ _ h => ⟨h.1, fun _ hc => by cases hc; rfl⟩) ?_; clear S; intro v8 a w14 hv8 hk14 hn8 S
 replace hv8 := hv8.2
 subst hv8
 refine l_done (then_n ?_)
 obtain ⟨j1, hj1, h⟩ := joinE h
 refine f_join (fun a w' => ∃ x1 : ByteArray, j1 x1 = some r ∧ Sx w [] φ2 [.blk b5 (GStep.enc (GStep.mk r7.1.At r7.1.Kind x1 r7.1.Who r7.1.Club r7.1.Race r7.1.Age r7.1.Time)) 34, .blk b1 [v_p_l, iV r8.2] 25] [(3, .pointer (some ⟨b1, 0, none⟩)), (4, v1), (5, v3), (6, sV r4.1), (7, sV r5.1), (8, iV r6.1), (9, .pointer (some ⟨b5, 0, none⟩))] 231 a w') ?_ ?_
 ·refine f_cond (S.tm rfl) (fun hb1 => ?_) (fun hb1 => ?_)
  ·replace h := iteT h hb1
   refine f_region (lv S (rn_fld fa_34_2 (S.tm rfl)) rfl ?_); clear S; intro a S
   refine l_store S (S.tm rfl) rfl (i := 0) (off := 2) rfl Tryz.sizeOf9 (vs := [sV k_new]) rfl rfl rfl rfl ?_; clear S; intro w16 hk15 S
   refine l_done (then_n ?_)
   exact ⟨k_new, h, S.nf [true, true] rfl (subR rfl)⟩
  ·replace h := iteF h hb1
   refine wp_skip (then_n ?_)
   exact ⟨r7.1.Id, h, S.nf [true, true] rfl (subR rfl)⟩
 clear S h; rintro a w15 ⟨x1, h, S⟩; rw [hj1] at h; clear hj1 j1
 refine then_n (f_seq (f_seq (f_region (lv S (rn_move (S.tm rfl)) rfl ?_)))); clear S; intro a S
 obtain ⟨r9, hr11, h⟩ := bindE h
 refine l_enter1 1 S (b := b1) rfl rfl (fun _ => .blk b1 [v_p_l, iV r9.2] 25) (fun _ => run_call (vs := [.pointer (some ⟨b1, 0, none⟩), iV 10]) ⟨(S.tm rfl), rfl, trivial⟩ Tryz.call10) (Stream_Flip_ok _ b1 v_p_l p_l (hs_p_l.mono (S.le_arg (fp_sub (i := 1) (e := .blk b1 [v_p_l, iV r8.2] 25) rfl))) r8.2 (S.holds _ (List.mem_of_getElem? (i := 1) rfl)) 10 _ hr11) rfl (fun _ _ _ h => ⟨h.1, fun _ hc => by cases hc; rfl⟩) ?_; clear S; intro v9 a w17 hv9 hk16 hn9 S
 replace hv9 := hv9.2
 subst hv9
 refine l_done (then_n ?_)
 obtain ⟨j2, hj2, h⟩ := joinE h
 refine f_join (fun a w' => ∃ x2 : Int, ∃ x3 : Int, j2 x2 x3 = some r ∧ Sx w [] φ2 [.blk b5 (GStep.enc (GStep.mk r7.1.At x2 x1 r7.1.Who r7.1.Club r7.1.Race r7.1.Age x3)) 34] [(4, v1), (5, v3), (6, sV r4.1), (7, sV r5.1), (8, iV r6.1), (9, .pointer (some ⟨b5, 0, none⟩))] 231 a w') ?_ ?_
 ·refine f_cond (S.tm rfl) (fun hb2 => ?_) (fun hb2 => ?_)
  ·replace h := iteT h hb2
   refine f_region (lv S (rn_move (S.tm rfl)) rfl ?_); clear S; intro a S
   refine l_buildSlice S Tryz.underlying22 Tryz.sizeOf3 Tryz.zeroValue3 rfl rfl (pv := [(0, iV 1), (1, iV 2)]) ⟨rfl, rfl, rfl, rfl, trivial⟩ (cs := [iV 1, iV 2]) (by kernel_rfl) rfl ?_; clear S; intro a w19 b6 hz8 hk17 S
   obtain ⟨r10, hr12, h⟩ := bindE h
   refine l_enter1 2 S (b := b1) rfl rfl (fun _ => .blk b1 [v_p_l, iV r10.2] 25) (fun _ => run_call (vs := [.pointer (some ⟨b1, 0, none⟩), .slice (some ⟨b6, 0, none⟩) 2 2]) ⟨(S.tm rfl), (S.tm rfl), trivial⟩ Tryz.call8) (Stream_Pick_ok _ b1 v_p_l p_l (hs_p_l.mono (S.le_arg (fp_sub (i := 2) (e := .blk b1 [v_p_l, iV r9.2] 25) rfl))) r9.2 (S.holds _ (List.mem_of_getElem? (i := 2) rfl)) (.slice (some ⟨b6, 0, none⟩) 2 2) [1, 2] (lit_slcT enc_int S (i := 0) rfl rfl rfl rfl ((ne_fp (i := 2) (j := 0) (e := .blk b1 [v_p_l, iV r9.2] 25) (e' := .blk b6 [iV 1, iV 2] 3) S rfl rfl rfl) _ rfl)) _ hr12) rfl (fun _ _ _ h => ⟨h.1, fun _ hc => by cases hc; rfl⟩) ?_; clear S; intro v10 a w20 hv10 hk18 hn10 S
   replace hv10 := hv10.2
   subst hv10
   refine lv S (rn_move (S.tm rfl)) rfl ?_; clear S; intro a S
   obtain ⟨r11, hr13, h⟩ := bindE h
   refine l_enter1 2 S (b := b1) rfl rfl (fun _ => .blk b1 [v_p_l, iV r11.2] 25) (fun _ => run_call (vs := [.pointer (some ⟨b1, 0, none⟩), iV 1, iV 100]) ⟨(S.tm rfl), rfl, rfl, trivial⟩ Tryz.call11) (Stream_Odd_ok _ b1 v_p_l p_l (hs_p_l.mono (S.le_arg (fp_sub (i := 2) (e := .blk b1 [v_p_l, iV r10.2] 25) rfl))) r10.2 (S.holds _ (List.mem_of_getElem? (i := 2) rfl)) 1 100 _ hr13) rfl (fun _ _ _ h => ⟨h.1, fun _ hc => by cases hc; rfl⟩) ?_; clear S; intro v11 a w21 hv11 hk19 hn11 S
   replace hv11 := hv11.2
   subst hv11
   refine lv S (rn_fld fa_34_1 (S.tm rfl)) rfl ?_; clear S; intro a S
   refine l_store S (S.tm rfl) (S.tm rfl) (i := 1) (off := 1) rfl Tryz.sizeOf3 (vs := [iV r10.1]) rfl rfl rfl rfl ?_; clear S; intro w22 hk20 S
   refine lv S (rn_fld fa_34_7 (S.tm rfl)) rfl ?_; clear S; intro a S
   refine l_store S (S.tm rfl) (S.tm rfl) (i := 1) (off := 7) rfl Tryz.sizeOf3 (vs := [iV r11.1]) rfl rfl rfl rfl ?_; clear S; intro w23 hk21 S
   refine l_done ?_
   replace S := S.nk [.blk b5 (GStep.enc (GStep.mk r7.1.At r10.1 x1 r7.1.Who r7.1.Club r7.1.Race r7.1.Age r11.1)) 34] [(4, v1), (5, v3), (6, sV r4.1), (7, sV r5.1), (8, iV r6.1), (9, .pointer (some ⟨b5, 0, none⟩))] [false, true, false] rfl (subR rfl)
   refine then_n ?_
   exact ⟨r10.1, r11.1, h, S.nf [true] rfl (subR rfl)⟩
  ·replace h := iteF h hb2
   refine wp_skip (then_n ?_)
   exact ⟨r7.1.Kind, r7.1.Time, h, S.nf [true, false] rfl (subR rfl)⟩
 clear S h; rintro a w18 ⟨x2, x3, h, S⟩; rw [hj2] at h; clear hj2 j2
 refine then_n (f_seq (f_region (lv S (rn_move (S.tm rfl)) rfl ?_))); clear S; intro a S
 iterate 3 (refine lv S (rn_move (S.tm rfl)) rfl ?_; clear S; intro a S)
 obtain ⟨r12, hr14, h⟩ := bindE h
 have hz9 := S.keep.size
 refine l_enter S (fun _ => run_call (vs := [v1, v3, sV r5.1, iV r6.1]) ⟨(S.tm rfl), (S.tm rfl), (S.tm rfl), (S.tm rfl), trivial⟩ Tryz.call12) (record_Held_ok _ v1 r1.1 rs1 ((ownV_slcT R57.enc_ok hs1).mono (View.le_trans hl2 (S.le_new nil_sub))) (rels_57 (View.le_trans hl2 (S.le_new nil_sub)) hr3) v3 r3.1 ((ownV_slcT GStep.enc_ok hs2).mono (S.le_new nil_sub)) r5.1 r6.1 _ hr14) rfl ?_; clear S; intro v12 a w24 hv12 hk22 hn12 S
 obtain ⟨u3, rfl, ho4⟩ := hv12
 obtain ⟨φ3, hl3, hm3, S⟩ := S.see' hn12 hz9
 have hs3 := ho4.mono hm3
 refine lv S (rn_move (S.tm rfl)) rfl ?_; clear S; intro a S
 refine lv S (rn_extract (S.tm rfl) rfl) rfl ?_; clear S; intro a S
 refine lv S (rn_extract (S.tm rfl) rfl) rfl ?_; clear S; intro a S
 refine lv S (rn_assign (S.tm rfl)) rfl ?_; clear S; intro a S
 refine lv S (rn_assign (S.tm rfl)) rfl ?_; clear S; intro a S
 refine l_done ?_
 replace S := S.nk [.blk b5 (GStep.enc (GStep.mk r7.1.At x2 x1 r7.1.Who r7.1.Club r7.1.Race r7.1.Age x3)) 34] [(4, v1), (5, v3), (6, sV r4.1), (7, sV r5.1), (8, iV r6.1), (9, .pointer (some ⟨b5, 0, none⟩)), (10, u3), (11, iV r12.2)] [true] rfl (subR rfl)
 refine then_n (f_seq (f_region (lv S (rn_move (S.tm rfl)) rfl ?_))); clear S; intro a S
 iterate 4 (refine lv S (rn_move (S.tm rfl)) rfl ?_; clear S; intro a S)
 obtain ⟨r13, hr15, h⟩ := bindE h
 refine l_enter S (fun _ => run_call (vs := [v1, v3, sV r5.1, sV r4.1, iV r6.1]) ⟨(S.tm rfl), (S.tm rfl), (S.tm rfl), (S.tm rfl), (S.tm rfl), trivial⟩ Tryz.call13) (record_Long_ok _ v1 r1.1 rs1 ((ownV_slcT R57.enc_ok hs1).mono (View.le_trans (View.le_trans hl2 hl3) (S.le_new nil_sub))) (rels_57 (View.le_trans (View.le_trans hl2 hl3) (S.le_new nil_sub)) hr3) v3 r3.1 ((ownV_slcT GStep.enc_ok hs2).mono (View.le_trans hl3 (S.le_new nil_sub))) r5.1 r4.1 r6.1 _ hr15) rfl ?_; clear S; intro v13 a w25 hv13 hk23 hn13 S
 subst hv13
 refine lv S (rn_move (S.tm rfl)) rfl ?_; clear S; intro a S
 refine lv S (rn_extract (S.tm rfl) rfl) rfl ?_; clear S; intro a S
 refine lv S (rn_extract (S.tm rfl) rfl) rfl ?_; clear S; intro a S
 refine lv S (rn_assign (S.tm rfl)) rfl ?_; clear S; intro a S
 refine lv S (rn_assign (S.tm rfl)) rfl ?_; clear S; intro a S
 refine l_done ?_
 replace S := S.nk [.blk b5 (GStep.enc (GStep.mk r7.1.At x2 x1 r7.1.Who r7.1.Club r7.1.Race r7.1.Age x3)) 34] [(4, v1), (5, v3), (6, sV r4.1), (7, sV r5.1), (8, iV r6.1), (9, .pointer (some ⟨b5, 0, none⟩)), (10, u3), (11, iV r12.2), (12, iV r13.1), (13, iV r13.2)] [true] rfl (subR rfl)
 refine then_n (f_seq (f_region (lv S (rn_move (S.tm rfl)) rfl ?_))); clear S; intro a S
 refine lv S (rn_move (S.tm rfl)) rfl ?_; clear S; intro a S
 refine lv S (rn_ldA Tryz.isAgg34 Tryz.sizeOf34 (off := 0) (o := 0) (part := (GStep.enc (GStep.mk r7.1.At x2 x1 r7.1.Who r7.1.Club r7.1.Race r7.1.Age x3))) rfl rfl (S.tm rfl) (S.cellsAt (i := 0) rfl)) rfl ?_; clear S; intro a S
 obtain ⟨r14, hr16, h⟩ := bindE h
 have hz10 := S.keep.size
 refine l_enter S (fun _ => run_call (vs := [v1, v3, .agg (GStep.enc (GStep.mk r7.1.At x2 x1 r7.1.Who r7.1.Club r7.1.Race r7.1.Age x3)).toArray]) ⟨(S.tm rfl), (S.tm rfl), (S.tm rfl), trivial⟩ Tryz.call14) (record_Would_ok _ v1 r1.1 rs1 ((ownV_slcT R57.enc_ok hs1).mono (View.le_trans (View.le_trans hl2 hl3) (S.le_new nil_sub))) (rels_57 (View.le_trans (View.le_trans hl2 hl3) (S.le_new nil_sub)) hr3) v3 r3.1 ((ownV_slcT GStep.enc_ok hs2).mono (View.le_trans hl3 (S.le_new nil_sub))) (GStep.mk r7.1.At x2 x1 r7.1.Who r7.1.Club r7.1.Race r7.1.Age x3) _ hr16) rfl ?_; clear S; intro v14 a w26 hv14 hk24 hn14 S
 obtain ⟨u4, rfl, ho5⟩ := hv14
 obtain ⟨φ4, hl4, hm4, S⟩ := S.see' hn14 hz10
 have hs4 := ho5.mono hm4
 refine lv S (rn_move (S.tm rfl)) rfl ?_; clear S; intro a S
 refine lv S (rn_extract (S.tm rfl) rfl) rfl ?_; clear S; intro a S
 refine lv S (rn_extract (S.tm rfl) rfl) rfl ?_; clear S; intro a S
 refine lv S (rn_assign (S.tm rfl)) rfl ?_; clear S; intro a S
 refine lv S (rn_assign (S.tm rfl)) rfl ?_; clear S; intro a S
 refine l_done ?_
 replace S := S.nk [.blk b5 (GStep.enc (GStep.mk r7.1.At x2 x1 r7.1.Who r7.1.Club r7.1.Race r7.1.Age x3)) 34] [(4, v1), (5, v3), (6, sV r4.1), (7, sV r5.1), (8, iV r6.1), (9, .pointer (some ⟨b5, 0, none⟩)), (10, u3), (11, iV r12.2), (12, iV r13.1), (13, iV r13.2), (14, u4), (15, iV r14.2)] [true] rfl (subR rfl)
 refine then_n (f_seq (f_region (lv S (rn_move (S.tm rfl)) rfl ?_))); clear S; intro a S
 iterate 3 (refine lv S (rn_move (S.tm rfl)) rfl ?_; clear S; intro a S)
 obtain ⟨r15, hr17, h⟩ := bindE h
 refine l_enter S (fun _ => run_call (vs := [v1, v3, sV r4.1, iV r6.1]) ⟨(S.tm rfl), (S.tm rfl), (S.tm rfl), (S.tm rfl), trivial⟩ Tryz.call15) (record_Needed_ok _ v1 r1.1 rs1 ((ownV_slcT R57.enc_ok hs1).mono (View.le_trans (View.le_trans (View.le_trans hl2 hl3) hl4) (S.le_new nil_sub))) (rels_57 (View.le_trans (View.le_trans (View.le_trans hl2 hl3) hl4) (S.le_new nil_sub)) hr3) v3 r3.1 ((ownV_slcT GStep.enc_ok hs2).mono (View.le_trans (View.le_trans hl3 hl4) (S.le_new nil_sub))) r4.1 r6.1 _ hr17) rfl ?_; clear S; intro v15 a w27 hv15 hk25 hn15 S
 subst hv15
 refine lv S (rn_move (S.tm rfl)) rfl ?_; clear S; intro a S
 iterate 3 (refine lv S (rn_extract (S.tm rfl) rfl) rfl ?_; clear S; intro a S)
 iterate 3 (refine lv S (rn_assign (S.tm rfl)) rfl ?_; clear S; intro a S)
 refine l_done ?_
 replace S := S.nk [.blk b5 (GStep.enc (GStep.mk r7.1.At x2 x1 r7.1.Who r7.1.Club r7.1.Race r7.1.Age x3)) 34] [(4, v1), (5, v3), (6, sV r4.1), (7, sV r5.1), (8, iV r6.1), (9, .pointer (some ⟨b5, 0, none⟩)), (10, u3), (11, iV r12.2), (12, iV r13.1), (13, iV r13.2), (14, u4), (15, iV r14.2), (16, iV r15.1), (17, bV r15.2.1), (18, iV r15.2.2)] [true] rfl (subR rfl)
 refine then_n (f_seq (f_region (lv S (rn_move (S.tm rfl)) rfl ?_))); clear S; intro a S
 obtain ⟨r16, hr18, h⟩ := bindE h
 refine l_enter S (fun _ => run_call (vs := [v1]) ⟨(S.tm rfl), trivial⟩ Tryz.call17) (tumbref2_KindsFault_ok _ v1 r1.1 rs1 ((ownV_slcT R57.enc_ok hs1).mono (View.le_trans (View.le_trans (View.le_trans hl2 hl3) hl4) (S.le_new nil_sub))) (rels_57 (View.le_trans (View.le_trans (View.le_trans hl2 hl3) hl4) (S.le_new nil_sub)) hr3) _ hr18) rfl ?_; clear S; intro v16 a w28 hv16 hk26 hn16 S
 subst hv16
 refine lv S (rn_move (S.tm rfl)) rfl ?_; clear S; intro a S
 obtain ⟨r17, hr19, h⟩ := bindE h
 refine l_enter S (fun _ => run_call (vs := [v3]) ⟨(S.tm rfl), trivial⟩ Tryz.call18) (tumbref2_StepsFault_ok _ v3 r3.1 ((ownV_slcT GStep.enc_ok hs2).mono (View.le_trans (View.le_trans hl3 hl4) (S.le_new nil_sub))) _ hr19) rfl ?_; clear S; intro v17 a w29 hv17 hk27 hn17 S
 subst hv17
 refine l_buildSlice S Tryz.underlying87 Tryz.sizeOf38 Tryz.zeroValue38 rfl rfl (pv := [(0, iV r16), (1, iV r17)]) ⟨rfl, (S.tm rfl), rfl, (S.tm rfl), trivial⟩ (cs := [iV r16, iV r17]) (by kernel_rfl) rfl ?_; clear S; intro a w30 b7 hz11 hk28 S
 refine l_enter S (fun _ => run_call (vs := [.slice (some ⟨b7, 0, none⟩) 2 2]) ⟨(S.tm rfl), trivial⟩ Tryz.call16) (tumblaw2_errs_ok _ (.slice (some ⟨b7, 0, none⟩) 2 2) [r16, r17] (lit_slcT enc_int S (i := 0) rfl rfl rfl rfl ((ne_nil (e' := .blk b7 [iV r16, iV r17] 38)) _ rfl)) _ rfl) rfl ?_; clear S; intro v18 a w31 hv18 hk29 hn18 S
 subst hv18
 refine lv S (rn_assign (S.tm rfl)) rfl ?_; clear S; intro a S
 refine l_done ?_
 replace S := S.nk [.blk b5 (GStep.enc (GStep.mk r7.1.At x2 x1 r7.1.Who r7.1.Club r7.1.Race r7.1.Age x3)) 34] [(4, v1), (5, v3), (6, sV r4.1), (7, sV r5.1), (8, iV r6.1), (9, .pointer (some ⟨b5, 0, none⟩)), (10, u3), (11, iV r12.2), (12, iV r13.1), (13, iV r13.2), (14, u4), (15, iV r14.2), (16, iV r15.1), (17, bV r15.2.1), (18, iV r15.2.2), (19, iV (tumblaw2_errs [r16, r17]))] [false, true] rfl (subR rfl)
 refine then_n (f_seq (f_region (lv S (rn_move (S.tm rfl)) rfl ?_))); clear S; intro a S
 iterate 3 (refine lv S (rn_move (S.tm rfl)) rfl ?_; clear S; intro a S)
 iterate 4 (refine lv S (rn_assign (S.tm rfl)) rfl ?_; clear S; intro a S)
 refine l_done ?_
 replace S := S.nk [.blk b5 (GStep.enc (GStep.mk r7.1.At x2 x1 r7.1.Who r7.1.Club r7.1.Race r7.1.Age x3)) 34] [(4, v1), (5, v3), (6, sV r4.1), (7, sV r5.1), (8, iV r6.1), (9, .pointer (some ⟨b5, 0, none⟩)), (10, u3), (11, iV r12.2), (12, iV r13.1), (13, iV r13.2), (14, u4), (15, iV r14.2), (16, iV r15.1), (17, bV r15.2.1), (18, iV r15.2.2), (19, iV (tumblaw2_errs [r16, r17])), (20, iV (tumblaw2_errs [r16, r17])), (21, iV (tumblaw2_errs [r16, r17])), (22, iV (tumblaw2_errs [r16, r17])), (23, iV (tumblaw2_errs [r16, r17]))] [true] rfl (subR rfl)
 refine then_n (f_seq (f_seq (f_region (lv S (rn_move (S.tm rfl)) rfl ?_)))); clear S; intro a S
 refine lv S (rn_eql (S.tm rfl) rfl) rfl ?_; clear S; intro a S
 refine l_done ?_
 replace S := S.nk [.blk b5 (GStep.enc (GStep.mk r7.1.At x2 x1 r7.1.Who r7.1.Club r7.1.Race r7.1.Age x3)) 34] [(4, v1), (5, v3), (6, sV r4.1), (7, sV r5.1), (8, iV r6.1), (9, .pointer (some ⟨b5, 0, none⟩)), (10, u3), (11, iV r12.2), (12, iV r13.1), (13, iV r13.2), (14, u4), (15, iV r14.2), (16, iV r15.1), (17, bV r15.2.1), (18, iV r15.2.2), (20, iV (tumblaw2_errs [r16, r17])), (21, iV (tumblaw2_errs [r16, r17])), (22, iV (tumblaw2_errs [r16, r17])), (23, iV (tumblaw2_errs [r16, r17])), (105, bV (decide ((tumblaw2_errs [r16, r17]) = 0)))] [true] rfl (subR rfl)
 refine then_n ?_
 obtain ⟨j3, hj3, h⟩ := joinE h
 refine f_join (fun a w' => ∃ x4 : Int, ∃ x5 : Int, ∃ x6 : Int, ∃ x7 : Int, j3 x4 x5 x6 x7 = some r ∧ Sx w [] φ4 [.blk b5 (GStep.enc (GStep.mk r7.1.At x2 x1 r7.1.Who r7.1.Club r7.1.Race r7.1.Age x3)) 34] [(4, v1), (5, v3), (6, sV r4.1), (7, sV r5.1), (8, iV r6.1), (9, .pointer (some ⟨b5, 0, none⟩)), (10, u3), (11, iV r12.2), (12, iV r13.1), (13, iV r13.2), (14, u4), (15, iV r14.2), (16, iV r15.1), (17, bV r15.2.1), (18, iV r15.2.2), (20, iV x4), (21, iV x5), (22, iV x6), (23, iV x7)] 231 a w') ?_ ?_
 ·refine f_cond (S.tm rfl) (fun hb3 => ?_) (fun hb3 => ?_)
  ·replace h := iteT h hb3
   refine f_seq (f_region (lv S (rn_move (S.tm rfl)) rfl ?_)); clear S; intro a S
   refine l_enter S (fun _ => run_call (vs := [iV r6.1]) ⟨(S.tm rfl), trivial⟩ Tryz.call19) (tumblaw2_momentFault_ok _ r6.1 _ rfl) rfl ?_; clear S; intro v19 a w33 hv19 hk30 hn19 S
   subst hv19
   iterate 3 (refine lv S (rn_move (S.tm rfl)) rfl ?_; clear S; intro a S)
   obtain ⟨r18, hr20, h⟩ := bindE h
   refine l_enter S (fun _ => run_call (vs := [v3, sV r5.1, iV r6.1]) ⟨(S.tm rfl), (S.tm rfl), (S.tm rfl), trivial⟩ Tryz.call20) (tumbref2_IdFault_ok _ v3 r3.1 ((ownV_slcT GStep.enc_ok hs2).mono (View.le_trans (View.le_trans hl3 hl4) (S.le_new nil_sub))) r5.1 r6.1 _ hr20) rfl ?_; clear S; intro v20 a w34 hv20 hk31 hn20 S
   subst hv20
   refine l_buildSlice S Tryz.underlying87 Tryz.sizeOf38 Tryz.zeroValue38 rfl rfl (pv := [(0, iV (tumblaw2_momentFault r6.1)), (1, iV r18)]) ⟨rfl, (S.tm rfl), rfl, (S.tm rfl), trivial⟩ (cs := [iV (tumblaw2_momentFault r6.1), iV r18]) (by kernel_rfl) rfl ?_; clear S; intro a w35 b8 hz12 hk32 S
   refine l_enter S (fun _ => run_call (vs := [.slice (some ⟨b8, 0, none⟩) 2 2]) ⟨(S.tm rfl), trivial⟩ Tryz.call16) (tumblaw2_errs_ok _ (.slice (some ⟨b8, 0, none⟩) 2 2) [(tumblaw2_momentFault r6.1), r18] (lit_slcT enc_int S (i := 0) rfl rfl rfl rfl ((ne_nil (e' := .blk b8 [iV (tumblaw2_momentFault r6.1), iV r18] 38)) _ rfl)) _ rfl) rfl ?_; clear S; intro v21 a w36 hv21 hk33 hn21 S
   subst hv21
   refine lv S (rn_assign (S.tm rfl)) rfl ?_; clear S; intro a S
   refine l_done ?_
   replace S := S.nk [.blk b5 (GStep.enc (GStep.mk r7.1.At x2 x1 r7.1.Who r7.1.Club r7.1.Race r7.1.Age x3)) 34] [(4, v1), (5, v3), (6, sV r4.1), (7, sV r5.1), (8, iV r6.1), (9, .pointer (some ⟨b5, 0, none⟩)), (10, u3), (11, iV r12.2), (12, iV r13.1), (13, iV r13.2), (14, u4), (15, iV r14.2), (16, iV r15.1), (17, bV r15.2.1), (18, iV r15.2.2), (20, iV (tumblaw2_errs [(tumblaw2_momentFault r6.1), r18]))] [false, true] rfl (subR rfl)
   refine then_n (f_seq (f_region (lv S (rn_move (S.tm rfl)) rfl ?_))); clear S; intro a S
   refine l_enter S (fun _ => run_call (vs := [iV r6.1]) ⟨(S.tm rfl), trivial⟩ Tryz.call19) (tumblaw2_momentFault_ok _ r6.1 _ rfl) rfl ?_; clear S; intro v22 a w37 hv22 hk34 hn22 S
   subst hv22
   refine lv S (rn_move (S.tm rfl)) rfl ?_; clear S; intro a S
   refine lv S (rn_move (S.tm rfl)) rfl ?_; clear S; intro a S
   refine l_enter S (fun _ => run_call (vs := [v1, sV r4.1]) ⟨(S.tm rfl), (S.tm rfl), trivial⟩ Tryz.call21) (tumblaw2_kindFault_ok _ v1 r1.1 rs1 ((ownV_slcT R57.enc_ok hs1).mono (View.le_trans (View.le_trans (View.le_trans hl2 hl3) hl4) (S.le_new nil_sub))) (rels_57 (View.le_trans (View.le_trans (View.le_trans hl2 hl3) hl4) (S.le_new nil_sub)) hr3) r4.1 _ rfl) rfl ?_; clear S; intro v23 a w38 hv23 hk35 hn23 S
   subst hv23
   iterate 3 (refine lv S (rn_move (S.tm rfl)) rfl ?_; clear S; intro a S)
   obtain ⟨r19, hr21, h⟩ := bindE h
   refine l_enter S (fun _ => run_call (vs := [v3, sV r5.1, iV r6.1]) ⟨(S.tm rfl), (S.tm rfl), (S.tm rfl), trivial⟩ Tryz.call20) (tumbref2_IdFault_ok _ v3 r3.1 ((ownV_slcT GStep.enc_ok hs2).mono (View.le_trans (View.le_trans hl3 hl4) (S.le_new nil_sub))) r5.1 r6.1 _ hr21) rfl ?_; clear S; intro v24 a w39 hv24 hk36 hn24 S
   subst hv24
   refine l_buildSlice S Tryz.underlying87 Tryz.sizeOf38 Tryz.zeroValue38 rfl rfl (pv := [(0, iV (tumblaw2_momentFault r6.1)), (1, iV (tumblaw2_kindFault r1.1 r4.1)), (2, iV r19)]) ⟨rfl, (S.tm rfl), rfl, (S.tm rfl), rfl, (S.tm rfl), trivial⟩ (cs := [iV (tumblaw2_momentFault r6.1), iV (tumblaw2_kindFault r1.1 r4.1), iV r19]) (by kernel_rfl) rfl ?_; clear S; intro a w40 b9 hz13 hk37 S
   refine l_enter S (fun _ => run_call (vs := [.slice (some ⟨b9, 0, none⟩) 3 3]) ⟨(S.tm rfl), trivial⟩ Tryz.call16) (tumblaw2_errs_ok _ (.slice (some ⟨b9, 0, none⟩) 3 3) [(tumblaw2_momentFault r6.1), (tumblaw2_kindFault r1.1 r4.1), r19] (lit_slcT enc_int S (i := 0) rfl rfl rfl rfl ((ne_nil (e' := .blk b9 [iV (tumblaw2_momentFault r6.1), iV (tumblaw2_kindFault r1.1 r4.1), iV r19] 38)) _ rfl)) _ rfl) rfl ?_; clear S; intro v25 a w41 hv25 hk38 hn25 S
   subst hv25
   refine lv S (rn_assign (S.tm rfl)) rfl ?_; clear S; intro a S
   refine l_done ?_
   replace S := S.nk [.blk b5 (GStep.enc (GStep.mk r7.1.At x2 x1 r7.1.Who r7.1.Club r7.1.Race r7.1.Age x3)) 34] [(4, v1), (5, v3), (6, sV r4.1), (7, sV r5.1), (8, iV r6.1), (9, .pointer (some ⟨b5, 0, none⟩)), (10, u3), (11, iV r12.2), (12, iV r13.1), (13, iV r13.2), (14, u4), (15, iV r14.2), (16, iV r15.1), (17, bV r15.2.1), (18, iV r15.2.2), (20, iV (tumblaw2_errs [(tumblaw2_momentFault r6.1), r18])), (21, iV (tumblaw2_errs [(tumblaw2_momentFault r6.1), (tumblaw2_kindFault r1.1 r4.1), r19]))] [false, true] rfl (subR rfl)
   refine then_n (f_seq ?_)
   obtain ⟨r20, hr22, h⟩ := bindE h
   obtain ⟨r21, hr23, h⟩ := bindE h
   refine d_region [] ([]) Tryz.mixed S rfl (by kernel_rfl) ?_; clear S; intro w48 hk45 hsel S
   refine d_quiet 0 S hsel rfl rfl rfl (by kernel_rfl) (by kernel_rfl) rfl (fun _ hw => (rn_ldA Tryz.isAgg34 Tryz.sizeOf34 (off := 0) (o := 0) (part := (GStep.enc (GStep.mk r7.1.At x2 x1 r7.1.Who r7.1.Club r7.1.Race r7.1.Age x3))) rfl rfl (S.tm rfl) ((S.blk_mem (i := 0) (cells := (GStep.enc (GStep.mk r7.1.At x2 x1 r7.1.Who r7.1.Club r7.1.Race r7.1.Age x3))) (b := b5) (T := 34) rfl (ne_nil (e' := .blk b5 (GStep.enc (GStep.mk r7.1.At x2 x1 r7.1.Who r7.1.Club r7.1.Race r7.1.Age x3)) 34))).kept hw))) ?_; clear S; intro a S
   refine d_quiet 2 S hsel rfl rfl rfl (by kernel_rfl) (by kernel_rfl) rfl (fun _ hw => (rn_fld fa_34_1 (S.tm rfl))) ?_; clear S; intro a S
   refine d_quiet 3 S hsel rfl rfl rfl (by kernel_rfl) (by kernel_rfl) rfl (fun _ hw => (rn_ld Tryz.isAgg3 (off := 0) (o := 1) (S.tm rfl) ((S.blk_mem (i := 0) (cells := (GStep.enc (GStep.mk r7.1.At x2 x1 r7.1.Who r7.1.Club r7.1.Race r7.1.Age x3))) (b := b5) (T := 34) rfl (ne_nil (e' := .blk b5 (GStep.enc (GStep.mk r7.1.At x2 x1 r7.1.Who r7.1.Club r7.1.Race r7.1.Age x3)) 34))).kept hw) rfl)) ?_; clear S; intro a S
   refine d_quiet 4 S hsel rfl rfl rfl (by kernel_rfl) (by kernel_rfl) rfl (fun _ hw => (rn_neq (S.tm rfl) rfl)) ?_; clear S; intro a S
   refine d_quiet 6 S hsel rfl rfl rfl (by kernel_rfl) (by kernel_rfl) rfl (fun _ hw => (rn_move (S.tm rfl))) ?_; clear S; intro a S
   refine d_quiet 7 S hsel rfl rfl rfl (by kernel_rfl) (by kernel_rfl) rfl (fun _ hw => (rn_fld fa_34_2 (S.tm rfl))) ?_; clear S; intro a S
   refine d_quiet 8 S hsel rfl rfl rfl (by kernel_rfl) (by kernel_rfl) rfl (fun _ hw => (rn_ld Tryz.isAgg9 (off := 0) (o := 2) (S.tm rfl) ((S.blk_mem (i := 0) (cells := (GStep.enc (GStep.mk r7.1.At x2 x1 r7.1.Who r7.1.Club r7.1.Race r7.1.Age x3))) (b := b5) (T := 34) rfl (ne_nil (e' := .blk b5 (GStep.enc (GStep.mk r7.1.At x2 x1 r7.1.Who r7.1.Club r7.1.Race r7.1.Age x3)) 34))).kept hw) rfl)) ?_; clear S; intro a S
   refine d_loud1 1 (by kernel_rfl) rfl (l_enter S (fun _ => run_call (vs := [.agg (GStep.enc (GStep.mk r7.1.At x2 x1 r7.1.Who r7.1.Club r7.1.Race r7.1.Age x3)).toArray]) ⟨(S.tm rfl), trivial⟩ Tryz.call22) (tumbref2_StepFault_ok _ (GStep.mk r7.1.At x2 x1 r7.1.Who r7.1.Club r7.1.Race r7.1.Age x3) _ hr22) rfl ?_); clear S; intro v31 a w49 hv31 hk46 hn31 S
   subst hv31
   refine l_done (d_next hk46 (d_loud1 5 (by kernel_rfl) rfl (l_enter S (fun _ => run_call (vs := [bV (!decide (x2 = 1)), iV 4]) ⟨(S.tm rfl), rfl, trivial⟩ Tryz.call23) (tumblaw2_when_ok _ (!decide (x2 = 1)) 4 _ rfl) rfl ?_))); clear S; intro v32 a w50 hv32 hk47 hn32 S
   subst hv32
   refine l_done (d_next hk47 (d_loud1 9 (by kernel_rfl) rfl (l_enter S (fun _ => run_call (vs := [v3, sV x1, iV 345686400000]) ⟨(S.tm rfl), (S.tm rfl), rfl, trivial⟩ Tryz.call20) (tumbref2_IdFault_ok _ v3 r3.1 ((ownV_slcT GStep.enc_ok hs2).mono (View.le_trans (View.le_trans hl3 hl4) (S.le_new nil_sub))) x1 345686400000 _ hr23) rfl ?_))); clear S; intro v33 a w51 hv33 hk48 hn33 S
   subst hv33
   refine l_done (d_next hk48 (d_quiet 10 S hsel rfl rfl rfl (by kernel_rfl) (by kernel_rfl) rfl (fun _ hw => (rn_eql (S.tm rfl) rfl)) ?_)); clear S; intro a S
   refine d_loud1 11 (by kernel_rfl) rfl (l_enter S (fun _ => run_call (vs := [bV (decide (r21 = 0)), iV 6]) ⟨(S.tm rfl), rfl, trivial⟩ Tryz.call23) (tumblaw2_when_ok _ (decide (r21 = 0)) 6 _ rfl) rfl ?_); clear S; intro v34 a w52 hv34 hk49 hn34 S
   subst hv34
   refine l_done (d_next hk49 (d_loud1 12 (by kernel_rfl) rfl (l_buildSlice S Tryz.underlying87 Tryz.sizeOf38 Tryz.zeroValue38 rfl rfl (pv := [(0, iV r20), (1, iV (tumblaw2_when (!decide (x2 = 1)) 4)), (2, iV (tumblaw2_when (decide (r21 = 0)) 6))]) ⟨rfl, (S.tm rfl), rfl, (S.tm rfl), rfl, (S.tm rfl), trivial⟩ (cs := [iV r20, iV (tumblaw2_when (!decide (x2 = 1)) 4), iV (tumblaw2_when (decide (r21 = 0)) 6)]) (by kernel_rfl) rfl ?_))); clear S; intro a w53 b11 hz15 hk50 S
   refine l_done (d_next hk50 (d_loud1 13 (by kernel_rfl) rfl (l_enter S (fun _ => run_call (vs := [.slice (some ⟨b11, 0, none⟩) 3 3]) ⟨(S.tm rfl), trivial⟩ Tryz.call16) (tumblaw2_errs_ok _ (.slice (some ⟨b11, 0, none⟩) 3 3) [r20, (tumblaw2_when (!decide (x2 = 1)) 4), (tumblaw2_when (decide (r21 = 0)) 6)] (lit_slcT enc_int S (i := 0) rfl rfl rfl rfl ((ne_nil (e' := .blk b11 [iV r20, iV (tumblaw2_when (!decide (x2 = 1)) 4), iV (tumblaw2_when (decide (r21 = 0)) 6)] 38)) _ rfl)) _ rfl) rfl ?_))); clear S; intro v35 a w54 hv35 hk51 hn35 S
   subst hv35
   refine l_done (d_next hk51 (d_rest [14] hsel (by kernel_rfl) rfl ?_))
   clear hsel
   refine s_lv S rfl (rn_assign (S.tm rfl)) rfl ?_; clear S; intro a S
   refine s_done ?_
   replace S := S.nk [.blk b5 (GStep.enc (GStep.mk r7.1.At x2 x1 r7.1.Who r7.1.Club r7.1.Race r7.1.Age x3)) 34] [(4, v1), (5, v3), (6, sV r4.1), (7, sV r5.1), (8, iV r6.1), (9, .pointer (some ⟨b5, 0, none⟩)), (10, u3), (11, iV r12.2), (12, iV r13.1), (13, iV r13.2), (14, u4), (15, iV r14.2), (16, iV r15.1), (17, bV r15.2.1), (18, iV r15.2.2), (20, iV (tumblaw2_errs [(tumblaw2_momentFault r6.1), r18])), (21, iV (tumblaw2_errs [(tumblaw2_momentFault r6.1), (tumblaw2_kindFault r1.1 r4.1), r19])), (22, iV (tumblaw2_errs [r20, (tumblaw2_when (!decide (x2 = 1)) 4), (tumblaw2_when (decide (r21 = 0)) 6)]))] [false, true] rfl (subR rfl)
   refine then_n (f_region (lv S (rn_move (S.tm rfl)) rfl ?_)); clear S; intro a S
   refine lv S (rn_move (S.tm rfl)) rfl ?_; clear S; intro a S
   refine l_enter S (fun _ => run_call (vs := [v1, sV r4.1]) ⟨(S.tm rfl), (S.tm rfl), trivial⟩ Tryz.call21) (tumblaw2_kindFault_ok _ v1 r1.1 rs1 ((ownV_slcT R57.enc_ok hs1).mono (View.le_trans (View.le_trans (View.le_trans hl2 hl3) hl4) (S.le_new nil_sub))) (rels_57 (View.le_trans (View.le_trans (View.le_trans hl2 hl3) hl4) (S.le_new nil_sub)) hr3) r4.1 _ rfl) rfl ?_; clear S; intro v36 a w55 hv36 hk52 hn36 S
   subst hv36
   refine lv S (rn_move (S.tm rfl)) rfl ?_; clear S; intro a S
   refine l_enter S (fun _ => run_call (vs := [iV r6.1]) ⟨(S.tm rfl), trivial⟩ Tryz.call19) (tumblaw2_momentFault_ok _ r6.1 _ rfl) rfl ?_; clear S; intro v37 a w56 hv37 hk53 hn37 S
   subst hv37
   refine l_buildSlice S Tryz.underlying87 Tryz.sizeOf38 Tryz.zeroValue38 rfl rfl (pv := [(0, iV (tumblaw2_kindFault r1.1 r4.1)), (1, iV (tumblaw2_momentFault r6.1))]) ⟨rfl, (S.tm rfl), rfl, (S.tm rfl), trivial⟩ (cs := [iV (tumblaw2_kindFault r1.1 r4.1), iV (tumblaw2_momentFault r6.1)]) (by kernel_rfl) rfl ?_; clear S; intro a w57 b12 hz16 hk54 S
   refine l_enter S (fun _ => run_call (vs := [.slice (some ⟨b12, 0, none⟩) 2 2]) ⟨(S.tm rfl), trivial⟩ Tryz.call16) (tumblaw2_errs_ok _ (.slice (some ⟨b12, 0, none⟩) 2 2) [(tumblaw2_kindFault r1.1 r4.1), (tumblaw2_momentFault r6.1)] (lit_slcT enc_int S (i := 0) rfl rfl rfl rfl ((ne_nil (e' := .blk b12 [iV (tumblaw2_kindFault r1.1 r4.1), iV (tumblaw2_momentFault r6.1)] 38)) _ rfl)) _ rfl) rfl ?_; clear S; intro v38 a w58 hv38 hk55 hn38 S
   subst hv38
   refine lv S (rn_assign (S.tm rfl)) rfl ?_; clear S; intro a S
   refine l_done ?_
   replace S := S.nk [.blk b5 (GStep.enc (GStep.mk r7.1.At x2 x1 r7.1.Who r7.1.Club r7.1.Race r7.1.Age x3)) 34] [(4, v1), (5, v3), (6, sV r4.1), (7, sV r5.1), (8, iV r6.1), (9, .pointer (some ⟨b5, 0, none⟩)), (10, u3), (11, iV r12.2), (12, iV r13.1), (13, iV r13.2), (14, u4), (15, iV r14.2), (16, iV r15.1), (17, bV r15.2.1), (18, iV r15.2.2), (20, iV (tumblaw2_errs [(tumblaw2_momentFault r6.1), r18])), (21, iV (tumblaw2_errs [(tumblaw2_momentFault r6.1), (tumblaw2_kindFault r1.1 r4.1), r19])), (22, iV (tumblaw2_errs [r20, (tumblaw2_when (!decide (x2 = 1)) 4), (tumblaw2_when (decide (r21 = 0)) 6)])), (23, iV (tumblaw2_errs [(tumblaw2_kindFault r1.1 r4.1), (tumblaw2_momentFault r6.1)]))] [false, true] rfl (subR rfl)
   refine then_n ?_
   exact ⟨(tumblaw2_errs [(tumblaw2_momentFault r6.1), r18]), (tumblaw2_errs [(tumblaw2_momentFault r6.1), (tumblaw2_kindFault r1.1 r4.1), r19]), (tumblaw2_errs [r20, (tumblaw2_when (!decide (x2 = 1)) 4), (tumblaw2_when (decide (r21 = 0)) 6)]), (tumblaw2_errs [(tumblaw2_kindFault r1.1 r4.1), (tumblaw2_momentFault r6.1)]), h, S.nf [true] rfl (subR rfl)⟩
  ·replace h := iteF h hb3
   refine wp_skip (then_n ?_)
   exact ⟨(tumblaw2_errs [r16, r17]), (tumblaw2_errs [r16, r17]), (tumblaw2_errs [r16, r17]), (tumblaw2_errs [r16, r17]), h, S.nf [true] rfl (subR rfl)⟩
 clear S h; rintro a w32 ⟨x4, x5, x6, x7, h, S⟩; rw [hj3] at h; clear hj3 j3
 refine then_n (f_seq (f_region (lv S (rn_assign rfl) rfl ?_))); clear S; intro a S
 refine lv S (rn_assign rfl) rfl ?_; clear S; intro a S
 refine l_done ?_
 replace S := S.nk [.blk b5 (GStep.enc (GStep.mk r7.1.At x2 x1 r7.1.Who r7.1.Club r7.1.Race r7.1.Age x3)) 34] [(4, v1), (5, v3), (6, sV r4.1), (7, sV r5.1), (8, iV r6.1), (9, .pointer (some ⟨b5, 0, none⟩)), (10, u3), (11, iV r12.2), (12, iV r13.1), (13, iV r13.2), (14, u4), (15, iV r14.2), (16, iV r15.1), (17, bV r15.2.1), (18, iV r15.2.2), (20, iV x4), (21, iV x5), (22, iV x6), (23, iV x7), (24, .slice none 0 0), (25, .slice none 0 0)] [true] rfl (subR rfl)
 refine then_n (f_seq (f_region (lv S (rn_assign rfl) rfl ?_))); clear S; intro a S
 refine lv S (rn_assign rfl) rfl ?_; clear S; intro a S
 refine lv S (rn_assign rfl) rfl ?_; clear S; intro a S
 refine l_done ?_
 replace S := S.nk [.blk b5 (GStep.enc (GStep.mk r7.1.At x2 x1 r7.1.Who r7.1.Club r7.1.Race r7.1.Age x3)) 34] [(4, v1), (5, v3), (6, sV r4.1), (7, sV r5.1), (8, iV r6.1), (9, .pointer (some ⟨b5, 0, none⟩)), (10, u3), (11, iV r12.2), (12, iV r13.1), (13, iV r13.2), (14, u4), (15, iV r14.2), (16, iV r15.1), (17, bV r15.2.1), (18, iV r15.2.2), (20, iV x4), (21, iV x5), (22, iV x6), (23, iV x7), (24, .slice none 0 0), (25, .slice none 0 0), (26, iV 0), (27, iV 0), (28, bV false)] [true] rfl (subR rfl)
 refine then_n (f_seq (f_seq (f_region (lv S (rn_move (S.tm rfl)) rfl ?_)))); clear S; intro a S
 refine lv S (rn_eql (S.tm rfl) rfl) rfl ?_; clear S; intro a S
 refine l_done ?_
 replace S := S.nk [.blk b5 (GStep.enc (GStep.mk r7.1.At x2 x1 r7.1.Who r7.1.Club r7.1.Race r7.1.Age x3)) 34] [(4, v1), (5, v3), (6, sV r4.1), (7, sV r5.1), (8, iV r6.1), (9, .pointer (some ⟨b5, 0, none⟩)), (10, u3), (11, iV r12.2), (12, iV r13.1), (13, iV r13.2), (14, u4), (15, iV r14.2), (16, iV r15.1), (17, bV r15.2.1), (18, iV r15.2.2), (20, iV x4), (21, iV x5), (22, iV x6), (23, iV x7), (24, .slice none 0 0), (25, .slice none 0 0), (26, iV 0), (27, iV 0), (28, bV false), (147, bV (decide (x4 = 0)))] [true] rfl (subR rfl)
 refine then_n ?_
 obtain ⟨j4, hj4, h⟩ := joinE h
 refine f_join (fun a w' => ∃ x8 : List ByteArray, ∃ φ5 : View, ∃ v39 : Value, j4 x8 = some r ∧ View.le φ4 φ5 ∧ OwnV φ5 9 1 v39 x8.length (x8.flatMap eStr) ∧ Sx w [] φ5 [.blk b5 (GStep.enc (GStep.mk r7.1.At x2 x1 r7.1.Who r7.1.Club r7.1.Race r7.1.Age x3)) 34] [(4, v1), (5, v3), (6, sV r4.1), (7, sV r5.1), (8, iV r6.1), (9, .pointer (some ⟨b5, 0, none⟩)), (10, u3), (11, iV r12.2), (12, iV r13.1), (13, iV r13.2), (14, u4), (15, iV r14.2), (16, iV r15.1), (17, bV r15.2.1), (18, iV r15.2.2), (20, iV x4), (21, iV x5), (22, iV x6), (23, iV x7), (24, v39), (25, .slice none 0 0), (26, iV 0), (27, iV 0), (28, bV false)] 231 a w') ?_ ?_
 ·refine f_cond (S.tm rfl) (fun hb4 => ?_) (fun hb4 => ?_)
  ·replace h := iteT h hb4
   refine f_region (lv S (rn_move (S.tm rfl)) rfl ?_); clear S; intro a S
   iterate 3 (refine lv S (rn_move (S.tm rfl)) rfl ?_; clear S; intro a S)
   obtain ⟨r22, hr24, h⟩ := bindE h
   have hz17 := S.keep.size
   refine l_enter S (fun _ => run_call (vs := [v1, v3, sV r5.1, iV r6.1]) ⟨(S.tm rfl), (S.tm rfl), (S.tm rfl), (S.tm rfl), trivial⟩ Tryz.call24) (tumbref2_HeldBy_ok _ v1 r1.1 rs1 ((ownV_slcT R57.enc_ok hs1).mono (View.le_trans (View.le_trans (View.le_trans hl2 hl3) hl4) (S.le_new nil_sub))) (rels_57 (View.le_trans (View.le_trans (View.le_trans hl2 hl3) hl4) (S.le_new nil_sub)) hr3) v3 r3.1 ((ownV_slcT GStep.enc_ok hs2).mono (View.le_trans (View.le_trans hl3 hl4) (S.le_new nil_sub))) r5.1 r6.1 _ hr24) rfl ?_; clear S; intro v40 a w60 hv39 hk56 hn39 S
   obtain ⟨φ6, hl6, hm5, S⟩ := S.see' hn39 hz17
   have hs6 := hv39.mono hm5
   refine lv S (rn_assign (S.tm rfl)) rfl ?_; clear S; intro a S
   refine l_done ?_
   replace S := S.nk [.blk b5 (GStep.enc (GStep.mk r7.1.At x2 x1 r7.1.Who r7.1.Club r7.1.Race r7.1.Age x3)) 34] [(4, v1), (5, v3), (6, sV r4.1), (7, sV r5.1), (8, iV r6.1), (9, .pointer (some ⟨b5, 0, none⟩)), (10, u3), (11, iV r12.2), (12, iV r13.1), (13, iV r13.2), (14, u4), (15, iV r14.2), (16, iV r15.1), (17, bV r15.2.1), (18, iV r15.2.2), (20, iV x4), (21, iV x5), (22, iV x6), (23, iV x7), (24, v40), (25, .slice none 0 0), (26, iV 0), (27, iV 0), (28, bV false)] [true] rfl (subR rfl)
   refine then_n ?_
   exact ⟨r22, φ6, v40, h, hl6, hs6, S.nf [true] rfl (subR rfl)⟩
  ·replace h := iteF h hb4
   refine wp_skip (then_n ?_)
   exact ⟨([] : List ByteArray), φ4, .slice none 0 0, h, (View.le_refl _), (ownV_nil _ _ _), S.nf [true] rfl (subR rfl)⟩
 clear S h; rintro a w59 ⟨x8, φ5, v39, h, hl5, hs5, S⟩; rw [hj4] at h; clear hj4 j4
 refine then_n (f_seq (f_seq (f_region (lv S (rn_move (S.tm rfl)) rfl ?_)))); clear S; intro a S
 refine lv S (rn_eql (S.tm rfl) rfl) rfl ?_; clear S; intro a S
 refine l_done ?_
 replace S := S.nk [.blk b5 (GStep.enc (GStep.mk r7.1.At x2 x1 r7.1.Who r7.1.Club r7.1.Race r7.1.Age x3)) 34] [(4, v1), (5, v3), (6, sV r4.1), (7, sV r5.1), (8, iV r6.1), (9, .pointer (some ⟨b5, 0, none⟩)), (10, u3), (11, iV r12.2), (12, iV r13.1), (13, iV r13.2), (14, u4), (15, iV r14.2), (16, iV r15.1), (17, bV r15.2.1), (18, iV r15.2.2), (20, iV x4), (21, iV x5), (22, iV x6), (23, iV x7), (24, v39), (25, .slice none 0 0), (26, iV 0), (27, iV 0), (28, bV false), (154, bV (decide (x5 = 0)))] [true] rfl (subR rfl)
 refine then_n ?_
 obtain ⟨j5, hj5, h⟩ := joinE h
 refine f_join (fun a w' => ∃ x9 : Int, j5 x9 = some r ∧ Sx w [] φ5 [.blk b5 (GStep.enc (GStep.mk r7.1.At x2 x1 r7.1.Who r7.1.Club r7.1.Race r7.1.Age x3)) 34] [(4, v1), (5, v3), (6, sV r4.1), (8, iV r6.1), (9, .pointer (some ⟨b5, 0, none⟩)), (10, u3), (11, iV r12.2), (12, iV r13.1), (13, iV r13.2), (14, u4), (15, iV r14.2), (16, iV r15.1), (17, bV r15.2.1), (18, iV r15.2.2), (20, iV x4), (21, iV x5), (22, iV x6), (23, iV x7), (24, v39), (25, .slice none 0 0), (26, iV x9), (27, iV 0), (28, bV false)] 231 a w') ?_ ?_
 ·refine f_cond (S.tm rfl) (fun hb5 => ?_) (fun hb5 => ?_)
  ·replace h := iteT h hb5
   refine f_region (lv S (rn_move (S.tm rfl)) rfl ?_); clear S; intro a S
   refine lv S (rn_move (S.tm rfl)) rfl ?_; clear S; intro a S
   refine lv S (rn_move (S.tm rfl)) rfl ?_; clear S; intro a S
   refine l_enter S (fun _ => run_call (vs := [v1, sV r4.1]) ⟨(S.tm rfl), (S.tm rfl), trivial⟩ Tryz.call26) (tumbref2_KindAt_ok _ v1 r1.1 rs1 ((ownV_slcT R57.enc_ok hs1).mono (View.le_trans (View.le_trans (View.le_trans (View.le_trans hl2 hl3) hl4) hl5) (S.le_new nil_sub))) (rels_57 (View.le_trans (View.le_trans (View.le_trans (View.le_trans hl2 hl3) hl4) hl5) (S.le_new nil_sub)) hr3) r4.1 _ rfl) rfl ?_; clear S; intro v41 a w62 hv40 hk57 hn40 S
   subst hv40
   obtain ⟨hc1, h⟩ := chkE h
   obtain ⟨r23, hg1, hl7⟩ := all2_get hr3 hc1
   obtain ⟨u6, rfl, hs7⟩ := hl7
   obtain ⟨b13, o1, hm6, hr25⟩ := rn_indexT (a := a) (x := .tmp 155) (y := .tmp 158) (ty := 0) sl_26 (ownV_slcT R57.enc_ok hs1) hg1 (inB_get hc1).2 (S.tm rfl) (S.tm rfl)
   refine lv S (hr25 _) rfl ?_; clear S; intro a S
   clear hr25
   refine lv S (rn_ldA Tryz.isAgg57 Tryz.sizeOf57 (off := o1) (o := 0) (part := [sV ((nth r1.1 (tumbref2_KindAt r1.1 r4.1)).Key), sV ((nth r1.1 (tumbref2_KindAt r1.1 r4.1)).Race), u6.val, iV ((nth r1.1 (tumbref2_KindAt r1.1 r4.1)).Young), iV ((nth r1.1 (tumbref2_KindAt r1.1 r4.1)).Old)]) rfl rfl (S.tm rfl) ((hm6.mono (View.le_trans (View.le_trans (View.le_trans hl2 hl3) hl4) hl5)).at S.emb)) rfl ?_; clear S; intro a S
   iterate 3 (refine lv S (rn_move (S.tm rfl)) rfl ?_; clear S; intro a S)
   obtain ⟨r24, hr26, h⟩ := bindE h
   refine l_enter S (fun _ => run_call (vs := [.agg (R57.enc (R57.mk ((nth r1.1 (tumbref2_KindAt r1.1 r4.1)).Key) ((nth r1.1 (tumbref2_KindAt r1.1 r4.1)).Race) u6 ((nth r1.1 (tumbref2_KindAt r1.1 r4.1)).Young) ((nth r1.1 (tumbref2_KindAt r1.1 r4.1)).Old))).toArray, v3, sV r5.1, iV r6.1]) ⟨(S.tm rfl), (S.tm rfl), (S.tm rfl), (S.tm rfl), trivial⟩ Tryz.call25) (tumbref2_LongOf_ok _ (nth r1.1 (tumbref2_KindAt r1.1 r4.1)) (R57.mk ((nth r1.1 (tumbref2_KindAt r1.1 r4.1)).Key) ((nth r1.1 (tumbref2_KindAt r1.1 r4.1)).Race) u6 ((nth r1.1 (tumbref2_KindAt r1.1 r4.1)).Young) ((nth r1.1 (tumbref2_KindAt r1.1 r4.1)).Old)) ⟨u6, rfl, (hs7.mono (View.le_trans (View.le_trans (View.le_trans (View.le_trans hl2 hl3) hl4) hl5) (S.le_new nil_sub)))⟩ v3 r3.1 ((ownV_slcT GStep.enc_ok hs2).mono (View.le_trans (View.le_trans (View.le_trans hl3 hl4) hl5) (S.le_new nil_sub))) r5.1 r6.1 _ hr26) rfl ?_; clear S; intro v42 a w63 hv41 hk58 hn41 S
   subst hv41
   refine lv S (rn_assign (S.tm rfl)) rfl ?_; clear S; intro a S
   refine l_done ?_
   replace S := S.nk [.blk b5 (GStep.enc (GStep.mk r7.1.At x2 x1 r7.1.Who r7.1.Club r7.1.Race r7.1.Age x3)) 34] [(4, v1), (5, v3), (6, sV r4.1), (8, iV r6.1), (9, .pointer (some ⟨b5, 0, none⟩)), (10, u3), (11, iV r12.2), (12, iV r13.1), (13, iV r13.2), (14, u4), (15, iV r14.2), (16, iV r15.1), (17, bV r15.2.1), (18, iV r15.2.2), (20, iV x4), (21, iV x5), (22, iV x6), (23, iV x7), (24, v39), (25, .slice none 0 0), (26, iV r24), (27, iV 0), (28, bV false)] [true] rfl (subR rfl)
   refine then_n ?_
   exact ⟨r24, h, S.nf [true] rfl (subR rfl)⟩
  ·replace h := iteF h hb5
   refine wp_skip (then_n ?_)
   exact ⟨0, h, S.nf [true] rfl (subR rfl)⟩
 clear S h; rintro a w61 ⟨x9, h, S⟩; rw [hj5] at h; clear hj5 j5
 refine then_n (f_seq (f_seq (f_region (lv S (rn_move (S.tm rfl)) rfl ?_)))); clear S; intro a S
 refine lv S (rn_eql (S.tm rfl) rfl) rfl ?_; clear S; intro a S
 refine l_done ?_
 replace S := S.nk [.blk b5 (GStep.enc (GStep.mk r7.1.At x2 x1 r7.1.Who r7.1.Club r7.1.Race r7.1.Age x3)) 34] [(4, v1), (5, v3), (6, sV r4.1), (8, iV r6.1), (9, .pointer (some ⟨b5, 0, none⟩)), (10, u3), (11, iV r12.2), (12, iV r13.1), (13, iV r13.2), (14, u4), (15, iV r14.2), (16, iV r15.1), (17, bV r15.2.1), (18, iV r15.2.2), (20, iV x4), (21, iV x5), (22, iV x6), (23, iV x7), (24, v39), (25, .slice none 0 0), (26, iV x9), (27, iV 0), (28, bV false), (166, bV (decide (x6 = 0)))] [true] rfl (subR rfl)
 refine then_n ?_
 obtain ⟨j6, hj6, h⟩ := joinE h
 refine f_join (fun a w' => ∃ x10 : List ByteArray, ∃ φ7 : View, ∃ v43 : Value, j6 x10 = some r ∧ View.le φ5 φ7 ∧ OwnV φ7 9 1 v43 x10.length (x10.flatMap eStr) ∧ Sx w [] φ7 [] [(4, v1), (5, v3), (6, sV r4.1), (8, iV r6.1), (10, u3), (11, iV r12.2), (12, iV r13.1), (13, iV r13.2), (14, u4), (15, iV r14.2), (16, iV r15.1), (17, bV r15.2.1), (18, iV r15.2.2), (20, iV x4), (21, iV x5), (22, iV x6), (23, iV x7), (24, v39), (25, v43), (26, iV x9), (27, iV 0), (28, bV false)] 231 a w') ?_ ?_
 ·refine f_cond (S.tm rfl) (fun hb6 => ?_) (fun hb6 => ?_)
  ·replace h := iteT h hb6
   refine f_region (lv S (rn_move (S.tm rfl)) rfl ?_); clear S; intro a S
   refine lv S (rn_move (S.tm rfl)) rfl ?_; clear S; intro a S
   refine lv S (rn_ldA Tryz.isAgg34 Tryz.sizeOf34 (off := 0) (o := 0) (part := (GStep.enc (GStep.mk r7.1.At x2 x1 r7.1.Who r7.1.Club r7.1.Race r7.1.Age x3))) rfl rfl (S.tm rfl) (S.cellsAt (i := 0) rfl)) rfl ?_; clear S; intro a S
   obtain ⟨r25, hr27, h⟩ := bindE h
   have hz18 := S.keep.size
   refine l_enter S (fun _ => run_call (vs := [v1, v3, .agg (GStep.enc (GStep.mk r7.1.At x2 x1 r7.1.Who r7.1.Club r7.1.Race r7.1.Age x3)).toArray]) ⟨(S.tm rfl), (S.tm rfl), (S.tm rfl), trivial⟩ Tryz.call27) (tumbref2_WouldOf_ok _ v1 r1.1 rs1 ((ownV_slcT R57.enc_ok hs1).mono (View.le_trans (View.le_trans (View.le_trans (View.le_trans hl2 hl3) hl4) hl5) (S.le_new nil_sub))) (rels_57 (View.le_trans (View.le_trans (View.le_trans (View.le_trans hl2 hl3) hl4) hl5) (S.le_new nil_sub)) hr3) v3 r3.1 ((ownV_slcT GStep.enc_ok hs2).mono (View.le_trans (View.le_trans (View.le_trans hl3 hl4) hl5) (S.le_new nil_sub))) (GStep.mk r7.1.At x2 x1 r7.1.Who r7.1.Club r7.1.Race r7.1.Age x3) _ hr27) rfl ?_; clear S; intro v44 a w65 hv42 hk59 hn42 S
   obtain ⟨φ8, hl9, hm7, S⟩ := S.see' hn42 hz18
   have hs9 := hv42.mono hm7
   refine lv S (rn_assign (S.tm rfl)) rfl ?_; clear S; intro a S
   refine l_done ?_
   replace S := S.nk [] [(4, v1), (5, v3), (6, sV r4.1), (8, iV r6.1), (10, u3), (11, iV r12.2), (12, iV r13.1), (13, iV r13.2), (14, u4), (15, iV r14.2), (16, iV r15.1), (17, bV r15.2.1), (18, iV r15.2.2), (20, iV x4), (21, iV x5), (22, iV x6), (23, iV x7), (24, v39), (25, v44), (26, iV x9), (27, iV 0), (28, bV false)] [false] rfl (subR rfl)
   refine then_n ?_
   exact ⟨r25, φ8, v44, h, hl9, hs9, S.nf [] rfl (subR rfl)⟩
  ·replace h := iteF h hb6
   refine wp_skip (then_n ?_)
   exact ⟨([] : List ByteArray), φ5, .slice none 0 0, h, (View.le_refl _), (ownV_nil _ _ _), S.nf [false] rfl (subR rfl)⟩
 clear S h; rintro a w64 ⟨x10, φ7, v43, h, hl8, hs8, S⟩; rw [hj6] at h; clear hj6 j6
 refine then_n (f_seq (f_seq (f_region (lv S (rn_move (S.tm rfl)) rfl ?_)))); clear S; intro a S
 refine lv S (rn_eql (S.tm rfl) rfl) rfl ?_; clear S; intro a S
 refine l_done ?_
 replace S := S.nk [] [(4, v1), (5, v3), (6, sV r4.1), (8, iV r6.1), (10, u3), (11, iV r12.2), (12, iV r13.1), (13, iV r13.2), (14, u4), (15, iV r14.2), (16, iV r15.1), (17, bV r15.2.1), (18, iV r15.2.2), (20, iV x4), (21, iV x5), (22, iV x6), (23, iV x7), (24, v39), (25, v43), (26, iV x9), (27, iV 0), (28, bV false), (172, bV (decide (x7 = 0)))] [] rfl (subR rfl)
 refine then_n ?_
 obtain ⟨j7, hj7, h⟩ := joinE h
 refine f_join (fun a w' => ∃ x11 : Int, ∃ x12 : Bool, j7 x11 x12 = some r ∧ Sx w [] φ7 [] [(10, u3), (11, iV r12.2), (12, iV r13.1), (13, iV r13.2), (14, u4), (15, iV r14.2), (16, iV r15.1), (17, bV r15.2.1), (18, iV r15.2.2), (20, iV x4), (21, iV x5), (22, iV x6), (23, iV x7), (24, v39), (25, v43), (26, iV x9), (27, iV x11), (28, bV x12)] 231 a w') ?_ ?_
 ·refine f_cond (S.tm rfl) (fun hb7 => ?_) (fun hb7 => ?_)
  ·replace h := iteT h hb7
   refine f_region (lv S (rn_move (S.tm rfl)) rfl ?_); clear S; intro a S
   refine lv S (rn_move (S.tm rfl)) rfl ?_; clear S; intro a S
   refine lv S (rn_move (S.tm rfl)) rfl ?_; clear S; intro a S
   refine l_enter S (fun _ => run_call (vs := [v1, sV r4.1]) ⟨(S.tm rfl), (S.tm rfl), trivial⟩ Tryz.call26) (tumbref2_KindAt_ok _ v1 r1.1 rs1 ((ownV_slcT R57.enc_ok hs1).mono (View.le_trans (View.le_trans (View.le_trans (View.le_trans (View.le_trans hl2 hl3) hl4) hl5) hl8) (S.le_new nil_sub))) (rels_57 (View.le_trans (View.le_trans (View.le_trans (View.le_trans (View.le_trans hl2 hl3) hl4) hl5) hl8) (S.le_new nil_sub)) hr3) r4.1 _ rfl) rfl ?_; clear S; intro v45 a w67 hv43 hk60 hn43 S
   subst hv43
   obtain ⟨hc2, h⟩ := chkE h
   obtain ⟨r26, hg2, hl10⟩ := all2_get hr3 hc2
   obtain ⟨u8, rfl, hs10⟩ := hl10
   obtain ⟨b14, o2, hm8, hr28⟩ := rn_indexT (a := a) (x := .tmp 174) (y := .tmp 177) (ty := 0) sl_26 (ownV_slcT R57.enc_ok hs1) hg2 (inB_get hc2).2 (S.tm rfl) (S.tm rfl)
   refine lv S (hr28 _) rfl ?_; clear S; intro a S
   clear hr28
   refine lv S (rn_ldA Tryz.isAgg57 Tryz.sizeOf57 (off := o2) (o := 0) (part := [sV ((nth r1.1 (tumbref2_KindAt r1.1 r4.1)).Key), sV ((nth r1.1 (tumbref2_KindAt r1.1 r4.1)).Race), u8.val, iV ((nth r1.1 (tumbref2_KindAt r1.1 r4.1)).Young), iV ((nth r1.1 (tumbref2_KindAt r1.1 r4.1)).Old)]) rfl rfl (S.tm rfl) ((hm8.mono (View.le_trans (View.le_trans (View.le_trans (View.le_trans hl2 hl3) hl4) hl5) hl8)).at S.emb)) rfl ?_; clear S; intro a S
   refine lv S (rn_move (S.tm rfl)) rfl ?_; clear S; intro a S
   refine lv S (rn_move (S.tm rfl)) rfl ?_; clear S; intro a S
   obtain ⟨r27, hr29, h⟩ := bindE h
   refine l_enter S (fun _ => run_call (vs := [.agg (R57.enc (R57.mk ((nth r1.1 (tumbref2_KindAt r1.1 r4.1)).Key) ((nth r1.1 (tumbref2_KindAt r1.1 r4.1)).Race) u8 ((nth r1.1 (tumbref2_KindAt r1.1 r4.1)).Young) ((nth r1.1 (tumbref2_KindAt r1.1 r4.1)).Old))).toArray, v3, iV r6.1]) ⟨(S.tm rfl), (S.tm rfl), (S.tm rfl), trivial⟩ Tryz.call28) (tumbref2_NeededOf_ok _ (nth r1.1 (tumbref2_KindAt r1.1 r4.1)) (R57.mk ((nth r1.1 (tumbref2_KindAt r1.1 r4.1)).Key) ((nth r1.1 (tumbref2_KindAt r1.1 r4.1)).Race) u8 ((nth r1.1 (tumbref2_KindAt r1.1 r4.1)).Young) ((nth r1.1 (tumbref2_KindAt r1.1 r4.1)).Old)) ⟨u8, rfl, (hs10.mono (View.le_trans (View.le_trans (View.le_trans (View.le_trans (View.le_trans hl2 hl3) hl4) hl5) hl8) (S.le_new nil_sub)))⟩ v3 r3.1 ((ownV_slcT GStep.enc_ok hs2).mono (View.le_trans (View.le_trans (View.le_trans (View.le_trans hl3 hl4) hl5) hl8) (S.le_new nil_sub))) r6.1 _ hr29) rfl ?_; clear S; intro v46 a w68 hv44 hk61 hn44 S
   subst hv44
   refine lv S (rn_move (S.tm rfl)) rfl ?_; clear S; intro a S
   refine lv S (rn_extract (S.tm rfl) rfl) rfl ?_; clear S; intro a S
   refine lv S (rn_extract (S.tm rfl) rfl) rfl ?_; clear S; intro a S
   refine lv S (rn_assign (S.tm rfl)) rfl ?_; clear S; intro a S
   refine lv S (rn_assign (S.tm rfl)) rfl ?_; clear S; intro a S
   refine l_done ?_
   replace S := S.nk [] [(10, u3), (11, iV r12.2), (12, iV r13.1), (13, iV r13.2), (14, u4), (15, iV r14.2), (16, iV r15.1), (17, bV r15.2.1), (18, iV r15.2.2), (20, iV x4), (21, iV x5), (22, iV x6), (23, iV x7), (24, v39), (25, v43), (26, iV x9), (27, iV r27.1), (28, bV r27.2)] [] rfl (subR rfl)
   refine then_n ?_
   exact ⟨r27.1, r27.2, h, S.nf [] rfl (subR rfl)⟩
  ·replace h := iteF h hb7
   refine wp_skip (then_n ?_)
   exact ⟨0, false, h, S.nf [] rfl (subR rfl)⟩
 clear S h; rintro a w66 ⟨x11, x12, h, S⟩; rw [hj7] at h; clear hj7 j7
 refine then_n (f_seq (f_region (lv S (rn_move (S.tm rfl)) rfl ?_))); clear S; intro a S
 refine lv S (rn_move (S.tm rfl)) rfl ?_; clear S; intro a S
 refine lv S (rn_eql (S.tm rfl) (S.tm rfl)) rfl ?_; clear S; intro a S
 refine lv S (rn_move (S.tm rfl)) rfl ?_; clear S; intro a S
 obtain ⟨j8, hj8, h⟩ := joinE h
 refine f_cutm 4 (fun a w' => ∃ c1, j8 c1 = some r ∧ Keep [] w66 w' ∧ Sx w [] φ7 [] [(12, iV r13.1), (13, iV r13.2), (14, u4), (15, iV r14.2), (16, iV r15.1), (17, bV r15.2.1), (18, iV r15.2.2), (21, iV x5), (22, iV x6), (23, iV x7), (25, v43), (26, iV x9), (27, iV x11), (28, bV x12), (192, bV c1)] 231 a w') ?_ ?_
 ·rcases Bool.eq_false_or_eq_true (decide (r12.2 = x4)) with hb8 | hb8
  ·replace h := iteT h hb8
   refine l_want S rfl rfl rfl hb8 (lv S (rn_move (S.tm rfl)) rfl ?_); clear S; intro a S
   refine l_want S rfl rfl rfl hb8 (lv S (rn_move (S.tm rfl)) rfl ?_); clear S; intro a S
   refine l_want S rfl rfl rfl hb8 ?_
   obtain ⟨r28, hr30, h⟩ := bindE h
   refine l_enter S (fun _ => run_call (vs := [u3, v39]) ⟨(S.tm rfl), (S.tm rfl), trivial⟩ Tryz.call29) (slices_Equal_string_ok _ u3 r12.1 ((ownV_slcT enc_str hs3).mono (View.le_trans (View.le_trans (View.le_trans hl4 hl5) hl8) (S.le_new nil_sub))) v39 x8 ((ownV_slcT enc_str hs5).mono (View.le_trans hl8 (S.le_new nil_sub))) _ hr30) rfl ?_; clear S; intro v47 a w70 hv45 hk62 hn45 S
   subst hv45
   refine lv S (rn_and_t hb8 (S.tm rfl) (S.tm rfl)) rfl ?_; clear S; intro a S
   refine l_done (then_n ?_)
   exact ⟨_, h, hk62, S.nf [] rfl (subR rfl)⟩
  ·replace h := iteF h hb8
   iterate 3 (refine l_skip S rfl rfl rfl (neq_f hb8) rfl ?_ rfl; clear S; intro a S)
   refine lv S (rn_and_f true hb8 (S.tm rfl) rfl) rfl ?_; clear S; intro a S
   refine l_done (then_n ?_)
   exact ⟨_, h, Keep.refl _ _, S.nf [] rfl (subR rfl)⟩
 clear S h; rintro a w69 ⟨c1, h, hk63, S⟩; rw [hj8] at h; clear hj8 j8
 refine lv S (rn_move (S.tm rfl)) rfl ?_; clear S; intro a S
 refine f_cutm 4 (fun a w' => Keep [] w69 w' ∧ Sx w [] φ7 [] [(12, iV r13.1), (14, u4), (15, iV r14.2), (16, iV r15.1), (17, bV r15.2.1), (18, iV r15.2.2), (22, iV x6), (23, iV x7), (25, v43), (26, iV x9), (27, iV x11), (28, bV x12), (197, bV (c1 && (decide (r13.2 = x5))))] 231 a w') ?_ ?_
 ·rcases Bool.eq_false_or_eq_true c1 with hb9 | hb9
  ·refine l_want S rfl rfl rfl hb9 (lv S (rn_move (S.tm rfl)) rfl ?_); clear S; intro a S
   refine l_want S rfl rfl rfl hb9 (lv S (rn_move (S.tm rfl)) rfl ?_); clear S; intro a S
   refine l_want S rfl rfl rfl hb9 (lv S (rn_eql (S.tm rfl) (S.tm rfl)) rfl ?_); clear S; intro a S
   refine lv S (rn_and_t hb9 (S.tm rfl) (S.tm rfl)) rfl ?_; clear S; intro a S
   refine l_done (then_n ?_)
   exact ⟨Keep.refl _ _, S.nf [] rfl (subR rfl)⟩
  ·iterate 3 (refine l_skip S rfl rfl rfl (neq_f hb9) rfl ?_ rfl; clear S; intro a S)
   refine lv S (rn_and_f (decide (r13.2 = x5)) hb9 (S.tm rfl) rfl) rfl ?_; clear S; intro a S
   refine l_done (then_n ?_)
   exact ⟨Keep.refl _ _, S.nf [] rfl (subR rfl)⟩
 clear S; rintro a w71 ⟨hk64, S⟩
 refine lv S (rn_move (S.tm rfl)) rfl ?_; clear S; intro a S
 refine f_cutm 4 (fun a w' => Keep [] w71 w' ∧ Sx w [] φ7 [] [(14, u4), (15, iV r14.2), (16, iV r15.1), (17, bV r15.2.1), (18, iV r15.2.2), (22, iV x6), (23, iV x7), (25, v43), (27, iV x11), (28, bV x12), (202, bV ((c1 && (decide (r13.2 = x5))) && (decide (r13.1 = x9))))] 231 a w') ?_ ?_
 ·rcases Bool.eq_false_or_eq_true (c1 && (decide (r13.2 = x5))) with hb10 | hb10
  ·refine l_want S rfl rfl rfl hb10 (lv S (rn_move (S.tm rfl)) rfl ?_); clear S; intro a S
   refine l_want S rfl rfl rfl hb10 (lv S (rn_move (S.tm rfl)) rfl ?_); clear S; intro a S
   refine l_want S rfl rfl rfl hb10 (lv S (rn_eql (S.tm rfl) (S.tm rfl)) rfl ?_); clear S; intro a S
   refine lv S (rn_and_t hb10 (S.tm rfl) (S.tm rfl)) rfl ?_; clear S; intro a S
   refine l_done (then_n ?_)
   exact ⟨Keep.refl _ _, S.nf [] rfl (subR rfl)⟩
  ·iterate 3 (refine l_skip S rfl rfl rfl (neq_f hb10) rfl ?_ rfl; clear S; intro a S)
   refine lv S (rn_and_f (decide (r13.1 = x9)) hb10 (S.tm rfl) rfl) rfl ?_; clear S; intro a S
   refine l_done (then_n ?_)
   exact ⟨Keep.refl _ _, S.nf [] rfl (subR rfl)⟩
 clear S; rintro a w72 ⟨hk65, S⟩
 refine lv S (rn_move (S.tm rfl)) rfl ?_; clear S; intro a S
 refine f_cutm 4 (fun a w' => Keep [] w72 w' ∧ Sx w [] φ7 [] [(14, u4), (16, iV r15.1), (17, bV r15.2.1), (18, iV r15.2.2), (23, iV x7), (25, v43), (27, iV x11), (28, bV x12), (207, bV (((c1 && (decide (r13.2 = x5))) && (decide (r13.1 = x9))) && (decide (r14.2 = x6))))] 231 a w') ?_ ?_
 ·rcases Bool.eq_false_or_eq_true ((c1 && (decide (r13.2 = x5))) && (decide (r13.1 = x9))) with hb11 | hb11
  ·refine l_want S rfl rfl rfl hb11 (lv S (rn_move (S.tm rfl)) rfl ?_); clear S; intro a S
   refine l_want S rfl rfl rfl hb11 (lv S (rn_move (S.tm rfl)) rfl ?_); clear S; intro a S
   refine l_want S rfl rfl rfl hb11 (lv S (rn_eql (S.tm rfl) (S.tm rfl)) rfl ?_); clear S; intro a S
   refine lv S (rn_and_t hb11 (S.tm rfl) (S.tm rfl)) rfl ?_; clear S; intro a S
   refine l_done (then_n ?_)
   exact ⟨Keep.refl _ _, S.nf [] rfl (subR rfl)⟩
  ·iterate 3 (refine l_skip S rfl rfl rfl (neq_f hb11) rfl ?_ rfl; clear S; intro a S)
   refine lv S (rn_and_f (decide (r14.2 = x6)) hb11 (S.tm rfl) rfl) rfl ?_; clear S; intro a S
   refine l_done (then_n ?_)
   exact ⟨Keep.refl _ _, S.nf [] rfl (subR rfl)⟩
 clear S; rintro a w73 ⟨hk66, S⟩
 refine lv S (rn_move (S.tm rfl)) rfl ?_; clear S; intro a S
 obtain ⟨j9, hj9, h⟩ := joinE h
 refine f_cutm 4 (fun a w' => ∃ c2, j9 c2 = some r ∧ Keep [] w73 w' ∧ Sx w [] φ7 [] [(16, iV r15.1), (17, bV r15.2.1), (18, iV r15.2.2), (23, iV x7), (27, iV x11), (28, bV x12), (212, bV c2)] 231 a w') ?_ ?_
 ·rcases Bool.eq_false_or_eq_true (((c1 && (decide (r13.2 = x5))) && (decide (r13.1 = x9))) && (decide (r14.2 = x6))) with hb12 | hb12
  ·replace h := iteT h hb12
   refine l_want S rfl rfl rfl hb12 (lv S (rn_move (S.tm rfl)) rfl ?_); clear S; intro a S
   refine l_want S rfl rfl rfl hb12 (lv S (rn_move (S.tm rfl)) rfl ?_); clear S; intro a S
   refine l_want S rfl rfl rfl hb12 ?_
   obtain ⟨r29, hr31, h⟩ := bindE h
   refine l_enter S (fun _ => run_call (vs := [u4, v43]) ⟨(S.tm rfl), (S.tm rfl), trivial⟩ Tryz.call29) (slices_Equal_string_ok _ u4 r14.1 ((ownV_slcT enc_str hs4).mono (View.le_trans (View.le_trans hl5 hl8) (S.le_new nil_sub))) v43 x10 ((ownV_slcT enc_str hs8).mono (S.le_new nil_sub)) _ hr31) rfl ?_; clear S; intro v48 a w75 hv46 hk67 hn46 S
   subst hv46
   refine lv S (rn_and_t hb12 (S.tm rfl) (S.tm rfl)) rfl ?_; clear S; intro a S
   refine l_done (then_n ?_)
   exact ⟨_, h, hk67, S.nf [] rfl (subR rfl)⟩
  ·replace h := iteF h hb12
   iterate 3 (refine l_skip S rfl rfl rfl (neq_f hb12) rfl ?_ rfl; clear S; intro a S)
   refine lv S (rn_and_f true hb12 (S.tm rfl) rfl) rfl ?_; clear S; intro a S
   refine l_done (then_n ?_)
   exact ⟨_, h, Keep.refl _ _, S.nf [] rfl (subR rfl)⟩
 clear S h; rintro a w74 ⟨c2, h, hk68, S⟩; rw [hj9] at h; clear hj9 j9
 refine lv S (rn_move (S.tm rfl)) rfl ?_; clear S; intro a S
 refine f_cutm 4 (fun a w' => Keep [] w74 w' ∧ Sx w [] φ7 [] [(16, iV r15.1), (17, bV r15.2.1), (27, iV x11), (28, bV x12), (217, bV (c2 && (decide (r15.2.2 = x7))))] 231 a w') ?_ ?_
 ·rcases Bool.eq_false_or_eq_true c2 with hb13 | hb13
  ·refine l_want S rfl rfl rfl hb13 (lv S (rn_move (S.tm rfl)) rfl ?_); clear S; intro a S
   refine l_want S rfl rfl rfl hb13 (lv S (rn_move (S.tm rfl)) rfl ?_); clear S; intro a S
   refine l_want S rfl rfl rfl hb13 (lv S (rn_eql (S.tm rfl) (S.tm rfl)) rfl ?_); clear S; intro a S
   refine lv S (rn_and_t hb13 (S.tm rfl) (S.tm rfl)) rfl ?_; clear S; intro a S
   refine l_done (then_n ?_)
   exact ⟨Keep.refl _ _, S.nf [] rfl (subR rfl)⟩
  ·iterate 3 (refine l_skip S rfl rfl rfl (neq_f hb13) rfl ?_ rfl; clear S; intro a S)
   refine lv S (rn_and_f (decide (r15.2.2 = x7)) hb13 (S.tm rfl) rfl) rfl ?_; clear S; intro a S
   refine l_done (then_n ?_)
   exact ⟨Keep.refl _ _, S.nf [] rfl (subR rfl)⟩
 clear S; rintro a w76 ⟨hk69, S⟩
 refine lv S (rn_move (S.tm rfl)) rfl ?_; clear S; intro a S
 refine f_cutm 4 (fun a w' => Keep [] w76 w' ∧ Sx w [] φ7 [] [(17, bV r15.2.1), (28, bV x12), (222, bV ((c2 && (decide (r15.2.2 = x7))) && (decide (r15.1 = x11))))] 231 a w') ?_ ?_
 ·rcases Bool.eq_false_or_eq_true (c2 && (decide (r15.2.2 = x7))) with hb14 | hb14
  ·refine l_want S rfl rfl rfl hb14 (lv S (rn_move (S.tm rfl)) rfl ?_); clear S; intro a S
   refine l_want S rfl rfl rfl hb14 (lv S (rn_move (S.tm rfl)) rfl ?_); clear S; intro a S
   refine l_want S rfl rfl rfl hb14 (lv S (rn_eql (S.tm rfl) (S.tm rfl)) rfl ?_); clear S; intro a S
   refine lv S (rn_and_t hb14 (S.tm rfl) (S.tm rfl)) rfl ?_; clear S; intro a S
   refine l_done (then_n ?_)
   exact ⟨Keep.refl _ _, S.nf [] rfl (subR rfl)⟩
  ·iterate 3 (refine l_skip S rfl rfl rfl (neq_f hb14) rfl ?_ rfl; clear S; intro a S)
   refine lv S (rn_and_f (decide (r15.1 = x11)) hb14 (S.tm rfl) rfl) rfl ?_; clear S; intro a S
   refine l_done (then_n ?_)
   exact ⟨Keep.refl _ _, S.nf [] rfl (subR rfl)⟩
 clear S; rintro a w77 ⟨hk70, S⟩
 refine lv S (rn_move (S.tm rfl)) rfl ?_; clear S; intro a S
 refine f_cutm 4 (fun a w' => Keep [] w77 w' ∧ Sx w [] φ7 [] [(227, bV (((c2 && (decide (r15.2.2 = x7))) && (decide (r15.1 = x11))) && (decide (r15.2.1 = x12))))] 231 a w') ?_ ?_
 ·rcases Bool.eq_false_or_eq_true ((c2 && (decide (r15.2.2 = x7))) && (decide (r15.1 = x11))) with hb15 | hb15
  ·refine l_want S rfl rfl rfl hb15 (lv S (rn_move (S.tm rfl)) rfl ?_); clear S; intro a S
   refine l_want S rfl rfl rfl hb15 (lv S (rn_move (S.tm rfl)) rfl ?_); clear S; intro a S
   refine l_want S rfl rfl rfl hb15 (lv S (rn_beql Tryz.underlying4 (S.tm rfl) (S.tm rfl)) rfl ?_); clear S; intro a S
   refine lv S (rn_and_t hb15 (S.tm rfl) (S.tm rfl)) rfl ?_; clear S; intro a S
   refine l_done (then_n ?_)
   exact ⟨Keep.refl _ _, S.nf [] rfl ⟨rfl, trivial⟩⟩
  ·iterate 3 (refine l_skip S rfl rfl rfl (neq_f hb15) rfl ?_ rfl; clear S; intro a S)
   refine lv S (rn_and_f (decide (r15.2.1 = x12)) hb15 (S.tm rfl) rfl) rfl ?_; clear S; intro a S
   refine l_done (then_n ?_)
   exact ⟨Keep.refl _ _, S.nf [] rfl ⟨rfl, trivial⟩⟩
 clear S; rintro a w78 ⟨hk71, S⟩
 refine lv S (rn_move (S.tm rfl)) rfl ?_; clear S; intro a S
 obtain ⟨j10, hj10, h⟩ := joinE h
 refine f_cutm 2 (fun a w' => ∃ c3, j10 c3 = some r ∧ Keep [] w78 w' ∧ Sx w [] φ7 [] [(230, bV c3)] 231 a w') ?_ ?_
 ·rcases Bool.eq_false_or_eq_true (((c2 && (decide (r15.2.2 = x7))) && (decide (r15.1 = x11))) && (decide (r15.2.1 = x12))) with hb16 | hb16
  ·replace h := iteT h hb16
   refine l_want S rfl rfl rfl hb16 ?_
   obtain ⟨r30, hr32, h⟩ := bindE h
   refine l_enter S (fun _ => run_call (vs := []) trivial Tryz.call30) (tumblaw2_recorded_ok _ _ hr32) rfl ?_; clear S; intro v49 a w80 hv47 hk72 hn47 S
   subst hv47
   refine lv S (rn_and_t hb16 (S.tm rfl) (S.tm rfl)) rfl ?_; clear S; intro a S
   refine l_done (then_n ?_)
   exact ⟨_, h, hk72, S.nf [] rfl ⟨rfl, trivial⟩⟩
  ·replace h := iteF h hb16
   refine l_skip S rfl rfl rfl (neq_f hb16) rfl ?_ rfl; clear S; intro a S
   refine lv S (rn_and_f true hb16 (S.tm rfl) rfl) rfl ?_; clear S; intro a S
   refine l_done (then_n ?_)
   exact ⟨_, h, Keep.refl _ _, S.nf [] rfl ⟨rfl, trivial⟩⟩
 clear S h; rintro a w79 ⟨c3, h, hk73, S⟩; rw [hj10] at h; clear hj10 j10
 refine lv S (rn_assign (S.tm rfl)) rfl ?_; clear S; intro a S
 refine l_done (then_n (wp_ret ?_))
 obtain rfl := Option.some.inj h
 exact f_ret S Tryz.results3 rfl rfl
end Go.Proofs.YtdkpfiinkodbfaaGreatDoor
