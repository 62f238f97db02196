/- Each Go function computes its plain twin, by program. -/
import Derived.Test.YtigenjanhebbeaaGreatDoorWk1
namespace Go.Proofs.YtigenjanhebbeaaGreatDoor
open Go
set_option maxRecDepth 20000 in
theorem slices_BinarySearchFunc_Step_record_compare_ok (w : World) (v_p_x : Value) (p_x : List GStep) (hs_p_x : Slc (view w []) 8 v_p_x (p_x.map GStep.enc)) (p_target : GStep) (r : Int × Bool) (h : slices_BinarySearchFunc_Step_record_compare p_x p_target = some r) :
    Calls Tryz.prog 24 [v_p_x, .agg (GStep.enc p_target).toArray, .func (.func 25) #[] #[]].toArray w (Ret w [] fun _ v _ => v = .tuple #[iV r.1, bV r.2]) := by
 refine f_enter [] [] Tryz.func24 rfl Tryz.ntmps24 rfl (by simp) (by simp [fps]) (by simp [fps]) fun a S => ?_
 unfold slices_BinarySearchFunc_Step_record_compare at h
 replace S := S.nk [] [(0, v_p_x), (1, .agg (GStep.enc p_target).toArray), (2, .func (.func 25) #[] #[])] [] rfl (subR rfl)
 refine f_seq (f_region (l_box S (S.tm rfl) (cs := (GStep.enc p_target)) rfl rfl ?_)); clear S; intro a w1 b1 hz1 hk1 S
 refine lv S (rn_assign rfl) rfl ?_; clear S; intro a S
 refine lv S (rn_assign rfl) rfl ?_; clear S; intro a S
 refine l_done (then_n (f_seq (f_region (lv S (rn_move (S.tm rfl)) rfl ?_)))); clear S; intro a S
 refine lv S (rn_lenT sl_28 (S.tm rfl) (slc_len hs_p_x)) rfl ?_; clear S; intro a S
 refine lv S (rn_assign (S.tm rfl)) rfl ?_; clear S; intro a S
 refine l_done (then_n (f_seq (f_region (lv S (rn_move (S.tm rfl)) rfl ?_)))); clear S; intro a S
 refine lv S (rn_assign rfl) rfl ?_; clear S; intro a S
 refine lv S (rn_assign (S.tm rfl)) rfl ?_; clear S; intro a S
 refine l_done (then_n (f_seq ?_))
 replace S := S.nk [.blk b1 (GStep.enc p_target) 35] [(0, v_p_x), (2, .func (.func 25) #[] #[]), (4, .pointer (some ⟨b1, 0, none⟩)), (8, iV (p_x.length : Int)), (9, iV 0), (10, iV (p_x.length : Int))] [true] rfl (subR rfl)
 obtain ⟨j1, hj1, h⟩ := joinE h
 refine f_join (fun a w' => ∃ x1 : Int, j1 x1 = some r ∧ Sx w [] nov [.blk b1 (GStep.enc p_target) 35] [(0, v_p_x), (2, .func (.func 25) #[] #[]), (4, .pointer (some ⟨b1, 0, none⟩)), (8, iV (p_x.length : Int)), (9, iV x1)] 49 a w') ?_ ?_
 ·refine wp_block (f_loop (fun (m1 : Nat) a w' => ∃ x1 : Int, ∃ x2 : Int, slices_BinarySearchFunc_Step_record_compare_l1 p_x p_target j1 m1 x1 x2 = some r ∧ Sx w [] nov [.blk b1 (GStep.enc p_target) 35] [(0, v_p_x), (2, .func (.func 25) #[] #[]), (4, .pointer (some ⟨b1, 0, none⟩)), (8, iV (p_x.length : Int)), (9, iV x1), (10, iV x2)] 49 a w') id (((p_x.length : Int) - 0).toNat + 2) ⟨0, (p_x.length : Int), h, S.nf [true] rfl (subR rfl)⟩ ?_)
  clear S h; rintro m1 a w2 ⟨x1, x2, h, S⟩
  cases m1 with
  | zero => rw [slices_BinarySearchFunc_Step_record_compare_l1.eq_1] at h; cases h
  | succ m1 =>
   rw [slices_BinarySearchFunc_Step_record_compare_l1.eq_2] at h
   refine f_seq (f_seq (f_region (lv S (rn_move (S.tm rfl)) rfl ?_))); clear S; intro a S
   refine lv S (rn_move (S.tm rfl)) rfl ?_; clear S; intro a S
   refine lv S (rn_lss (S.tm rfl) (S.tm rfl)) rfl ?_; clear S; intro a S
   refine l_done (then_n (f_cond (S.tm rfl) (fun hb1 => ?_) (fun hb1 => ?_)))
   ·replace h := iteT h hb1
    refine wp_skip (then_n ?_)
    obtain ⟨j2, hj2, h⟩ := joinE h
    refine f_join (fun a w' => ∃ x3 : Int, ∃ x4 : Int, j2 x3 x4 = some r ∧ Sx w [] nov [.blk b1 (GStep.enc p_target) 35] [(0, v_p_x), (2, .func (.func 25) #[] #[]), (4, .pointer (some ⟨b1, 0, none⟩)), (8, iV (p_x.length : Int)), (9, iV x3), (10, iV x4)] 49 a w') ?_ ?_
    ·refine wp_block (f_seq (f_region (lv S (rn_move (S.tm rfl)) rfl ?_))); clear S; intro a S
     refine lv S (rn_move (S.tm rfl)) rfl ?_; clear S; intro a S
     refine lv S (rn_add (S.tm rfl) (S.tm rfl)) rfl ?_; clear S; intro a S
     refine lv S (rn_conv Tryz.underlying3 Tryz.underlying91 (S.tm rfl)) rfl ?_; clear S; intro a S
     refine lv S (rn_shr (S.tm rfl) rfl (by decide)) rfl ?_; clear S; intro a S
     refine lv S (rn_conv Tryz.underlying91 Tryz.underlying3 (S.tm rfl)) rfl ?_; clear S; intro a S
     refine lv S (rn_assign (S.tm rfl)) rfl ?_; clear S; intro a S
     refine l_done ?_
     replace S := S.nk [.blk b1 (GStep.enc p_target) 35] [(0, v_p_x), (2, .func (.func 25) #[] #[]), (4, .pointer (some ⟨b1, 0, none⟩)), (8, iV (p_x.length : Int)), (9, iV x1), (10, iV x2), (11, iV (W (bitShr .u64 (IntKind.wrap .u64 (W (x1 + x2))) 1)))] [true] rfl (subR rfl)
     refine then_n (f_seq ?_)
     obtain ⟨hc1, h⟩ := chkE h
     refine d_region [] ([]) Tryz.mixed S rfl (by kernel_rfl) ?_; clear S; intro w6 hk3 hsel S
     refine d_quiet 0 S hsel rfl rfl rfl (by kernel_rfl) (by kernel_rfl) rfl (fun _ hw => (rn_move (S.tm rfl))) ?_; clear S; intro a S
     refine d_quiet 1 S hsel rfl rfl rfl (by kernel_rfl) (by kernel_rfl) rfl (fun _ hw => (rn_move (S.tm rfl))) ?_; clear S; intro a S
     refine d_quiet 2 S hsel rfl rfl rfl (by kernel_rfl) (by kernel_rfl) rfl (fun _ hw => (rn_move (S.tm rfl))) ?_; clear S; intro a S
     obtain ⟨b3, o2, hm2, hr2⟩ := rn_indexT (a := a) (x := .tmp 25) (y := .tmp 26) (ty := 0) sl_28 (hs_p_x.mono (S.le_arg nil_sub)) (inB_get hc1).1 (inB_get hc1).2 (S.tm rfl) (S.tm rfl)
     refine d_quiet 3 S hsel rfl rfl rfl (by kernel_rfl) (by kernel_rfl) rfl (fun _ hw => hr2 _) ?_; clear S; intro a S
     clear hr2
     refine d_quiet 4 S hsel rfl rfl rfl (by kernel_rfl) (by kernel_rfl) rfl (fun _ hw => (rn_ldA Tryz.isAgg35 Tryz.sizeOf35 (off := o2) (o := 0) (part := (GStep.enc (nth p_x (W (bitShr .u64 (IntKind.wrap .u64 (W (x1 + x2))) 1))))) rfl rfl (S.tm rfl) (hm2.kept hw))) ?_; clear S; intro a S
     refine d_quiet 5 S hsel rfl rfl rfl (by kernel_rfl) (by kernel_rfl) rfl (fun _ hw => (rn_ldA Tryz.isAgg35 Tryz.sizeOf35 (off := 0) (o := 0) (part := (GStep.enc p_target)) rfl rfl (S.tm rfl) ((S.blk_mem (i := 0) (cells := (GStep.enc p_target)) (b := b1) (T := 35) rfl (ne_nil (e' := .blk b1 (GStep.enc p_target) 35))).kept hw))) ?_; clear S; intro a S
     refine d_loud1 6 (by kernel_rfl) rfl (l_enter S (fun _ => run_callV (cap := []) (S.tm rfl) (vs := [.agg (GStep.enc (nth p_x (W (bitShr .u64 (IntKind.wrap .u64 (W (x1 + x2))) 1)))).toArray, .agg (GStep.enc p_target).toArray]) ⟨(S.tm rfl), (S.tm rfl), trivial⟩ Tryz.call25) (record_compare_ok _ (nth p_x (W (bitShr .u64 (IntKind.wrap .u64 (W (x1 + x2))) 1))) p_target _ rfl) rfl ?_); clear S; intro v2 a w7 hv2 hk4 hn2 S
     subst hv2
     refine l_done (d_next hk4 (d_rest [7] hsel (by kernel_rfl) rfl ?_))
     clear hsel
     refine s_lv S rfl (rn_lss (S.tm rfl) rfl) rfl ?_; clear S; intro a S
     refine s_done ?_
     replace S := S.nk [.blk b1 (GStep.enc p_target) 35] [(0, v_p_x), (2, .func (.func 25) #[] #[]), (4, .pointer (some ⟨b1, 0, none⟩)), (8, iV (p_x.length : Int)), (9, iV x1), (10, iV x2), (11, iV (W (bitShr .u64 (IntKind.wrap .u64 (W (x1 + x2))) 1))), (31, bV (decide ((record_compare (nth p_x (W (bitShr .u64 (IntKind.wrap .u64 (W (x1 + x2))) 1))) p_target) < 0)))] [true] rfl (subR rfl)
     refine then_n ?_
     obtain ⟨j3, hj3, h⟩ := joinE h
     refine f_join (fun a w' => ∃ x5 : Int, ∃ x6 : Int, j3 x5 x6 = some r ∧ Sx w [] nov [.blk b1 (GStep.enc p_target) 35] [(0, v_p_x), (2, .func (.func 25) #[] #[]), (4, .pointer (some ⟨b1, 0, none⟩)), (8, iV (p_x.length : Int)), (9, iV x5), (10, iV x6)] 49 a w') ?_ ?_
     ·refine f_cond (S.tm rfl) (fun hb2 => ?_) (fun hb2 => ?_)
      ·replace h := iteT h hb2
       refine f_region (lv S (rn_move (S.tm rfl)) rfl ?_); clear S; intro a S
       refine lv S (rn_add (S.tm rfl) rfl) rfl ?_; clear S; intro a S
       refine lv S (rn_assign (S.tm rfl)) rfl ?_; clear S; intro a S
       refine l_done (then_n ?_)
       exact ⟨W ((W (bitShr .u64 (IntKind.wrap .u64 (W (x1 + x2))) 1)) + 1), x2, h, S.nf [true] rfl (subR rfl)⟩
      ·replace h := iteF h hb2
       refine f_region (lv S (rn_move (S.tm rfl)) rfl ?_); clear S; intro a S
       refine lv S (rn_assign (S.tm rfl)) rfl ?_; clear S; intro a S
       refine l_done (then_n ?_)
       exact ⟨x1, W (bitShr .u64 (IntKind.wrap .u64 (W (x1 + x2))) 1), h, S.nf [true] rfl (subR rfl)⟩
     clear S h; rintro a w8 ⟨x5, x6, h, S⟩; rw [hj3] at h; clear hj3 j3
     refine blk_n (then_n ?_)
     exact ⟨x5, x6, h, S.nf [true] rfl (subR rfl)⟩
    clear S h; rintro a w4 ⟨x3, x4, h, S⟩; rw [hj2] at h; clear hj2 j2
    refine then_n ?_
    exact ⟨m1, ⟨x3, x4, h, S.nf [true] rfl ⟨rfl, rfl, rfl, rfl, rfl, rfl, trivial⟩⟩, Nat.lt_succ_self _⟩
   ·replace h := iteF h hb1
    refine wp_exit (then_x (then_x (x_same (then_n ?_))))
    exact ⟨x1, h, S.nf [true] rfl (subR rfl)⟩
 clear S h; rintro a w3 ⟨x1, h, S⟩; rw [hj1] at h; clear hj1 j1
 refine then_n (f_seq ?_)
 obtain ⟨j4, hj4, h⟩ := joinE h
 refine f_join (fun a w' => ∃ x7 : Bool, j4 x7 = some r ∧ Sx w [] nov [] [(6, iV x1), (7, bV x7)] 49 a w') ?_ ?_
 ·rcases Bool.eq_false_or_eq_true (decide (x1 < (p_x.length : Int))) with hb3 | hb3
  ·replace h := iteT h hb3
   obtain ⟨hc2, h⟩ := chkE h
   refine d_region [] ([]) Tryz.mixed S rfl (by kernel_rfl) ?_; clear S; intro w11 hk6 hsel S
   refine d_quiet 0 S hsel rfl rfl rfl (by kernel_rfl) (by kernel_rfl) rfl (fun _ hw => (rn_move (S.tm rfl))) ?_; clear S; intro a S
   refine d_quiet 1 S hsel rfl rfl rfl (by kernel_rfl) (by kernel_rfl) rfl (fun _ hw => (rn_move (S.tm rfl))) ?_; clear S; intro a S
   refine d_quiet 2 S hsel rfl rfl rfl (by kernel_rfl) (by kernel_rfl) rfl (fun _ hw => (rn_move (S.tm rfl))) ?_; clear S; intro a S
   refine d_quiet 3 S hsel rfl rfl rfl (by kernel_rfl) (by kernel_rfl) rfl (fun _ hw => (rn_lss (S.tm rfl) (S.tm rfl))) ?_; clear S; intro a S
   refine d_quiet 4 S hsel rfl rfl rfl (by kernel_rfl) (by kernel_rfl) rfl (fun _ hw => (rn_move (S.tm rfl))) ?_; clear S; intro a S
   refine d_quiet_g 5 S hsel rfl rfl rfl rfl hb3 rfl rfl (by kernel_rfl) (by kernel_rfl) rfl (fun _ hw => (rn_move (S.tm rfl))) ?_; clear S; intro a S
   refine d_quiet_g 6 S hsel rfl rfl rfl rfl hb3 rfl rfl (by kernel_rfl) (by kernel_rfl) rfl (fun _ hw => (rn_move (S.tm rfl))) ?_; clear S; intro a S
   refine d_quiet_g 7 S hsel rfl rfl rfl rfl hb3 rfl rfl (by kernel_rfl) (by kernel_rfl) rfl (fun _ hw => (rn_move (S.tm rfl))) ?_; clear S; intro a S
   obtain ⟨b5, o4, hm4, hr4⟩ := rn_indexT (a := a) (x := .tmp 41) (y := .tmp 42) (ty := 0) sl_28 (hs_p_x.mono (S.le_arg nil_sub)) (inB_get hc2).1 (inB_get hc2).2 (S.tm rfl) (S.tm rfl)
   refine d_quiet_g 8 S hsel rfl rfl rfl rfl hb3 rfl rfl (by kernel_rfl) (by kernel_rfl) rfl (fun _ hw => hr4 _) ?_; clear S; intro a S
   clear hr4
   refine d_quiet_g 9 S hsel rfl rfl rfl rfl hb3 rfl rfl (by kernel_rfl) (by kernel_rfl) rfl (fun _ hw => (rn_ldA Tryz.isAgg35 Tryz.sizeOf35 (off := o4) (o := 0) (part := (GStep.enc (nth p_x x1))) rfl rfl (S.tm rfl) (hm4.kept hw))) ?_; clear S; intro a S
   refine d_quiet_g 10 S hsel rfl rfl rfl rfl hb3 rfl rfl (by kernel_rfl) (by kernel_rfl) rfl (fun _ hw => (rn_ldA Tryz.isAgg35 Tryz.sizeOf35 (off := 0) (o := 0) (part := (GStep.enc p_target)) rfl rfl (S.tm rfl) ((S.blk_mem (i := 0) (cells := (GStep.enc p_target)) (b := b1) (T := 35) rfl (ne_nil (e' := .blk b1 (GStep.enc p_target) 35))).kept hw))) ?_; clear S; intro a S
   refine d_loud1 11 (by kernel_rfl) rfl (l_want S rfl rfl rfl hb3 (l_enter S (fun _ => run_callV (cap := []) (S.tm rfl) (vs := [.agg (GStep.enc (nth p_x x1)).toArray, .agg (GStep.enc p_target).toArray]) ⟨(S.tm rfl), (S.tm rfl), trivial⟩ Tryz.call25) (record_compare_ok _ (nth p_x x1) p_target _ rfl) rfl ?_)); clear S; intro v4 a w12 hv4 hk7 hn4 S
   subst hv4
   refine l_done (d_next hk7 (d_rest [12, 13, 14, 15] hsel (by kernel_rfl) rfl ?_))
   clear hsel
   refine s_want S rfl rfl rfl rfl hb3 (s_lv0 S (rn_eql (S.tm rfl) rfl) rfl ?_); clear S; intro a S
   refine s_lv S rfl (rn_pick_b hb3 (S.tm rfl) (S.tm rfl)) rfl ?_; clear S; intro a S
   refine s_lv S rfl (rn_assign (S.tm rfl)) rfl ?_; clear S; intro a S
   refine s_lv S rfl (rn_assign (S.tm rfl)) rfl ?_; clear S; intro a S
   refine s_done ?_
   replace S := S.nk [] [(6, iV x1), (7, bV (decide ((record_compare (nth p_x x1) p_target) = 0)))] [false] rfl (subR rfl)
   refine then_n ?_
   exact ⟨decide ((record_compare (nth p_x x1) p_target) = 0), h, S.nf [] rfl (subR rfl)⟩
  ·replace h := iteF h hb3
   refine d_region [] ([]) Tryz.mixed S rfl (by kernel_rfl) ?_; clear S; intro w13 hk8 hsel S
   refine d_rest [0, 1, 2, 3, 4, 5, 6, 7, 8, 9, 10, 11, 12, 13, 14, 15] hsel (by kernel_rfl) rfl ?_
   clear hsel
   iterate 3 (refine s_lv S rfl (rn_move (S.tm rfl)) rfl ?_; clear S; intro a S)
   refine s_lv S rfl (rn_lss (S.tm rfl) (S.tm rfl)) rfl ?_; clear S; intro a S
   refine s_lv S rfl (rn_move (S.tm rfl)) rfl ?_; clear S; intro a S
   iterate 8 (refine s_skip S rfl rfl rfl rfl (neq_f hb3) rfl ?_ rfl; clear S; intro a S)
   refine s_lv S rfl (rn_pick_c hb3 (S.tm rfl) rfl) rfl ?_; clear S; intro a S
   refine s_lv S rfl (rn_assign (S.tm rfl)) rfl ?_; clear S; intro a S
   refine s_lv S rfl (rn_assign (S.tm rfl)) rfl ?_; clear S; intro a S
   refine s_done ?_
   replace S := S.nk [] [(6, iV x1), (7, bV false)] [false] rfl (subR rfl)
   refine then_n ?_
   exact ⟨false, h, S.nf [] rfl (subR rfl)⟩
 clear S h; rintro a w9 ⟨x7, h, S⟩; rw [hj4] at h; clear hj4 j4
 refine then_n (wp_ret ?_)
 obtain rfl := Option.some.inj h
 exact f_ret2 S Tryz.results24 rfl rfl rfl
set_option maxRecDepth 20000 in
theorem bits_Len32_ok (w : World) (p_x : Int) (r : Int) (h : bits_Len32 p_x = some r) :
    Calls Tryz.prog 82 [.int .u32 p_x].toArray w (Ret w [] fun _ v _ => v = iV r) := by
 refine f_enter [] [] Tryz.func82 rfl Tryz.ntmps82 rfl (by simp) (by simp [fps]) (by simp [fps]) fun a S => ?_
 unfold bits_Len32 at h
 replace S := S.nk [] [(0, .int .u32 p_x)] [] rfl ⟨rfl, trivial⟩
 refine f_seq (f_region (lv S (rn_assign rfl) rfl ?_)); clear S; intro a S
 refine l_done (then_n (f_seq (f_seq (f_region (lv S (rn_move (S.tm rfl)) rfl ?_))))); clear S; intro a S
 refine lv S (rn_geq (S.tm rfl) rfl) rfl ?_; clear S; intro a S
 refine l_done (then_n ?_)
 obtain ⟨j1, hj1, h⟩ := joinE h
 refine f_join (fun a w' => ∃ x1 : Int, ∃ x2 : Int, j1 x1 x2 = some r ∧ Sx w [] nov [] [(0, .int .u32 x1), (2, iV x2)] 19 a w') ?_ ?_
 ·refine f_cond (S.tm rfl) (fun hb1 => ?_) (fun hb1 => ?_)
  ·replace h := iteT h hb1
   refine f_seq (f_region (lv S (rn_move (S.tm rfl)) rfl ?_)); clear S; intro a S
   refine lv S (rn_shr (S.tm rfl) rfl (by decide)) rfl ?_; clear S; intro a S
   refine lv S (rn_assign (S.tm rfl)) rfl ?_; clear S; intro a S
   refine l_done (then_n (f_region (lv S (rn_assign rfl) rfl ?_))); clear S; intro a S
   refine l_done (then_n ?_)
   exact ⟨bitShr .u32 p_x 16, 16, h, S.nf [] rfl (subR rfl)⟩
  ·replace h := iteF h hb1
   refine wp_skip (then_n ?_)
   exact ⟨p_x, 0, h, S.nf [] rfl (subR rfl)⟩
 clear S h; rintro a w1 ⟨x1, x2, h, S⟩; rw [hj1] at h; clear hj1 j1
 refine then_n (f_seq (f_seq (f_region (lv S (rn_move (S.tm rfl)) rfl ?_)))); clear S; intro a S
 refine lv S (rn_geq (S.tm rfl) rfl) rfl ?_; clear S; intro a S
 refine l_done (then_n ?_)
 obtain ⟨j2, hj2, h⟩ := joinE h
 refine f_join (fun a w' => ∃ x3 : Int, ∃ x4 : Int, j2 x3 x4 = some r ∧ Sx w [] nov [] [(0, .int .u32 x3), (2, iV x4)] 19 a w') ?_ ?_
 ·refine f_cond (S.tm rfl) (fun hb2 => ?_) (fun hb2 => ?_)
  ·replace h := iteT h hb2
   refine f_seq (f_region (lv S (rn_move (S.tm rfl)) rfl ?_)); clear S; intro a S
   refine lv S (rn_shr (S.tm rfl) rfl (by decide)) rfl ?_; clear S; intro a S
   refine lv S (rn_assign (S.tm rfl)) rfl ?_; clear S; intro a S
   refine l_done (then_n (f_region (lv S (rn_move (S.tm rfl)) rfl ?_))); clear S; intro a S
   refine lv S (rn_add (S.tm rfl) rfl) rfl ?_; clear S; intro a S
   refine lv S (rn_assign (S.tm rfl)) rfl ?_; clear S; intro a S
   refine l_done (then_n ?_)
   exact ⟨bitShr .u32 x1 8, W (x2 + 8), h, S.nf [] rfl (subR rfl)⟩
  ·replace h := iteF h hb2
   refine wp_skip (then_n ?_)
   exact ⟨x1, x2, h, S.nf [] rfl (subR rfl)⟩
 clear S h; rintro a w2 ⟨x3, x4, h, S⟩; rw [hj2] at h; clear hj2 j2
 refine then_n (f_seq (f_region (lv S (rn_move (S.tm rfl)) rfl ?_))); clear S; intro a S
 refine lv S (rn_move (S.tm rfl)) rfl ?_; clear S; intro a S
 refine lv S (rn_conv Tryz.underlying116 Tryz.underlying5 (S.tm rfl)) rfl ?_; clear S; intro a S
 obtain ⟨hc1, h⟩ := chkE h
 refine lv S (rn_sindexT Tryz.underlying9 rfl (S.tm rfl) hc1) rfl ?_; clear S; intro a S
 refine lv S (rn_conv Tryz.underlying5 Tryz.underlying3 (S.tm rfl)) rfl ?_; clear S; intro a S
 refine lv S (rn_add (S.tm rfl) (S.tm rfl)) rfl ?_; clear S; intro a S
 refine lv S (rn_assign (S.tm rfl)) rfl ?_; clear S; intro a S
 refine l_done (then_n (wp_ret ?_))
 obtain rfl := Option.some.inj h
 exact f_ret S Tryz.results82 rfl rfl
set_option maxRecDepth 20000 in
theorem bits_Len64_ok (w : World) (p_x : Int) (r : Int) (h : bits_Len64 p_x = some r) :
    Calls Tryz.prog 83 [.int .u64 p_x].toArray w (Ret w [] fun _ v _ => v = iV r) := by
 refine f_enter [] [] Tryz.func83 rfl Tryz.ntmps83 rfl (by simp) (by simp [fps]) (by simp [fps]) fun a S => ?_
 unfold bits_Len64 at h
 replace S := S.nk [] [(0, .int .u64 p_x)] [] rfl ⟨rfl, trivial⟩
 refine f_seq (f_region (lv S (rn_assign rfl) rfl ?_)); clear S; intro a S
 refine l_done (then_n (f_seq (f_seq (f_region (lv S (rn_move (S.tm rfl)) rfl ?_))))); clear S; intro a S
 refine lv S (rn_geq (S.tm rfl) rfl) rfl ?_; clear S; intro a S
 refine l_done (then_n ?_)
 obtain ⟨j1, hj1, h⟩ := joinE h
 refine f_join (fun a w' => ∃ x1 : Int, ∃ x2 : Int, j1 x1 x2 = some r ∧ Sx w [] nov [] [(0, .int .u64 x1), (2, iV x2)] 25 a w') ?_ ?_
 ·refine f_cond (S.tm rfl) (fun hb1 => ?_) (fun hb1 => ?_)
  ·replace h := iteT h hb1
   refine f_seq (f_region (lv S (rn_move (S.tm rfl)) rfl ?_)); clear S; intro a S
   refine lv S (rn_shr (S.tm rfl) rfl (by decide)) rfl ?_; clear S; intro a S
   refine lv S (rn_assign (S.tm rfl)) rfl ?_; clear S; intro a S
   refine l_done (then_n (f_region (lv S (rn_assign rfl) rfl ?_))); clear S; intro a S
   refine l_done (then_n ?_)
   exact ⟨bitShr .u64 p_x 32, 32, h, S.nf [] rfl (subR rfl)⟩
  ·replace h := iteF h hb1
   refine wp_skip (then_n ?_)
   exact ⟨p_x, 0, h, S.nf [] rfl (subR rfl)⟩
 clear S h; rintro a w1 ⟨x1, x2, h, S⟩; rw [hj1] at h; clear hj1 j1
 refine then_n (f_seq (f_seq (f_region (lv S (rn_move (S.tm rfl)) rfl ?_)))); clear S; intro a S
 refine lv S (rn_geq (S.tm rfl) rfl) rfl ?_; clear S; intro a S
 refine l_done (then_n ?_)
 obtain ⟨j2, hj2, h⟩ := joinE h
 refine f_join (fun a w' => ∃ x3 : Int, ∃ x4 : Int, j2 x3 x4 = some r ∧ Sx w [] nov [] [(0, .int .u64 x3), (2, iV x4)] 25 a w') ?_ ?_
 ·refine f_cond (S.tm rfl) (fun hb2 => ?_) (fun hb2 => ?_)
  ·replace h := iteT h hb2
   refine f_seq (f_region (lv S (rn_move (S.tm rfl)) rfl ?_)); clear S; intro a S
   refine lv S (rn_shr (S.tm rfl) rfl (by decide)) rfl ?_; clear S; intro a S
   refine lv S (rn_assign (S.tm rfl)) rfl ?_; clear S; intro a S
   refine l_done (then_n (f_region (lv S (rn_move (S.tm rfl)) rfl ?_))); clear S; intro a S
   refine lv S (rn_add (S.tm rfl) rfl) rfl ?_; clear S; intro a S
   refine lv S (rn_assign (S.tm rfl)) rfl ?_; clear S; intro a S
   refine l_done (then_n ?_)
   exact ⟨bitShr .u64 x1 16, W (x2 + 16), h, S.nf [] rfl (subR rfl)⟩
  ·replace h := iteF h hb2
   refine wp_skip (then_n ?_)
   exact ⟨x1, x2, h, S.nf [] rfl (subR rfl)⟩
 clear S h; rintro a w2 ⟨x3, x4, h, S⟩; rw [hj2] at h; clear hj2 j2
 refine then_n (f_seq (f_seq (f_region (lv S (rn_move (S.tm rfl)) rfl ?_)))); clear S; intro a S
 refine lv S (rn_geq (S.tm rfl) rfl) rfl ?_; clear S; intro a S
 refine l_done (then_n ?_)
 obtain ⟨j3, hj3, h⟩ := joinE h
 refine f_join (fun a w' => ∃ x5 : Int, ∃ x6 : Int, j3 x5 x6 = some r ∧ Sx w [] nov [] [(0, .int .u64 x5), (2, iV x6)] 25 a w') ?_ ?_
 ·refine f_cond (S.tm rfl) (fun hb3 => ?_) (fun hb3 => ?_)
  ·replace h := iteT h hb3
   refine f_seq (f_region (lv S (rn_move (S.tm rfl)) rfl ?_)); clear S; intro a S
   refine lv S (rn_shr (S.tm rfl) rfl (by decide)) rfl ?_; clear S; intro a S
   refine lv S (rn_assign (S.tm rfl)) rfl ?_; clear S; intro a S
   refine l_done (then_n (f_region (lv S (rn_move (S.tm rfl)) rfl ?_))); clear S; intro a S
   refine lv S (rn_add (S.tm rfl) rfl) rfl ?_; clear S; intro a S
   refine lv S (rn_assign (S.tm rfl)) rfl ?_; clear S; intro a S
   refine l_done (then_n ?_)
   exact ⟨bitShr .u64 x3 8, W (x4 + 8), h, S.nf [] rfl (subR rfl)⟩
  ·replace h := iteF h hb3
   refine wp_skip (then_n ?_)
   exact ⟨x3, x4, h, S.nf [] rfl (subR rfl)⟩
 clear S h; rintro a w3 ⟨x5, x6, h, S⟩; rw [hj3] at h; clear hj3 j3
 refine then_n (f_seq (f_region (lv S (rn_move (S.tm rfl)) rfl ?_))); clear S; intro a S
 refine lv S (rn_move (S.tm rfl)) rfl ?_; clear S; intro a S
 refine lv S (rn_conv Tryz.underlying118 Tryz.underlying5 (S.tm rfl)) rfl ?_; clear S; intro a S
 obtain ⟨hc1, h⟩ := chkE h
 refine lv S (rn_sindexT Tryz.underlying9 rfl (S.tm rfl) hc1) rfl ?_; clear S; intro a S
 refine lv S (rn_conv Tryz.underlying5 Tryz.underlying3 (S.tm rfl)) rfl ?_; clear S; intro a S
 refine lv S (rn_add (S.tm rfl) (S.tm rfl)) rfl ?_; clear S; intro a S
 refine lv S (rn_assign (S.tm rfl)) rfl ?_; clear S; intro a S
 refine l_done (then_n (wp_ret ?_))
 obtain rfl := Option.some.inj h
 exact f_ret S Tryz.results83 rfl rfl
theorem bits_Len_ok (w : World) (p_x : Int) (r : Int) (h : bits_Len p_x = some r) :
    Calls Tryz.prog 49 [.int .u64 p_x].toArray w (Ret w [] fun _ v _ => v = iV r) := by
 refine f_enter [] [] Tryz.func49 rfl Tryz.ntmps49 rfl (by simp) (by simp [fps]) (by simp [fps]) fun a S => ?_
 unfold bits_Len at h
 replace S := S.nk [] [(0, .int .u64 p_x)] [] rfl ⟨rfl, trivial⟩
 refine f_seq (f_region (lv S (rn_assign rfl) rfl ?_)); clear S; intro a S
 refine l_done (then_n (f_seq (f_cond rfl (fun hb1 => ?_) (fun hb1 => ?_))))
 ·replace h := iteT h hb1
  refine f_seq (f_region (lv S (rn_move (S.tm rfl)) rfl ?_)); clear S; intro a S
  refine lv S (rn_conv Tryz.underlying91 Tryz.underlying116 (S.tm rfl)) rfl ?_; clear S; intro a S
  obtain ⟨r1, hr1, h⟩ := bindE h
  refine l_enter S (fun _ => run_call (vs := [.int .u32 (IntKind.wrap .u32 p_x)]) ⟨(S.tm rfl), trivial⟩ Tryz.call82) (bits_Len32_ok _ (IntKind.wrap .u32 p_x) _ hr1) rfl ?_; clear S; intro v1 a w1 hv1 hk1 hn1 S
  subst hv1
  refine lv S (rn_assign (S.tm rfl)) rfl ?_; clear S; intro a S
  refine l_done (then_n (wp_ret (then_r ?_)))
  obtain rfl := Option.some.inj h
  exact f_ret S Tryz.results49 rfl rfl
 ·replace h := iteF h hb1
  refine wp_skip (then_n (f_seq (f_region (lv S (rn_move (S.tm rfl)) rfl ?_)))); clear S; intro a S
  obtain ⟨r2, hr2, h⟩ := bindE h
  refine l_enter S (fun _ => run_call (vs := [.int .u64 p_x]) ⟨(S.tm rfl), trivial⟩ Tryz.call83) (bits_Len64_ok _ p_x _ hr2) rfl ?_; clear S; intro v2 a w2 hv2 hk2 hn2 S
  subst hv2
  refine lv S (rn_assign (S.tm rfl)) rfl ?_; clear S; intro a S
  refine l_done (then_n (wp_ret ?_))
  obtain rfl := Option.some.inj h
  exact f_ret S Tryz.results49 rfl rfl
set_option maxRecDepth 20000 in
theorem slices_insertionSortCmpFunc_Step_record_compare_ok (w : World) (v_p_data : Value) (p_data : List GStep) (hb_p_data : (LEnt.own v_p_data 35 8 p_data.length (p_data.flatMap GStep.enc)).holds w) (p_a : Int) (p_b : Int) (r : (List GStep)) (h : slices_insertionSortCmpFunc_Step_record_compare p_data p_a p_b = some r) :
    Calls Tryz.prog 74 [v_p_data, iV p_a, iV p_b, .func (.func 25) #[] #[]].toArray w (Ret w (v_p_data.ownBlock.toList) fun _ v w' => (LEnt.own v_p_data 35 8 r.length (r.flatMap GStep.enc)).holds w' ∧ v = .tuple #[]) := by
 refine f_enter (v_p_data.ownBlock.toList) [.own v_p_data 35 8 p_data.length (p_data.flatMap GStep.enc)] Tryz.func74 rfl Tryz.ntmps74 rfl (fun e he => by simp only [List.mem_singleton] at he; subst he; exact hb_p_data) (fps_one_nodup _) (fps_one_sub _) fun a S => ?_
 unfold slices_insertionSortCmpFunc_Step_record_compare at h
 replace S := S.nk [.own v_p_data 35 8 p_data.length (p_data.flatMap GStep.enc)] [(0, v_p_data), (1, iV p_a), (2, iV p_b), (3, .func (.func 25) #[] #[])] [true] rfl (subR rfl)
 refine f_seq (f_region (lv S (rn_move (S.tm rfl)) rfl ?_)); clear S; intro a S
 refine lv S (rn_add (S.tm rfl) rfl) rfl ?_; clear S; intro a S
 refine lv S (rn_assign (S.tm rfl)) rfl ?_; clear S; intro a S
 refine l_done (then_n ?_)
 replace S := S.nk [.own v_p_data 35 8 p_data.length (p_data.flatMap GStep.enc)] [(0, v_p_data), (1, iV p_a), (2, iV p_b), (3, .func (.func 25) #[] #[]), (8, iV (W (p_a + 1)))] [true] rfl (subR rfl)
 obtain ⟨j1, hj1, h⟩ := joinE h
 refine f_join (fun a w' => ∃ x1 : List GStep, j1 x1 = some r ∧ Sx w (v_p_data.ownBlock.toList) nov [.own v_p_data 35 8 x1.length (x1.flatMap GStep.enc)] [] 53 a w') ?_ ?_
 ·refine wp_block (f_loop (fun (m1 : Nat) a w' => ∃ x1 : List GStep, ∃ x2 : Int, slices_insertionSortCmpFunc_Step_record_compare_l1 p_b p_a j1 m1 x1 x2 = some r ∧ Sx w (v_p_data.ownBlock.toList) nov [.own v_p_data 35 8 x1.length (x1.flatMap GStep.enc)] [(0, v_p_data), (1, iV p_a), (2, iV p_b), (3, .func (.func 25) #[] #[]), (8, iV x2)] 53 a w') id ((p_b - (W (p_a + 1))).toNat + 2) ⟨p_data, W (p_a + 1), h, S.nf [true] rfl (subR rfl)⟩ ?_)
  clear S h; rintro m1 a w1 ⟨x1, x2, h, S⟩
  cases m1 with
  | zero => rw [slices_insertionSortCmpFunc_Step_record_compare_l1.eq_1] at h; cases h
  | succ m1 =>
   rw [slices_insertionSortCmpFunc_Step_record_compare_l1.eq_2] at h
   refine f_seq (f_seq (f_region (lv S (rn_move (S.tm rfl)) rfl ?_))); clear S; intro a S
   refine lv S (rn_move (S.tm rfl)) rfl ?_; clear S; intro a S
   refine lv S (rn_lss (S.tm rfl) (S.tm rfl)) rfl ?_; clear S; intro a S
   refine l_done (then_n (f_cond (S.tm rfl) (fun hb1 => ?_) (fun hb1 => ?_)))
   ·replace h := iteT h hb1
    refine wp_skip (then_n (f_seq (wp_block (f_seq (f_region (lv S (rn_move (S.tm rfl)) rfl ?_)))))); clear S; intro a S
    refine lv S (rn_assign (S.tm rfl)) rfl ?_; clear S; intro a S
    refine l_done (then_n ?_)
    replace S := S.nk [.own v_p_data 35 8 x1.length (x1.flatMap GStep.enc)] [(0, v_p_data), (1, iV p_a), (2, iV p_b), (3, .func (.func 25) #[] #[]), (8, iV x2), (9, iV x2)] [true] rfl (subR rfl)
    obtain ⟨j2, hj2, h⟩ := joinE h
    refine f_join (fun a w' => ∃ x3 : List GStep, j2 x3 = some r ∧ Sx w (v_p_data.ownBlock.toList) nov [.own v_p_data 35 8 x3.length (x3.flatMap GStep.enc)] [(0, v_p_data), (1, iV p_a), (2, iV p_b), (3, .func (.func 25) #[] #[]), (8, iV x2)] 53 a w') ?_ ?_
    ·refine wp_block (f_loop (fun (m2 : Nat) a w' => ∃ x3 : List GStep, ∃ x4 : Int, slices_insertionSortCmpFunc_Step_record_compare_l2 p_a j2 m2 x3 x4 = some r ∧ Sx w (v_p_data.ownBlock.toList) nov [.own v_p_data 35 8 x3.length (x3.flatMap GStep.enc)] [(0, v_p_data), (1, iV p_a), (2, iV p_b), (3, .func (.func 25) #[] #[]), (8, iV x2), (9, iV x4)] 53 a w') id ((x2 - p_a).toNat + 2) ⟨x1, x2, h, S.nf [true] rfl (subR rfl)⟩ ?_)
     clear S h; rintro m2 a w3 ⟨x3, x4, h, S⟩
     cases m2 with
     | zero => rw [slices_insertionSortCmpFunc_Step_record_compare_l2.eq_1] at h; cases h
     | succ m2 =>
      rw [slices_insertionSortCmpFunc_Step_record_compare_l2.eq_2] at h
      refine f_seq (f_seq ?_)
      obtain ⟨j3, hj3, h⟩ := joinE h
      refine f_join (fun a w' => ∃ x5 : Bool, j3 x5 = some r ∧ Sx w (v_p_data.ownBlock.toList) nov [.own v_p_data 35 8 x3.length (x3.flatMap GStep.enc)] [(0, v_p_data), (1, iV p_a), (2, iV p_b), (3, .func (.func 25) #[] #[]), (8, iV x2), (9, iV x4), (34, bV x5)] 53 a w') ?_ ?_
      ·rcases Bool.eq_false_or_eq_true (decide (p_a < x4)) with hb2 | hb2
       ·replace h := iteT h hb2
        obtain ⟨hc1, h⟩ := chkE h
        obtain ⟨hc2, h⟩ := chkE h
        refine d_region [] ([]) Tryz.mixed S rfl (by kernel_rfl) ?_; clear S; intro w7 hk2 hsel S
        refine d_quiet 0 S hsel rfl rfl rfl (by kernel_rfl) (by kernel_rfl) rfl (fun _ hw => (rn_move (S.tm rfl))) ?_; clear S; intro a S
        refine d_quiet 1 S hsel rfl rfl rfl (by kernel_rfl) (by kernel_rfl) rfl (fun _ hw => (rn_move (S.tm rfl))) ?_; clear S; intro a S
        refine d_quiet 2 S hsel rfl rfl rfl (by kernel_rfl) (by kernel_rfl) rfl (fun _ hw => (rn_gtr (S.tm rfl) (S.tm rfl))) ?_; clear S; intro a S
        refine d_quiet 3 S hsel rfl rfl rfl (by kernel_rfl) (by kernel_rfl) rfl (fun _ hw => (rn_move (S.tm rfl))) ?_; clear S; intro a S
        refine d_quiet_g 4 S hsel rfl rfl rfl rfl hb2 rfl rfl (by kernel_rfl) (by kernel_rfl) rfl (fun _ hw => (rn_move (S.tm rfl))) ?_; clear S; intro a S
        refine d_quiet_g 5 S hsel rfl rfl rfl rfl hb2 rfl rfl (by kernel_rfl) (by kernel_rfl) rfl (fun _ hw => (rn_move (S.tm rfl))) ?_; clear S; intro a S
        refine d_quiet_g 6 S hsel rfl rfl rfl rfl hb2 rfl rfl (by kernel_rfl) (by kernel_rfl) rfl (fun _ hw => (rn_move (S.tm rfl))) ?_; clear S; intro a S
        obtain ⟨b3, hg3, hr3⟩ := rn_indexS (a := a) (x := .tmp 23) (y := .tmp 24) (ty := 0) sl_28 GStep.enc_ok S (i := 0) rfl (inB_get hc1).1 (inB_get hc1).2 (S.tm rfl) (S.tm rfl)
        refine d_quiet_g 7 S hsel rfl rfl rfl rfl hb2 rfl rfl (by kernel_rfl) (by kernel_rfl) rfl (fun _ hw => (hr3 _)) ?_; clear S; intro a S
        clear hr3
        refine d_quiet_g 8 S hsel rfl rfl rfl rfl hb2 rfl rfl (by kernel_rfl) (by kernel_rfl) rfl (fun _ hw => (rn_ldA Tryz.isAgg35 Tryz.sizeOf35 (off := x4.toNat * 8) (o := 0) (part := (GStep.enc (nth x3 x4))) rfl rfl (S.tm rfl) ((own_mem GStep.enc_ok S (i := 0) rfl hg3 (inB_get hc1).1 (ne_nil (e' := .own v_p_data 35 8 x3.length (x3.flatMap GStep.enc)))).kept hw))) ?_; clear S; intro a S
        refine d_quiet_g 9 S hsel rfl rfl rfl rfl hb2 rfl rfl (by kernel_rfl) (by kernel_rfl) rfl (fun _ hw => (rn_move (S.tm rfl))) ?_; clear S; intro a S
        refine d_quiet_g 10 S hsel rfl rfl rfl rfl hb2 rfl rfl (by kernel_rfl) (by kernel_rfl) rfl (fun _ hw => (rn_move (S.tm rfl))) ?_; clear S; intro a S
        refine d_quiet_g 11 S hsel rfl rfl rfl rfl hb2 rfl rfl (by kernel_rfl) (by kernel_rfl) rfl (fun _ hw => (rn_sub (S.tm rfl) rfl)) ?_; clear S; intro a S
        obtain ⟨b4, hg4, hr4⟩ := rn_indexS (a := a) (x := .tmp 27) (y := .tmp 29) (ty := 0) sl_28 GStep.enc_ok S (i := 0) rfl (inB_get hc2).1 (inB_get hc2).2 (S.tm rfl) (S.tm rfl)
        refine d_quiet_g 12 S hsel rfl rfl rfl rfl hb2 rfl rfl (by kernel_rfl) (by kernel_rfl) rfl (fun _ hw => (hr4 _)) ?_; clear S; intro a S
        clear hr4
        refine d_quiet_g 13 S hsel rfl rfl rfl rfl hb2 rfl rfl (by kernel_rfl) (by kernel_rfl) rfl (fun _ hw => (rn_ldA Tryz.isAgg35 Tryz.sizeOf35 (off := ((W (x4 - 1)).toNat) * 8) (o := 0) (part := (GStep.enc (nth x3 (W (x4 - 1))))) rfl rfl (S.tm rfl) ((own_mem GStep.enc_ok S (i := 0) rfl hg4 (inB_get hc2).1 (ne_nil (e' := .own v_p_data 35 8 x3.length (x3.flatMap GStep.enc)))).kept hw))) ?_; clear S; intro a S
        refine d_loud1 14 (by kernel_rfl) rfl (l_want S rfl rfl rfl hb2 (l_enter S (fun _ => run_callV (cap := []) (S.tm rfl) (vs := [.agg (GStep.enc (nth x3 x4)).toArray, .agg (GStep.enc (nth x3 (W (x4 - 1)))).toArray]) ⟨(S.tm rfl), (S.tm rfl), trivial⟩ Tryz.call25) (record_compare_ok _ (nth x3 x4) (nth x3 (W (x4 - 1))) _ rfl) rfl ?_)); clear S; intro v2 a w8 hv2 hk3 hn2 S
        subst hv2
        refine l_done (d_next hk3 (d_rest [15, 16] hsel (by kernel_rfl) rfl ?_))
        clear hsel
        refine s_want S rfl rfl rfl rfl hb2 (s_lv0 S (rn_lss (S.tm rfl) rfl) rfl ?_); clear S; intro a S
        refine s_lv S rfl (rn_pick_b hb2 (S.tm rfl) (S.tm rfl)) rfl ?_; clear S; intro a S
        refine s_done ?_
        replace S := S.nk [.own v_p_data 35 8 x3.length (x3.flatMap GStep.enc)] [(0, v_p_data), (1, iV p_a), (2, iV p_b), (3, .func (.func 25) #[] #[]), (8, iV x2), (9, iV x4), (22, .func (.func 25) #[] #[]), (23, v_p_data), (24, iV x4), (25, .pointer (some ⟨b3, x4.toNat * 8, none⟩)), (26, .agg (GStep.enc (nth x3 x4)).toArray), (27, v_p_data), (28, iV x4), (29, iV (W (x4 - 1))), (30, .pointer (some ⟨b4, ((W (x4 - 1)).toNat) * 8, none⟩)), (31, .agg (GStep.enc (nth x3 (W (x4 - 1)))).toArray), (32, iV (record_compare (nth x3 x4) (nth x3 (W (x4 - 1))))), (33, bV (decide ((record_compare (nth x3 x4) (nth x3 (W (x4 - 1)))) < 0))), (34, bV (decide ((record_compare (nth x3 x4) (nth x3 (W (x4 - 1)))) < 0)))] [true] rfl (subR rfl)
        refine then_n ?_
        exact ⟨decide ((record_compare (nth x3 x4) (nth x3 (W (x4 - 1)))) < 0), h, S.nf [true] rfl (subR rfl)⟩
       ·replace h := iteF h hb2
        refine d_region [] ([]) Tryz.mixed S rfl (by kernel_rfl) ?_; clear S; intro w9 hk4 hsel S
        refine d_rest [0, 1, 2, 3, 4, 5, 6, 7, 8, 9, 10, 11, 12, 13, 14, 15, 16] hsel (by kernel_rfl) rfl ?_
        clear hsel
        refine s_lv S rfl (rn_move (S.tm rfl)) rfl ?_; clear S; intro a S
        refine s_lv S rfl (rn_move (S.tm rfl)) rfl ?_; clear S; intro a S
        refine s_lv S rfl (rn_gtr (S.tm rfl) (S.tm rfl)) rfl ?_; clear S; intro a S
        refine s_lv S rfl (rn_move (S.tm rfl)) rfl ?_; clear S; intro a S
        iterate 12 (refine s_skip S rfl rfl rfl rfl (neq_f hb2) rfl ?_ rfl; clear S; intro a S)
        refine s_lv S rfl (rn_pick_c hb2 (S.tm rfl) rfl) rfl ?_; clear S; intro a S
        refine s_done ?_
        replace S := S.nk [.own v_p_data 35 8 x3.length (x3.flatMap GStep.enc)] [(0, v_p_data), (1, iV p_a), (2, iV p_b), (3, .func (.func 25) #[] #[]), (8, iV x2), (9, iV x4), (34, bV false)] [true] rfl (subR rfl)
        refine then_n ?_
        exact ⟨false, h, S.nf [true] rfl (subR rfl)⟩
      clear S h; rintro a w5 ⟨x5, h, S⟩; rw [hj3] at h; clear hj3 j3
      refine then_n (f_cond (S.tm rfl) (fun hb3 => ?_) (fun hb3 => ?_))
      ·replace h := iteT h hb3
       refine wp_skip (then_n (f_seq (wp_block ?_)))
       obtain ⟨hc3, h⟩ := chkE h
       obtain ⟨hc4, h⟩ := chkE h
       obtain ⟨hc5, h⟩ := chkE h
       obtain ⟨hc6, h⟩ := chkE h
       refine d_region [15, 17] ([]) Tryz.mixed S rfl (by kernel_rfl) ?_; clear S; intro w14 hk9 hsel S
       refine d_pure 0 S hsel rfl rfl (by kernel_rfl) (by kernel_rfl) rfl (fun _ => (rn_move (S.tm rfl))) ?_; clear S; intro a S
       refine d_pure 1 S hsel rfl rfl (by kernel_rfl) (by kernel_rfl) rfl (fun _ => (rn_move (S.tm rfl))) ?_; clear S; intro a S
       refine d_pure 2 S hsel rfl rfl (by kernel_rfl) (by kernel_rfl) rfl (fun _ => (rn_move (S.tm rfl))) ?_; clear S; intro a S
       refine d_pure 3 S hsel rfl rfl (by kernel_rfl) (by kernel_rfl) rfl (fun _ => (rn_move (S.tm rfl))) ?_; clear S; intro a S
       refine d_pure 4 S hsel rfl rfl (by kernel_rfl) (by kernel_rfl) rfl (fun _ => (rn_sub (S.tm rfl) rfl)) ?_; clear S; intro a S
       refine d_pure 5 S hsel rfl rfl (by kernel_rfl) (by kernel_rfl) rfl (fun _ => (rn_move (S.tm rfl))) ?_; clear S; intro a S
       refine d_pure 6 S hsel rfl rfl (by kernel_rfl) (by kernel_rfl) rfl (fun _ => (rn_move (S.tm rfl))) ?_; clear S; intro a S
       refine d_pure 7 S hsel rfl rfl (by kernel_rfl) (by kernel_rfl) rfl (fun _ => (rn_sub (S.tm rfl) rfl)) ?_; clear S; intro a S
       obtain ⟨b9, hg9, hr9⟩ := rn_indexS (a := a) (x := .tmp 42) (y := .tmp 44) (ty := 0) sl_28 GStep.enc_ok S (i := 0) rfl (inB_get hc3).1 (inB_get hc3).2 (S.tm rfl) (S.tm rfl)
       refine d_pure 8 S hsel rfl rfl (by kernel_rfl) (by kernel_rfl) rfl (fun _ => (hr9 _)) ?_; clear S; intro a S
       clear hr9
       refine d_quiet 9 S hsel rfl (by kernel_rfl) (by kernel_rfl) (by kernel_rfl) (by kernel_rfl) rfl (fun _ hw => (rn_ldA Tryz.isAgg35 Tryz.sizeOf35 (off := ((W (x4 - 1)).toNat) * 8) (o := 0) (part := (GStep.enc (nth x3 (W (x4 - 1))))) rfl rfl (S.tm rfl) ((own_mem GStep.enc_ok S (i := 0) rfl hg9 (inB_get hc3).1 (ne_nil (e' := .own v_p_data 35 8 x3.length (x3.flatMap GStep.enc)))).kept hw))) ?_; clear S; intro a S
       refine d_pure 10 S hsel rfl rfl (by kernel_rfl) (by kernel_rfl) rfl (fun _ => (rn_move (S.tm rfl))) ?_; clear S; intro a S
       refine d_pure 11 S hsel rfl rfl (by kernel_rfl) (by kernel_rfl) rfl (fun _ => (rn_move (S.tm rfl))) ?_; clear S; intro a S
       obtain ⟨b10, hg10, hr10⟩ := rn_indexS (a := a) (x := .tmp 47) (y := .tmp 48) (ty := 0) sl_28 GStep.enc_ok S (i := 0) rfl (inB_get hc4).1 (inB_get hc4).2 (S.tm rfl) (S.tm rfl)
       refine d_pure 12 S hsel rfl rfl (by kernel_rfl) (by kernel_rfl) rfl (fun _ => (hr10 _)) ?_; clear S; intro a S
       clear hr10
       refine d_quiet 13 S hsel rfl (by kernel_rfl) (by kernel_rfl) (by kernel_rfl) (by kernel_rfl) rfl (fun _ hw => (rn_ldA Tryz.isAgg35 Tryz.sizeOf35 (off := x4.toNat * 8) (o := 0) (part := (GStep.enc (nth x3 x4))) rfl rfl (S.tm rfl) ((own_mem GStep.enc_ok S (i := 0) rfl hg10 (inB_get hc4).1 (ne_nil (e' := .own v_p_data 35 8 x3.length (x3.flatMap GStep.enc)))).kept hw))) ?_; clear S; intro a S
       obtain ⟨b11, hg11, hr11⟩ := rn_indexS (a := a) (x := .tmp 37) (y := .tmp 38) (ty := 0) sl_28 GStep.enc_ok S (i := 0) rfl (inB_get hc5).1 (inB_get hc5).2 (S.tm rfl) (S.tm rfl)
       refine d_pure 14 S hsel rfl rfl (by kernel_rfl) (by kernel_rfl) rfl (fun _ => (hr11 _)) ?_; clear S; intro a S
       clear hr11
       refine d_loudB 15 (v_p_data.ownBlock.toList) rfl (by kernel_rfl) rfl (l_storeO (c := 0) (j := x4.toNat) (nth x3 (W (x4 - 1))) GStep.enc_ok S (S.tm rfl) (S.tm rfl) (i := 0) rfl hg11 (inB_get hc5).1 Tryz.sizeOf35 (vs := [iV ((nth x3 (W (x4 - 1))).At), iV ((nth x3 (W (x4 - 1))).Kind), sV ((nth x3 (W (x4 - 1))).Id), sV ((nth x3 (W (x4 - 1))).Who), sV ((nth x3 (W (x4 - 1))).Club), sV ((nth x3 (W (x4 - 1))).Race), iV ((nth x3 (W (x4 - 1))).Age), iV ((nth x3 (W (x4 - 1))).Time)]) rfl rfl rfl rfl rfl ?_); clear S; intro w16 hk11 S
       refine l_done (d_nextB ?_)
       obtain ⟨b12, hg12, hr12⟩ := rn_indexS (a := a) (x := .tmp 39) (y := .tmp 41) (ty := 0) sl_28 GStep.enc_ok S (i := 0) rfl (inB_get hc6).1 (inB_get hc6).2 (S.tm rfl) (S.tm rfl)
       refine d_quiet 16 S hsel rfl rfl rfl (by kernel_rfl) (by kernel_rfl) rfl (fun _ hw => (hr12 _)) ?_; clear S; intro a S
       clear hr12
       refine d_loud1 17 (by kernel_rfl) rfl (l_storeO (c := 0) (j := (W (x4 - 1)).toNat) (nth x3 x4) GStep.enc_ok S (S.tm rfl) (S.tm rfl) (i := 0) rfl hg12 (inB_get hc6).1 Tryz.sizeOf35 (vs := [iV ((nth x3 x4).At), iV ((nth x3 x4).Kind), sV ((nth x3 x4).Id), sV ((nth x3 x4).Who), sV ((nth x3 x4).Club), sV ((nth x3 x4).Race), iV ((nth x3 x4).Age), iV ((nth x3 x4).Time)]) rfl rfl rfl rfl rfl ?_); clear S; intro w18 hk13 S
       refine l_done (d_next hk13 (d_end (by kernel_rfl) ?_))
       clear hsel
       replace S := S.nk [.own v_p_data 35 8 ((x3.set x4.toNat (nth x3 (W (x4 - 1)))).set ((W (x4 - 1)).toNat) (nth x3 x4)).length (((x3.set x4.toNat (nth x3 (W (x4 - 1)))).set ((W (x4 - 1)).toNat) (nth x3 x4)).flatMap GStep.enc)] [(0, v_p_data), (1, iV p_a), (2, iV p_b), (3, .func (.func 25) #[] #[]), (8, iV x2), (9, iV x4)] [true] rfl (subR rfl)
       refine blk_n (then_n (f_region (lv S (rn_move (S.tm rfl)) rfl ?_))); clear S; intro a S
       refine lv S (rn_sub (S.tm rfl) rfl) rfl ?_; clear S; intro a S
       refine lv S (rn_assign (S.tm rfl)) rfl ?_; clear S; intro a S
       refine l_done (then_n ?_)
       exact ⟨m2, ⟨((x3.set x4.toNat (nth x3 (W (x4 - 1)))).set ((W (x4 - 1)).toNat) (nth x3 x4)), W (x4 - 1), h, S.nf [true] rfl ⟨rfl, rfl, rfl, rfl, rfl, rfl, trivial⟩⟩, Nat.lt_succ_self _⟩
      ·replace h := iteF h hb3
       refine wp_exit (then_x (then_x (x_same (then_n ?_))))
       exact ⟨x3, h, S.nf [true] rfl (subR rfl)⟩
    clear S h; rintro a w4 ⟨x3, h, S⟩; rw [hj2] at h; clear hj2 j2
    refine blk_n (then_n (f_region (lv S (rn_move (S.tm rfl)) rfl ?_))); clear S; intro a S
    refine lv S (rn_add (S.tm rfl) rfl) rfl ?_; clear S; intro a S
    refine lv S (rn_assign (S.tm rfl)) rfl ?_; clear S; intro a S
    refine l_done (then_n ?_)
    exact ⟨m1, ⟨x3, W (x2 + 1), h, S.nf [true] rfl ⟨rfl, rfl, rfl, rfl, rfl, trivial⟩⟩, Nat.lt_succ_self _⟩
   ·replace h := iteF h hb1
    refine wp_exit (then_x (then_x (x_same (then_n ?_))))
    exact ⟨x1, h, S.nf [true] rfl trivial⟩
 clear S h; rintro a w2 ⟨x1, h, S⟩; rw [hj1] at h; clear hj1 j1
 obtain rfl := Option.some.inj h
 exact f_ret0 S Tryz.results74 ⟨(S.holds _ (List.mem_of_getElem? (i := 0) rfl)), rfl⟩
theorem slices_pdqsortCmpFunc_Step_record_compare_ok (w : World) (v_p_data : Value) (p_data : List GStep) (hb_p_data : (LEnt.own v_p_data 35 8 p_data.length (p_data.flatMap GStep.enc)).holds w) (p_a : Int) (p_b : Int) (p_limit : Int) (r : (List GStep)) (h : slices_pdqsortCmpFunc_Step_record_compare p_data p_a p_b p_limit = some r) :
    Calls Tryz.prog 48 [v_p_data, iV p_a, iV p_b, iV p_limit, .func (.func 25) #[] #[]].toArray w (Ret w (v_p_data.ownBlock.toList) fun _ v w' => (LEnt.own v_p_data 35 8 r.length (r.flatMap GStep.enc)).holds w' ∧ v = .tuple #[]) := by
 refine f_enter (v_p_data.ownBlock.toList) [.own v_p_data 35 8 p_data.length (p_data.flatMap GStep.enc)] Tryz.func48 rfl Tryz.ntmps48 rfl (fun e he => by simp only [List.mem_singleton] at he; subst he; exact hb_p_data) (fps_one_nodup _) (fps_one_sub _) fun a S => ?_
 unfold slices_pdqsortCmpFunc_Step_record_compare at h
 replace S := S.nk [.own v_p_data 35 8 p_data.length (p_data.flatMap GStep.enc)] [(0, v_p_data), (1, iV p_a), (2, iV p_b), (3, iV p_limit), (4, .func (.func 25) #[] #[])] [true] rfl (subR rfl)
 refine f_seq (f_region (lv S (rn_assign rfl) rfl ?_)); clear S; intro a S
 refine l_done (then_n (f_seq (f_region (lv S (rn_assign rfl) rfl ?_)))); clear S; intro a S
 refine l_done (then_n ?_)
 replace S := S.nk [.own v_p_data 35 8 p_data.length (p_data.flatMap GStep.enc)] [(0, v_p_data), (1, iV p_a), (2, iV p_b), (3, iV p_limit), (4, .func (.func 25) #[] #[]), (10, bV true)] [true] rfl (subR rfl)
 refine f_join (fun a w' => False) ?_ ?_
 ·refine wp_block (f_loop (fun (m1 : Nat) a w' => ∃ x1 : Int, ∃ x2 : Int, ∃ x3 : Int, ∃ x4 : Bool, slices_pdqsortCmpFunc_Step_record_compare_l1 p_data m1 x1 x2 x3 x4 = some r ∧ Sx w (v_p_data.ownBlock.toList) nov [.own v_p_data 35 8 p_data.length (p_data.flatMap GStep.enc)] [(0, v_p_data), (1, iV x1), (2, iV x2), (3, iV x3), (4, .func (.func 25) #[] #[]), (10, bV x4)] 148 a w') id 4611686018427387904 ⟨p_a, p_b, p_limit, true, h, S.nf [true] rfl (subR rfl)⟩ ?_)
  clear S h; rintro m1 a w1 ⟨x1, x2, x3, x4, h, S⟩
  cases m1 with
  | zero => rw [slices_pdqsortCmpFunc_Step_record_compare_l1.eq_1] at h; cases h
  | succ m1 =>
   rw [slices_pdqsortCmpFunc_Step_record_compare_l1.eq_2] at h
   refine wp_block (f_seq (f_region (lv S (rn_move (S.tm rfl)) rfl ?_))); clear S; intro a S
   refine lv S (rn_move (S.tm rfl)) rfl ?_; clear S; intro a S
   refine lv S (rn_sub (S.tm rfl) (S.tm rfl)) rfl ?_; clear S; intro a S
   refine lv S (rn_assign (S.tm rfl)) rfl ?_; clear S; intro a S
   refine l_done (then_n (f_seq (f_seq (f_region (lv S (rn_move (S.tm rfl)) rfl ?_))))); clear S; intro a S
   refine lv S (rn_leq (S.tm rfl) rfl) rfl ?_; clear S; intro a S
   refine l_done (then_n (f_cond (S.tm rfl) (fun hb1 => ?_) (fun hb1 => ?_)))
   ·replace h := iteT h hb1
    refine f_seq (f_region (lv S (rn_move (S.tm rfl)) rfl ?_)); clear S; intro a S
    iterate 3 (refine lv S (rn_move (S.tm rfl)) rfl ?_; clear S; intro a S)
    obtain ⟨r1, hr1, h⟩ := bindE h
    refine l_enterO 0 S rfl (fun _ => .own v_p_data 35 8 r1.length (r1.flatMap GStep.enc)) (fun _ => run_call (vs := [v_p_data, iV x1, iV x2, .func (.func 25) #[] #[]]) ⟨(S.tm rfl), (S.tm rfl), (S.tm rfl), (S.tm rfl), trivial⟩ Tryz.call74) (slices_insertionSortCmpFunc_Step_record_compare_ok _ v_p_data p_data (S.holds _ (List.mem_of_getElem? (i := 0) rfl)) x1 x2 _ hr1) rfl (fun _ _ _ h => ⟨h.1, fun _ hc => hc⟩) ?_; clear S; intro v1 a w3 hv1 hk1 hn1 S
    replace hv1 := hv1.2
    subst hv1
    refine l_done ?_
    replace S := S.nk [.own v_p_data 35 8 r1.length (r1.flatMap GStep.enc)] [] [true] rfl trivial
    refine then_n (wp_ret (then_r (blk_r (then_r (blk_r (then_r ?_))))))
    obtain rfl := Option.some.inj h
    exact f_ret0 S Tryz.results48 ⟨(S.holds _ (List.mem_of_getElem? (i := 0) rfl)), rfl⟩
   ·replace h := iteF h hb1
    refine wp_skip (then_n (f_seq (f_seq (f_region (lv S (rn_move (S.tm rfl)) rfl ?_))))); clear S; intro a S
    refine lv S (rn_eql (S.tm rfl) rfl) rfl ?_; clear S; intro a S
    refine l_done (then_n (f_cond (S.tm rfl) (fun hb2 => ?_) (fun hb2 => ?_)))
    ·replace h := iteT h hb2
     refine f_seq ?_
     cases h
    ·replace h := iteF h hb2
     refine wp_skip (then_n (f_seq (f_seq (f_region (lv S (rn_move (S.tm rfl)) rfl ?_))))); clear S; intro a S
     refine lv S (rn_not (S.tm rfl)) rfl ?_; clear S; intro a S
     refine l_done ?_
     replace S := S.nk [.own v_p_data 35 8 p_data.length (p_data.flatMap GStep.enc)] [(39, bV (!x4))] [true] rfl ⟨rfl, trivial⟩
     refine then_n (f_cond (S.tm rfl) (fun hb3 => ?_) (fun hb3 => ?_))
     ·replace h := iteT h hb3
      refine f_seq ?_
      cases h
     ·replace h := iteF h hb3
      refine wp_skip (then_n (f_seq ?_))
      cases h
 exact fun _ _ h => h.elim
theorem slices_SortFunc_Step_record_compare_ok (w : World) (v_p_x : Value) (p_x : List GStep) (hb_p_x : (LEnt.own v_p_x 35 8 p_x.length (p_x.flatMap GStep.enc)).holds w) (r : (List GStep)) (h : slices_SortFunc_Step_record_compare p_x = some r) :
    Calls Tryz.prog 26 [v_p_x, .func (.func 25) #[] #[]].toArray w (Ret w (v_p_x.ownBlock.toList) fun _ v w' => (LEnt.own v_p_x 35 8 r.length (r.flatMap GStep.enc)).holds w' ∧ v = .tuple #[]) := by
 refine f_enter (v_p_x.ownBlock.toList) [.own v_p_x 35 8 p_x.length (p_x.flatMap GStep.enc)] Tryz.func26 rfl Tryz.ntmps26 rfl (fun e he => by simp only [List.mem_singleton] at he; subst he; exact hb_p_x) (fps_one_nodup _) (fps_one_sub _) fun a S => ?_
 unfold slices_SortFunc_Step_record_compare at h
 replace S := S.nk [.own v_p_x 35 8 p_x.length (p_x.flatMap GStep.enc)] [(0, v_p_x), (1, .func (.func 25) #[] #[])] [true] rfl (subR rfl)
 refine f_seq (f_region (lv S (rn_move (S.tm rfl)) rfl ?_)); clear S; intro a S
 refine lv S (rn_lenT sl_28 (S.tm rfl) (own_len (S.own_at (i := 0) rfl))) rfl ?_; clear S; intro a S
 refine lv S (rn_assign (S.tm rfl)) rfl ?_; clear S; intro a S
 refine l_done (then_n (f_region (lv S (rn_move (S.tm rfl)) rfl ?_))); clear S; intro a S
 refine lv S (rn_move (S.tm rfl)) rfl ?_; clear S; intro a S
 refine lv S (rn_move (S.tm rfl)) rfl ?_; clear S; intro a S
 refine lv S (rn_conv Tryz.underlying3 Tryz.underlying91 (S.tm rfl)) rfl ?_; clear S; intro a S
 obtain ⟨r1, hr1, h⟩ := bindE h
 refine l_enter S (fun _ => run_call (vs := [.int .u64 (IntKind.wrap .u64 (p_x.length : Int))]) ⟨(S.tm rfl), trivial⟩ Tryz.call49) (bits_Len_ok _ (IntKind.wrap .u64 (p_x.length : Int)) _ hr1) rfl ?_; clear S; intro v1 a w1 hv1 hk1 hn1 S
 subst hv1
 refine lv S (rn_move (S.tm rfl)) rfl ?_; clear S; intro a S
 obtain ⟨r2, hr2, h⟩ := bindE h
 refine l_enterO 0 S rfl (fun _ => .own v_p_x 35 8 r2.length (r2.flatMap GStep.enc)) (fun _ => run_call (vs := [v_p_x, iV 0, iV (p_x.length : Int), iV r1, .func (.func 25) #[] #[]]) ⟨(S.tm rfl), rfl, (S.tm rfl), (S.tm rfl), (S.tm rfl), trivial⟩ Tryz.call48) (slices_pdqsortCmpFunc_Step_record_compare_ok _ v_p_x p_x (S.holds _ (List.mem_of_getElem? (i := 0) rfl)) 0 (p_x.length : Int) r1 _ hr2) rfl (fun _ _ _ h => ⟨h.1, fun _ hc => hc⟩) ?_; clear S; intro v2 a w2 hv2 hk2 hn2 S
 replace hv2 := hv2.2
 subst hv2
 refine l_done ?_
 obtain rfl := Option.some.inj h
 exact f_ret0 S Tryz.results26 ⟨(S.holds _ (List.mem_of_getElem? (i := 0) rfl)), rfl⟩
set_option maxRecDepth 20000 in
theorem record_Merge_ok (w : World) (v_p_a : Value) (p_a : List GStep) (hs_p_a : Slc (view w []) 8 v_p_a (p_a.map GStep.enc)) (v_p_b : Value) (p_b : List GStep) (hs_p_b : Slc (view w []) 8 v_p_b (p_b.map GStep.enc)) (r : (List GStep) × Int) (h : record_Merge p_a p_b = some r) :
    Calls Tryz.prog 6 [v_p_a, v_p_b].toArray w (Ret w [] fun τ v _ => ∃ u1 : Value, v = .tuple #[u1, iV r.2] ∧ OwnV τ 35 8 u1 r.1.length (r.1.flatMap GStep.enc)) := by
 refine f_enter [] [] Tryz.func6 rfl Tryz.ntmps6 rfl (by simp) (by simp [fps]) (by simp [fps]) fun a S => ?_
 unfold record_Merge at h
 replace S := S.nk [] [(0, v_p_a), (1, v_p_b)] [] rfl (subR rfl)
 refine f_seq (f_region (lv S (rn_assign rfl) rfl ?_)); clear S; intro a S
 refine lv S (rn_assign rfl) rfl ?_; clear S; intro a S
 refine l_done (then_n (f_seq (f_seq (f_region (lv S (rn_move (S.tm rfl)) rfl ?_))))); clear S; intro a S
 obtain ⟨r1, hr1, h⟩ := bindE h
 refine l_enter S (fun _ => run_call (vs := [v_p_a]) ⟨(S.tm rfl), trivial⟩ Tryz.call22) (record_CheckSteps_ok _ v_p_a p_a (hs_p_a.mono (S.le_arg nil_sub)) _ hr1) rfl ?_; clear S; intro v1 a w1 hv1 hk1 hn1 S
 subst hv1
 refine lv S (rn_assign (S.tm rfl)) rfl ?_; clear S; intro a S
 refine l_done (then_n (f_seq (f_region (lv S (rn_move (S.tm rfl)) rfl ?_)))); clear S; intro a S
 refine lv S (rn_neq (S.tm rfl) rfl) rfl ?_; clear S; intro a S
 refine l_done (then_n (f_cond (S.tm rfl) (fun hb1 => ?_) (fun hb1 => ?_)))
 ·replace h := iteT h hb1
  refine f_seq (f_region (lv S (rn_move (S.tm rfl)) rfl ?_)); clear S; intro a S
  refine lv S (rn_assign rfl) rfl ?_; clear S; intro a S
  refine lv S (rn_assign (S.tm rfl)) rfl ?_; clear S; intro a S
  refine l_done (then_n (wp_ret (then_r ?_)))
  obtain rfl := Option.some.inj h
  exact f_ret2 S Tryz.results6 rfl rfl ⟨_, rfl, (ownV_nil _ _ _)⟩
 ·replace h := iteF h hb1
  refine wp_skip (then_n (f_seq (f_seq (f_region (lv S (rn_move (S.tm rfl)) rfl ?_))))); clear S; intro a S
  obtain ⟨r2, hr2, h⟩ := bindE h
  refine l_enter S (fun _ => run_call (vs := [v_p_b]) ⟨(S.tm rfl), trivial⟩ Tryz.call22) (record_CheckSteps_ok _ v_p_b p_b (hs_p_b.mono (S.le_arg nil_sub)) _ hr2) rfl ?_; clear S; intro v2 a w2 hv2 hk2 hn2 S
  subst hv2
  refine lv S (rn_assign (S.tm rfl)) rfl ?_; clear S; intro a S
  refine l_done (then_n (f_seq (f_region (lv S (rn_move (S.tm rfl)) rfl ?_)))); clear S; intro a S
  refine lv S (rn_neq (S.tm rfl) rfl) rfl ?_; clear S; intro a S
  refine l_done (then_n (f_cond (S.tm rfl) (fun hb2 => ?_) (fun hb2 => ?_)))
  ·replace h := iteT h hb2
   refine f_seq (f_region (lv S (rn_move (S.tm rfl)) rfl ?_)); clear S; intro a S
   refine lv S (rn_assign rfl) rfl ?_; clear S; intro a S
   refine lv S (rn_assign (S.tm rfl)) rfl ?_; clear S; intro a S
   refine l_done ?_
   replace S := S.nk [] [(4, .slice none 0 0), (5, iV r2)] [] rfl (subR rfl)
   refine then_n (wp_ret (then_r ?_))
   obtain rfl := Option.some.inj h
   exact f_ret2 S Tryz.results6 rfl rfl ⟨_, rfl, (ownV_nil _ _ _)⟩
  ·replace h := iteF h hb2
   refine wp_skip (then_n (f_seq (f_region (lv S (rn_move (S.tm rfl)) rfl ?_)))); clear S; intro a S
   obtain ⟨r3, hr3, h⟩ := bindE h
   have hz1 := S.keep.size
   refine l_enter S (fun _ => run_call (vs := [v_p_a]) ⟨(S.tm rfl), trivial⟩ Tryz.call23) (slices_Clone_Step_ok _ v_p_a p_a (hs_p_a.mono (S.le_arg nil_sub)) _ hr3) rfl ?_; clear S; intro v3 a w3 hv3 hk3 hn3 S
   replace S := S.take hn3 hz1 hv3
   refine lv S (rn_assign (S.tm rfl)) rfl ?_; clear S; intro a S
   refine l_done ?_
   replace S := S.nk [.own v3 35 8 r3.length (r3.flatMap GStep.enc)] [(0, v_p_a), (1, v_p_b), (8, v3)] [true] rfl (subR rfl)
   refine then_n (f_seq (f_seq (f_region (lv S (rn_move (S.tm rfl)) rfl ?_)))); clear S; intro a S
   refine lv S (rn_lenT sl_28 (S.tm rfl) (slc_len hs_p_b)) rfl ?_; clear S; intro a S
   refine lv S (rn_move rfl) rfl ?_; clear S; intro a S
   refine l_done (then_n ?_)
   replace S := S.nk [.own v3 35 8 r3.length (r3.flatMap GStep.enc)] [(0, v_p_a), (8, v3), (25, v_p_b), (26, iV (p_b.length : Int)), (27, iV 0)] [true] rfl (subR rfl)
   obtain ⟨j1, hj1, h⟩ := joinE h
   refine f_join (fun a w' => ∃ x1 : List GStep, ∃ v4 : Value, j1 x1 = some r ∧ Sx w [] nov [.own v4 35 8 x1.length (x1.flatMap GStep.enc)] [(8, v4)] 56 a w') ?_ ?_
   ·refine wp_block (f_loop (fun (ys1 : List GStep) a w' => ∃ i1 : Nat, ∃ x1 : List GStep, ∃ v4 : Value, (∃ dn, p_b = dn ++ ys1 ∧ dn.length = i1) ∧ record_Merge_l1 p_a j1 ys1 i1 x1 = some r ∧ Sx w [] nov [.own v4 35 8 x1.length (x1.flatMap GStep.enc)] [(0, v_p_a), (8, v4), (25, v_p_b), (26, iV (p_b.length : Int)), (27, iV (i1 : Int))] 56 a w') List.length p_b ⟨0, r3, v3, ⟨[], rfl, rfl⟩, h, S.nf [true] rfl (subR rfl)⟩ ?_)
    clear S h; rintro ys1 a w4 ⟨i1, x1, v4, ⟨dn, hd1, hi1⟩, h, S⟩
    cases ys1 with
    | nil =>
     rw [record_Merge_l1.eq_1] at h
     refine f_seq (f_region (lv S (rn_lss (S.tm rfl) (S.tm rfl)) rfl ?_)); clear S; intro a S
     refine l_done ?_
     replace S := S.nk [.own v4 35 8 x1.length (x1.flatMap GStep.enc)] [(0, v_p_a), (8, v4), (25, v_p_b), (26, iV (p_b.length : Int)), (27, iV (i1 : Int)), (28, bV (decide ((i1 : Int) < (p_b.length : Int))))] [true] rfl (subR rfl)
     refine then_n (f_seq (wp_cond_false ((S.tm rfl).trans (congrArg Value.bool (rng_nil hd1 hi1))) (wp_exit (then_x (then_x (x_same ?_))))))
     refine then_n ?_
     exact ⟨x1, v4, h, S.nf [true] rfl ⟨rfl, trivial⟩⟩
    | cons y1 ys1 =>
     rw [record_Merge_l1.eq_2] at h
     refine f_seq (f_region (lv S (rn_lss (S.tm rfl) (S.tm rfl)) rfl ?_)); clear S; intro a S
     refine l_done ?_
     replace S := S.nk [.own v4 35 8 x1.length (x1.flatMap GStep.enc)] [(0, v_p_a), (8, v4), (25, v_p_b), (26, iV (p_b.length : Int)), (27, iV (i1 : Int)), (28, bV (decide ((i1 : Int) < (p_b.length : Int))))] [true] rfl (subR rfl)
     refine then_n (f_seq (wp_cond_true ((S.tm rfl).trans (congrArg Value.bool (rng_cons hd1 hi1))) (wp_skip (then_n (f_seq ?_)))))
     obtain ⟨j2, hj2, h⟩ := joinE h
     refine f_join (fun a w' => ∃ x2 : List GStep, ∃ v5 : Value, j2 x2 = some r ∧ Sx w [] nov [.own v5 35 8 x2.length (x2.flatMap GStep.enc)] [(0, v_p_a), (8, v5), (25, v_p_b), (26, iV (p_b.length : Int)), (27, iV (i1 : Int))] 56 a w') ?_ ?_
     ·refine wp_block (f_seq (f_region ?_))
      obtain ⟨b1, o1, hm1, hr4⟩ := rn_indexT (a := a) (x := .tmp 25) (y := .tmp 27) (ty := 0) sl_28 hs_p_b (get_mid hd1 hi1) rfl (S.tm rfl) (S.tm rfl)
      refine lv S (hr4 _) rfl ?_; clear S; intro a S
      clear hr4
      refine lv S (rn_ldA Tryz.isAgg35 Tryz.sizeOf35 (off := o1) (o := 0) (part := (GStep.enc y1)) rfl rfl (S.tm rfl) (hm1.at S.emb0)) rfl ?_; clear S; intro a S
      refine l_alloc S Tryz.zeroValue35 (cs := [iV 0, iV 0, sV k_empty, sV k_empty, sV k_empty, sV k_empty, iV 0, iV 0]) rfl rfl ?_; clear S; intro a w7 b2 hz2 hk4 S
      refine l_store S (S.tm rfl) (S.tm rfl) (i := 0) (off := 0) rfl Tryz.sizeOf35 (vs := (GStep.enc y1)) rfl rfl rfl rfl ?_; clear S; intro w8 hk5 S
      refine l_done (then_n (f_seq (f_region (lv S (rn_move (S.tm rfl)) rfl ?_)))); clear S; intro a S
      refine lv S (rn_ldA Tryz.isAgg35 Tryz.sizeOf35 (off := 0) (o := 0) (part := (GStep.enc y1)) rfl rfl (S.tm rfl) (S.cellsAt (i := 0) rfl)) rfl ?_; clear S; intro a S
      obtain ⟨r4, hr5, h⟩ := bindE h
      refine l_enter S (fun _ => run_call (vs := [v_p_a, .agg (GStep.enc y1).toArray, .func (.func 25) #[] #[]]) ⟨(S.tm rfl), (S.tm rfl), rfl, trivial⟩ Tryz.call24) (slices_BinarySearchFunc_Step_record_compare_ok _ v_p_a p_a (hs_p_a.mono (S.le_arg nil_sub)) y1 _ hr5) rfl ?_; clear S; intro v6 a w9 hv4 hk6 hn4 S
      subst hv4
      refine lv S (rn_move (S.tm rfl)) rfl ?_; clear S; intro a S
      refine lv S (rn_extract (S.tm rfl) rfl) rfl ?_; clear S; intro a S
      refine lv S (rn_extract (S.tm rfl) rfl) rfl ?_; clear S; intro a S
      refine lv S (rn_assign (S.tm rfl)) rfl ?_; clear S; intro a S
      refine lv S (rn_assign (S.tm rfl)) rfl ?_; clear S; intro a S
      refine l_done ?_
      replace S := S.nk [.blk b2 (GStep.enc y1) 35, .own v4 35 8 x1.length (x1.flatMap GStep.enc)] [(0, v_p_a), (8, v4), (10, .pointer (some ⟨b2, 0, none⟩)), (11, iV r4.1), (12, bV r4.2), (25, v_p_b), (26, iV (p_b.length : Int)), (27, iV (i1 : Int))] [true, true] rfl (subR rfl)
      refine then_n (f_seq (f_region (lv S (rn_move (S.tm rfl)) rfl ?_))); clear S; intro a S
      refine lv S (rn_not (S.tm rfl)) rfl ?_; clear S; intro a S
      refine l_done (then_n ?_)
      obtain ⟨j3, hj3, h⟩ := joinE h
      refine f_join (fun a w' => ∃ x3 : List GStep, ∃ v7 : Value, j3 x3 = some r ∧ Sx w [] nov [.own v7 35 8 x3.length (x3.flatMap GStep.enc)] [(0, v_p_a), (8, v7), (25, v_p_b), (26, iV (p_b.length : Int)), (27, iV (i1 : Int))] 56 a w') ?_ ?_
      ·refine f_cond (S.tm rfl) (fun hb3 => ?_) (fun hb3 => ?_)
       ·replace h := iteT h hb3
        refine f_region (lv S (rn_move (S.tm rfl)) rfl ?_); clear S; intro a S
        refine lv S (rn_ldA Tryz.isAgg35 Tryz.sizeOf35 (off := 0) (o := 0) (part := (GStep.enc y1)) rfl rfl (S.tm rfl) (S.cellsAt (i := 0) rfl)) rfl ?_; clear S; intro a S
        refine l_buildSlice S Tryz.underlying28 Tryz.sizeOf35 Tryz.zeroValue35 rfl rfl (pv := [(0, .agg (GStep.enc y1).toArray)]) ⟨rfl, (S.tm rfl), trivial⟩ (cs := [iV y1.At, iV y1.Kind, sV y1.Id, sV y1.Who, sV y1.Club, sV y1.Race, iV y1.Age, iV y1.Time]) (by kernel_rfl) rfl ?_; clear S; intro a w11 b3 hz3 hk7 S
        obtain ⟨hc1, h⟩ := chkE h
        refine l_appendT sl_28 GStep.enc_ok S (S.tm rfl) (i := 2) rfl (S.tm rfl) (j := 0) rfl (ys := [y1]) rfl rfl rfl rfl (by have := room_lt hc1; omega) rfl ?_; clear S; intro v8 a w12 hk8 S
        refine lv S (rn_assign (S.tm rfl)) rfl ?_; clear S; intro a S
        refine l_done (then_n ?_)
        exact ⟨(x1 ++ [y1]), v8, h, S.nf [false, false, true] rfl (subR rfl)⟩
       ·replace h := iteF h hb3
        refine f_seq (d_region [] ([]) Tryz.mixed S rfl (by kernel_rfl) ?_); clear S; intro w13 hk9 hsel S
        refine d_rest [0, 1, 2, 3, 4, 5] hsel (by kernel_rfl) rfl ?_
        clear hsel
        refine s_lv S rfl (rn_move (S.tm rfl)) rfl ?_; clear S; intro a S
        refine s_lv S rfl (rn_move (S.tm rfl)) rfl ?_; clear S; intro a S
        obtain ⟨hc2, h⟩ := chkE h
        obtain ⟨b4, o2, hm2, hr6⟩ := rn_indexT (a := a) (x := .tmp 43) (y := .tmp 44) (ty := 0) sl_28 hs_p_a (inB_get hc2).1 (inB_get hc2).2 (S.tm rfl) (S.tm rfl)
        refine s_lv S rfl (hr6 _) rfl ?_; clear S; intro a S
        clear hr6
        refine s_lv S rfl (rn_ldA Tryz.isAgg35 Tryz.sizeOf35 (off := o2) (o := 0) (part := (GStep.enc (nth p_a r4.1))) rfl rfl (S.tm rfl) (hm2.at S.emb0)) rfl ?_; clear S; intro a S
        refine s_lv S rfl (rn_ldA Tryz.isAgg35 Tryz.sizeOf35 (off := 0) (o := 0) (part := (GStep.enc y1)) rfl rfl (S.tm rfl) (S.cellsAt (i := 0) rfl)) rfl ?_; clear S; intro a S
        refine s_lv S rfl (rn_neq_35 (m := (nth p_a r4.1)) (n := y1) (S.tm rfl) (S.tm rfl)) rfl ?_; clear S; intro a S
        refine s_done ?_
        replace S := S.nk [.own v4 35 8 x1.length (x1.flatMap GStep.enc)] [(0, v_p_a), (8, v4), (25, v_p_b), (26, iV (p_b.length : Int)), (27, iV (i1 : Int)), (48, bV (!decide ((nth p_a r4.1) = y1)))] [false, true] rfl (subR rfl)
        refine then_n (f_cond (S.tm rfl) (fun hb4 => ?_) (fun hb4 => ?_))
        ·replace h := iteT h hb4
         refine f_seq (f_region (lv S (rn_assign rfl) rfl ?_)); clear S; intro a S
         refine lv S (rn_assign rfl) rfl ?_; clear S; intro a S
         refine l_done (then_n (wp_ret (then_r (blk_r (then_r (then_r ?_))))))
         refine then_r (blk_r (then_r (then_r ?_)))
         obtain rfl := Option.some.inj h
         exact f_ret2 S Tryz.results6 rfl rfl ⟨_, rfl, (ownV_nil _ _ _)⟩
        ·replace h := iteF h hb4
         refine wp_skip (then_n ?_)
         exact ⟨x1, v4, h, S.nf [true] rfl (subR rfl)⟩
      clear S h; rintro a w10 ⟨x3, v7, h, S⟩; rw [hj3] at h; clear hj3 j3
      refine blk_n (then_n ?_)
      exact ⟨x3, v7, h, S.nf [true] rfl (subR rfl)⟩
     clear S h; rintro a w6 ⟨x2, v5, h, S⟩; rw [hj2] at h; clear hj2 j2
     refine then_n (f_region (lv S (rn_add (S.tm rfl) rfl) rfl ?_)); clear S; intro a S
     refine lv S (rn_move (S.tm rfl)) rfl ?_; clear S; intro a S
     refine l_done (then_n ?_)
     exact ⟨ys1, ⟨i1 + 1, x2, v5, ⟨_, (hd1).trans (List.append_cons _ _ _), by simp [hi1]⟩, h, S.nf [true] rfl ⟨rfl, rfl, rfl, rfl, (congrArg (fun z => some (Value.int .i64 z)) (rng_next hd1 hi1 (slc_max hs_p_b))), trivial⟩⟩, Nat.lt_succ_self _⟩
   clear S h; rintro a w5 ⟨x1, v4, h, S⟩; rw [hj1] at h; clear hj1 j1
   refine then_n (f_seq (f_seq (f_region (lv S (rn_move (S.tm rfl)) rfl ?_)))); clear S; intro a S
   refine lv S (rn_lenT sl_28 (S.tm rfl) (own_len (S.own_at (i := 0) rfl))) rfl ?_; clear S; intro a S
   refine lv S (rn_gtr (S.tm rfl) rfl) rfl ?_; clear S; intro a S
   refine l_done (then_n (f_cond (S.tm rfl) (fun hb5 => ?_) (fun hb5 => ?_)))
   ·replace h := iteT h hb5
    refine f_seq (f_region (lv S (rn_assign rfl) rfl ?_)); clear S; intro a S
    refine lv S (rn_assign rfl) rfl ?_; clear S; intro a S
    refine l_done (then_n (wp_ret (then_r ?_)))
    obtain rfl := Option.some.inj h
    exact f_ret2 S Tryz.results6 rfl rfl ⟨_, rfl, (ownV_nil _ _ _)⟩
   ·replace h := iteF h hb5
    refine wp_skip (then_n (f_seq (f_region (lv S (rn_move (S.tm rfl)) rfl ?_)))); clear S; intro a S
    obtain ⟨r5, hr7, h⟩ := bindE h
    refine l_enterO 0 S rfl (fun _ => .own v4 35 8 r5.length (r5.flatMap GStep.enc)) (fun _ => run_call (vs := [v4, .func (.func 25) #[] #[]]) ⟨(S.tm rfl), rfl, trivial⟩ Tryz.call26) (slices_SortFunc_Step_record_compare_ok _ v4 x1 (S.holds _ (List.mem_of_getElem? (i := 0) rfl)) _ hr7) rfl (fun _ _ _ h => ⟨h.1, fun _ hc => hc⟩) ?_; clear S; intro v9 a w14 hv5 hk10 hn5 S
    replace hv5 := hv5.2
    subst hv5
    refine l_done (then_n (f_seq (f_region (lv S (rn_move (S.tm rfl)) rfl ?_)))); clear S; intro a S
    refine lv S (rn_assign (S.tm rfl)) rfl ?_; clear S; intro a S
    refine lv S (rn_assign rfl) rfl ?_; clear S; intro a S
    refine l_done (then_n (wp_ret ?_))
    obtain rfl := Option.some.inj h
    exact f_ret2 S Tryz.results6 rfl rfl ⟨_, rfl, (own_retT S (i := 0) rfl rfl)⟩
theorem tumbkeep2_spoil_Step_ok (w : World) (v_p_l : Value) (p_l : List GStep) (hb_p_l : (LEnt.own v_p_l 35 8 p_l.length (p_l.flatMap GStep.enc)).holds w) (r : (List GStep)) (h : tumbkeep2_spoil_Step p_l = some r) :
    Calls Tryz.prog 7 [v_p_l].toArray w (Ret w (v_p_l.ownBlock.toList) fun _ v w' => (LEnt.own v_p_l 35 8 r.length (r.flatMap GStep.enc)).holds w' ∧ v = .tuple #[]) := by
 refine f_enter (v_p_l.ownBlock.toList) [.own v_p_l 35 8 p_l.length (p_l.flatMap GStep.enc)] Tryz.func7 rfl Tryz.ntmps7 rfl (fun e he => by simp only [List.mem_singleton] at he; subst he; exact hb_p_l) (fps_one_nodup _) (fps_one_sub _) fun a S => ?_
 unfold tumbkeep2_spoil_Step at h
 replace S := S.nk [.own v_p_l 35 8 p_l.length (p_l.flatMap GStep.enc)] [(0, v_p_l)] [true] rfl ⟨rfl, trivial⟩
 refine f_seq (f_region (l_alloc S Tryz.zeroValue35 (cs := [iV 0, iV 0, sV k_empty, sV k_empty, sV k_empty, sV k_empty, iV 0, iV 0]) rfl rfl ?_)); clear S; intro a w1 b1 hz1 hk1 S
 refine l_done (then_n (f_seq (f_region (lv S (rn_move (S.tm rfl)) rfl ?_)))); clear S; intro a S
 refine lv S (rn_lenT sl_28 (S.tm rfl) (own_len (S.own_at (i := 1) rfl))) rfl ?_; clear S; intro a S
 refine lv S (rn_move rfl) rfl ?_; clear S; intro a S
 refine l_done (then_n ?_)
 replace S := S.nk [.blk b1 (GStep.enc (GStep.mk 0 0 k_empty k_empty k_empty k_empty 0 0)) 35, .own v_p_l 35 8 p_l.length (p_l.flatMap GStep.enc)] [(0, v_p_l), (2, .pointer (some ⟨b1, 0, none⟩)), (5, iV (p_l.length : Int)), (6, iV 0)] [true, true] rfl (subR rfl)
 have hm1 := own_max (S.own_at (i := 1) rfl)
 obtain ⟨j1, hj1, h⟩ := joinE h
 refine f_join (fun a w' => ∃ x1 : List GStep, j1 x1 = some r ∧ Sx w (v_p_l.ownBlock.toList) nov [.blk b1 (GStep.enc (GStep.mk 0 0 k_empty k_empty k_empty k_empty 0 0)) 35, .own v_p_l 35 8 x1.length (x1.flatMap GStep.enc)] [] 14 a w') ?_ ?_
 ·refine wp_block (f_loop (fun (ys1 : List GStep) a w' => ∃ i1 : Nat, ∃ x1 : List GStep, (∃ dn, p_l = dn ++ ys1 ∧ dn.length = i1) ∧ tumbkeep2_spoil_Step_l1 j1 ys1 i1 x1 = some r ∧ Sx w (v_p_l.ownBlock.toList) nov [.blk b1 (GStep.enc (GStep.mk 0 0 k_empty k_empty k_empty k_empty 0 0)) 35, .own v_p_l 35 8 x1.length (x1.flatMap GStep.enc)] [(0, v_p_l), (2, .pointer (some ⟨b1, 0, none⟩)), (5, iV (p_l.length : Int)), (6, iV (i1 : Int))] 14 a w') List.length p_l ⟨0, p_l, ⟨[], rfl, rfl⟩, h, S.nf [true, true] rfl (subR rfl)⟩ ?_)
  clear S h; rintro ys1 a w2 ⟨i1, x1, ⟨dn, hd1, hi1⟩, h, S⟩
  cases ys1 with
  | nil =>
   rw [tumbkeep2_spoil_Step_l1.eq_1] at h
   refine f_seq (f_region (lv S (rn_lss (S.tm rfl) (S.tm rfl)) rfl ?_)); clear S; intro a S
   refine l_done ?_
   replace S := S.nk [.blk b1 (GStep.enc (GStep.mk 0 0 k_empty k_empty k_empty k_empty 0 0)) 35, .own v_p_l 35 8 x1.length (x1.flatMap GStep.enc)] [(0, v_p_l), (2, .pointer (some ⟨b1, 0, none⟩)), (5, iV (p_l.length : Int)), (6, iV (i1 : Int)), (7, bV (decide ((i1 : Int) < (p_l.length : Int))))] [true, true] rfl (subR rfl)
   refine then_n (f_seq (wp_cond_false ((S.tm rfl).trans (congrArg Value.bool (rng_nil hd1 hi1))) (wp_exit (then_x (then_x (x_same ?_))))))
   refine then_n ?_
   exact ⟨x1, h, S.nf [true, true] rfl trivial⟩
  | cons y1 ys1 =>
   rw [tumbkeep2_spoil_Step_l1.eq_2] at h
   refine f_seq (f_region (lv S (rn_lss (S.tm rfl) (S.tm rfl)) rfl ?_)); clear S; intro a S
   refine l_done ?_
   replace S := S.nk [.blk b1 (GStep.enc (GStep.mk 0 0 k_empty k_empty k_empty k_empty 0 0)) 35, .own v_p_l 35 8 x1.length (x1.flatMap GStep.enc)] [(0, v_p_l), (2, .pointer (some ⟨b1, 0, none⟩)), (5, iV (p_l.length : Int)), (6, iV (i1 : Int)), (7, bV (decide ((i1 : Int) < (p_l.length : Int))))] [true, true] rfl (subR rfl)
   refine then_n (f_seq (wp_cond_true ((S.tm rfl).trans (congrArg Value.bool (rng_cons hd1 hi1))) (wp_skip (then_n (f_seq (wp_block ?_))))))
   refine f_seq (f_region (lv S (rn_move (S.tm rfl)) rfl ?_)); clear S; intro a S
   refine lv S (rn_assign (S.tm rfl)) rfl ?_; clear S; intro a S
   refine l_done (then_n (f_region (lv S (rn_move (S.tm rfl)) rfl ?_))); clear S; intro a S
   refine lv S (rn_move (S.tm rfl)) rfl ?_; clear S; intro a S
   refine lv S (rn_ldA Tryz.isAgg35 Tryz.sizeOf35 (off := 0) (o := 0) (part := (GStep.enc (GStep.mk 0 0 k_empty k_empty k_empty k_empty 0 0))) rfl rfl (S.tm rfl) (S.cellsAt (i := 0) rfl)) rfl ?_; clear S; intro a S
   obtain ⟨hc1, h⟩ := chkE h
   obtain ⟨b2, hg1, hr1⟩ := rn_indexS (a := a) (x := .tmp 9) (y := .tmp 10) (ty := 0) sl_28 GStep.enc_ok S (i := 1) rfl (inB_get hc1).1 (inB_get hc1).2 (S.tm rfl) (S.tm rfl)
   refine lv S (hr1 _) rfl ?_; clear S; intro a S
   clear hr1
   refine l_storeO (c := 0) (j := (i1 : Int).toNat) (GStep.mk 0 0 k_empty k_empty k_empty k_empty 0 0) GStep.enc_ok S (S.tm rfl) (S.tm rfl) (i := 1) rfl hg1 (inB_get hc1).1 Tryz.sizeOf35 (vs := [iV 0, iV 0, sV k_empty, sV k_empty, sV k_empty, sV k_empty, iV 0, iV 0]) rfl rfl rfl rfl rfl ?_; clear S; intro w5 hk3 S
   refine l_done (blk_n (then_n (f_region (lv S (rn_add (S.tm rfl) rfl) rfl ?_)))); clear S; intro a S
   refine lv S (rn_move (S.tm rfl)) rfl ?_; clear S; intro a S
   refine l_done (then_n ?_)
   exact ⟨ys1, ⟨i1 + 1, (x1.set ((i1 : Int).toNat) (GStep.mk 0 0 k_empty k_empty k_empty k_empty 0 0)), ⟨_, (hd1).trans (List.append_cons _ _ _), by simp [hi1]⟩, h, S.nf [true, true] rfl ⟨rfl, rfl, rfl, (congrArg (fun z => some (Value.int .i64 z)) (rng_next hd1 hi1 hm1)), trivial⟩⟩, Nat.lt_succ_self _⟩
 clear S h; rintro a w3 ⟨x1, h, S⟩; rw [hj1] at h; clear hj1 j1
 obtain rfl := Option.some.inj h
 exact f_ret0 S Tryz.results7 ⟨(S.holds _ (List.mem_of_getElem? (i := 1) rfl)), rfl⟩
set_option maxRecDepth 20000 in
theorem record_CheckKinds_ok (w : World) (v_p_l : Value) (p_l : List GKind) (rs_p_l : List R47) (hs_p_l : Slc (view w []) 5 v_p_l (rs_p_l.map R47.enc)) (hr_p_l : All2 (rel_47 (view w [])) p_l rs_p_l) (r : Int) (h : record_CheckKinds p_l = some r) :
    Calls Tryz.prog 50 [v_p_l].toArray w (Ret w [] fun _ v _ => v = iV r) := by
 refine f_enter [] [] Tryz.func50 rfl Tryz.ntmps50 rfl (by simp) (by simp [fps]) (by simp [fps]) fun a S => ?_
 unfold record_CheckKinds at h
 replace S := S.nk [] [(0, v_p_l)] [] rfl ⟨rfl, trivial⟩
 refine f_seq (f_region (lv S (rn_assign rfl) rfl ?_)); clear S; intro a S
 refine l_done (then_n (f_seq (f_seq (f_region (lv S (rn_move (S.tm rfl)) rfl ?_))))); clear S; intro a S
 refine lv S (rn_lenT sl_26 (S.tm rfl) (slc_lenD hs_p_l hr_p_l)) rfl ?_; clear S; intro a S
 refine lv S (rn_gtr (S.tm rfl) rfl) rfl ?_; clear S; intro a S
 refine l_done (then_n (f_cond (S.tm rfl) (fun hb1 => ?_) (fun hb1 => ?_)))
 ·replace h := iteT h hb1
  refine f_seq (f_region (lv S (rn_assign rfl) rfl ?_)); clear S; intro a S
  refine l_done (then_n (wp_ret (then_r ?_)))
  obtain rfl := Option.some.inj h
  exact f_ret S Tryz.results50 rfl rfl
 ·replace h := iteF h hb1
  refine wp_skip (then_n (f_seq (f_seq (f_region (lv S (rn_move (S.tm rfl)) rfl ?_))))); clear S; intro a S
  refine lv S (rn_lenT sl_26 (S.tm rfl) (slc_lenD hs_p_l hr_p_l)) rfl ?_; clear S; intro a S
  refine lv S (rn_move rfl) rfl ?_; clear S; intro a S
  refine l_done (then_n ?_)
  replace S := S.nk [] [(0, v_p_l), (10, v_p_l), (11, iV (p_l.length : Int)), (12, iV 0)] [] rfl (subR rfl)
  obtain ⟨j1, hj1, h⟩ := joinE h
  refine f_join (fun a w' => j1 = some r ∧ Sx w [] nov [] [] 87 a w') ?_ ?_
  ·refine wp_block (f_loop (fun (ys1 : List GKind) a w' => ∃ i1 : Nat, (∃ dn, p_l = dn ++ ys1 ∧ dn.length = i1) ∧ record_CheckKinds_l1 p_l j1 ys1 i1 = some r ∧ Sx w [] nov [] [(0, v_p_l), (10, v_p_l), (11, iV (p_l.length : Int)), (12, iV (i1 : Int))] 87 a w') List.length p_l ⟨0, ⟨[], rfl, rfl⟩, h, S.nf [] rfl (subR rfl)⟩ ?_)
   clear S h; rintro ys1 a w1 ⟨i1, ⟨dn, hd1, hi1⟩, h, S⟩
   cases ys1 with
   | nil =>
    rw [record_CheckKinds_l1.eq_1] at h
    refine f_seq (f_region (lv S (rn_lss (S.tm rfl) (S.tm rfl)) rfl ?_)); clear S; intro a S
    refine l_done ?_
    replace S := S.nk [] [(0, v_p_l), (10, v_p_l), (11, iV (p_l.length : Int)), (12, iV (i1 : Int)), (13, bV (decide ((i1 : Int) < (p_l.length : Int))))] [] rfl (subR rfl)
    refine then_n (f_seq (wp_cond_false ((S.tm rfl).trans (congrArg Value.bool (rng_nil hd1 hi1))) (wp_exit (then_x (then_x (x_same ?_))))))
    refine then_n ?_
    exact ⟨h, S.nf [] rfl trivial⟩
   | cons y1 ys1 =>
    rw [record_CheckKinds_l1.eq_2] at h
    refine f_seq (f_region (lv S (rn_lss (S.tm rfl) (S.tm rfl)) rfl ?_)); clear S; intro a S
    refine l_done ?_
    replace S := S.nk [] [(0, v_p_l), (10, v_p_l), (11, iV (p_l.length : Int)), (12, iV (i1 : Int)), (13, bV (decide ((i1 : Int) < (p_l.length : Int))))] [] rfl (subR rfl)
    refine then_n (f_seq (wp_cond_true ((S.tm rfl).trans (congrArg Value.bool (rng_cons hd1 hi1))) (wp_skip (then_n (f_seq (wp_block ?_))))))
    refine f_seq (f_region (lv S (rn_move (S.tm rfl)) rfl ?_)); clear S; intro a S
    obtain ⟨r1, hg1, hl1⟩ := All2.at hr_p_l (get_mid hd1 hi1)
    obtain ⟨u1, rfl, hs1⟩ := hl1
    obtain ⟨b1, o1, hm1, hr1⟩ := rn_indexT (a := a) (x := .tmp 10) (y := .tmp 12) (ty := 0) sl_26 hs_p_l hg1 rfl (S.tm rfl) (S.tm rfl)
    refine lv S (hr1 _) rfl ?_; clear S; intro a S
    clear hr1
    refine lv S (rn_ldA Tryz.isAgg47 Tryz.sizeOf47 (off := o1) (o := 0) (part := [sV y1.Key, sV y1.Race, u1.val, iV y1.Young, iV y1.Old]) rfl rfl (S.tm rfl) (hm1.at S.emb0)) rfl ?_; clear S; intro a S
    refine l_alloc S Tryz.zeroValue47 (cs := [sV k_empty, sV k_empty, .slice none 0 0, iV 0, iV 0]) rfl rfl ?_; clear S; intro a w3 b2 hz1 hk1 S
    refine lv S (rn_assign (S.tm rfl)) rfl ?_; clear S; intro a S
    refine l_store S (S.tm rfl) (S.tm rfl) (i := 0) (off := 0) rfl Tryz.sizeOf47 (vs := [sV y1.Key, sV y1.Race, u1.val, iV y1.Young, iV y1.Old]) rfl rfl rfl (all1 rfl (all1 rfl (all1 (SlcLen.one (slc_len hs1)) (all1 rfl (all1 rfl rfl))))) ?_; clear S; intro w4 hk2 S
    refine l_done (then_n (f_seq (wp_block (f_seq (f_region (lv S (rn_fld fa_47_0 (S.tm rfl)) rfl ?_)))))); clear S; intro a S
    refine lv S (rn_load Tryz.isAgg9 (S.tm rfl) (S.cell (i := 0) rfl rfl)) rfl ?_; clear S; intro a S
    obtain ⟨r2, hr2, h⟩ := bindE h
    refine l_enter S (fun _ => run_call (vs := [sV y1.Key]) ⟨(S.tm rfl), trivial⟩ Tryz.call71) (words_IsKey_ok _ y1.Key _ hr2) rfl ?_; clear S; intro v1 a w5 hv1 hk3 hn1 S
    subst hv1
    refine lv S (rn_not (S.tm rfl)) rfl ?_; clear S; intro a S
    refine lv S (rn_move (S.tm rfl)) rfl ?_; clear S; intro a S
    obtain ⟨j2, hj2, h⟩ := joinE h
    refine f_cutm 5 (fun a w' => ∃ c1, j2 c1 = some r ∧ Keep [] w5 w' ∧ Sx w [] nov [.blk b2 [sV y1.Key, sV y1.Race, u1.val, iV y1.Young, iV y1.Old] 47] [(0, v_p_l), (3, iV (i1 : Int)), (4, .pointer (some ⟨b2, 0, none⟩)), (10, v_p_l), (11, iV (p_l.length : Int)), (12, iV (i1 : Int)), (27, bV c1)] 87 a w') ?_ ?_
    ·rcases Bool.eq_false_or_eq_true (!r2) with hb2 | hb2
     ·replace h := iteT h hb2
      iterate 4 (refine l_skip S rfl rfl rfl (neq_t hb2) rfl ?_ rfl; clear S; intro a S)
      refine lv S (rn_or_t true hb2 (S.tm rfl) rfl) rfl ?_; clear S; intro a S
      refine l_done (then_n ?_)
      exact ⟨_, h, Keep.refl _ _, S.nf [true] rfl (subR rfl)⟩
     ·replace h := iteF h hb2
      refine l_want S rfl rfl rfl hb2 (lv S (rn_fld fa_47_1 (S.tm rfl)) rfl ?_); clear S; intro a S
      refine l_want S rfl rfl rfl hb2 (lv S (rn_load Tryz.isAgg9 (S.tm rfl) (S.cell (i := 0) rfl rfl)) rfl ?_); clear S; intro a S
      refine l_want S rfl rfl rfl hb2 ?_
      obtain ⟨r3, hr3, h⟩ := bindE h
      refine l_enter S (fun _ => run_call (vs := [sV y1.Race]) ⟨(S.tm rfl), trivial⟩ Tryz.call71) (words_IsKey_ok _ y1.Race _ hr3) rfl ?_; clear S; intro v2 a w7 hv2 hk4 hn2 S
      subst hv2
      refine l_want S rfl rfl rfl hb2 (lv S (rn_not (S.tm rfl)) rfl ?_); clear S; intro a S
      refine lv S (rn_or_f hb2 (S.tm rfl) (S.tm rfl)) rfl ?_; clear S; intro a S
      refine l_done (then_n ?_)
      exact ⟨_, h, hk4, S.nf [true] rfl (subR rfl)⟩
    clear S h; rintro a w6 ⟨c1, h, hk5, S⟩; rw [hj2] at h; clear hj2 j2
    refine lv S (rn_assign (S.tm rfl)) rfl ?_; clear S; intro a S
    refine l_done (then_n (f_cond (S.tm rfl) (fun hb3 => ?_) (fun hb3 => ?_)))
    ·replace h := iteT h hb3
     refine f_seq (f_region (lv S (rn_assign rfl) rfl ?_)); clear S; intro a S
     refine l_done (then_n (wp_ret (blk_r (then_r (blk_r (then_r ?_))))))
     refine then_r (blk_r (then_r (then_r ?_)))
     obtain rfl := Option.some.inj h
     exact f_ret S Tryz.results50 rfl rfl
    ·replace h := iteF h hb3
     refine f_seq (d_region [] ([]) Tryz.mixed S rfl (by kernel_rfl) ?_); clear S; intro w8 hk6 hsel S
     refine d_rest [0, 1, 2, 3, 4, 5, 6, 7, 8, 9, 10, 11, 12, 13] hsel (by kernel_rfl) rfl ?_
     clear hsel
     refine s_lv S rfl (rn_move (S.tm rfl)) rfl ?_; clear S; intro a S
     refine s_lv S rfl (rn_gtr (S.tm rfl) rfl) rfl ?_; clear S; intro a S
     refine s_lv S rfl (rn_move (S.tm rfl)) rfl ?_; clear S; intro a S
     obtain ⟨j3, hj3, h⟩ := joinE h
     refine s_cutm 10 (fun a w' => ∃ c2, j3 c2 = some r ∧ Keep [] w8 w' ∧ Sx w [] nov [.blk b2 [sV y1.Key, sV y1.Race, u1.val, iV y1.Young, iV y1.Old] 47] [(0, v_p_l), (4, .pointer (some ⟨b2, 0, none⟩)), (10, v_p_l), (11, iV (p_l.length : Int)), (12, iV (i1 : Int)), (41, bV c2)] 87 a w') ?_ ?_
     ·rcases Bool.eq_false_or_eq_true (decide (0 < (i1 : Int))) with hb4 | hb4
      ·replace h := iteT h hb4
       refine s_want S rfl rfl rfl rfl hb4 (s_lv0 S (rn_fld fa_47_0 (S.tm rfl)) rfl ?_); clear S; intro a S
       refine s_want S rfl rfl rfl rfl hb4 (s_lv0 S (rn_load Tryz.isAgg9 (S.tm rfl) (S.cell (i := 0) rfl rfl)) rfl ?_); clear S; intro a S
       refine s_want S rfl rfl rfl rfl hb4 (s_lv0 S (rn_move (S.tm rfl)) rfl ?_); clear S; intro a S
       refine s_want S rfl rfl rfl rfl hb4 (s_lv0 S (rn_move (S.tm rfl)) rfl ?_); clear S; intro a S
       refine s_want S rfl rfl rfl rfl hb4 (s_lv0 S (rn_sub (S.tm rfl) rfl) rfl ?_); clear S; intro a S
       refine s_want S rfl rfl rfl rfl hb4 ?_
       obtain ⟨hc1, h⟩ := chkE h
       obtain ⟨r4, hg2, hl2⟩ := all2_get hr_p_l hc1
       obtain ⟨u2, rfl, hs2⟩ := hl2
       obtain ⟨b3, o2, hm2, hr4⟩ := rn_indexT (a := a) (x := .tmp 34) (y := .tmp 36) (ty := 0) sl_26 hs_p_l hg2 (inB_get hc1).2 (S.tm rfl) (S.tm rfl)
       refine s_lv0 S (hr4 _) rfl ?_; clear S; intro a S
       clear hr4
       refine s_want S rfl rfl rfl rfl hb4 (s_lv0 S (rn_fld fa_47_0 (S.tm rfl)) rfl ?_); clear S; intro a S
       refine s_want S rfl rfl rfl rfl hb4 (s_lv0 S (rn_ld Tryz.isAgg9 (off := o2) (o := 0) (S.tm rfl) (hm2.at S.emb0) rfl) rfl ?_); clear S; intro a S
       refine s_want S rfl rfl rfl rfl hb4 (s_lv0 S (rn_sleq (S.tm rfl) (S.tm rfl)) rfl ?_); clear S; intro a S
       refine s_lv S rfl (rn_and_t hb4 (S.tm rfl) (S.tm rfl)) rfl ?_; clear S; intro a S
       refine s_done ?_
       exact ⟨_, h, Keep.refl _ _, S.nf [true] rfl (subR rfl)⟩
      ·replace h := iteF h hb4
       iterate 9 (refine s_skip S rfl rfl rfl rfl (neq_f hb4) rfl ?_ rfl; clear S; intro a S)
       refine s_lv S rfl (rn_and_f true hb4 (S.tm rfl) rfl) rfl ?_; clear S; intro a S
       refine s_done ?_
       exact ⟨_, h, Keep.refl _ _, S.nf [true] rfl (subR rfl)⟩
     clear S h; rintro a w9 ⟨c2, h, hk7, S⟩; rw [hj3] at h; clear hj3 j3
     refine s_lv S rfl (rn_assign (S.tm rfl)) rfl ?_; clear S; intro a S
     refine s_done ?_
     replace S := S.nk [.blk b2 [sV y1.Key, sV y1.Race, u1.val, iV y1.Young, iV y1.Old] 47] [(0, v_p_l), (4, .pointer (some ⟨b2, 0, none⟩)), (10, v_p_l), (11, iV (p_l.length : Int)), (12, iV (i1 : Int)), (28, bV c2)] [true] rfl (subR rfl)
     refine then_n (f_cond (S.tm rfl) (fun hb5 => ?_) (fun hb5 => ?_))
     ·replace h := iteT h hb5
      refine f_seq (f_region (lv S (rn_assign rfl) rfl ?_)); clear S; intro a S
      refine l_done (then_n (wp_ret (blk_r (then_r (blk_r (then_r ?_))))))
      refine then_r (blk_r (then_r (then_r ?_)))
      obtain rfl := Option.some.inj h
      exact f_ret S Tryz.results50 rfl rfl
     ·replace h := iteF h hb5
      refine f_seq (f_region (lv S (rn_fld fa_47_2 (S.tm rfl)) rfl ?_)); clear S; intro a S
      refine lv S (rn_load Tryz.isAgg42 (S.tm rfl) (S.cell (i := 0) rfl rfl)) rfl ?_; clear S; intro a S
      refine lv S (rn_lenT sl_42 (S.tm rfl) (slc_len hs1)) rfl ?_; clear S; intro a S
      refine lv S (rn_gtr (S.tm rfl) rfl) rfl ?_; clear S; intro a S
      refine lv S (rn_assign (S.tm rfl)) rfl ?_; clear S; intro a S
      refine l_done (then_n (f_cond (S.tm rfl) (fun hb6 => ?_) (fun hb6 => ?_)))
      ·replace h := iteT h hb6
       refine f_seq (f_region (lv S (rn_assign rfl) rfl ?_)); clear S; intro a S
       refine l_done (then_n (wp_ret (blk_r (then_r (blk_r (then_r ?_))))))
       refine then_r (blk_r (then_r (then_r ?_)))
       obtain rfl := Option.some.inj h
       exact f_ret S Tryz.results50 rfl rfl
      ·replace h := iteF h hb6
       refine wp_skip (blk_n (then_n (f_seq (f_seq (f_region (lv S (rn_fld fa_47_2 (S.tm rfl)) rfl ?_)))))); clear S; intro a S
       refine lv S (rn_load Tryz.isAgg42 (S.tm rfl) (S.cell (i := 0) rfl rfl)) rfl ?_; clear S; intro a S
       refine lv S (rn_lenT sl_42 (S.tm rfl) (slc_len hs1)) rfl ?_; clear S; intro a S
       refine lv S (rn_move rfl) rfl ?_; clear S; intro a S
       refine l_done ?_
       replace S := S.nk [.blk b2 [sV y1.Key, sV y1.Race, u1.val, iV y1.Young, iV y1.Old] 47] [(0, v_p_l), (4, .pointer (some ⟨b2, 0, none⟩)), (10, v_p_l), (11, iV (p_l.length : Int)), (12, iV (i1 : Int)), (48, u1.val), (49, iV (y1.Clubs.length : Int)), (50, iV 0)] [true] rfl (subR rfl)
       refine then_n ?_
       obtain ⟨j4, hj4, h⟩ := joinE h
       refine f_join (fun a w' => j4 = some r ∧ Sx w [] nov [.blk b2 [sV y1.Key, sV y1.Race, u1.val, iV y1.Young, iV y1.Old] 47] [(0, v_p_l), (4, .pointer (some ⟨b2, 0, none⟩)), (10, v_p_l), (11, iV (p_l.length : Int)), (12, iV (i1 : Int))] 87 a w') ?_ ?_
       ·refine wp_block (f_loop (fun (ys2 : List ByteArray) a w' => ∃ i2 : Nat, (∃ dn, y1.Clubs = dn ++ ys2 ∧ dn.length = i2) ∧ record_CheckKinds_l2 y1 j4 ys2 i2 = some r ∧ Sx w [] nov [.blk b2 [sV y1.Key, sV y1.Race, u1.val, iV y1.Young, iV y1.Old] 47] [(0, v_p_l), (4, .pointer (some ⟨b2, 0, none⟩)), (10, v_p_l), (11, iV (p_l.length : Int)), (12, iV (i1 : Int)), (48, u1.val), (49, iV (y1.Clubs.length : Int)), (50, iV (i2 : Int))] 87 a w') List.length y1.Clubs ⟨0, ⟨[], rfl, rfl⟩, h, S.nf [true] rfl (subR rfl)⟩ ?_)
        clear S h; rintro ys2 a w10 ⟨i2, ⟨dn, hd2, hi2⟩, h, S⟩
        cases ys2 with
        | nil =>
         rw [record_CheckKinds_l2.eq_1] at h
         refine f_seq (f_region (lv S (rn_lss (S.tm rfl) (S.tm rfl)) rfl ?_)); clear S; intro a S
         refine l_done ?_
         replace S := S.nk [.blk b2 [sV y1.Key, sV y1.Race, u1.val, iV y1.Young, iV y1.Old] 47] [(0, v_p_l), (4, .pointer (some ⟨b2, 0, none⟩)), (10, v_p_l), (11, iV (p_l.length : Int)), (12, iV (i1 : Int)), (48, u1.val), (49, iV (y1.Clubs.length : Int)), (50, iV (i2 : Int)), (51, bV (decide ((i2 : Int) < (y1.Clubs.length : Int))))] [true] rfl (subR rfl)
         refine then_n (f_seq (wp_cond_false ((S.tm rfl).trans (congrArg Value.bool (rng_nil hd2 hi2))) (wp_exit (then_x (then_x (x_same ?_))))))
         refine then_n ?_
         exact ⟨h, S.nf [true] rfl (subR rfl)⟩
        | cons y2 ys2 =>
         rw [record_CheckKinds_l2.eq_2] at h
         refine f_seq (f_region (lv S (rn_lss (S.tm rfl) (S.tm rfl)) rfl ?_)); clear S; intro a S
         refine l_done ?_
         replace S := S.nk [.blk b2 [sV y1.Key, sV y1.Race, u1.val, iV y1.Young, iV y1.Old] 47] [(0, v_p_l), (4, .pointer (some ⟨b2, 0, none⟩)), (10, v_p_l), (11, iV (p_l.length : Int)), (12, iV (i1 : Int)), (48, u1.val), (49, iV (y1.Clubs.length : Int)), (50, iV (i2 : Int)), (51, bV (decide ((i2 : Int) < (y1.Clubs.length : Int))))] [true] rfl (subR rfl)
         refine then_n (f_seq (wp_cond_true ((S.tm rfl).trans (congrArg Value.bool (rng_cons hd2 hi2))) (wp_skip (then_n (f_seq (wp_block ?_))))))
         refine f_seq (f_region (lv S (rn_move (S.tm rfl)) rfl ?_)); clear S; intro a S
         obtain ⟨b4, o3, hm3, hr5⟩ := rn_indexT (a := a) (x := .tmp 48) (y := .tmp 50) (ty := 0) sl_42 hs1 (get_mid hd2 hi2) rfl (S.tm rfl) (S.tm rfl)
         refine lv S (hr5 _) rfl ?_; clear S; intro a S
         clear hr5
         refine lv S (rn_ld Tryz.isAgg9 (off := o3) (o := 0) (S.tm rfl) (hm3.at S.emb0) rfl) rfl ?_; clear S; intro a S
         refine lv S (rn_assign (S.tm rfl)) rfl ?_; clear S; intro a S
         refine lv S (rn_assign (S.tm rfl)) rfl ?_; clear S; intro a S
         refine l_done (then_n (f_seq (f_seq (f_region (lv S (rn_move (S.tm rfl)) rfl ?_))))); clear S; intro a S
         obtain ⟨r5, hr6, h⟩ := bindE h
         refine l_enter S (fun _ => run_call (vs := [sV y2]) ⟨(S.tm rfl), trivial⟩ Tryz.call71) (words_IsKey_ok _ y2 _ hr6) rfl ?_; clear S; intro v3 a w12 hv3 hk8 hn3 S
         subst hv3
         refine lv S (rn_not (S.tm rfl)) rfl ?_; clear S; intro a S
         refine l_done ?_
         replace S := S.nk [.blk b2 [sV y1.Key, sV y1.Race, u1.val, iV y1.Young, iV y1.Old] 47] [(0, v_p_l), (4, .pointer (some ⟨b2, 0, none⟩)), (5, iV (i2 : Int)), (6, sV y2), (10, v_p_l), (11, iV (p_l.length : Int)), (12, iV (i1 : Int)), (48, u1.val), (49, iV (y1.Clubs.length : Int)), (50, iV (i2 : Int)), (57, bV (!r5))] [true] rfl (subR rfl)
         refine then_n (f_cond (S.tm rfl) (fun hb7 => ?_) (fun hb7 => ?_))
         ·replace h := iteT h hb7
          refine f_seq (f_region (lv S (rn_assign rfl) rfl ?_)); clear S; intro a S
          refine l_done (then_n (wp_ret (then_r (blk_r (then_r (then_r ?_))))))
          refine blk_r (then_r (then_r (blk_r (then_r (then_r (blk_r ?_))))))
          refine then_r (then_r ?_)
          obtain rfl := Option.some.inj h
          exact f_ret S Tryz.results50 rfl rfl
         ·replace h := iteF h hb7
          refine wp_skip (then_n (f_seq (f_region (lv S (rn_move (S.tm rfl)) rfl ?_)))); clear S; intro a S
          refine lv S (rn_gtr (S.tm rfl) rfl) rfl ?_; clear S; intro a S
          refine lv S (rn_move (S.tm rfl)) rfl ?_; clear S; intro a S
          obtain ⟨j5, hj5, h⟩ := joinE h
          refine f_cutm 9 (fun a w' => ∃ c3, j5 c3 = some r ∧ Keep [] w12 w' ∧ Sx w [] nov [.blk b2 [sV y1.Key, sV y1.Race, u1.val, iV y1.Young, iV y1.Old] 47] [(0, v_p_l), (4, .pointer (some ⟨b2, 0, none⟩)), (10, v_p_l), (11, iV (p_l.length : Int)), (12, iV (i1 : Int)), (48, u1.val), (49, iV (y1.Clubs.length : Int)), (50, iV (i2 : Int)), (69, bV c3)] 87 a w') ?_ ?_
          ·rcases Bool.eq_false_or_eq_true (decide (0 < (i2 : Int))) with hb8 | hb8
           ·replace h := iteT h hb8
            refine l_want S rfl rfl rfl hb8 (lv S (rn_move (S.tm rfl)) rfl ?_); clear S; intro a S
            refine l_want S rfl rfl rfl hb8 (lv S (rn_fld fa_47_2 (S.tm rfl)) rfl ?_); clear S; intro a S
            refine l_want S rfl rfl rfl hb8 (lv S (rn_load Tryz.isAgg42 (S.tm rfl) (S.cell (i := 0) rfl rfl)) rfl ?_); clear S; intro a S
            refine l_want S rfl rfl rfl hb8 (lv S (rn_move (S.tm rfl)) rfl ?_); clear S; intro a S
            refine l_want S rfl rfl rfl hb8 (lv S (rn_sub (S.tm rfl) rfl) rfl ?_); clear S; intro a S
            refine l_want S rfl rfl rfl hb8 ?_
            obtain ⟨hc2, h⟩ := chkE h
            obtain ⟨b5, o4, hm4, hr7⟩ := rn_indexT (a := a) (x := .tmp 63) (y := .tmp 65) (ty := 0) sl_42 hs1 (inB_get hc2).1 (inB_get hc2).2 (S.tm rfl) (S.tm rfl)
            refine lv S (hr7 _) rfl ?_; clear S; intro a S
            clear hr7
            refine l_want S rfl rfl rfl hb8 (lv S (rn_ld Tryz.isAgg9 (off := o4) (o := 0) (S.tm rfl) (hm4.at S.emb0) rfl) rfl ?_); clear S; intro a S
            refine l_want S rfl rfl rfl hb8 (lv S (rn_sleq (S.tm rfl) (S.tm rfl)) rfl ?_); clear S; intro a S
            refine lv S (rn_and_t hb8 (S.tm rfl) (S.tm rfl)) rfl ?_; clear S; intro a S
            refine l_done (then_n ?_)
            exact ⟨_, h, Keep.refl _ _, S.nf [true] rfl (subR rfl)⟩
           ·replace h := iteF h hb8
            iterate 8 (refine l_skip S rfl rfl rfl (neq_f hb8) rfl ?_ rfl; clear S; intro a S)
            refine lv S (rn_and_f true hb8 (S.tm rfl) rfl) rfl ?_; clear S; intro a S
            refine l_done (then_n ?_)
            exact ⟨_, h, Keep.refl _ _, S.nf [true] rfl (subR rfl)⟩
          clear S h; rintro a w13 ⟨c3, h, hk9, S⟩; rw [hj5] at h; clear hj5 j5
          refine l_done (then_n (f_cond (S.tm rfl) (fun hb9 => ?_) (fun hb9 => ?_)))
          ·replace h := iteT h hb9
           refine f_seq (f_region (lv S (rn_assign rfl) rfl ?_)); clear S; intro a S
           refine l_done (then_n (wp_ret (blk_r (then_r (then_r (blk_r ?_))))))
           refine then_r (then_r (blk_r (then_r (then_r (blk_r (then_r ?_))))))
           refine then_r ?_
           obtain rfl := Option.some.inj h
           exact f_ret S Tryz.results50 rfl rfl
          ·replace h := iteF h hb9
           refine wp_skip (blk_n (then_n (f_region (lv S (rn_add (S.tm rfl) rfl) rfl ?_)))); clear S; intro a S
           refine lv S (rn_move (S.tm rfl)) rfl ?_; clear S; intro a S
           refine l_done (then_n ?_)
           exact ⟨ys2, ⟨i2 + 1, ⟨_, (hd2).trans (List.append_cons _ _ _), by simp [hi2]⟩, h, S.nf [true] rfl ⟨rfl, rfl, rfl, rfl, rfl, rfl, rfl, (congrArg (fun z => some (Value.int .i64 z)) (rng_next hd2 hi2 (slc_max hs1))), trivial⟩⟩, Nat.lt_succ_self _⟩
       clear S h; rintro a w11 ⟨h, S⟩; rw [hj4] at h; clear hj4 j4
       refine then_n (f_seq (f_region (lv S (rn_fld fa_47_3 (S.tm rfl)) rfl ?_))); clear S; intro a S
       refine lv S (rn_load Tryz.isAgg3 (S.tm rfl) (S.cell (i := 0) rfl rfl)) rfl ?_; clear S; intro a S
       refine lv S (rn_lss (S.tm rfl) rfl) rfl ?_; clear S; intro a S
       refine lv S (rn_move (S.tm rfl)) rfl ?_; clear S; intro a S
       refine f_cutm 6 (fun a w' => Keep [] w11 w' ∧ Sx w [] nov [.blk b2 [sV y1.Key, sV y1.Race, u1.val, iV y1.Young, iV y1.Old] 47] [(0, v_p_l), (4, .pointer (some ⟨b2, 0, none⟩)), (10, v_p_l), (11, iV (p_l.length : Int)), (12, iV (i1 : Int)), (80, bV ((decide (y1.Young < 0)) || (decide (y1.Old < y1.Young))))] 87 a w') ?_ ?_
       ·rcases Bool.eq_false_or_eq_true (decide (y1.Young < 0)) with hb10 | hb10
        ·iterate 5 (refine l_skip S rfl rfl rfl (neq_t hb10) rfl ?_ rfl; clear S; intro a S)
         refine lv S (rn_or_t (decide (y1.Old < y1.Young)) hb10 (S.tm rfl) rfl) rfl ?_; clear S; intro a S
         refine l_done (then_n ?_)
         exact ⟨Keep.refl _ _, S.nf [true] rfl (subR rfl)⟩
        ·refine l_want S rfl rfl rfl hb10 (lv S (rn_fld fa_47_3 (S.tm rfl)) rfl ?_); clear S; intro a S
         refine l_want S rfl rfl rfl hb10 (lv S (rn_load Tryz.isAgg3 (S.tm rfl) (S.cell (i := 0) rfl rfl)) rfl ?_); clear S; intro a S
         refine l_want S rfl rfl rfl hb10 (lv S (rn_fld fa_47_4 (S.tm rfl)) rfl ?_); clear S; intro a S
         refine l_want S rfl rfl rfl hb10 (lv S (rn_load Tryz.isAgg3 (S.tm rfl) (S.cell (i := 0) rfl rfl)) rfl ?_); clear S; intro a S
         refine l_want S rfl rfl rfl hb10 (lv S (rn_gtr (S.tm rfl) (S.tm rfl)) rfl ?_); clear S; intro a S
         refine lv S (rn_or_f hb10 (S.tm rfl) (S.tm rfl)) rfl ?_; clear S; intro a S
         refine l_done (then_n ?_)
         exact ⟨Keep.refl _ _, S.nf [true] rfl (subR rfl)⟩
       clear S; rintro a w14 ⟨hk10, S⟩
       refine lv S (rn_move (S.tm rfl)) rfl ?_; clear S; intro a S
       refine f_cutm 4 (fun a w' => Keep [] w14 w' ∧ Sx w [] nov [.blk b2 [sV y1.Key, sV y1.Race, u1.val, iV y1.Young, iV y1.Old] 47] [(0, v_p_l), (10, v_p_l), (11, iV (p_l.length : Int)), (12, iV (i1 : Int)), (85, bV (((decide (y1.Young < 0)) || (decide (y1.Old < y1.Young))) || (decide (150 < y1.Old))))] 87 a w') ?_ ?_
       ·rcases Bool.eq_false_or_eq_true ((decide (y1.Young < 0)) || (decide (y1.Old < y1.Young))) with hb11 | hb11
        ·iterate 3 (refine l_skip S rfl rfl rfl (neq_t hb11) rfl ?_ rfl; clear S; intro a S)
         refine lv S (rn_or_t (decide (150 < y1.Old)) hb11 (S.tm rfl) rfl) rfl ?_; clear S; intro a S
         refine l_done (then_n ?_)
         exact ⟨Keep.refl _ _, S.nf [true] rfl (subR rfl)⟩
        ·refine l_want S rfl rfl rfl hb11 (lv S (rn_fld fa_47_4 (S.tm rfl)) rfl ?_); clear S; intro a S
         refine l_want S rfl rfl rfl hb11 (lv S (rn_load Tryz.isAgg3 (S.tm rfl) (S.cell (i := 0) rfl rfl)) rfl ?_); clear S; intro a S
         refine l_want S rfl rfl rfl hb11 (lv S (rn_gtr (S.tm rfl) rfl) rfl ?_); clear S; intro a S
         refine lv S (rn_or_f hb11 (S.tm rfl) (S.tm rfl)) rfl ?_; clear S; intro a S
         refine l_done (then_n ?_)
         exact ⟨Keep.refl _ _, S.nf [true] rfl (subR rfl)⟩
       clear S; rintro a w15 ⟨hk11, S⟩
       refine l_done (then_n (f_cond (S.tm rfl) (fun hb12 => ?_) (fun hb12 => ?_)))
       ·replace h := iteT h hb12
        refine f_seq (f_region (lv S (rn_assign rfl) rfl ?_)); clear S; intro a S
        refine l_done (then_n (wp_ret (blk_r (then_r (then_r (blk_r ?_))))))
        refine then_r (then_r ?_)
        obtain rfl := Option.some.inj h
        exact f_ret S Tryz.results50 rfl rfl
       ·replace h := iteF h hb12
        refine wp_skip (blk_n (then_n (f_region (lv S (rn_add (S.tm rfl) rfl) rfl ?_)))); clear S; intro a S
        refine lv S (rn_move (S.tm rfl)) rfl ?_; clear S; intro a S
        refine l_done (then_n ?_)
        exact ⟨ys1, ⟨i1 + 1, ⟨_, (hd1).trans (List.append_cons _ _ _), by simp [hi1]⟩, h, S.nf [false] rfl ⟨rfl, rfl, rfl, (congrArg (fun z => some (Value.int .i64 z)) (rng_next hd1 hi1 (slc_maxD hs_p_l hr_p_l))), trivial⟩⟩, Nat.lt_succ_self _⟩
  clear S h; rintro a w2 ⟨h, S⟩; rw [hj1] at h; clear hj1 j1
  refine then_n (f_seq (f_region (lv S (rn_assign rfl) rfl ?_))); clear S; intro a S
  refine l_done (then_n (wp_ret ?_))
  obtain rfl := Option.some.inj h
  exact f_ret S Tryz.results50 rfl rfl
theorem record_checkBoth_ok (w : World) (v_p_k : Value) (p_k : List GKind) (rs_p_k : List R47) (hs_p_k : Slc (view w []) 5 v_p_k (rs_p_k.map R47.enc)) (hr_p_k : All2 (rel_47 (view w [])) p_k rs_p_k) (v_p_l : Value) (p_l : List GStep) (hs_p_l : Slc (view w []) 8 v_p_l (p_l.map GStep.enc)) (r : Int) (h : record_checkBoth p_k p_l = some r) :
    Calls Tryz.prog 27 [v_p_k, v_p_l].toArray w (Ret w [] fun _ v _ => v = iV r) := by
 refine f_enter [] [] Tryz.func27 rfl Tryz.ntmps27 rfl (by simp) (by simp [fps]) (by simp [fps]) fun a S => ?_
 unfold record_checkBoth at h
 replace S := S.nk [] [(0, v_p_k), (1, v_p_l)] [] rfl (subR rfl)
 refine f_seq (f_region (lv S (rn_assign rfl) rfl ?_)); clear S; intro a S
 refine l_done (then_n (f_seq (f_seq (f_region (lv S (rn_move (S.tm rfl)) rfl ?_))))); clear S; intro a S
 obtain ⟨r1, hr1, h⟩ := bindE h
 refine l_enter S (fun _ => run_call (vs := [v_p_k]) ⟨(S.tm rfl), trivial⟩ Tryz.call50) (record_CheckKinds_ok _ v_p_k p_k rs_p_k (hs_p_k.mono (S.le_arg nil_sub)) (rels_47 (S.le_arg nil_sub) hr_p_k) _ hr1) rfl ?_; clear S; intro v1 a w1 hv1 hk1 hn1 S
 subst hv1
 refine lv S (rn_assign (S.tm rfl)) rfl ?_; clear S; intro a S
 refine l_done (then_n (f_seq (f_region (lv S (rn_move (S.tm rfl)) rfl ?_)))); clear S; intro a S
 refine lv S (rn_neq (S.tm rfl) rfl) rfl ?_; clear S; intro a S
 refine l_done (then_n (f_cond (S.tm rfl) (fun hb1 => ?_) (fun hb1 => ?_)))
 ·replace h := iteT h hb1
  refine f_seq (f_region (lv S (rn_move (S.tm rfl)) rfl ?_)); clear S; intro a S
  refine lv S (rn_assign (S.tm rfl)) rfl ?_; clear S; intro a S
  refine l_done (then_n (wp_ret (then_r ?_)))
  obtain rfl := Option.some.inj h
  exact f_ret S Tryz.results27 rfl rfl
 ·replace h := iteF h hb1
  refine wp_skip (then_n (f_seq (f_region (lv S (rn_move (S.tm rfl)) rfl ?_)))); clear S; intro a S
  obtain ⟨r2, hr2, h⟩ := bindE h
  refine l_enter S (fun _ => run_call (vs := [v_p_l]) ⟨(S.tm rfl), trivial⟩ Tryz.call22) (record_CheckSteps_ok _ v_p_l p_l (hs_p_l.mono (S.le_arg nil_sub)) _ hr2) rfl ?_; clear S; intro v2 a w2 hv2 hk2 hn2 S
  subst hv2
  refine lv S (rn_assign (S.tm rfl)) rfl ?_; clear S; intro a S
  refine l_done (then_n (wp_ret ?_))
  obtain rfl := Option.some.inj h
  exact f_ret S Tryz.results27 rfl rfl
set_option maxRecDepth 20000 in
theorem record_follow_ok (w : World) (v_p_l : Value) (p_l : List GStep) (hs_p_l : Slc (view w []) 8 v_p_l (p_l.map GStep.enc)) (p_at : Int) (r : (List Grecord_swum) × (List Int)) (h : record_follow p_l p_at = some r) :
    Calls Tryz.prog 29 [v_p_l, iV p_at].toArray w (Ret w [] fun τ v _ => ∃ u1 : Value, ∃ u2 : Value, v = .tuple #[u1, u2] ∧ SlcD τ 1 RP.enc rel_68 u1 r.1 ∧ OwnV τ 3 1 u2 r.2.length (r.2.flatMap eInt)) := by
 refine f_enter [] [] Tryz.func29 rfl Tryz.ntmps29 rfl (by simp) (by simp [fps]) (by simp [fps]) fun a S => ?_
 unfold record_follow at h
 replace S := S.nk [] [(0, v_p_l), (1, iV p_at)] [] rfl (subR rfl)
 refine f_seq (f_region (lv S (rn_assign rfl) rfl ?_)); clear S; intro a S
 refine lv S (rn_assign rfl) rfl ?_; clear S; intro a S
 refine l_done ?_
 replace S := S.nk [] [(0, v_p_l), (1, iV p_at)] [] rfl (subR rfl)
 refine then_n (f_seq (f_region (lv S (rn_assign rfl) rfl ?_))); clear S; intro a S
 replace S := S.nil 68 1
 refine l_done ?_
 replace S := S.nk [.own (.slice none 0 0) 68 1 ([] : List Nat).length (([] : List Nat).flatMap RP.enc)] [(0, v_p_l), (1, iV p_at), (6, (.slice none 0 0))] [true] rfl (subR rfl)
 refine then_n (f_seq (f_region (lv S (rn_assign rfl) rfl ?_))); clear S; intro a S
 replace S := S.nil 3 1
 refine l_done ?_
 replace S := S.nk [.own (.slice none 0 0) 3 1 ([] : List Int).length (([] : List Int).flatMap eInt), .own (.slice none 0 0) 68 1 ([] : List Nat).length (([] : List Nat).flatMap RP.enc)] [(0, v_p_l), (1, iV p_at), (6, (.slice none 0 0)), (7, (.slice none 0 0))] [true, true] rfl (subR rfl)
 refine then_n (f_seq (f_region (l_makeMap (κ := ByteArray) (ν := Option Nat) S rfl Value.string PV ?_))); clear S; intro a w1 b1 hz1 hk1 S
 refine lv S (rn_assign (S.tm rfl)) rfl ?_; clear S; intro a S
 refine l_done ?_
 replace S := S.nk ([.map b1 (ments Value.string PV (idm (([] : List Grecord_swum).map fun x => x.s_.Id) ([] : List Nat))) (idm (([] : List Grecord_swum).map fun x => x.s_.Id) ([] : List Nat)).length, .own (.slice none 0 0) 3 1 ([] : List Int).length (([] : List Int).flatMap eInt), .own (.slice none 0 0) 68 1 ([] : List Nat).length (([] : List Nat).flatMap RP.enc)] ++ arena 70 Grecord_swum.enc ([] : List Nat) ([] : List Grecord_swum)) [(0, v_p_l), (1, iV p_at), (6, (.slice none 0 0)), (7, (.slice none 0 0)), (8, .map (some b1))] [true, true, true] rfl (subR rfl)
 refine then_n (f_seq (f_seq (f_region (lv S (rn_move (S.tm rfl)) rfl ?_)))); clear S; intro a S
 refine lv S (rn_lenT sl_28 (S.tm rfl) (slc_len hs_p_l)) rfl ?_; clear S; intro a S
 refine lv S (rn_move rfl) rfl ?_; clear S; intro a S
 refine l_done ?_
 replace S := S.nk ([.map b1 (ments Value.string PV (idm (([] : List Grecord_swum).map fun x => x.s_.Id) ([] : List Nat))) (idm (([] : List Grecord_swum).map fun x => x.s_.Id) ([] : List Nat)).length, .own (.slice none 0 0) 3 1 ([] : List Int).length (([] : List Int).flatMap eInt), .own (.slice none 0 0) 68 1 ([] : List Nat).length (([] : List Nat).flatMap RP.enc)] ++ arena 70 Grecord_swum.enc ([] : List Nat) ([] : List Grecord_swum)) [(1, iV p_at), (6, (.slice none 0 0)), (7, (.slice none 0 0)), (8, .map (some b1)), (13, v_p_l), (14, iV (p_l.length : Int)), (15, iV 0)] [true, true, true] rfl (subR rfl)
 refine then_n ?_
 obtain ⟨j1, hj1, h⟩ := joinE h
 refine f_join (fun a w' => ∃ x1 : List Grecord_swum, ∃ x2 : List Int, ∃ bs1 : List Nat, ∃ v1 : Value, ∃ v2 : Value, j1 x1 x2 = some r ∧ bs1.length = x1.length ∧ Sx w [] nov ([.map b1 (ments Value.string PV (idm (x1.map fun x => x.s_.Id) bs1)) (idm (x1.map fun x => x.s_.Id) bs1).length, .own v1 3 1 x2.length (x2.flatMap eInt), .own v2 68 1 bs1.length (bs1.flatMap RP.enc)] ++ arena 70 Grecord_swum.enc bs1 x1) [(6, v2), (7, v1)] 97 a w') ?_ ?_
 ·refine wp_block (f_loop (fun (ys1 : List GStep) a w' => ∃ i1 : Nat, ∃ x1 : List Grecord_swum, ∃ x2 : List Int, ∃ bs1 : List Nat, ∃ v1 : Value, ∃ v2 : Value, (∃ dn, p_l = dn ++ ys1 ∧ dn.length = i1) ∧ record_follow_l1 p_at j1 ys1 i1 x1 x2 = some r ∧ bs1.length = x1.length ∧ Sx w [] nov ([.map b1 (ments Value.string PV (idm (x1.map fun x => x.s_.Id) bs1)) (idm (x1.map fun x => x.s_.Id) bs1).length, .own v1 3 1 x2.length (x2.flatMap eInt), .own v2 68 1 bs1.length (bs1.flatMap RP.enc)] ++ arena 70 Grecord_swum.enc bs1 x1) [(1, iV p_at), (6, v2), (7, v1), (8, .map (some b1)), (13, v_p_l), (14, iV (p_l.length : Int)), (15, iV (i1 : Int))] 97 a w') List.length p_l ⟨0, ([] : List Grecord_swum), ([] : List Int), ([] : List Nat), (.slice none 0 0), (.slice none 0 0), ⟨[], rfl, rfl⟩, h, (rfl : ([] : List Nat).length = ([] : List Grecord_swum).length), S.nf [true, true, true] rfl (subR rfl)⟩ ?_)
  clear S h; rintro ys1 a w2 ⟨i1, x1, x2, bs1, v1, v2, ⟨dn, hd1, hi1⟩, h, hl1, S⟩
  cases ys1 with
  | nil =>
   rw [record_follow_l1.eq_1] at h
   refine f_seq (f_region (lv S (rn_lss (S.tm rfl) (S.tm rfl)) rfl ?_)); clear S; intro a S
   refine l_done ?_
   replace S := S.nk ([.map b1 (ments Value.string PV (idm (x1.map fun x => x.s_.Id) bs1)) (idm (x1.map fun x => x.s_.Id) bs1).length, .own v1 3 1 x2.length (x2.flatMap eInt), .own v2 68 1 bs1.length (bs1.flatMap RP.enc)] ++ arena 70 Grecord_swum.enc bs1 x1) [(1, iV p_at), (6, v2), (7, v1), (8, .map (some b1)), (13, v_p_l), (14, iV (p_l.length : Int)), (15, iV (i1 : Int)), (16, bV (decide ((i1 : Int) < (p_l.length : Int))))] [true, true, true] rfl (subR rfl)
   refine then_n (f_seq (wp_cond_false ((S.tm rfl).trans (congrArg Value.bool (rng_nil hd1 hi1))) (wp_exit (then_x (then_x (x_same ?_))))))
   refine then_n ?_
   exact ⟨x1, x2, bs1, v1, v2, h, hl1, S.nf [true, true, true] rfl (subR rfl)⟩
  | cons y1 ys1 =>
   rw [record_follow_l1.eq_2] at h
   refine f_seq (f_region (lv S (rn_lss (S.tm rfl) (S.tm rfl)) rfl ?_)); clear S; intro a S
   refine l_done ?_
   replace S := S.nk ([.map b1 (ments Value.string PV (idm (x1.map fun x => x.s_.Id) bs1)) (idm (x1.map fun x => x.s_.Id) bs1).length, .own v1 3 1 x2.length (x2.flatMap eInt), .own v2 68 1 bs1.length (bs1.flatMap RP.enc)] ++ arena 70 Grecord_swum.enc bs1 x1) [(1, iV p_at), (6, v2), (7, v1), (8, .map (some b1)), (13, v_p_l), (14, iV (p_l.length : Int)), (15, iV (i1 : Int)), (16, bV (decide ((i1 : Int) < (p_l.length : Int))))] [true, true, true] rfl (subR rfl)
   refine then_n (f_seq (wp_cond_true ((S.tm rfl).trans (congrArg Value.bool (rng_cons hd1 hi1))) (wp_skip (then_n (f_seq (wp_block ?_))))))
   refine f_seq (f_region (lv S (rn_move (S.tm rfl)) rfl ?_)); clear S; intro a S
   obtain ⟨b2, o1, hm1, hr1⟩ := rn_indexT (a := a) (x := .tmp 13) (y := .tmp 15) (ty := 0) sl_28 hs_p_l (get_mid hd1 hi1) rfl (S.tm rfl) (S.tm rfl)
   refine lv S (hr1 _) rfl ?_; clear S; intro a S
   clear hr1
   refine lv S (rn_ldA Tryz.isAgg35 Tryz.sizeOf35 (off := o1) (o := 0) (part := (GStep.enc y1)) rfl rfl (S.tm rfl) (hm1.at S.emb0)) rfl ?_; clear S; intro a S
   refine l_alloc S Tryz.zeroValue35 (cs := [iV 0, iV 0, sV k_empty, sV k_empty, sV k_empty, sV k_empty, iV 0, iV 0]) rfl rfl ?_; clear S; intro a w4 b3 hz2 hk2 S
   refine lv S (rn_assign (S.tm rfl)) rfl ?_; clear S; intro a S
   refine l_store S (S.tm rfl) (S.tm rfl) (i := 0) (off := 0) rfl Tryz.sizeOf35 (vs := (GStep.enc y1)) rfl rfl rfl rfl ?_; clear S; intro w5 hk3 S
   refine l_done ?_
   replace S := S.nk ([.blk b3 (GStep.enc y1) 35, .map b1 (ments Value.string PV (idm (x1.map fun x => x.s_.Id) bs1)) (idm (x1.map fun x => x.s_.Id) bs1).length, .own v1 3 1 x2.length (x2.flatMap eInt), .own v2 68 1 bs1.length (bs1.flatMap RP.enc)] ++ arena 70 Grecord_swum.enc bs1 x1) [(1, iV p_at), (6, v2), (7, v1), (8, .map (some b1)), (9, iV (i1 : Int)), (10, .pointer (some ⟨b3, 0, none⟩)), (13, v_p_l), (14, iV (p_l.length : Int)), (15, iV (i1 : Int))] [true, true, true, true] rfl (subR rfl)
   refine then_n (f_seq (f_seq (f_region (lv S (rn_fld fa_35_0 (S.tm rfl)) rfl ?_)))); clear S; intro a S
   refine lv S (rn_load Tryz.isAgg3 (S.tm rfl) (S.cell (i := 0) rfl rfl)) rfl ?_; clear S; intro a S
   refine lv S (rn_move (S.tm rfl)) rfl ?_; clear S; intro a S
   refine lv S (rn_gtr (S.tm rfl) (S.tm rfl)) rfl ?_; clear S; intro a S
   refine l_done ?_
   replace S := S.nk ([.blk b3 (GStep.enc y1) 35, .map b1 (ments Value.string PV (idm (x1.map fun x => x.s_.Id) bs1)) (idm (x1.map fun x => x.s_.Id) bs1).length, .own v1 3 1 x2.length (x2.flatMap eInt), .own v2 68 1 bs1.length (bs1.flatMap RP.enc)] ++ arena 70 Grecord_swum.enc bs1 x1) [(1, iV p_at), (6, v2), (7, v1), (8, .map (some b1)), (9, iV (i1 : Int)), (10, .pointer (some ⟨b3, 0, none⟩)), (13, v_p_l), (14, iV (p_l.length : Int)), (15, iV (i1 : Int)), (23, bV (decide (p_at < y1.At)))] [true, true, true, true] rfl (subR rfl)
   refine then_n (f_cond (S.tm rfl) (fun hb1 => ?_) (fun hb1 => ?_))
   ·replace h := iteT h hb1
    refine wp_exit (then_x (x_other rfl (then_x (then_x (x_same (then_n ?_))))))
    exact ⟨x1, x2, bs1, v1, v2, h, hl1, S.nf [false, true, true, true] rfl (subR rfl)⟩
   ·replace h := iteF h hb1
    refine wp_skip (then_n (f_seq (f_region (lv S (rn_move (S.tm rfl)) rfl ?_)))); clear S; intro a S
    refine lv S (rn_fld fa_35_2 (S.tm rfl)) rfl ?_; clear S; intro a S
    refine lv S (rn_load Tryz.isAgg9 (S.tm rfl) (S.cell (i := 0) rfl rfl)) rfl ?_; clear S; intro a S
    refine lv S (rn_lookup (kv := Value.string) (vv := PV) (m := idm (x1.map fun x => x.s_.Id) bs1) (key := y1.Id) (z := none) (S.map_at (i := 1) rfl) Tryz.underlying96 (keyT_str Tryz.underlying9) Tryz.zeroValue68 (S.tm rfl) (S.tm rfl)) rfl ?_; clear S; intro a S
    generalize ho : mgetD (idm (x1.map fun x => x.s_.Id) bs1) y1.Id none = o2 at S
    obtain ⟨hN, hS⟩ : (swFind x1 y1.Id).isNone = o2.isNone ∧ (swFind x1 y1.Id).isSome = o2.isSome := find_o hl1 ho
    simp only [hN, hS] at h
    refine lv S (rn_assign (S.tm rfl)) rfl ?_; clear S; intro a S
    refine l_done ?_
    replace S := S.nk ([.blk b3 (GStep.enc y1) 35, .map b1 (ments Value.string PV (idm (x1.map fun x => x.s_.Id) bs1)) (idm (x1.map fun x => x.s_.Id) bs1).length, .own v1 3 1 x2.length (x2.flatMap eInt), .own v2 68 1 bs1.length (bs1.flatMap RP.enc)] ++ arena 70 Grecord_swum.enc bs1 x1) [(1, iV p_at), (6, v2), (7, v1), (8, .map (some b1)), (9, iV (i1 : Int)), (10, .pointer (some ⟨b3, 0, none⟩)), (11, PV o2), (13, v_p_l), (14, iV (p_l.length : Int)), (15, iV (i1 : Int))] [true, true, true, true] rfl (subR rfl)
    refine then_n ?_
    obtain ⟨j2, hj2, h⟩ := joinE h
    refine f_join (fun a w' => ∃ x3 : List Grecord_swum, ∃ x4 : List Int, ∃ bs2 : List Nat, ∃ v3 : Value, ∃ v4 : Value, j2 x3 x4 = some r ∧ bs2.length = x3.length ∧ Sx w [] nov ([.map b1 (ments Value.string PV (idm (x3.map fun x => x.s_.Id) bs2)) (idm (x3.map fun x => x.s_.Id) bs2).length, .own v3 3 1 x4.length (x4.flatMap eInt), .own v4 68 1 bs2.length (bs2.flatMap RP.enc)] ++ arena 70 Grecord_swum.enc bs2 x3) [(1, iV p_at), (6, v4), (7, v3), (8, .map (some b1)), (13, v_p_l), (14, iV (p_l.length : Int)), (15, iV (i1 : Int))] 97 a w') ?_ ?_
    ·refine wp_block (f_seq (f_region (lv S (rn_fld fa_35_1 (S.tm rfl)) rfl ?_))); clear S; intro a S
     refine lv S (rn_load Tryz.isAgg3 (S.tm rfl) (S.cell (i := 0) rfl rfl)) rfl ?_; clear S; intro a S
     refine lv S (rn_eql (S.tm rfl) rfl) rfl ?_; clear S; intro a S
     refine lv S (rn_move (S.tm rfl)) rfl ?_; clear S; intro a S
     refine f_cutm 3 (fun a w' => Keep [] w5 w' ∧ Sx w [] nov ([.blk b3 (GStep.enc y1) 35, .map b1 (ments Value.string PV (idm (x1.map fun x => x.s_.Id) bs1)) (idm (x1.map fun x => x.s_.Id) bs1).length, .own v1 3 1 x2.length (x2.flatMap eInt), .own v2 68 1 bs1.length (bs1.flatMap RP.enc)] ++ arena 70 Grecord_swum.enc bs1 x1) [(1, iV p_at), (6, v2), (7, v1), (8, .map (some b1)), (9, iV (i1 : Int)), (10, .pointer (some ⟨b3, 0, none⟩)), (11, PV o2), (13, v_p_l), (14, iV (p_l.length : Int)), (15, iV (i1 : Int)), (39, bV ((decide (y1.Kind = 1)) && o2.isNone))] 97 a w') ?_ ?_
     ·rcases Bool.eq_false_or_eq_true (decide (y1.Kind = 1)) with hb2 | hb2
      ·refine l_want S rfl rfl rfl hb2 (lv S (rn_move (S.tm rfl)) rfl ?_); clear S; intro a S
       refine l_want S rfl rfl rfl hb2 (lv S (rn_peql Tryz.underlying68 (S.tm rfl) rfl) rfl ?_); clear S; intro a S
       refine lv S (rn_and_t hb2 (S.tm rfl) (S.tm rfl)) rfl ?_; clear S; intro a S
       refine l_done (then_n ?_)
       exact ⟨Keep.refl _ _, S.nf [true, true, true, true] rfl (subR rfl)⟩
      ·refine l_skip S rfl rfl rfl (neq_f hb2) rfl ?_ rfl; clear S; intro a S
       refine l_skip S rfl rfl rfl (neq_f hb2) rfl ?_ rfl; clear S; intro a S
       refine lv S (rn_and_f o2.isNone hb2 (S.tm rfl) rfl) rfl ?_; clear S; intro a S
       refine l_done (then_n ?_)
       exact ⟨Keep.refl _ _, S.nf [true, true, true, true] rfl (subR rfl)⟩
     clear S; rintro a w7 ⟨hk4, S⟩
     refine lv S (rn_assign (S.tm rfl)) rfl ?_; clear S; intro a S
     refine l_done ?_
     replace S := S.nk ([.blk b3 (GStep.enc y1) 35, .map b1 (ments Value.string PV (idm (x1.map fun x => x.s_.Id) bs1)) (idm (x1.map fun x => x.s_.Id) bs1).length, .own v1 3 1 x2.length (x2.flatMap eInt), .own v2 68 1 bs1.length (bs1.flatMap RP.enc)] ++ arena 70 Grecord_swum.enc bs1 x1) [(1, iV p_at), (6, v2), (7, v1), (8, .map (some b1)), (9, iV (i1 : Int)), (10, .pointer (some ⟨b3, 0, none⟩)), (11, PV o2), (13, v_p_l), (14, iV (p_l.length : Int)), (15, iV (i1 : Int)), (32, bV ((decide (y1.Kind = 1)) && o2.isNone))] [true, true, true, true] rfl (subR rfl)
     refine then_n ?_
     obtain ⟨j3, hj3, h⟩ := joinE h
     refine f_join (fun a w' => ∃ x5 : List Grecord_swum, ∃ x6 : List Int, ∃ bs3 : List Nat, ∃ v5 : Value, ∃ v6 : Value, j3 x5 x6 = some r ∧ bs3.length = x5.length ∧ Sx w [] nov ([.map b1 (ments Value.string PV (idm (x5.map fun x => x.s_.Id) bs3)) (idm (x5.map fun x => x.s_.Id) bs3).length, .own v5 3 1 x6.length (x6.flatMap eInt), .own v6 68 1 bs3.length (bs3.flatMap RP.enc)] ++ arena 70 Grecord_swum.enc bs3 x5) [(1, iV p_at), (6, v6), (7, v5), (8, .map (some b1)), (13, v_p_l), (14, iV (p_l.length : Int)), (15, iV (i1 : Int))] 97 a w') ?_ ?_
     ·refine f_cond (S.tm rfl) (fun hb3 => ?_) (fun hb3 => ?_)
      ·replace h := iteT h hb3
       refine f_seq (f_region (lv S (rn_ldA Tryz.isAgg35 Tryz.sizeOf35 (off := 0) (o := 0) (part := (GStep.enc y1)) rfl rfl (S.tm rfl) (S.cellsAt (i := 0) rfl)) rfl ?_)); clear S; intro a S
       refine lv S (rn_bld bt_70 (pv := [(0, .agg (GStep.enc y1).toArray)]) ⟨rfl, (S.tm rfl), trivial⟩ (cs := [iV y1.At, iV y1.Kind, sV y1.Id, sV y1.Who, sV y1.Club, sV y1.Race, iV y1.Age, iV y1.Time, bV false, bV false]) (by kernel_rfl)) rfl ?_; clear S; intro a S
       refine l_box S (S.tm rfl) (cs := [iV y1.At, iV y1.Kind, sV y1.Id, sV y1.Who, sV y1.Club, sV y1.Race, iV y1.Age, iV y1.Time, bV false, bV false]) rfl rfl ?_; clear S; intro a w9 b4 hz3 hk5 S
       refine lv S (rn_assign (S.tm rfl)) rfl ?_; clear S; intro a S
       refine l_done ?_
       replace S := S.nk ([.blk b4 (Grecord_swum.enc (Grecord_swum.mk y1 false false)) 70, .blk b3 (GStep.enc y1) 35, .map b1 (ments Value.string PV (idm (x1.map fun x => x.s_.Id) bs1)) (idm (x1.map fun x => x.s_.Id) bs1).length, .own v1 3 1 x2.length (x2.flatMap eInt), .own v2 68 1 bs1.length (bs1.flatMap RP.enc)] ++ arena 70 Grecord_swum.enc bs1 x1) [(1, iV p_at), (6, v2), (7, v1), (8, .map (some b1)), (10, .pointer (some ⟨b3, 0, none⟩)), (11, .pointer (some ⟨b4, 0, none⟩)), (13, v_p_l), (14, iV (p_l.length : Int)), (15, iV (i1 : Int))] [true, true, true, true, true] rfl (subR rfl)
       refine then_n ?_
       obtain ⟨hc1, h⟩ := chkE h
       refine d_region [] (v2.ownBlock.toList ++ [b1]) Tryz.mixed S rfl (by kernel_rfl) ?_; clear S; intro w13 hk9 hsel S
       refine d_quiet 0 S hsel rfl rfl rfl (by kernel_rfl) (by kernel_rfl) rfl (fun _ hw => (rn_move (S.tm rfl))) ?_; clear S; intro a S
       refine d_quiet 1 S hsel rfl rfl rfl (by kernel_rfl) (by kernel_rfl) rfl (fun _ hw => (rn_fld fa_35_2 (S.tm rfl))) ?_; clear S; intro a S
       refine d_quiet 2 S hsel rfl rfl rfl (by kernel_rfl) (by kernel_rfl) rfl (fun _ hw => (rn_ld Tryz.isAgg9 (off := 0) (o := 2) (S.tm rfl) ((S.blk_mem (i := 1) (cells := (GStep.enc y1)) (b := b3) (T := 35) rfl (ne_app (ne_fp (i := 4) (j := 1) (e := .own v2 68 1 bs1.length (bs1.flatMap RP.enc)) (e' := .blk b3 (GStep.enc y1) 35) S rfl rfl rfl) (ne_fp (i := 2) (j := 1) (e := (_)) (e' := .blk b3 (GStep.enc y1) 35) S rfl rfl rfl))).kept hw) rfl)) ?_; clear S; intro a S
       refine d_quiet 3 S hsel rfl rfl rfl (by kernel_rfl) (by kernel_rfl) rfl (fun _ hw => (rn_move (S.tm rfl))) ?_; clear S; intro a S
       refine d_quiet 4 S hsel rfl rfl rfl (by kernel_rfl) (by kernel_rfl) rfl (fun _ hw => (rn_move (S.tm rfl))) ?_; clear S; intro a S
       refine d_quiet 5 S hsel rfl rfl rfl (by kernel_rfl) (by kernel_rfl) rfl (fun _ hw => (rn_move (S.tm rfl))) ?_; clear S; intro a S
       refine d_loud1 6 (by kernel_rfl) rfl (l_buildSlice S Tryz.underlying64 Tryz.sizeOf68 Tryz.zeroValue68 rfl rfl (pv := [(0, .pointer (some ⟨b4, 0, none⟩))]) ⟨rfl, (S.tm rfl), trivial⟩ (cs := [.pointer (some ⟨b4, 0, none⟩)]) (by kernel_rfl) rfl ?_); clear S; intro a w14 b6 hz5 hk10 S
       refine l_done (d_next (Keep.none hk10) (d_loud1 7 (by kernel_rfl) rfl ?_))
       refine l_appendT sl_64 RP.enc_ok S (S.tm rfl) (i := 5) rfl (S.tm rfl) (j := 0) rfl (ys := [b4]) rfl rfl rfl rfl (by have := room_lt hc1; omega) rfl ?_; clear S; intro v8 a w15 hk11 S
       refine l_done ?_
       refine d_next (hk11.sub (by intro y hy; simp at hy ⊢; simp [hy])) ?_
       refine d_loud1 8 (by kernel_rfl) rfl (l_mapUpdate (kv := Value.string) (vv := PV) (m := idm (x1.map fun x => x.s_.Id) bs1) (key := y1.Id) (val := some b4) S (i := 3) rfl Tryz.underlying96 (keyT_str Tryz.underlying9) (S.tm rfl) (S.tm rfl) (S.tm rfl) ?_); clear S; intro w16 hk12 S
       refine l_done ?_
       refine d_next (hk12.sub (by intro y hy; simp at hy ⊢; simp [hy])) ?_
       refine d_rest [9] hsel (by kernel_rfl) rfl ?_
       clear hsel
       refine s_lv S rfl (rn_assign (S.tm rfl)) rfl ?_; clear S; intro a S
       refine s_done ?_
       replace S := S.nk ([.blk b4 (Grecord_swum.enc (Grecord_swum.mk y1 false false)) 70, .map b1 (ments Value.string PV (mput (idm (x1.map fun x => x.s_.Id) bs1) y1.Id (some b4))) (mput (idm (x1.map fun x => x.s_.Id) bs1) y1.Id (some b4)).length, .own v1 3 1 x2.length (x2.flatMap eInt), .own v8 68 1 (bs1 ++ [b4]).length ((bs1 ++ [b4]).flatMap RP.enc)] ++ arena 70 Grecord_swum.enc bs1 x1) [(1, iV p_at), (6, v8), (7, v1), (8, .map (some b1)), (13, v_p_l), (14, iV (p_l.length : Int)), (15, iV (i1 : Int))] [false, true, false, true, true, true] rfl (subR rfl)
       replace S := S.join_arena (enc := Grecord_swum.enc) (x := (Grecord_swum.mk y1 false false)) hl1
       rw [idm_add (key := fun x : Grecord_swum => x.s_.Id) ((Grecord_swum.mk y1 false false)) hl1 (find_none hl1 ho (by simp only [Bool.and_eq_true] at hb3; simp [hb3])) rfl] at S
       replace S := S.nk ([.map b1 (ments Value.string PV (idm ((x1 ++ [(Grecord_swum.mk y1 false false)]).map fun x => x.s_.Id) (bs1 ++ [b4]))) (idm ((x1 ++ [(Grecord_swum.mk y1 false false)]).map fun x => x.s_.Id) (bs1 ++ [b4])).length, .own v1 3 1 x2.length (x2.flatMap eInt), .own v8 68 1 (bs1 ++ [b4]).length ((bs1 ++ [b4]).flatMap RP.enc)] ++ arena 70 Grecord_swum.enc (bs1 ++ [b4]) (x1 ++ [(Grecord_swum.mk y1 false false)])) [(1, iV p_at), (6, v8), (7, v1), (8, .map (some b1)), (13, v_p_l), (14, iV (p_l.length : Int)), (15, iV (i1 : Int))] [true, true, true] rfl (subR rfl)
       refine then_n ?_
       exact ⟨(x1 ++ [(Grecord_swum.mk y1 false false)]), x2, (bs1 ++ [b4]), v1, v8, h, (by rw [List.length_append, List.length_append, hl1]; rfl), S.nf [true, true, true] rfl (subR rfl)⟩
      ·replace h := iteF h hb3
       refine f_seq (f_region (lv S (rn_fld fa_35_1 (S.tm rfl)) rfl ?_)); clear S; intro a S
       refine lv S (rn_load Tryz.isAgg3 (S.tm rfl) (S.cell (i := 0) rfl rfl)) rfl ?_; clear S; intro a S
       refine lv S (rn_eql (S.tm rfl) rfl) rfl ?_; clear S; intro a S
       refine lv S (rn_move (S.tm rfl)) rfl ?_; clear S; intro a S
       refine f_cutm 3 (fun a w' => Keep [] w7 w' ∧ Sx w [] nov ([.blk b3 (GStep.enc y1) 35, .map b1 (ments Value.string PV (idm (x1.map fun x => x.s_.Id) bs1)) (idm (x1.map fun x => x.s_.Id) bs1).length, .own v1 3 1 x2.length (x2.flatMap eInt), .own v2 68 1 bs1.length (bs1.flatMap RP.enc)] ++ arena 70 Grecord_swum.enc bs1 x1) [(1, iV p_at), (6, v2), (7, v1), (8, .map (some b1)), (9, iV (i1 : Int)), (10, .pointer (some ⟨b3, 0, none⟩)), (11, PV o2), (13, v_p_l), (14, iV (p_l.length : Int)), (15, iV (i1 : Int)), (58, bV ((decide (y1.Kind = 2)) && o2.isSome))] 97 a w') ?_ ?_
       ·rcases Bool.eq_false_or_eq_true (decide (y1.Kind = 2)) with hb4 | hb4
        ·refine l_want S rfl rfl rfl hb4 (lv S (rn_move (S.tm rfl)) rfl ?_); clear S; intro a S
         refine l_want S rfl rfl rfl hb4 (lv S (rn_pneq Tryz.underlying68 (S.tm rfl) rfl) rfl ?_); clear S; intro a S
         refine lv S (rn_and_t hb4 (S.tm rfl) (S.tm rfl)) rfl ?_; clear S; intro a S
         refine l_done (then_n ?_)
         exact ⟨Keep.refl _ _, S.nf [true, true, true, true] rfl (subR rfl)⟩
        ·refine l_skip S rfl rfl rfl (neq_f hb4) rfl ?_ rfl; clear S; intro a S
         refine l_skip S rfl rfl rfl (neq_f hb4) rfl ?_ rfl; clear S; intro a S
         refine lv S (rn_and_f o2.isSome hb4 (S.tm rfl) rfl) rfl ?_; clear S; intro a S
         refine l_done (then_n ?_)
         exact ⟨Keep.refl _ _, S.nf [true, true, true, true] rfl (subR rfl)⟩
       clear S; rintro a w17 ⟨hk13, S⟩
       refine lv S (rn_move (S.tm rfl)) rfl ?_; clear S; intro a S
       refine f_cutm 6 (fun a w' => Keep [] w17 w' ∧ Sx w [] nov ([.blk b3 (GStep.enc y1) 35, .map b1 (ments Value.string PV (idm (x1.map fun x => x.s_.Id) bs1)) (idm (x1.map fun x => x.s_.Id) bs1).length, .own v1 3 1 x2.length (x2.flatMap eInt), .own v2 68 1 bs1.length (bs1.flatMap RP.enc)] ++ arena 70 Grecord_swum.enc bs1 x1) [(1, iV p_at), (6, v2), (7, v1), (8, .map (some b1)), (9, iV (i1 : Int)), (10, .pointer (some ⟨b3, 0, none⟩)), (11, PV o2), (13, v_p_l), (14, iV (p_l.length : Int)), (15, iV (i1 : Int)), (65, bV (((decide (y1.Kind = 2)) && o2.isSome) && (!((swAt x1 y1.Id).sure_))))] 97 a w') ?_ ?_
       ·rcases Bool.eq_false_or_eq_true ((decide (y1.Kind = 2)) && o2.isSome) with hb5 | hb5
        ·refine l_want S rfl rfl rfl hb5 (lv S (rn_move (S.tm rfl)) rfl ?_); clear S; intro a S
         refine l_want S rfl rfl rfl hb5 ?_
         obtain ⟨bo, ho', hbj, hxj⟩ := find_at hl1 ho (by simp only [Bool.and_eq_true] at hb5; simp [hb5])
         have hpv : PV o2 = .pointer (some ⟨bo, 0, none⟩) := by rw [ho']; rfl
         refine lv S (rn_nilCheck ((S.tm rfl).trans hpv)) rfl ?_; clear S; intro a S
         refine l_want S rfl rfl rfl hb5 (lv S (rn_fld fa_70_1 (S.tm rfl)) rfl ?_); clear S; intro a S
         refine l_want S rfl rfl rfl hb5 (lv S (rn_load Tryz.isAgg4 (S.tm rfl) (S.cell (arena_ix hbj hxj) rfl)) rfl ?_); clear S; intro a S
         refine l_want S rfl rfl rfl hb5 (lv S (rn_not (S.tm rfl)) rfl ?_); clear S; intro a S
         refine lv S (rn_and_t hb5 (S.tm rfl) (S.tm rfl)) rfl ?_; clear S; intro a S
         refine l_done (then_n ?_)
         exact ⟨Keep.refl _ _, S.nf [true, true, true, true] rfl (subR rfl)⟩
        ·iterate 5 (refine l_skip S rfl rfl rfl (neq_f hb5) rfl ?_ rfl; clear S; intro a S)
         refine lv S (rn_and_f (!((swAt x1 y1.Id).sure_)) hb5 (S.tm rfl) rfl) rfl ?_; clear S; intro a S
         refine l_done (then_n ?_)
         exact ⟨Keep.refl _ _, S.nf [true, true, true, true] rfl (subR rfl)⟩
       clear S; rintro a w18 ⟨hk14, S⟩
       refine lv S (rn_move (S.tm rfl)) rfl ?_; clear S; intro a S
       refine f_cutm 6 (fun a w' => Keep [] w18 w' ∧ Sx w [] nov ([.blk b3 (GStep.enc y1) 35, .map b1 (ments Value.string PV (idm (x1.map fun x => x.s_.Id) bs1)) (idm (x1.map fun x => x.s_.Id) bs1).length, .own v1 3 1 x2.length (x2.flatMap eInt), .own v2 68 1 bs1.length (bs1.flatMap RP.enc)] ++ arena 70 Grecord_swum.enc bs1 x1) [(1, iV p_at), (6, v2), (7, v1), (8, .map (some b1)), (9, iV (i1 : Int)), (10, .pointer (some ⟨b3, 0, none⟩)), (11, PV o2), (13, v_p_l), (14, iV (p_l.length : Int)), (15, iV (i1 : Int)), (72, bV ((((decide (y1.Kind = 2)) && o2.isSome) && (!((swAt x1 y1.Id).sure_))) && (!((swAt x1 y1.Id).void_))))] 97 a w') ?_ ?_
       ·rcases Bool.eq_false_or_eq_true (((decide (y1.Kind = 2)) && o2.isSome) && (!((swAt x1 y1.Id).sure_))) with hb6 | hb6
        ·refine l_want S rfl rfl rfl hb6 (lv S (rn_move (S.tm rfl)) rfl ?_); clear S; intro a S
         refine l_want S rfl rfl rfl hb6 ?_
         obtain ⟨bo, ho', hbj, hxj⟩ := find_at hl1 ho (by simp only [Bool.and_eq_true] at hb6; simp [hb6])
         have hpv : PV o2 = .pointer (some ⟨bo, 0, none⟩) := by rw [ho']; rfl
         refine lv S (rn_nilCheck ((S.tm rfl).trans hpv)) rfl ?_; clear S; intro a S
         refine l_want S rfl rfl rfl hb6 (lv S (rn_fld fa_70_2 (S.tm rfl)) rfl ?_); clear S; intro a S
         refine l_want S rfl rfl rfl hb6 (lv S (rn_load Tryz.isAgg4 (S.tm rfl) (S.cell (arena_ix hbj hxj) rfl)) rfl ?_); clear S; intro a S
         refine l_want S rfl rfl rfl hb6 (lv S (rn_not (S.tm rfl)) rfl ?_); clear S; intro a S
         refine lv S (rn_and_t hb6 (S.tm rfl) (S.tm rfl)) rfl ?_; clear S; intro a S
         refine l_done (then_n ?_)
         exact ⟨Keep.refl _ _, S.nf [true, true, true, true] rfl (subR rfl)⟩
        ·iterate 5 (refine l_skip S rfl rfl rfl (neq_f hb6) rfl ?_ rfl; clear S; intro a S)
         refine lv S (rn_and_f (!((swAt x1 y1.Id).void_)) hb6 (S.tm rfl) rfl) rfl ?_; clear S; intro a S
         refine l_done (then_n ?_)
         exact ⟨Keep.refl _ _, S.nf [true, true, true, true] rfl (subR rfl)⟩
       clear S; rintro a w19 ⟨hk15, S⟩
       refine lv S (rn_assign (S.tm rfl)) rfl ?_; clear S; intro a S
       refine l_done ?_
       replace S := S.nk ([.blk b3 (GStep.enc y1) 35, .map b1 (ments Value.string PV (idm (x1.map fun x => x.s_.Id) bs1)) (idm (x1.map fun x => x.s_.Id) bs1).length, .own v1 3 1 x2.length (x2.flatMap eInt), .own v2 68 1 bs1.length (bs1.flatMap RP.enc)] ++ arena 70 Grecord_swum.enc bs1 x1) [(1, iV p_at), (6, v2), (7, v1), (8, .map (some b1)), (9, iV (i1 : Int)), (10, .pointer (some ⟨b3, 0, none⟩)), (11, PV o2), (13, v_p_l), (14, iV (p_l.length : Int)), (15, iV (i1 : Int)), (51, bV ((((decide (y1.Kind = 2)) && o2.isSome) && (!((swAt x1 y1.Id).sure_))) && (!((swAt x1 y1.Id).void_))))] [true, true, true, true] rfl (subR rfl)
       refine then_n ?_
       obtain ⟨j4, hj4, h⟩ := joinE h
       refine f_join (fun a w' => ∃ x7 : List Grecord_swum, ∃ x8 : List Int, ∃ v9 : Value, j4 x7 x8 = some r ∧ bs1.length = x7.length ∧ Sx w [] nov ([.map b1 (ments Value.string PV (idm (x7.map fun x => x.s_.Id) bs1)) (idm (x7.map fun x => x.s_.Id) bs1).length, .own v9 3 1 x8.length (x8.flatMap eInt), .own v2 68 1 bs1.length (bs1.flatMap RP.enc)] ++ arena 70 Grecord_swum.enc bs1 x7) [(1, iV p_at), (6, v2), (7, v9), (8, .map (some b1)), (13, v_p_l), (14, iV (p_l.length : Int)), (15, iV (i1 : Int))] 97 a w') ?_ ?_
       ·refine f_cond (S.tm rfl) (fun hb7 => ?_) (fun hb7 => ?_)
        ·replace h := iteT h hb7
         refine f_region (lv S (rn_move (S.tm rfl)) rfl ?_); clear S; intro a S
         obtain ⟨bo, ho', hbj, hxj⟩ := find_at hl1 ho (by simp only [Bool.and_eq_true] at hb7; simp [hb7])
         have hpv : PV o2 = .pointer (some ⟨bo, 0, none⟩) := by rw [ho']; rfl
         refine lv S (rn_nilCheck ((S.tm rfl).trans hpv)) rfl ?_; clear S; intro a S
         refine lv S (rn_fld fa_70_1 (S.tm rfl)) rfl ?_; clear S; intro a S
         refine l_store S (S.tm rfl) rfl (off := 8) (arena_ix hbj hxj) Tryz.sizeOf4 (vs := [.bool true]) rfl rfl rfl rfl ?_; clear S; intro w21 hk16 S
         replace S := S.arena_store (y := (Grecord_swum.mk (swAt x1 y1.Id).s_ true (swAt x1 y1.Id).void_)) hbj rfl
         rw [keys_set (key := fun x : Grecord_swum => x.s_.Id) (y := (Grecord_swum.mk (swAt x1 y1.Id).s_ true (swAt x1 y1.Id).void_)) hxj rfl] at S
         refine l_done ?_
         replace S := S.nk ([.map b1 (ments Value.string PV (idm ((x1.set (swPos x1 y1.Id) (Grecord_swum.mk (swAt x1 y1.Id).s_ true (swAt x1 y1.Id).void_)).map fun x => x.s_.Id) bs1)) (idm ((x1.set (swPos x1 y1.Id) (Grecord_swum.mk (swAt x1 y1.Id).s_ true (swAt x1 y1.Id).void_)).map fun x => x.s_.Id) bs1).length, .own v1 3 1 x2.length (x2.flatMap eInt), .own v2 68 1 bs1.length (bs1.flatMap RP.enc)] ++ arena 70 Grecord_swum.enc bs1 (x1.set (swPos x1 y1.Id) (Grecord_swum.mk (swAt x1 y1.Id).s_ true (swAt x1 y1.Id).void_))) [(1, iV p_at), (6, v2), (7, v1), (8, .map (some b1)), (13, v_p_l), (14, iV (p_l.length : Int)), (15, iV (i1 : Int))] [false, true, true, true] rfl (subR rfl)
         refine then_n ?_
         exact ⟨(x1.set (swPos x1 y1.Id) (Grecord_swum.mk (swAt x1 y1.Id).s_ true (swAt x1 y1.Id).void_)), x2, v1, h, (by rw [List.length_set]; exact hl1), S.nf [true, true, true] rfl (subR rfl)⟩
        ·replace h := iteF h hb7
         refine f_seq (f_region (lv S (rn_fld fa_35_1 (S.tm rfl)) rfl ?_)); clear S; intro a S
         refine lv S (rn_load Tryz.isAgg3 (S.tm rfl) (S.cell (i := 0) rfl rfl)) rfl ?_; clear S; intro a S
         refine lv S (rn_eql (S.tm rfl) rfl) rfl ?_; clear S; intro a S
         refine lv S (rn_move (S.tm rfl)) rfl ?_; clear S; intro a S
         refine f_cutm 3 (fun a w' => Keep [] w19 w' ∧ Sx w [] nov ([.blk b3 (GStep.enc y1) 35, .map b1 (ments Value.string PV (idm (x1.map fun x => x.s_.Id) bs1)) (idm (x1.map fun x => x.s_.Id) bs1).length, .own v1 3 1 x2.length (x2.flatMap eInt), .own v2 68 1 bs1.length (bs1.flatMap RP.enc)] ++ arena 70 Grecord_swum.enc bs1 x1) [(1, iV p_at), (6, v2), (7, v1), (8, .map (some b1)), (9, iV (i1 : Int)), (11, PV o2), (13, v_p_l), (14, iV (p_l.length : Int)), (15, iV (i1 : Int)), (83, bV ((decide (y1.Kind = 3)) && o2.isSome))] 97 a w') ?_ ?_
         ·rcases Bool.eq_false_or_eq_true (decide (y1.Kind = 3)) with hb8 | hb8
          ·refine l_want S rfl rfl rfl hb8 (lv S (rn_move (S.tm rfl)) rfl ?_); clear S; intro a S
           refine l_want S rfl rfl rfl hb8 (lv S (rn_pneq Tryz.underlying68 (S.tm rfl) rfl) rfl ?_); clear S; intro a S
           refine lv S (rn_and_t hb8 (S.tm rfl) (S.tm rfl)) rfl ?_; clear S; intro a S
           refine l_done (then_n ?_)
           exact ⟨Keep.refl _ _, S.nf [true, true, true, true] rfl (subR rfl)⟩
          ·refine l_skip S rfl rfl rfl (neq_f hb8) rfl ?_ rfl; clear S; intro a S
           refine l_skip S rfl rfl rfl (neq_f hb8) rfl ?_ rfl; clear S; intro a S
           refine lv S (rn_and_f o2.isSome hb8 (S.tm rfl) rfl) rfl ?_; clear S; intro a S
           refine l_done (then_n ?_)
           exact ⟨Keep.refl _ _, S.nf [true, true, true, true] rfl (subR rfl)⟩
         clear S; rintro a w22 ⟨hk17, S⟩
         refine lv S (rn_move (S.tm rfl)) rfl ?_; clear S; intro a S
         refine f_cutm 6 (fun a w' => Keep [] w22 w' ∧ Sx w [] nov ([.blk b3 (GStep.enc y1) 35, .map b1 (ments Value.string PV (idm (x1.map fun x => x.s_.Id) bs1)) (idm (x1.map fun x => x.s_.Id) bs1).length, .own v1 3 1 x2.length (x2.flatMap eInt), .own v2 68 1 bs1.length (bs1.flatMap RP.enc)] ++ arena 70 Grecord_swum.enc bs1 x1) [(1, iV p_at), (6, v2), (7, v1), (8, .map (some b1)), (9, iV (i1 : Int)), (11, PV o2), (13, v_p_l), (14, iV (p_l.length : Int)), (15, iV (i1 : Int)), (90, bV (((decide (y1.Kind = 3)) && o2.isSome) && (!((swAt x1 y1.Id).void_))))] 97 a w') ?_ ?_
         ·rcases Bool.eq_false_or_eq_true ((decide (y1.Kind = 3)) && o2.isSome) with hb9 | hb9
          ·refine l_want S rfl rfl rfl hb9 (lv S (rn_move (S.tm rfl)) rfl ?_); clear S; intro a S
           refine l_want S rfl rfl rfl hb9 ?_
           obtain ⟨bo, ho', hbj, hxj⟩ := find_at hl1 ho (by simp only [Bool.and_eq_true] at hb9; simp [hb9])
           have hpv : PV o2 = .pointer (some ⟨bo, 0, none⟩) := by rw [ho']; rfl
           refine lv S (rn_nilCheck ((S.tm rfl).trans hpv)) rfl ?_; clear S; intro a S
           refine l_want S rfl rfl rfl hb9 (lv S (rn_fld fa_70_2 (S.tm rfl)) rfl ?_); clear S; intro a S
           refine l_want S rfl rfl rfl hb9 (lv S (rn_load Tryz.isAgg4 (S.tm rfl) (S.cell (arena_ix hbj hxj) rfl)) rfl ?_); clear S; intro a S
           refine l_want S rfl rfl rfl hb9 (lv S (rn_not (S.tm rfl)) rfl ?_); clear S; intro a S
           refine lv S (rn_and_t hb9 (S.tm rfl) (S.tm rfl)) rfl ?_; clear S; intro a S
           refine l_done (then_n ?_)
           exact ⟨Keep.refl _ _, S.nf [true, true, true, true] rfl (subR rfl)⟩
          ·iterate 5 (refine l_skip S rfl rfl rfl (neq_f hb9) rfl ?_ rfl; clear S; intro a S)
           refine lv S (rn_and_f (!((swAt x1 y1.Id).void_)) hb9 (S.tm rfl) rfl) rfl ?_; clear S; intro a S
           refine l_done (then_n ?_)
           exact ⟨Keep.refl _ _, S.nf [true, true, true, true] rfl (subR rfl)⟩
         clear S; rintro a w23 ⟨hk18, S⟩
         refine lv S (rn_assign (S.tm rfl)) rfl ?_; clear S; intro a S
         refine l_done ?_
         replace S := S.nk ([.map b1 (ments Value.string PV (idm (x1.map fun x => x.s_.Id) bs1)) (idm (x1.map fun x => x.s_.Id) bs1).length, .own v1 3 1 x2.length (x2.flatMap eInt), .own v2 68 1 bs1.length (bs1.flatMap RP.enc)] ++ arena 70 Grecord_swum.enc bs1 x1) [(1, iV p_at), (6, v2), (7, v1), (8, .map (some b1)), (9, iV (i1 : Int)), (11, PV o2), (13, v_p_l), (14, iV (p_l.length : Int)), (15, iV (i1 : Int)), (76, bV (((decide (y1.Kind = 3)) && o2.isSome) && (!((swAt x1 y1.Id).void_))))] [false, true, true, true] rfl (subR rfl)
         refine then_n ?_
         obtain ⟨j5, hj5, h⟩ := joinE h
         refine f_join (fun a w' => ∃ x9 : List Grecord_swum, ∃ x10 : List Int, ∃ v10 : Value, j5 x9 x10 = some r ∧ bs1.length = x9.length ∧ Sx w [] nov ([.map b1 (ments Value.string PV (idm (x9.map fun x => x.s_.Id) bs1)) (idm (x9.map fun x => x.s_.Id) bs1).length, .own v10 3 1 x10.length (x10.flatMap eInt), .own v2 68 1 bs1.length (bs1.flatMap RP.enc)] ++ arena 70 Grecord_swum.enc bs1 x9) [(1, iV p_at), (6, v2), (7, v10), (8, .map (some b1)), (13, v_p_l), (14, iV (p_l.length : Int)), (15, iV (i1 : Int))] 97 a w') ?_ ?_
         ·refine f_cond (S.tm rfl) (fun hb10 => ?_) (fun hb10 => ?_)
          ·replace h := iteT h hb10
           refine f_region (lv S (rn_move (S.tm rfl)) rfl ?_); clear S; intro a S
           obtain ⟨bo, ho', hbj, hxj⟩ := find_at hl1 ho (by simp only [Bool.and_eq_true] at hb10; simp [hb10])
           have hpv : PV o2 = .pointer (some ⟨bo, 0, none⟩) := by rw [ho']; rfl
           refine lv S (rn_nilCheck ((S.tm rfl).trans hpv)) rfl ?_; clear S; intro a S
           refine lv S (rn_fld fa_70_2 (S.tm rfl)) rfl ?_; clear S; intro a S
           refine l_store S (S.tm rfl) rfl (off := 9) (arena_ix hbj hxj) Tryz.sizeOf4 (vs := [.bool true]) rfl rfl rfl rfl ?_; clear S; intro w25 hk19 S
           replace S := S.arena_store (y := (Grecord_swum.mk (swAt x1 y1.Id).s_ (swAt x1 y1.Id).sure_ true)) hbj rfl
           rw [keys_set (key := fun x : Grecord_swum => x.s_.Id) (y := (Grecord_swum.mk (swAt x1 y1.Id).s_ (swAt x1 y1.Id).sure_ true)) hxj rfl] at S
           refine l_done ?_
           replace S := S.nk ([.map b1 (ments Value.string PV (idm ((x1.set (swPos x1 y1.Id) (Grecord_swum.mk (swAt x1 y1.Id).s_ (swAt x1 y1.Id).sure_ true)).map fun x => x.s_.Id) bs1)) (idm ((x1.set (swPos x1 y1.Id) (Grecord_swum.mk (swAt x1 y1.Id).s_ (swAt x1 y1.Id).sure_ true)).map fun x => x.s_.Id) bs1).length, .own v1 3 1 x2.length (x2.flatMap eInt), .own v2 68 1 bs1.length (bs1.flatMap RP.enc)] ++ arena 70 Grecord_swum.enc bs1 (x1.set (swPos x1 y1.Id) (Grecord_swum.mk (swAt x1 y1.Id).s_ (swAt x1 y1.Id).sure_ true))) [(1, iV p_at), (6, v2), (7, v1), (8, .map (some b1)), (13, v_p_l), (14, iV (p_l.length : Int)), (15, iV (i1 : Int))] [true, true, true] rfl (subR rfl)
           refine then_n ?_
           exact ⟨(x1.set (swPos x1 y1.Id) (Grecord_swum.mk (swAt x1 y1.Id).s_ (swAt x1 y1.Id).sure_ true)), x2, v1, h, (by rw [List.length_set]; exact hl1), S.nf [true, true, true] rfl (subR rfl)⟩
          ·replace h := iteF h hb10
           refine f_region (lv S (rn_move (S.tm rfl)) rfl ?_); clear S; intro a S
           refine lv S (rn_move (S.tm rfl)) rfl ?_; clear S; intro a S
           refine l_buildSlice S Tryz.underlying22 Tryz.sizeOf3 Tryz.zeroValue3 rfl rfl (pv := [(0, iV (i1 : Int))]) ⟨rfl, (S.tm rfl), trivial⟩ (cs := [iV (i1 : Int)]) (by kernel_rfl) rfl ?_; clear S; intro a w26 b7 hz6 hk20 S
           obtain ⟨hc2, h⟩ := chkE h
           refine l_appendT sl_22 enc_int S (S.tm rfl) (i := 2) rfl (S.tm rfl) (j := 0) rfl (ys := [(i1 : Int)]) rfl rfl rfl rfl (by have := room_lt hc2; omega) rfl ?_; clear S; intro v11 a w27 hk21 S
           refine lv S (rn_assign (S.tm rfl)) rfl ?_; clear S; intro a S
           refine l_done ?_
           replace S := S.nk ([.map b1 (ments Value.string PV (idm (x1.map fun x => x.s_.Id) bs1)) (idm (x1.map fun x => x.s_.Id) bs1).length, .own v11 3 1 (x2 ++ [(i1 : Int)]).length ((x2 ++ [(i1 : Int)]).flatMap eInt), .own v2 68 1 bs1.length (bs1.flatMap RP.enc)] ++ arena 70 Grecord_swum.enc bs1 x1) [(1, iV p_at), (6, v2), (7, v11), (8, .map (some b1)), (13, v_p_l), (14, iV (p_l.length : Int)), (15, iV (i1 : Int))] [false, true, true, true] rfl (subR rfl)
           refine then_n ?_
           exact ⟨x1, (x2 ++ [(i1 : Int)]), v11, h, hl1, S.nf [true, true, true] rfl (subR rfl)⟩
         clear S h; rintro a w24 ⟨x9, x10, v10, h, hl5, S⟩; rw [hj5] at h; clear hj5 j5
         refine then_n ?_
         exact ⟨x9, x10, v10, h, hl5, S.nf [true, true, true] rfl (subR rfl)⟩
       clear S h; rintro a w20 ⟨x7, x8, v9, h, hl4, S⟩; rw [hj4] at h; clear hj4 j4
       refine then_n ?_
       exact ⟨x7, x8, bs1, v9, v2, h, hl4, S.nf [true, true, true] rfl (subR rfl)⟩
     clear S h; rintro a w8 ⟨x5, x6, bs3, v5, v6, h, hl3, S⟩; rw [hj3] at h; clear hj3 j3
     refine blk_n (then_n ?_)
     exact ⟨x5, x6, bs3, v5, v6, h, hl3, S.nf [true, true, true] rfl (subR rfl)⟩
    clear S h; rintro a w6 ⟨x3, x4, bs2, v3, v4, h, hl2, S⟩; rw [hj2] at h; clear hj2 j2
    refine blk_n (then_n (f_region (lv S (rn_add (S.tm rfl) rfl) rfl ?_))); clear S; intro a S
    refine lv S (rn_move (S.tm rfl)) rfl ?_; clear S; intro a S
    refine l_done ?_
    replace S := S.nk ([.map b1 (ments Value.string PV (idm (x3.map fun x => x.s_.Id) bs2)) (idm (x3.map fun x => x.s_.Id) bs2).length, .own v3 3 1 x4.length (x4.flatMap eInt), .own v4 68 1 bs2.length (bs2.flatMap RP.enc)] ++ arena 70 Grecord_swum.enc bs2 x3) [(1, iV p_at), (6, v4), (7, v3), (8, .map (some b1)), (13, v_p_l), (14, iV (p_l.length : Int)), (15, iV (W ((i1 : Int) + 1)))] [true, true, true] rfl (subR rfl)
    refine then_n ?_
    exact ⟨ys1, ⟨i1 + 1, x3, x4, bs2, v3, v4, ⟨_, (hd1).trans (List.append_cons _ _ _), by simp [hi1]⟩, h, hl2, S.nf [true, true, true] rfl ⟨rfl, rfl, rfl, rfl, rfl, rfl, (congrArg (fun z => some (Value.int .i64 z)) (rng_next hd1 hi1 (slc_max hs_p_l))), trivial⟩⟩, Nat.lt_succ_self _⟩
 clear S h; rintro a w3 ⟨x1, x2, bs1, v1, v2, h, hl1, S⟩; rw [hj1] at h; clear hj1 j1
 refine then_n (f_seq (f_region (lv S (rn_move (S.tm rfl)) rfl ?_))); clear S; intro a S
 refine lv S (rn_move (S.tm rfl)) rfl ?_; clear S; intro a S
 refine lv S (rn_assign (S.tm rfl)) rfl ?_; clear S; intro a S
 refine lv S (rn_assign (S.tm rfl)) rfl ?_; clear S; intro a S
 refine l_done ?_
 replace S := S.nk ([.map b1 (ments Value.string PV (idm (x1.map fun x => x.s_.Id) bs1)) (idm (x1.map fun x => x.s_.Id) bs1).length, .own v1 3 1 x2.length (x2.flatMap eInt), .own v2 68 1 bs1.length (bs1.flatMap RP.enc)] ++ arena 70 Grecord_swum.enc bs1 x1) [(4, v2), (5, v1)] [true, true, true] rfl (subR rfl)
 refine then_n (wp_ret ?_)
 obtain rfl := Option.some.inj h
 obtain ⟨φA, lA, hA, S⟩ := S.seeArena rfl hl1
 exact f_ret2 S Tryz.results29 rfl rfl ⟨_, _, rfl, ⟨_, ownV_slcT RP.enc_ok (own_retT S (i := 2) rfl rfl), rels_68 S.le_newer hA⟩, (own_retT S (i := 1) rfl rfl)⟩
theorem slices_Index_string_ok (w : World) (v_p_s : Value) (p_s : List ByteArray) (hs_p_s : Slc (view w []) 1 v_p_s (p_s.map eStr)) (p_v : ByteArray) (r : Int) (h : slices_Index_string p_s p_v = r) :
    Calls Tryz.prog 102 [v_p_s, sV p_v].toArray w (Ret w [] fun _ v _ => v = iV r) := by
 refine f_enter [] [] Tryz.func102 rfl Tryz.ntmps102 rfl (by simp) (by simp [fps]) (by simp [fps]) fun a S => ?_
 unfold slices_Index_string at h
 replace S := S.nk [] [(0, v_p_s), (1, sV p_v)] [] rfl (subR rfl)
 refine f_seq (f_region (lv S (rn_assign rfl) rfl ?_)); clear S; intro a S
 refine l_done (then_n (f_seq (f_seq (f_region (lv S (rn_move (S.tm rfl)) rfl ?_))))); clear S; intro a S
 refine lv S (rn_lenT sl_42 (S.tm rfl) (slc_len hs_p_s)) rfl ?_; clear S; intro a S
 refine lv S (rn_move rfl) rfl ?_; clear S; intro a S
 refine l_done (then_n ?_)
 replace S := S.nk [] [(0, v_p_s), (1, sV p_v), (7, iV (p_s.length : Int)), (8, iV 0)] [] rfl (subR rfl)
 obtain ⟨j1, hj1, h⟩ := joinE h
 refine f_join (fun a w' => j1 = r ∧ Sx w [] nov [] [] 19 a w') ?_ ?_
 ·refine wp_block (f_loop (fun (ys1 : List ByteArray) a w' => ∃ i1 : Nat, (∃ dn, p_s = dn ++ ys1 ∧ dn.length = i1) ∧ slices_Index_string_l1 p_v j1 ys1 i1 = r ∧ Sx w [] nov [] [(0, v_p_s), (1, sV p_v), (7, iV (p_s.length : Int)), (8, iV (i1 : Int))] 19 a w') List.length p_s ⟨0, ⟨[], rfl, rfl⟩, h, S.nf [] rfl (subR rfl)⟩ ?_)
  clear S h; rintro ys1 a w1 ⟨i1, ⟨dn, hd1, hi1⟩, h, S⟩
  cases ys1 with
  | nil =>
   rw [slices_Index_string_l1.eq_1] at h
   refine f_seq (f_region (lv S (rn_lss (S.tm rfl) (S.tm rfl)) rfl ?_)); clear S; intro a S
   refine l_done ?_
   replace S := S.nk [] [(0, v_p_s), (1, sV p_v), (7, iV (p_s.length : Int)), (8, iV (i1 : Int)), (9, bV (decide ((i1 : Int) < (p_s.length : Int))))] [] rfl (subR rfl)
   refine then_n (f_seq (wp_cond_false ((S.tm rfl).trans (congrArg Value.bool (rng_nil hd1 hi1))) (wp_exit (then_x (then_x (x_same ?_))))))
   refine then_n ?_
   exact ⟨h, S.nf [] rfl trivial⟩
  | cons y1 ys1 =>
   rw [slices_Index_string_l1.eq_2] at h
   refine f_seq (f_region (lv S (rn_lss (S.tm rfl) (S.tm rfl)) rfl ?_)); clear S; intro a S
   refine l_done ?_
   replace S := S.nk [] [(0, v_p_s), (1, sV p_v), (7, iV (p_s.length : Int)), (8, iV (i1 : Int)), (9, bV (decide ((i1 : Int) < (p_s.length : Int))))] [] rfl (subR rfl)
   refine then_n (f_seq (wp_cond_true ((S.tm rfl).trans (congrArg Value.bool (rng_cons hd1 hi1))) (wp_skip (then_n (f_seq (wp_block ?_))))))
   refine f_seq (f_region (lv S (rn_move (S.tm rfl)) rfl ?_)); clear S; intro a S
   refine lv S (rn_assign (S.tm rfl)) rfl ?_; clear S; intro a S
   refine l_done (then_n (f_seq (f_region (lv S (rn_move (S.tm rfl)) rfl ?_)))); clear S; intro a S
   refine lv S (rn_move (S.tm rfl)) rfl ?_; clear S; intro a S
   refine lv S (rn_move (S.tm rfl)) rfl ?_; clear S; intro a S
   obtain ⟨b1, o1, hm1, hr1⟩ := rn_indexT (a := a) (x := .tmp 12) (y := .tmp 13) (ty := 0) sl_42 hs_p_s (get_mid hd1 hi1) rfl (S.tm rfl) (S.tm rfl)
   refine lv S (hr1 _) rfl ?_; clear S; intro a S
   clear hr1
   refine lv S (rn_ld Tryz.isAgg9 (off := o1) (o := 0) (S.tm rfl) (hm1.at S.emb0) rfl) rfl ?_; clear S; intro a S
   refine lv S (rn_seql (S.tm rfl) (S.tm rfl)) rfl ?_; clear S; intro a S
   refine l_done (then_n (f_cond (S.tm rfl) (fun hb1 => ?_) (fun hb1 => ?_)))
   ·replace h := iteT h hb1
    refine f_seq (f_region (lv S (rn_move (S.tm rfl)) rfl ?_)); clear S; intro a S
    refine lv S (rn_assign (S.tm rfl)) rfl ?_; clear S; intro a S
    refine l_done ?_
    replace S := S.nk [] [(4, iV (i1 : Int))] [] rfl ⟨rfl, trivial⟩
    refine then_n (wp_ret (blk_r (then_r (then_r (blk_r (then_r ?_))))))
    refine then_r ?_
    subst h
    exact f_ret S Tryz.results102 rfl rfl
   ·replace h := iteF h hb1
    refine wp_skip (blk_n (then_n (f_region (lv S (rn_add (S.tm rfl) rfl) rfl ?_)))); clear S; intro a S
    refine lv S (rn_move (S.tm rfl)) rfl ?_; clear S; intro a S
    refine l_done (then_n ?_)
    exact ⟨ys1, ⟨i1 + 1, ⟨_, (hd1).trans (List.append_cons _ _ _), by simp [hi1]⟩, h, S.nf [] rfl ⟨rfl, rfl, rfl, (congrArg (fun z => some (Value.int .i64 z)) (rng_next hd1 hi1 (slc_max hs_p_s))), trivial⟩⟩, Nat.lt_succ_self _⟩
 clear S h; rintro a w2 ⟨h, S⟩; rw [hj1] at h; clear hj1 j1
 refine then_n (f_seq (f_region (lv S (rn_assign rfl) rfl ?_))); clear S; intro a S
 refine l_done (then_n (wp_ret ?_))
 subst h
 exact f_ret S Tryz.results102 rfl rfl
theorem slices_Contains_string_ok (w : World) (v_p_s : Value) (p_s : List ByteArray) (hs_p_s : Slc (view w []) 1 v_p_s (p_s.map eStr)) (p_v : ByteArray) (r : Bool) (h : slices_Contains_string p_s p_v = r) :
    Calls Tryz.prog 90 [v_p_s, sV p_v].toArray w (Ret w [] fun _ v _ => v = bV r) := by
 refine f_enter [] [] Tryz.func90 rfl Tryz.ntmps90 rfl (by simp) (by simp [fps]) (by simp [fps]) fun a S => ?_
 unfold slices_Contains_string at h
 replace S := S.nk [] [(0, v_p_s), (1, sV p_v)] [] rfl (subR rfl)
 refine f_seq (f_region (lv S (rn_assign rfl) rfl ?_)); clear S; intro a S
 refine l_done (then_n (f_seq (f_region (lv S (rn_move (S.tm rfl)) rfl ?_)))); clear S; intro a S
 refine lv S (rn_move (S.tm rfl)) rfl ?_; clear S; intro a S
 refine l_enter S (fun _ => run_call (vs := [v_p_s, sV p_v]) ⟨(S.tm rfl), (S.tm rfl), trivial⟩ Tryz.call102) (slices_Index_string_ok _ v_p_s p_s (hs_p_s.mono (S.le_arg nil_sub)) p_v _ rfl) rfl ?_; clear S; intro v1 a w1 hv1 hk1 hn1 S
 subst hv1
 refine lv S (rn_geq (S.tm rfl) rfl) rfl ?_; clear S; intro a S
 refine lv S (rn_assign (S.tm rfl)) rfl ?_; clear S; intro a S
 refine l_done (then_n (wp_ret ?_))
 subst h
 exact f_ret S Tryz.results90 rfl rfl
theorem record_isFor_ok (w : World) (p_k : GKind) (q_p_k : R47) (hq_p_k : rel_47 (view w []) p_k q_p_k) (p_s : GStep) (r : Bool) (h : record_isFor p_k p_s = r) :
    Calls Tryz.prog 63 [.agg (R47.enc q_p_k).toArray, .agg (GStep.enc p_s).toArray].toArray w (Ret w [] fun _ v _ => v = bV r) := by
 obtain ⟨u1, rfl, hs1⟩ := hq_p_k
 refine f_enter [] [] Tryz.func63 rfl Tryz.ntmps63 rfl (by simp) (by simp [fps]) (by simp [fps]) fun a S => ?_
 unfold record_isFor at h
 replace S := S.nk [] [(0, .agg #[sV p_k.Key, sV p_k.Race, u1.val, iV p_k.Young, iV p_k.Old]), (1, .agg (GStep.enc p_s).toArray)] [] rfl (subR rfl)
 refine f_seq (f_region (l_box S (S.tm rfl) (cs := [sV p_k.Key, sV p_k.Race, u1.val, iV p_k.Young, iV p_k.Old]) rfl rfl ?_)); clear S; intro a w1 b1 hz1 hk1 S
 refine l_box S (S.tm rfl) (cs := (GStep.enc p_s)) rfl rfl ?_; clear S; intro a w2 b2 hz2 hk2 S
 refine lv S (rn_assign rfl) rfl ?_; clear S; intro a S
 refine l_done (then_n (f_seq (f_region (lv S (rn_fld fa_35_5 (S.tm rfl)) rfl ?_)))); clear S; intro a S
 refine lv S (rn_load Tryz.isAgg9 (S.tm rfl) (S.cell (i := 0) rfl rfl)) rfl ?_; clear S; intro a S
 refine lv S (rn_fld fa_47_1 (S.tm rfl)) rfl ?_; clear S; intro a S
 refine lv S (rn_load Tryz.isAgg9 (S.tm rfl) (S.cell (i := 1) rfl rfl)) rfl ?_; clear S; intro a S
 refine lv S (rn_seql (S.tm rfl) (S.tm rfl)) rfl ?_; clear S; intro a S
 refine lv S (rn_move (S.tm rfl)) rfl ?_; clear S; intro a S
 refine f_cutm 12 (fun a w' => Keep [] w2 w' ∧ Sx w [] nov [.blk b2 (GStep.enc p_s) 35, .blk b1 [sV p_k.Key, sV p_k.Race, u1.val, iV p_k.Young, iV p_k.Old] 47] [(2, .pointer (some ⟨b1, 0, none⟩)), (3, .pointer (some ⟨b2, 0, none⟩)), (22, bV ((decide (p_s.Race = p_k.Race)) && ((decide ((p_k.Clubs.length : Int) = 0)) || (slices_Contains_string p_k.Clubs p_s.Club))))] 32 a w') ?_ ?_
 ·rcases Bool.eq_false_or_eq_true (decide (p_s.Race = p_k.Race)) with hb1 | hb1
  ·refine l_want S rfl rfl rfl hb1 (lv S (rn_fld fa_47_2 (S.tm rfl)) rfl ?_); clear S; intro a S
   refine l_want S rfl rfl rfl hb1 (lv S (rn_load Tryz.isAgg42 (S.tm rfl) (S.cell (i := 1) rfl rfl)) rfl ?_); clear S; intro a S
   refine l_want S rfl rfl rfl hb1 (lv S (rn_lenT sl_42 (S.tm rfl) (slc_len hs1)) rfl ?_); clear S; intro a S
   refine l_want S rfl rfl rfl hb1 (lv S (rn_eql (S.tm rfl) rfl) rfl ?_); clear S; intro a S
   refine l_want S rfl rfl rfl hb1 (lv S (rn_move (S.tm rfl)) rfl ?_); clear S; intro a S
   refine f_cutm 6 (fun a w' => Keep [] w2 w' ∧ Sx w [] nov [.blk b2 (GStep.enc p_s) 35, .blk b1 [sV p_k.Key, sV p_k.Race, u1.val, iV p_k.Young, iV p_k.Old] 47] [(2, .pointer (some ⟨b1, 0, none⟩)), (3, .pointer (some ⟨b2, 0, none⟩)), (10, bV (decide (p_s.Race = p_k.Race))), (21, bV ((decide ((p_k.Clubs.length : Int) = 0)) || (slices_Contains_string p_k.Clubs p_s.Club)))] 32 a w') ?_ ?_
   ·rcases Bool.eq_false_or_eq_true (decide ((p_k.Clubs.length : Int) = 0)) with hb2 | hb2
    ·iterate 5 (refine l_skip S rfl rfl rfl (neq_t hb2) rfl ?_ rfl; clear S; intro a S)
     refine l_want S rfl rfl rfl hb1 (lv S (rn_or_t (slices_Contains_string p_k.Clubs p_s.Club) hb2 (S.tm rfl) rfl) rfl ?_); clear S; intro a S
     refine l_done (then_n ?_)
     exact ⟨Keep.refl _ _, S.nf [true, true] rfl (subR rfl)⟩
    ·refine l_want S rfl rfl rfl hb2 (lv S (rn_fld fa_47_2 (S.tm rfl)) rfl ?_); clear S; intro a S
     refine l_want S rfl rfl rfl hb2 (lv S (rn_load Tryz.isAgg42 (S.tm rfl) (S.cell (i := 1) rfl rfl)) rfl ?_); clear S; intro a S
     refine l_want S rfl rfl rfl hb2 (lv S (rn_fld fa_35_4 (S.tm rfl)) rfl ?_); clear S; intro a S
     refine l_want S rfl rfl rfl hb2 (lv S (rn_load Tryz.isAgg9 (S.tm rfl) (S.cell (i := 0) rfl rfl)) rfl ?_); clear S; intro a S
     refine l_want S rfl rfl rfl hb2 (l_enter S (fun _ => run_call (vs := [u1.val, sV p_s.Club]) ⟨(S.tm rfl), (S.tm rfl), trivial⟩ Tryz.call90) (slices_Contains_string_ok _ u1.val p_k.Clubs (hs1.mono (S.le_arg nil_sub)) p_s.Club _ rfl) rfl ?_); clear S; intro v1 a w5 hv1 hk3 hn1 S
     subst hv1
     refine l_want S rfl rfl rfl hb1 (lv S (rn_or_f hb2 (S.tm rfl) (S.tm rfl)) rfl ?_); clear S; intro a S
     refine l_done (then_n ?_)
     exact ⟨hk3, S.nf [true, true] rfl (subR rfl)⟩
   clear S; rintro a w4 ⟨hk4, S⟩
   refine lv S (rn_and_t hb1 (S.tm rfl) (S.tm rfl)) rfl ?_; clear S; intro a S
   refine l_done (then_n ?_)
   exact ⟨hk4, S.nf [true, true] rfl (subR rfl)⟩
  ·iterate 5 (refine l_skip S rfl rfl rfl (neq_f hb1) rfl ?_ rfl; clear S; intro a S)
   iterate 5 (refine l_skipU S rfl rfl rfl rfl ?_; clear S; intro a S)
   refine l_skip S rfl rfl rfl (neq_f hb1) rfl ?_ rfl; clear S; intro a S
   refine lv S (rn_and_f ((decide ((p_k.Clubs.length : Int) = 0)) || (slices_Contains_string p_k.Clubs p_s.Club)) hb1 (S.tm rfl) rfl) rfl ?_; clear S; intro a S
   refine l_done (then_n ?_)
   exact ⟨Keep.refl _ _, S.nf [true, true] rfl (subR rfl)⟩
 clear S; rintro a w3 ⟨hk5, S⟩
 refine lv S (rn_move (S.tm rfl)) rfl ?_; clear S; intro a S
 refine f_cutm 8 (fun a w' => Keep [] w3 w' ∧ Sx w [] nov [.blk b2 (GStep.enc p_s) 35, .blk b1 [sV p_k.Key, sV p_k.Race, u1.val, iV p_k.Young, iV p_k.Old] 47] [(31, bV (((decide (p_s.Race = p_k.Race)) && ((decide ((p_k.Clubs.length : Int) = 0)) || (slices_Contains_string p_k.Clubs p_s.Club))) && (words_Within p_s.Age p_k.Young p_k.Old)))] 32 a w') ?_ ?_
 ·rcases Bool.eq_false_or_eq_true ((decide (p_s.Race = p_k.Race)) && ((decide ((p_k.Clubs.length : Int) = 0)) || (slices_Contains_string p_k.Clubs p_s.Club))) with hb3 | hb3
  ·refine l_want S rfl rfl rfl hb3 (lv S (rn_fld fa_35_6 (S.tm rfl)) rfl ?_); clear S; intro a S
   refine l_want S rfl rfl rfl hb3 (lv S (rn_load Tryz.isAgg3 (S.tm rfl) (S.cell (i := 0) rfl rfl)) rfl ?_); clear S; intro a S
   refine l_want S rfl rfl rfl hb3 (lv S (rn_fld fa_47_3 (S.tm rfl)) rfl ?_); clear S; intro a S
   refine l_want S rfl rfl rfl hb3 (lv S (rn_load Tryz.isAgg3 (S.tm rfl) (S.cell (i := 1) rfl rfl)) rfl ?_); clear S; intro a S
   refine l_want S rfl rfl rfl hb3 (lv S (rn_fld fa_47_4 (S.tm rfl)) rfl ?_); clear S; intro a S
   refine l_want S rfl rfl rfl hb3 (lv S (rn_load Tryz.isAgg3 (S.tm rfl) (S.cell (i := 1) rfl rfl)) rfl ?_); clear S; intro a S
   refine l_want S rfl rfl rfl hb3 (l_enter S (fun _ => run_call (vs := [iV p_s.Age, iV p_k.Young, iV p_k.Old]) ⟨(S.tm rfl), (S.tm rfl), (S.tm rfl), trivial⟩ Tryz.call52) (words_Within_ok _ p_s.Age p_k.Young p_k.Old _ rfl) rfl ?_); clear S; intro v2 a w7 hv2 hk6 hn2 S
   subst hv2
   refine lv S (rn_and_t hb3 (S.tm rfl) (S.tm rfl)) rfl ?_; clear S; intro a S
   refine l_done (then_n ?_)
   exact ⟨hk6, S.nf [true, true] rfl ⟨rfl, trivial⟩⟩
  ·iterate 7 (refine l_skip S rfl rfl rfl (neq_f hb3) rfl ?_ rfl; clear S; intro a S)
   refine lv S (rn_and_f (words_Within p_s.Age p_k.Young p_k.Old) hb3 (S.tm rfl) rfl) rfl ?_; clear S; intro a S
   refine l_done (then_n ?_)
   exact ⟨Keep.refl _ _, S.nf [true, true] rfl ⟨rfl, trivial⟩⟩
 clear S; rintro a w6 ⟨hk7, S⟩
 refine lv S (rn_assign (S.tm rfl)) rfl ?_; clear S; intro a S
 refine l_done (then_n (wp_ret ?_))
 subst h
 exact f_ret S Tryz.results63 rfl rfl
theorem record_best_ok (w : World) (p_k : GKind) (q_p_k : R47) (hq_p_k : rel_47 (view w []) p_k q_p_k) (b_p_x : Nat) (p_x_s : GStep) (p_x_sure : Bool) (p_x_void : Bool) (hb_b_p_x : (view w []) b_p_x = some (.cells [iV p_x_s.At, iV p_x_s.Kind, sV p_x_s.Id, sV p_x_s.Who, sV p_x_s.Club, sV p_x_s.Race, iV p_x_s.Age, iV p_x_s.Time, bV p_x_sure, bV p_x_void].toArray 70 (0, 0))) (r : GBest) (h : record_best p_k p_x_s p_x_sure p_x_void = r) :
    Calls Tryz.prog 84 [.agg (R47.enc q_p_k).toArray, .pointer (some ⟨b_p_x, 0, none⟩)].toArray w (Ret w [] fun _ v _ => v = .agg (GBest.enc r).toArray) := by
 obtain ⟨u1, rfl, hs1⟩ := hq_p_k
 refine f_enter [] [] Tryz.func84 rfl Tryz.ntmps84 rfl (by simp) (by simp [fps]) (by simp [fps]) fun a S => ?_
 unfold record_best at h
 replace S := S.nk [] [(0, .agg #[sV p_k.Key, sV p_k.Race, u1.val, iV p_k.Young, iV p_k.Old]), (1, .pointer (some ⟨b_p_x, 0, none⟩))] [] rfl (subR rfl)
 refine f_seq (f_region (l_box S (S.tm rfl) (cs := [sV p_k.Key, sV p_k.Race, u1.val, iV p_k.Young, iV p_k.Old]) rfl rfl ?_)); clear S; intro a w1 b1 hz1 hk1 S
 refine l_alloc S Tryz.zeroValue41 (cs := [sV k_empty, sV k_empty, sV k_empty, iV 0, iV 0, bV false]) rfl rfl ?_; clear S; intro a w2 b2 hz2 hk2 S
 refine l_done (then_n (f_seq (d_region [] ([b2]) Tryz.mixed S rfl (by kernel_rfl) ?_))); clear S; intro w4 hk4 hsel S
 refine d_quiet 0 S hsel rfl rfl rfl (by kernel_rfl) (by kernel_rfl) rfl (fun _ hw => (rn_fld fa_47_0 (S.tm rfl))) ?_; clear S; intro a S
 refine d_quiet 1 S hsel rfl rfl rfl (by kernel_rfl) (by kernel_rfl) rfl (fun _ hw => (rn_ld Tryz.isAgg9 (off := 0) (o := 0) (S.tm rfl) ((S.blk_mem (i := 1) (cells := [sV p_k.Key, sV p_k.Race, u1.val, iV p_k.Young, iV p_k.Old]) (b := b1) (T := 47) rfl (ne_fp (i := 0) (j := 1) (e := .blk b2 (GBest.enc (GBest.mk k_empty k_empty k_empty 0 0 false)) 41) (e' := .blk b1 [sV p_k.Key, sV p_k.Race, u1.val, iV p_k.Young, iV p_k.Old] 47) S rfl rfl rfl)).kept hw) rfl)) ?_; clear S; intro a S
 refine d_quiet 2 S hsel rfl rfl rfl (by kernel_rfl) (by kernel_rfl) rfl (fun _ hw => (rn_move (S.tm rfl))) ?_; clear S; intro a S
 refine d_quiet 3 S hsel rfl rfl rfl (by kernel_rfl) (by kernel_rfl) rfl (fun _ hw => (rn_nilCheck (S.tm rfl))) ?_; clear S; intro a S
 refine d_quiet 4 S hsel rfl rfl rfl (by kernel_rfl) (by kernel_rfl) rfl (fun _ hw => (rn_fld fa_70_0 (S.tm rfl))) ?_; clear S; intro a S
 refine d_quiet 5 S hsel rfl rfl rfl (by kernel_rfl) (by kernel_rfl) rfl (fun _ hw => (rn_fld fa_35_2 (S.tm rfl))) ?_; clear S; intro a S
 refine d_quiet 6 S hsel rfl rfl rfl (by kernel_rfl) (by kernel_rfl) rfl (fun _ hw => (rn_ld Tryz.isAgg9 (off := 0) (o := 2) (S.tm rfl) (((mem_blk hb_b_p_x).mono (S.le_arg (fp_sub (i := 0) (e := .blk b2 (GBest.enc (GBest.mk k_empty k_empty k_empty 0 0 false)) 41) rfl))).kept hw) rfl)) ?_; clear S; intro a S
 refine d_quiet 7 S hsel rfl rfl rfl (by kernel_rfl) (by kernel_rfl) rfl (fun _ hw => (rn_move (S.tm rfl))) ?_; clear S; intro a S
 refine d_quiet 8 S hsel rfl rfl rfl (by kernel_rfl) (by kernel_rfl) rfl (fun _ hw => (rn_nilCheck (S.tm rfl))) ?_; clear S; intro a S
 refine d_quiet 9 S hsel rfl rfl rfl (by kernel_rfl) (by kernel_rfl) rfl (fun _ hw => (rn_fld fa_70_0 (S.tm rfl))) ?_; clear S; intro a S
 refine d_quiet 10 S hsel rfl rfl rfl (by kernel_rfl) (by kernel_rfl) rfl (fun _ hw => (rn_fld fa_35_3 (S.tm rfl))) ?_; clear S; intro a S
 refine d_quiet 11 S hsel rfl rfl rfl (by kernel_rfl) (by kernel_rfl) rfl (fun _ hw => (rn_ld Tryz.isAgg9 (off := 0) (o := 3) (S.tm rfl) (((mem_blk hb_b_p_x).mono (S.le_arg (fp_sub (i := 0) (e := .blk b2 (GBest.enc (GBest.mk k_empty k_empty k_empty 0 0 false)) 41) rfl))).kept hw) rfl)) ?_; clear S; intro a S
 refine d_quiet 12 S hsel rfl rfl rfl (by kernel_rfl) (by kernel_rfl) rfl (fun _ hw => (rn_move (S.tm rfl))) ?_; clear S; intro a S
 refine d_quiet 13 S hsel rfl rfl rfl (by kernel_rfl) (by kernel_rfl) rfl (fun _ hw => (rn_nilCheck (S.tm rfl))) ?_; clear S; intro a S
 refine d_quiet 14 S hsel rfl rfl rfl (by kernel_rfl) (by kernel_rfl) rfl (fun _ hw => (rn_fld fa_70_0 (S.tm rfl))) ?_; clear S; intro a S
 refine d_quiet 15 S hsel rfl rfl rfl (by kernel_rfl) (by kernel_rfl) rfl (fun _ hw => (rn_fld fa_35_7 (S.tm rfl))) ?_; clear S; intro a S
 refine d_quiet 16 S hsel rfl rfl rfl (by kernel_rfl) (by kernel_rfl) rfl (fun _ hw => (rn_ld Tryz.isAgg3 (off := 0) (o := 7) (S.tm rfl) (((mem_blk hb_b_p_x).mono (S.le_arg (fp_sub (i := 0) (e := .blk b2 (GBest.enc (GBest.mk k_empty k_empty k_empty 0 0 false)) 41) rfl))).kept hw) rfl)) ?_; clear S; intro a S
 refine d_quiet 17 S hsel rfl rfl rfl (by kernel_rfl) (by kernel_rfl) rfl (fun _ hw => (rn_move (S.tm rfl))) ?_; clear S; intro a S
 refine d_quiet 18 S hsel rfl rfl rfl (by kernel_rfl) (by kernel_rfl) rfl (fun _ hw => (rn_nilCheck (S.tm rfl))) ?_; clear S; intro a S
 refine d_quiet 19 S hsel rfl rfl rfl (by kernel_rfl) (by kernel_rfl) rfl (fun _ hw => (rn_fld fa_70_0 (S.tm rfl))) ?_; clear S; intro a S
 refine d_quiet 20 S hsel rfl rfl rfl (by kernel_rfl) (by kernel_rfl) rfl (fun _ hw => (rn_fld fa_35_0 (S.tm rfl))) ?_; clear S; intro a S
 refine d_quiet 21 S hsel rfl rfl rfl (by kernel_rfl) (by kernel_rfl) rfl (fun _ hw => (rn_ld Tryz.isAgg3 (off := 0) (o := 0) (S.tm rfl) (((mem_blk hb_b_p_x).mono (S.le_arg (fp_sub (i := 0) (e := .blk b2 (GBest.enc (GBest.mk k_empty k_empty k_empty 0 0 false)) 41) rfl))).kept hw) rfl)) ?_; clear S; intro a S
 refine d_quiet 22 S hsel rfl rfl rfl (by kernel_rfl) (by kernel_rfl) rfl (fun _ hw => (rn_move (S.tm rfl))) ?_; clear S; intro a S
 refine d_quiet 23 S hsel rfl rfl rfl (by kernel_rfl) (by kernel_rfl) rfl (fun _ hw => (rn_nilCheck (S.tm rfl))) ?_; clear S; intro a S
 refine d_quiet 24 S hsel rfl rfl rfl (by kernel_rfl) (by kernel_rfl) rfl (fun _ hw => (rn_fld fa_70_1 (S.tm rfl))) ?_; clear S; intro a S
 refine d_quiet 25 S hsel rfl rfl rfl (by kernel_rfl) (by kernel_rfl) rfl (fun _ hw => (rn_ld Tryz.isAgg4 (off := 0) (o := 8) (S.tm rfl) (((mem_blk hb_b_p_x).mono (S.le_arg (fp_sub (i := 0) (e := .blk b2 (GBest.enc (GBest.mk k_empty k_empty k_empty 0 0 false)) 41) rfl))).kept hw) rfl)) ?_; clear S; intro a S
 refine d_quiet 26 S hsel rfl rfl rfl (by kernel_rfl) (by kernel_rfl) rfl (fun _ hw => (rn_bld bt_41 (pv := [(0, sV p_k.Key), (1, sV p_x_s.Id), (2, sV p_x_s.Who), (3, iV p_x_s.Time), (4, iV p_x_s.At), (5, bV p_x_sure)]) ⟨rfl, (S.tm rfl), rfl, (S.tm rfl), rfl, (S.tm rfl), rfl, (S.tm rfl), rfl, (S.tm rfl), rfl, (S.tm rfl), trivial⟩ (cs := [sV p_k.Key, sV p_x_s.Id, sV p_x_s.Who, iV p_x_s.Time, iV p_x_s.At, bV p_x_sure]) (by kernel_rfl))) ?_; clear S; intro a S
 refine d_loud1 27 (by kernel_rfl) rfl (l_store S (S.tm rfl) (S.tm rfl) (i := 0) (off := 0) rfl Tryz.sizeOf41 (vs := (GBest.enc (GBest.mk p_k.Key p_x_s.Id p_x_s.Who p_x_s.Time p_x_s.At p_x_sure))) rfl rfl rfl rfl ?_); clear S; intro w5 hk5 S
 refine l_done (d_next hk5 (d_end (by kernel_rfl) ?_))
 clear hsel
 replace S := S.nk [.blk b2 (GBest.enc (GBest.mk p_k.Key p_x_s.Id p_x_s.Who p_x_s.Time p_x_s.At p_x_sure)) 41] [(4, .pointer (some ⟨b2, 0, none⟩))] [true, false] rfl ⟨rfl, trivial⟩
 refine then_n (wp_ret ?_)
 subst h
 exact f_retG S (rs := [.cell 4 41]) (vs := [.agg #[sV p_k.Key, sV p_x_s.Id, sV p_x_s.Who, iV p_x_s.Time, iV p_x_s.At, bV p_x_sure]]) Tryz.results84 ⟨(res_cell (off := 0) S rfl Tryz.isAgg41 Tryz.sizeOf41 rfl (S.cellsAt (i := 0) rfl)), trivial⟩ rfl rfl
set_option maxRecDepth 20000 in
theorem record_history_ok (w : World) (p_k : GKind) (q_p_k : R47) (hq_p_k : rel_47 (view w []) p_k q_p_k) (v_p_all : Value) (p_all : List Grecord_swum) (rs_p_all : List Nat) (hs_p_all : Slc (view w []) 1 v_p_all (rs_p_all.map RP.enc)) (hr_p_all : All2 (rel_68 (view w [])) p_all rs_p_all) (r : (List GBest)) (h : record_history p_k p_all = some r) :
    Calls Tryz.prog 51 [.agg (R47.enc q_p_k).toArray, v_p_all].toArray w (Ret w [] fun τ v _ => OwnV τ 41 6 v r.length (r.flatMap GBest.enc)) := by
 obtain ⟨u1, rfl, hs1⟩ := hq_p_k
 refine f_enter [] [] Tryz.func51 rfl Tryz.ntmps51 rfl (by simp) (by simp [fps]) (by simp [fps]) fun a S => ?_
 unfold record_history at h
 replace S := S.nk [] [(0, .agg #[sV p_k.Key, sV p_k.Race, u1.val, iV p_k.Young, iV p_k.Old]), (1, v_p_all)] [] rfl (subR rfl)
 refine f_seq (f_region (l_box S (S.tm rfl) (cs := [sV p_k.Key, sV p_k.Race, u1.val, iV p_k.Young, iV p_k.Old]) rfl rfl ?_)); clear S; intro a w1 b1 hz1 hk1 S
 refine lv S (rn_assign rfl) rfl ?_; clear S; intro a S
 refine l_done (then_n (f_seq (f_region (lv S (rn_assign rfl) rfl ?_)))); clear S; intro a S
 replace S := S.nil 41 6
 refine l_done (then_n (f_seq (f_seq (f_region (lv S (rn_move (S.tm rfl)) rfl ?_))))); clear S; intro a S
 refine lv S (rn_lenT sl_64 (S.tm rfl) (slc_lenD hs_p_all hr_p_all)) rfl ?_; clear S; intro a S
 refine lv S (rn_move rfl) rfl ?_; clear S; intro a S
 refine l_done (then_n ?_)
 replace S := S.nk [.own (.slice none 0 0) 41 6 ([] : List GBest).length (([] : List GBest).flatMap GBest.enc), .blk b1 [sV p_k.Key, sV p_k.Race, u1.val, iV p_k.Young, iV p_k.Old] 47] [(2, .pointer (some ⟨b1, 0, none⟩)), (5, (.slice none 0 0)), (9, v_p_all), (10, iV (p_all.length : Int)), (11, iV 0)] [true, true] rfl (subR rfl)
 obtain ⟨j1, hj1, h⟩ := joinE h
 refine f_join (fun a w' => ∃ x1 : List GBest, ∃ v1 : Value, j1 x1 = some r ∧ Sx w [] nov [.own v1 41 6 x1.length (x1.flatMap GBest.enc), .blk b1 [sV p_k.Key, sV p_k.Race, u1.val, iV p_k.Young, iV p_k.Old] 47] [(5, v1)] 54 a w') ?_ ?_
 ·refine wp_block (f_loop (fun (ys1 : List Grecord_swum) a w' => ∃ i1 : Nat, ∃ x1 : List GBest, ∃ v1 : Value, (∃ dn, p_all = dn ++ ys1 ∧ dn.length = i1) ∧ record_history_l1 p_k j1 ys1 i1 x1 = some r ∧ Sx w [] nov [.own v1 41 6 x1.length (x1.flatMap GBest.enc), .blk b1 [sV p_k.Key, sV p_k.Race, u1.val, iV p_k.Young, iV p_k.Old] 47] [(2, .pointer (some ⟨b1, 0, none⟩)), (5, v1), (9, v_p_all), (10, iV (p_all.length : Int)), (11, iV (i1 : Int))] 54 a w') List.length p_all ⟨0, ([] : List GBest), (.slice none 0 0), ⟨[], rfl, rfl⟩, h, S.nf [true, true] rfl (subR rfl)⟩ ?_)
  clear S h; rintro ys1 a w2 ⟨i1, x1, v1, ⟨dn, hd1, hi1⟩, h, S⟩
  cases ys1 with
  | nil =>
   rw [record_history_l1.eq_1] at h
   refine f_seq (f_region (lv S (rn_lss (S.tm rfl) (S.tm rfl)) rfl ?_)); clear S; intro a S
   refine l_done ?_
   replace S := S.nk [.own v1 41 6 x1.length (x1.flatMap GBest.enc), .blk b1 [sV p_k.Key, sV p_k.Race, u1.val, iV p_k.Young, iV p_k.Old] 47] [(2, .pointer (some ⟨b1, 0, none⟩)), (5, v1), (9, v_p_all), (10, iV (p_all.length : Int)), (11, iV (i1 : Int)), (12, bV (decide ((i1 : Int) < (p_all.length : Int))))] [true, true] rfl (subR rfl)
   refine then_n (f_seq (wp_cond_false ((S.tm rfl).trans (congrArg Value.bool (rng_nil hd1 hi1))) (wp_exit (then_x (then_x (x_same ?_))))))
   refine then_n ?_
   exact ⟨x1, v1, h, S.nf [true, true] rfl ⟨rfl, trivial⟩⟩
  | cons y1 ys1 =>
   rw [record_history_l1.eq_2] at h
   refine f_seq (f_region (lv S (rn_lss (S.tm rfl) (S.tm rfl)) rfl ?_)); clear S; intro a S
   refine l_done ?_
   replace S := S.nk [.own v1 41 6 x1.length (x1.flatMap GBest.enc), .blk b1 [sV p_k.Key, sV p_k.Race, u1.val, iV p_k.Young, iV p_k.Old] 47] [(2, .pointer (some ⟨b1, 0, none⟩)), (5, v1), (9, v_p_all), (10, iV (p_all.length : Int)), (11, iV (i1 : Int)), (12, bV (decide ((i1 : Int) < (p_all.length : Int))))] [true, true] rfl (subR rfl)
   refine then_n (f_seq (wp_cond_true ((S.tm rfl).trans (congrArg Value.bool (rng_cons hd1 hi1))) (wp_skip (then_n (f_seq ?_)))))
   obtain ⟨j2, hj2, h⟩ := joinE h
   refine f_join (fun a w' => ∃ x2 : List GBest, ∃ v2 : Value, j2 x2 = some r ∧ Sx w [] nov [.own v2 41 6 x2.length (x2.flatMap GBest.enc), .blk b1 [sV p_k.Key, sV p_k.Race, u1.val, iV p_k.Young, iV p_k.Old] 47] [(2, .pointer (some ⟨b1, 0, none⟩)), (5, v2), (9, v_p_all), (10, iV (p_all.length : Int)), (11, iV (i1 : Int))] 54 a w') ?_ ?_
   ·refine wp_block (f_seq (f_region ?_))
    obtain ⟨r1, hg1, hl1⟩ := All2.at hr_p_all (get_mid hd1 hi1)
    have hb1 := hl1
    obtain ⟨b2, o1, hm1, hr1⟩ := rn_indexT (a := a) (x := .tmp 9) (y := .tmp 11) (ty := 0) sl_64 hs_p_all hg1 rfl (S.tm rfl) (S.tm rfl)
    refine lv S (hr1 _) rfl ?_; clear S; intro a S
    clear hr1
    refine lv S (rn_ld Tryz.isAgg68 (off := o1) (o := 0) (S.tm rfl) (hm1.at S.emb0) rfl) rfl ?_; clear S; intro a S
    refine lv S (rn_assign (S.tm rfl)) rfl ?_; clear S; intro a S
    refine l_done (then_n (f_seq (f_seq ?_)))
    obtain ⟨j3, hj3, h⟩ := joinE h
    refine f_join (fun a w' => ∃ x3 : Bool, j3 x3 = some r ∧ Sx w [] nov [.own v1 41 6 x1.length (x1.flatMap GBest.enc), .blk b1 [sV p_k.Key, sV p_k.Race, u1.val, iV p_k.Young, iV p_k.Old] 47] [(2, .pointer (some ⟨b1, 0, none⟩)), (5, v1), (7, .pointer (some ⟨r1, 0, none⟩)), (9, v_p_all), (10, iV (p_all.length : Int)), (11, iV (i1 : Int)), (27, bV x3)] 54 a w') ?_ ?_
    ·rcases Bool.eq_false_or_eq_true y1.void_ with hb2 | hb2
     ·replace h := iteT h hb2
      refine d_region [] ([]) Tryz.mixed S rfl (by kernel_rfl) ?_; clear S; intro w6 hk2 hsel S
      refine d_rest [0, 1, 2, 3, 4, 5, 6, 7, 8, 9, 10, 11, 12] hsel (by kernel_rfl) rfl ?_
      clear hsel
      refine s_lv S rfl (rn_move (S.tm rfl)) rfl ?_; clear S; intro a S
      refine s_lv S rfl (rn_nilCheck (S.tm rfl)) rfl ?_; clear S; intro a S
      refine s_lv S rfl (rn_fld fa_70_2 (S.tm rfl)) rfl ?_; clear S; intro a S
      refine s_lv S rfl (rn_ld Tryz.isAgg4 (off := 0) (o := 9) (S.tm rfl) ((mem_blk hb1).at S.emb0) rfl) rfl ?_; clear S; intro a S
      refine s_lv S rfl (rn_move (S.tm rfl)) rfl ?_; clear S; intro a S
      iterate 7 (refine s_skip S rfl rfl rfl rfl (neq_t hb2) rfl ?_ rfl; clear S; intro a S)
      refine s_lv S rfl (rn_pick_b hb2 (S.tm rfl) rfl) rfl ?_; clear S; intro a S
      refine s_done ?_
      replace S := S.nk [.own v1 41 6 x1.length (x1.flatMap GBest.enc), .blk b1 [sV p_k.Key, sV p_k.Race, u1.val, iV p_k.Young, iV p_k.Old] 47] [(2, .pointer (some ⟨b1, 0, none⟩)), (5, v1), (7, .pointer (some ⟨r1, 0, none⟩)), (9, v_p_all), (10, iV (p_all.length : Int)), (11, iV (i1 : Int)), (27, bV true)] [true, true] rfl (subR rfl)
      refine then_n ?_
      exact ⟨true, h, S.nf [true, true] rfl (subR rfl)⟩
     ·replace h := iteF h hb2
      refine d_region [] ([]) Tryz.mixed S rfl (by kernel_rfl) ?_; clear S; intro w8 hk4 hsel S
      refine d_quiet 0 S hsel rfl rfl rfl (by kernel_rfl) (by kernel_rfl) rfl (fun _ hw => (rn_move (S.tm rfl))) ?_; clear S; intro a S
      refine d_quiet 1 S hsel rfl rfl rfl (by kernel_rfl) (by kernel_rfl) rfl (fun _ hw => (rn_nilCheck (S.tm rfl))) ?_; clear S; intro a S
      refine d_quiet 2 S hsel rfl rfl rfl (by kernel_rfl) (by kernel_rfl) rfl (fun _ hw => (rn_fld fa_70_2 (S.tm rfl))) ?_; clear S; intro a S
      refine d_quiet 3 S hsel rfl rfl rfl (by kernel_rfl) (by kernel_rfl) rfl (fun _ hw => (rn_ld Tryz.isAgg4 (off := 0) (o := 9) (S.tm rfl) (((mem_blk hb1).mono (S.le_arg nil_sub)).kept hw) rfl)) ?_; clear S; intro a S
      refine d_quiet 4 S hsel rfl rfl rfl (by kernel_rfl) (by kernel_rfl) rfl (fun _ hw => (rn_move (S.tm rfl))) ?_; clear S; intro a S
      refine d_quiet_g 5 S hsel rfl rfl rfl rfl hb2 rfl rfl (by kernel_rfl) (by kernel_rfl) rfl (fun _ hw => (rn_ldA Tryz.isAgg47 Tryz.sizeOf47 (off := 0) (o := 0) (part := [sV p_k.Key, sV p_k.Race, u1.val, iV p_k.Young, iV p_k.Old]) rfl rfl (S.tm rfl) ((S.blk_mem (i := 1) (cells := [sV p_k.Key, sV p_k.Race, u1.val, iV p_k.Young, iV p_k.Old]) (b := b1) (T := 47) rfl (ne_nil (e' := .blk b1 [sV p_k.Key, sV p_k.Race, u1.val, iV p_k.Young, iV p_k.Old] 47))).kept hw))) ?_; clear S; intro a S
      refine d_quiet_g 6 S hsel rfl rfl rfl rfl hb2 rfl rfl (by kernel_rfl) (by kernel_rfl) rfl (fun _ hw => (rn_move (S.tm rfl))) ?_; clear S; intro a S
      refine d_quiet_g 7 S hsel rfl rfl rfl rfl hb2 rfl rfl (by kernel_rfl) (by kernel_rfl) rfl (fun _ hw => (rn_nilCheck (S.tm rfl))) ?_; clear S; intro a S
      refine d_quiet_g 8 S hsel rfl rfl rfl rfl hb2 rfl rfl (by kernel_rfl) (by kernel_rfl) rfl (fun _ hw => (rn_fld fa_70_0 (S.tm rfl))) ?_; clear S; intro a S
      refine d_quiet_g 9 S hsel rfl rfl rfl rfl hb2 rfl rfl (by kernel_rfl) (by kernel_rfl) rfl (fun _ hw => (rn_ldA Tryz.isAgg35 Tryz.sizeOf35 (off := 0) (o := 0) (part := (GStep.enc y1.s_)) rfl rfl (S.tm rfl) (((mem_blk hb1).mono (S.le_arg nil_sub)).kept hw))) ?_; clear S; intro a S
      refine d_loud1 10 (by kernel_rfl) rfl (l_want S rfl rfl rfl hb2 (l_enter S (fun _ => run_call (vs := [.agg (R47.enc (R47.mk p_k.Key p_k.Race u1 p_k.Young p_k.Old)).toArray, .agg (GStep.enc y1.s_).toArray]) ⟨(S.tm rfl), (S.tm rfl), trivial⟩ Tryz.call63) (record_isFor_ok _ p_k (R47.mk p_k.Key p_k.Race u1 p_k.Young p_k.Old) ⟨u1, rfl, (hs1.mono (S.le_arg nil_sub))⟩ y1.s_ _ rfl) rfl ?_)); clear S; intro v4 a w9 hv2 hk5 hn2 S
      subst hv2
      refine l_done (d_next hk5 (d_rest [11, 12] hsel (by kernel_rfl) rfl ?_))
      clear hsel
      refine s_want S rfl rfl rfl rfl hb2 (s_lv0 S (rn_not (S.tm rfl)) rfl ?_); clear S; intro a S
      refine s_lv S rfl (rn_pick_c hb2 (S.tm rfl) (S.tm rfl)) rfl ?_; clear S; intro a S
      refine s_done ?_
      replace S := S.nk [.own v1 41 6 x1.length (x1.flatMap GBest.enc), .blk b1 [sV p_k.Key, sV p_k.Race, u1.val, iV p_k.Young, iV p_k.Old] 47] [(2, .pointer (some ⟨b1, 0, none⟩)), (5, v1), (7, .pointer (some ⟨r1, 0, none⟩)), (9, v_p_all), (10, iV (p_all.length : Int)), (11, iV (i1 : Int)), (20, .agg #[sV p_k.Key, sV p_k.Race, u1.val, iV p_k.Young, iV p_k.Old]), (21, .pointer (some ⟨r1, 0, none⟩)), (22, .pointer (some ⟨r1, 0, none⟩)), (23, .pointer (some ⟨r1, 0, none⟩)), (24, .agg (GStep.enc y1.s_).toArray), (25, bV (record_isFor p_k y1.s_)), (26, bV (!(record_isFor p_k y1.s_))), (27, bV (!(record_isFor p_k y1.s_)))] [true, true] rfl (subR rfl)
      refine then_n ?_
      exact ⟨!(record_isFor p_k y1.s_), h, S.nf [true, true] rfl (subR rfl)⟩
    clear S h; rintro a w5 ⟨x3, h, S⟩; rw [hj3] at h; clear hj3 j3
    refine then_n (f_cond (S.tm rfl) (fun hb3 => ?_) (fun hb3 => ?_))
    ·replace h := iteT h hb3
     refine wp_exit (then_x (x_same (then_n ?_)))
     exact ⟨x1, v1, h, S.nf [true, true] rfl (subR rfl)⟩
    ·replace h := iteF h hb3
     refine wp_skip (then_n (f_seq (f_region (lv S (rn_move (S.tm rfl)) rfl ?_)))); clear S; intro a S
     refine lv S (rn_lenT sl_36 (S.tm rfl) (own_len (S.own_at (i := 0) rfl))) rfl ?_; clear S; intro a S
     refine lv S (rn_assign (S.tm rfl)) rfl ?_; clear S; intro a S
     refine l_done (then_n (f_seq (d_region [] ([]) Tryz.mixed S rfl (by kernel_rfl) ?_))); clear S; intro w10 hk6 hsel S
     refine d_rest [0, 1, 2, 3, 4, 5, 6, 7, 8, 9, 10, 11, 12, 13, 14, 15] hsel (by kernel_rfl) rfl ?_
     clear hsel
     refine s_lv S rfl (rn_move (S.tm rfl)) rfl ?_; clear S; intro a S
     refine s_lv S rfl (rn_eql (S.tm rfl) rfl) rfl ?_; clear S; intro a S
     refine s_lv S rfl (rn_move (S.tm rfl)) rfl ?_; clear S; intro a S
     obtain ⟨j4, hj4, h⟩ := joinE h
     refine s_cutm 13 (fun a w' => ∃ c1, j4 c1 = some r ∧ Keep [] w10 w' ∧ Sx w [] nov [.own v1 41 6 x1.length (x1.flatMap GBest.enc), .blk b1 [sV p_k.Key, sV p_k.Race, u1.val, iV p_k.Young, iV p_k.Old] 47] [(2, .pointer (some ⟨b1, 0, none⟩)), (5, v1), (7, .pointer (some ⟨r1, 0, none⟩)), (9, v_p_all), (10, iV (p_all.length : Int)), (11, iV (i1 : Int)), (45, bV c1)] 54 a w') ?_ ?_
     ·rcases Bool.eq_false_or_eq_true (decide ((x1.length : Int) = 0)) with hb4 | hb4
      ·replace h := iteT h hb4
       iterate 12 (refine s_skip S rfl rfl rfl rfl (neq_t hb4) rfl ?_ rfl; clear S; intro a S)
       refine s_lv S rfl (rn_or_t true hb4 (S.tm rfl) rfl) rfl ?_; clear S; intro a S
       refine s_done ?_
       exact ⟨_, h, Keep.refl _ _, S.nf [true, true] rfl (subR rfl)⟩
      ·replace h := iteF h hb4
       refine s_want S rfl rfl rfl rfl hb4 (s_lv0 S (rn_move (S.tm rfl)) rfl ?_); clear S; intro a S
       refine s_want S rfl rfl rfl rfl hb4 (s_lv0 S (rn_nilCheck (S.tm rfl)) rfl ?_); clear S; intro a S
       refine s_want S rfl rfl rfl rfl hb4 (s_lv0 S (rn_fld fa_70_0 (S.tm rfl)) rfl ?_); clear S; intro a S
       refine s_want S rfl rfl rfl rfl hb4 (s_lv0 S (rn_fld fa_35_7 (S.tm rfl)) rfl ?_); clear S; intro a S
       refine s_want S rfl rfl rfl rfl hb4 (s_lv0 S (rn_ld Tryz.isAgg3 (off := 0) (o := 7) (S.tm rfl) ((mem_blk hb1).at S.emb0) rfl) rfl ?_); clear S; intro a S
       refine s_want S rfl rfl rfl rfl hb4 (s_lv0 S (rn_move (S.tm rfl)) rfl ?_); clear S; intro a S
       refine s_want S rfl rfl rfl rfl hb4 (s_lv0 S (rn_move (S.tm rfl)) rfl ?_); clear S; intro a S
       refine s_want S rfl rfl rfl rfl hb4 (s_lv0 S (rn_sub (S.tm rfl) rfl) rfl ?_); clear S; intro a S
       refine s_want S rfl rfl rfl rfl hb4 ?_
       obtain ⟨hc1, h⟩ := chkE h
       obtain ⟨b3, hg2, hr2⟩ := rn_indexS (a := a) (x := .tmp 38) (y := .tmp 40) (ty := 0) sl_36 GBest.enc_ok S (i := 0) rfl (inB_get hc1).1 (inB_get hc1).2 (S.tm rfl) (S.tm rfl)
       refine s_lv0 S (hr2 _) rfl ?_; clear S; intro a S
       clear hr2
       refine s_want S rfl rfl rfl rfl hb4 (s_lv0 S (rn_fld fa_41_3 (S.tm rfl)) rfl ?_); clear S; intro a S
       refine s_want S rfl rfl rfl rfl hb4 (s_lv0 S (rn_ld Tryz.isAgg3 (off := ((W ((x1.length : Int) - 1)).toNat) * 6) (o := 3) (S.tm rfl) (own_cells GBest.enc_ok S (i := 0) rfl hg2 (inB_get hc1).1) rfl) rfl ?_); clear S; intro a S
       refine s_want S rfl rfl rfl rfl hb4 (s_lv0 S (rn_leq (S.tm rfl) (S.tm rfl)) rfl ?_); clear S; intro a S
       refine s_lv S rfl (rn_or_f hb4 (S.tm rfl) (S.tm rfl)) rfl ?_; clear S; intro a S
       refine s_done ?_
       exact ⟨_, h, Keep.refl _ _, S.nf [true, true] rfl (subR rfl)⟩
     clear S h; rintro a w11 ⟨c1, h, hk7, S⟩; rw [hj4] at h; clear hj4 j4
     refine s_done ?_
     replace S := S.nk [.own v1 41 6 x1.length (x1.flatMap GBest.enc), .blk b1 [sV p_k.Key, sV p_k.Race, u1.val, iV p_k.Young, iV p_k.Old] 47] [(2, .pointer (some ⟨b1, 0, none⟩)), (5, v1), (7, .pointer (some ⟨r1, 0, none⟩)), (9, v_p_all), (10, iV (p_all.length : Int)), (11, iV (i1 : Int)), (45, bV c1)] [true, true] rfl (subR rfl)
     refine then_n ?_
     obtain ⟨j5, hj5, h⟩ := joinE h
     refine f_join (fun a w' => ∃ x4 : List GBest, ∃ v5 : Value, j5 x4 = some r ∧ Sx w [] nov [.own v5 41 6 x4.length (x4.flatMap GBest.enc), .blk b1 [sV p_k.Key, sV p_k.Race, u1.val, iV p_k.Young, iV p_k.Old] 47] [(2, .pointer (some ⟨b1, 0, none⟩)), (5, v5), (9, v_p_all), (10, iV (p_all.length : Int)), (11, iV (i1 : Int))] 54 a w') ?_ ?_
     ·refine f_cond (S.tm rfl) (fun hb5 => ?_) (fun hb5 => ?_)
      ·replace h := iteT h hb5
       refine f_region (lv S (rn_move (S.tm rfl)) rfl ?_); clear S; intro a S
       refine lv S (rn_ldA Tryz.isAgg47 Tryz.sizeOf47 (off := 0) (o := 0) (part := [sV p_k.Key, sV p_k.Race, u1.val, iV p_k.Young, iV p_k.Old]) rfl rfl (S.tm rfl) (S.cellsAt (i := 1) rfl)) rfl ?_; clear S; intro a S
       refine lv S (rn_move (S.tm rfl)) rfl ?_; clear S; intro a S
       refine l_enter S (fun _ => run_call (vs := [.agg (R47.enc (R47.mk p_k.Key p_k.Race u1 p_k.Young p_k.Old)).toArray, .pointer (some ⟨r1, 0, none⟩)]) ⟨(S.tm rfl), (S.tm rfl), trivial⟩ Tryz.call84) (record_best_ok _ p_k (R47.mk p_k.Key p_k.Race u1 p_k.Young p_k.Old) ⟨u1, rfl, (hs1.mono (S.le_arg nil_sub))⟩ r1 y1.s_ y1.sure_ y1.void_ ((S.le_arg nil_sub) _ _ hb1) _ rfl) rfl ?_; clear S; intro v6 a w13 hv3 hk8 hn3 S
       subst hv3
       refine l_buildSlice S Tryz.underlying36 Tryz.sizeOf41 Tryz.zeroValue41 rfl rfl (pv := [(0, .agg (GBest.enc (record_best p_k y1.s_ y1.sure_ y1.void_)).toArray)]) ⟨rfl, (S.tm rfl), trivial⟩ (cs := [sV ((record_best p_k y1.s_ y1.sure_ y1.void_).Kind), sV ((record_best p_k y1.s_ y1.sure_ y1.void_).Id), sV ((record_best p_k y1.s_ y1.sure_ y1.void_).Who), iV ((record_best p_k y1.s_ y1.sure_ y1.void_).Time), iV ((record_best p_k y1.s_ y1.sure_ y1.void_).Since), bV ((record_best p_k y1.s_ y1.sure_ y1.void_).Sure)]) (by kernel_rfl) rfl ?_; clear S; intro a w14 b4 hz2 hk9 S
       obtain ⟨hc2, h⟩ := chkE h
       refine l_appendT sl_36 GBest.enc_ok S (S.tm rfl) (i := 1) rfl (S.tm rfl) (j := 0) rfl (ys := [(record_best p_k y1.s_ y1.sure_ y1.void_)]) rfl rfl rfl rfl (by have := room_lt hc2; omega) rfl ?_; clear S; intro v7 a w15 hk10 S
       refine lv S (rn_assign (S.tm rfl)) rfl ?_; clear S; intro a S
       refine l_done (then_n ?_)
       exact ⟨(x1 ++ [(record_best p_k y1.s_ y1.sure_ y1.void_)]), v7, h, S.nf [false, true, true] rfl (subR rfl)⟩
      ·replace h := iteF h hb5
       refine wp_skip (then_n ?_)
       exact ⟨x1, v1, h, S.nf [true, true] rfl (subR rfl)⟩
     clear S h; rintro a w12 ⟨x4, v5, h, S⟩; rw [hj5] at h; clear hj5 j5
     refine blk_n (then_n ?_)
     exact ⟨x4, v5, h, S.nf [true, true] rfl (subR rfl)⟩
   clear S h; rintro a w4 ⟨x2, v2, h, S⟩; rw [hj2] at h; clear hj2 j2
   refine then_n (f_region (lv S (rn_add (S.tm rfl) rfl) rfl ?_)); clear S; intro a S
   refine lv S (rn_move (S.tm rfl)) rfl ?_; clear S; intro a S
   refine l_done (then_n ?_)
   exact ⟨ys1, ⟨i1 + 1, x2, v2, ⟨_, (hd1).trans (List.append_cons _ _ _), by simp [hi1]⟩, h, S.nf [true, true] rfl ⟨rfl, rfl, rfl, rfl, (congrArg (fun z => some (Value.int .i64 z)) (rng_next hd1 hi1 (slc_maxD hs_p_all hr_p_all))), trivial⟩⟩, Nat.lt_succ_self _⟩
 clear S h; rintro a w3 ⟨x1, v1, h, S⟩; rw [hj1] at h; clear hj1 j1
 refine then_n (f_seq (f_region (lv S (rn_move (S.tm rfl)) rfl ?_))); clear S; intro a S
 refine lv S (rn_assign (S.tm rfl)) rfl ?_; clear S; intro a S
 refine l_done (then_n (wp_ret ?_))
 obtain rfl := Option.some.inj h
 exact f_ret S Tryz.results51 rfl (own_retT S (i := 0) rfl rfl)
set_option maxRecDepth 20000 in
theorem record_record_ok (w : World) (p_k : GKind) (q_p_k : R47) (hq_p_k : rel_47 (view w []) p_k q_p_k) (v_p_all : Value) (p_all : List Grecord_swum) (rs_p_all : List Nat) (hs_p_all : Slc (view w []) 1 v_p_all (rs_p_all.map RP.enc)) (hr_p_all : All2 (rel_68 (view w [])) p_all rs_p_all) (r : (List GBest)) (h : record_record p_k p_all = some r) :
    Calls Tryz.prog 30 [.agg (R47.enc q_p_k).toArray, v_p_all].toArray w (Ret w [] fun τ v _ => Slc τ 6 v (r.map GBest.enc)) := by
 obtain ⟨u1, rfl, hs1⟩ := hq_p_k
 refine f_enter [] [] Tryz.func30 rfl Tryz.ntmps30 rfl (by simp) (by simp [fps]) (by simp [fps]) fun a S => ?_
 unfold record_record at h
 replace S := S.nk [] [(0, .agg #[sV p_k.Key, sV p_k.Race, u1.val, iV p_k.Young, iV p_k.Old]), (1, v_p_all)] [] rfl (subR rfl)
 refine f_seq (f_region (l_box S (S.tm rfl) (cs := [sV p_k.Key, sV p_k.Race, u1.val, iV p_k.Young, iV p_k.Old]) rfl rfl ?_)); clear S; intro a w1 b1 hz1 hk1 S
 refine lv S (rn_assign rfl) rfl ?_; clear S; intro a S
 refine l_done (then_n (f_seq (f_region (lv S (rn_ldA Tryz.isAgg47 Tryz.sizeOf47 (off := 0) (o := 0) (part := [sV p_k.Key, sV p_k.Race, u1.val, iV p_k.Young, iV p_k.Old]) rfl rfl (S.tm rfl) (S.cellsAt (i := 0) rfl)) rfl ?_)))); clear S; intro a S
 refine lv S (rn_move (S.tm rfl)) rfl ?_; clear S; intro a S
 obtain ⟨r1, hr1, h⟩ := bindE h
 have hz2 := S.keep.size
 refine l_enter S (fun _ => run_call (vs := [.agg (R47.enc (R47.mk p_k.Key p_k.Race u1 p_k.Young p_k.Old)).toArray, v_p_all]) ⟨(S.tm rfl), (S.tm rfl), trivial⟩ Tryz.call51) (record_history_ok _ p_k (R47.mk p_k.Key p_k.Race u1 p_k.Young p_k.Old) ⟨u1, rfl, (hs1.mono (S.le_arg nil_sub))⟩ v_p_all p_all rs_p_all (hs_p_all.mono (S.le_arg nil_sub)) (rels_68 (S.le_arg nil_sub) hr_p_all) _ hr1) rfl ?_; clear S; intro v1 a w2 hv1 hk2 hn1 S
 obtain ⟨φ1, hl1, hm1, S⟩ := S.see' hn1 hz2
 have hs2 := hv1.mono hm1
 refine lv S (rn_assign (S.tm rfl)) rfl ?_; clear S; intro a S
 refine l_done (then_n (f_seq (f_seq (f_region (lv S (rn_move (S.tm rfl)) rfl ?_))))); clear S; intro a S
 refine lv S (rn_lenT sl_36 (S.tm rfl) (slc_len (ownV_slcT GBest.enc_ok hs2))) rfl ?_; clear S; intro a S
 refine lv S (rn_move rfl) rfl ?_; clear S; intro a S
 refine l_done (then_n ?_)
 replace S := S.nk [] [(5, v1), (11, v1), (12, iV (r1.length : Int)), (13, iV 0)] [false] rfl (subR rfl)
 obtain ⟨j1, hj1, h⟩ := joinE h
 refine f_join (fun a w' => j1 = some r ∧ Sx w [] φ1 [] [] 32 a w') ?_ ?_
 ·refine wp_block (f_loop (fun (ys1 : List GBest) a w' => ∃ i1 : Nat, (∃ dn, r1 = dn ++ ys1 ∧ dn.length = i1) ∧ record_record_l1 r1 j1 ys1 i1 = some r ∧ Sx w [] φ1 [] [(5, v1), (11, v1), (12, iV (r1.length : Int)), (13, iV (i1 : Int))] 32 a w') List.length r1 ⟨0, ⟨[], rfl, rfl⟩, h, S.nf [] rfl (subR rfl)⟩ ?_)
  clear S h; rintro ys1 a w3 ⟨i1, ⟨dn, hd1, hi1⟩, h, S⟩
  cases ys1 with
  | nil =>
   rw [record_record_l1.eq_1] at h
   refine f_seq (f_region (lv S (rn_lss (S.tm rfl) (S.tm rfl)) rfl ?_)); clear S; intro a S
   refine l_done ?_
   replace S := S.nk [] [(5, v1), (11, v1), (12, iV (r1.length : Int)), (13, iV (i1 : Int)), (14, bV (decide ((i1 : Int) < (r1.length : Int))))] [] rfl (subR rfl)
   refine then_n (f_seq (wp_cond_false ((S.tm rfl).trans (congrArg Value.bool (rng_nil hd1 hi1))) (wp_exit (then_x (then_x (x_same ?_))))))
   refine then_n ?_
   exact ⟨h, S.nf [] rfl trivial⟩
  | cons y1 ys1 =>
   rw [record_record_l1.eq_2] at h
   refine f_seq (f_region (lv S (rn_lss (S.tm rfl) (S.tm rfl)) rfl ?_)); clear S; intro a S
   refine l_done ?_
   replace S := S.nk [] [(5, v1), (11, v1), (12, iV (r1.length : Int)), (13, iV (i1 : Int)), (14, bV (decide ((i1 : Int) < (r1.length : Int))))] [] rfl (subR rfl)
   refine then_n (f_seq (wp_cond_true ((S.tm rfl).trans (congrArg Value.bool (rng_cons hd1 hi1))) (wp_skip (then_n (f_seq (wp_block ?_))))))
   refine f_seq (f_region (lv S (rn_move (S.tm rfl)) rfl ?_)); clear S; intro a S
   obtain ⟨b2, o1, hm2, hr2⟩ := rn_indexT (a := a) (x := .tmp 11) (y := .tmp 13) (ty := 0) sl_36 (ownV_slcT GBest.enc_ok hs2) (get_mid hd1 hi1) rfl (S.tm rfl) (S.tm rfl)
   refine lv S (hr2 _) rfl ?_; clear S; intro a S
   clear hr2
   refine lv S (rn_ldA Tryz.isAgg41 Tryz.sizeOf41 (off := o1) (o := 0) (part := (GBest.enc y1)) rfl rfl (S.tm rfl) (hm2.at S.emb)) rfl ?_; clear S; intro a S
   refine l_alloc S Tryz.zeroValue41 (cs := [sV k_empty, sV k_empty, sV k_empty, iV 0, iV 0, bV false]) rfl rfl ?_; clear S; intro a w5 b3 hz3 hk3 S
   refine lv S (rn_assign (S.tm rfl)) rfl ?_; clear S; intro a S
   refine l_store S (S.tm rfl) (S.tm rfl) (i := 0) (off := 0) rfl Tryz.sizeOf41 (vs := (GBest.enc y1)) rfl rfl rfl rfl ?_; clear S; intro w6 hk4 S
   refine l_done (then_n (f_seq (d_region [] ([]) Tryz.mixed S rfl (by kernel_rfl) ?_))); clear S; intro w7 hk5 hsel S
   refine d_rest [0, 1, 2, 3, 4, 5, 6, 7, 8, 9] hsel (by kernel_rfl) rfl ?_
   clear hsel
   refine s_lv S rfl (rn_fld fa_41_3 (S.tm rfl)) rfl ?_; clear S; intro a S
   refine s_lv S rfl (rn_load Tryz.isAgg3 (S.tm rfl) (S.cell (i := 0) rfl rfl)) rfl ?_; clear S; intro a S
   refine s_lv S rfl (rn_move (S.tm rfl)) rfl ?_; clear S; intro a S
   refine s_lv S rfl (rn_move (S.tm rfl)) rfl ?_; clear S; intro a S
   refine s_lv S rfl (rn_lenT sl_36 (S.tm rfl) (slc_len (ownV_slcT GBest.enc_ok hs2))) rfl ?_; clear S; intro a S
   refine s_lv S rfl (rn_sub (S.tm rfl) rfl) rfl ?_; clear S; intro a S
   obtain ⟨hc1, h⟩ := chkE h
   obtain ⟨b4, o2, hm3, hr3⟩ := rn_indexT (a := a) (x := .tmp 20) (y := .tmp 23) (ty := 0) sl_36 (ownV_slcT GBest.enc_ok hs2) (inB_get hc1).1 (inB_get hc1).2 (S.tm rfl) (S.tm rfl)
   refine s_lv S rfl (hr3 _) rfl ?_; clear S; intro a S
   clear hr3
   refine s_lv S rfl (rn_fld fa_41_3 (S.tm rfl)) rfl ?_; clear S; intro a S
   refine s_lv S rfl (rn_ld Tryz.isAgg3 (off := o2) (o := 3) (S.tm rfl) (hm3.at S.emb) rfl) rfl ?_; clear S; intro a S
   refine s_lv S rfl (rn_eql (S.tm rfl) (S.tm rfl)) rfl ?_; clear S; intro a S
   refine s_done ?_
   replace S := S.nk [] [(5, v1), (6, iV (i1 : Int)), (11, v1), (12, iV (r1.length : Int)), (13, iV (i1 : Int)), (27, bV (decide (y1.Time = ((nth r1 (W ((r1.length : Int) - 1))).Time))))] [false] rfl (subR rfl)
   refine then_n (f_cond (S.tm rfl) (fun hb1 => ?_) (fun hb1 => ?_))
   ·replace h := iteT h hb1
    refine f_seq (f_region (lv S (rn_move (S.tm rfl)) rfl ?_)); clear S; intro a S
    refine lv S (rn_move (S.tm rfl)) rfl ?_; clear S; intro a S
    obtain ⟨hc2, h⟩ := chkE h
    obtain ⟨v2, hs3, hr4⟩ := rn_cutTl (a := a) (x := .tmp 28) (y := .tmp 29) (ty := 36) sl_36 (ownV_slcT GBest.enc_ok hs2) (S.tm rfl) (S.tm rfl) hc2
    refine lv S (hr4 _) rfl ?_; clear S; intro a S
    clear hr4
    refine lv S (rn_assign (S.tm rfl)) rfl ?_; clear S; intro a S
    refine l_done (then_n (wp_ret (blk_r (then_r (then_r (blk_r ?_))))))
    refine then_r (then_r ?_)
    obtain rfl := Option.some.inj h
    exact f_ret S Tryz.results30 rfl ((hs3).mono S.le_newer)
   ·replace h := iteF h hb1
    refine wp_skip (blk_n (then_n (f_region (lv S (rn_add (S.tm rfl) rfl) rfl ?_)))); clear S; intro a S
    refine lv S (rn_move (S.tm rfl)) rfl ?_; clear S; intro a S
    refine l_done (then_n ?_)
    exact ⟨ys1, ⟨i1 + 1, ⟨_, (hd1).trans (List.append_cons _ _ _), by simp [hi1]⟩, h, S.nf [] rfl ⟨rfl, rfl, rfl, (congrArg (fun z => some (Value.int .i64 z)) (rng_next hd1 hi1 (slc_max (ownV_slcT GBest.enc_ok hs2)))), trivial⟩⟩, Nat.lt_succ_self _⟩
 clear S h; rintro a w4 ⟨h, S⟩; rw [hj1] at h; clear hj1 j1
 refine then_n (f_seq (f_region (lv S (rn_assign rfl) rfl ?_))); clear S; intro a S
 refine l_done (then_n (wp_ret ?_))
 obtain rfl := Option.some.inj h
 exact f_ret S Tryz.results30 rfl (slc_nilT _ _)
theorem record_All_ok (w : World) (v_p_k : Value) (p_k : List GKind) (rs_p_k : List R47) (hs_p_k : Slc (view w []) 5 v_p_k (rs_p_k.map R47.enc)) (hr_p_k : All2 (rel_47 (view w [])) p_k rs_p_k) (v_p_l : Value) (p_l : List GStep) (hs_p_l : Slc (view w []) 8 v_p_l (p_l.map GStep.enc)) (p_at : Int) (r : (List GBest) × Int) (h : record_All p_k p_l p_at = some r) :
    Calls Tryz.prog 8 [v_p_k, v_p_l, iV p_at].toArray w (Ret w [] fun τ v _ => ∃ u1 : Value, v = .tuple #[u1, iV r.2] ∧ OwnV τ 41 6 u1 r.1.length (r.1.flatMap GBest.enc)) := by
 refine f_enter [] [] Tryz.func8 rfl Tryz.ntmps8 rfl (by simp) (by simp [fps]) (by simp [fps]) fun a S => ?_
 unfold record_All at h
 replace S := S.nk [] [(0, v_p_k), (1, v_p_l), (2, iV p_at)] [] rfl (subR rfl)
 refine f_seq (f_region (lv S (rn_assign rfl) rfl ?_)); clear S; intro a S
 refine lv S (rn_assign rfl) rfl ?_; clear S; intro a S
 refine l_done (then_n (f_seq (f_seq (f_region (lv S (rn_move (S.tm rfl)) rfl ?_))))); clear S; intro a S
 refine lv S (rn_move (S.tm rfl)) rfl ?_; clear S; intro a S
 obtain ⟨r1, hr1, h⟩ := bindE h
 refine l_enter S (fun _ => run_call (vs := [v_p_k, v_p_l]) ⟨(S.tm rfl), (S.tm rfl), trivial⟩ Tryz.call27) (record_checkBoth_ok _ v_p_k p_k rs_p_k (hs_p_k.mono (S.le_arg nil_sub)) (rels_47 (S.le_arg nil_sub) hr_p_k) v_p_l p_l (hs_p_l.mono (S.le_arg nil_sub)) _ hr1) rfl ?_; clear S; intro v1 a w1 hv1 hk1 hn1 S
 subst hv1
 refine lv S (rn_assign (S.tm rfl)) rfl ?_; clear S; intro a S
 refine l_done (then_n (f_seq (f_region (lv S (rn_move (S.tm rfl)) rfl ?_)))); clear S; intro a S
 refine lv S (rn_neq (S.tm rfl) rfl) rfl ?_; clear S; intro a S
 refine l_done (then_n (f_cond (S.tm rfl) (fun hb1 => ?_) (fun hb1 => ?_)))
 ·replace h := iteT h hb1
  refine f_seq (f_region (lv S (rn_move (S.tm rfl)) rfl ?_)); clear S; intro a S
  refine lv S (rn_assign rfl) rfl ?_; clear S; intro a S
  refine lv S (rn_assign (S.tm rfl)) rfl ?_; clear S; intro a S
  refine l_done (then_n (wp_ret (then_r ?_)))
  obtain rfl := Option.some.inj h
  exact f_ret2 S Tryz.results8 rfl rfl ⟨_, rfl, (ownV_nil _ _ _)⟩
 ·replace h := iteF h hb1
  refine wp_skip (then_n (f_seq (f_seq (f_region (lv S (rn_move (S.tm rfl)) rfl ?_))))); clear S; intro a S
  refine l_enter S (fun _ => run_call (vs := [iV p_at]) ⟨(S.tm rfl), trivial⟩ Tryz.call28) (words_IsMoment_ok _ p_at _ rfl) rfl ?_; clear S; intro v2 a w2 hv2 hk2 hn2 S
  subst hv2
  refine lv S (rn_not (S.tm rfl)) rfl ?_; clear S; intro a S
  refine l_done (then_n (f_cond (S.tm rfl) (fun hb2 => ?_) (fun hb2 => ?_)))
  ·replace h := iteT h hb2
   refine f_seq (f_region (lv S (rn_assign rfl) rfl ?_)); clear S; intro a S
   refine lv S (rn_assign rfl) rfl ?_; clear S; intro a S
   refine l_done (then_n (wp_ret (then_r ?_)))
   obtain rfl := Option.some.inj h
   exact f_ret2 S Tryz.results8 rfl rfl ⟨_, rfl, (ownV_nil _ _ _)⟩
  ·replace h := iteF h hb2
   refine wp_skip (then_n (f_seq (f_region (lv S (rn_move (S.tm rfl)) rfl ?_)))); clear S; intro a S
   refine lv S (rn_move (S.tm rfl)) rfl ?_; clear S; intro a S
   obtain ⟨r2, hr2, h⟩ := bindE h
   have hz1 := S.keep.size
   refine l_enter S (fun _ => run_call (vs := [v_p_l, iV p_at]) ⟨(S.tm rfl), (S.tm rfl), trivial⟩ Tryz.call29) (record_follow_ok _ v_p_l p_l (hs_p_l.mono (S.le_arg nil_sub)) p_at _ hr2) rfl ?_; clear S; intro v3 a w3 hv3 hk3 hn3 S
   obtain ⟨u1, u2, rfl, ho1, ho2⟩ := hv3
   obtain ⟨rs1, ho3, hr3⟩ := ho1
   obtain ⟨φ1, hl1, hm1, S⟩ := S.see' hn3 hz1
   have hs1 := ho3.mono hm1
   have hr4 := rels_68 hm1 hr3
   have hs2 := ho2.mono hm1
   refine lv S (rn_move (S.tm rfl)) rfl ?_; clear S; intro a S
   refine lv S (rn_extract (S.tm rfl) rfl) rfl ?_; clear S; intro a S
   refine lv S (rn_extract (S.tm rfl) rfl) rfl ?_; clear S; intro a S
   refine lv S (rn_assign (S.tm rfl)) rfl ?_; clear S; intro a S
   refine lv S (rn_assign (S.tm rfl)) rfl ?_; clear S; intro a S
   refine l_done ?_
   replace S := S.nk [] [(0, v_p_k), (9, u1)] [] rfl (subR rfl)
   refine then_n (f_seq (f_region (lv S (rn_assign rfl) rfl ?_))); clear S; intro a S
   replace S := S.nil 41 6
   refine l_done (then_n (f_seq (f_seq (f_region (lv S (rn_move (S.tm rfl)) rfl ?_))))); clear S; intro a S
   refine lv S (rn_lenT sl_26 (S.tm rfl) (slc_lenD hs_p_k hr_p_k)) rfl ?_; clear S; intro a S
   refine lv S (rn_move rfl) rfl ?_; clear S; intro a S
   refine l_done (then_n ?_)
   replace S := S.nk [.own (.slice none 0 0) 41 6 ([] : List GBest).length (([] : List GBest).flatMap GBest.enc)] [(9, u1), (11, (.slice none 0 0)), (29, v_p_k), (30, iV (p_k.length : Int)), (31, iV 0)] [true] rfl (subR rfl)
   obtain ⟨j1, hj1, h⟩ := joinE h
   refine f_join (fun a w' => ∃ x1 : List GBest, ∃ φ2 : View, ∃ v4 : Value, j1 x1 = some r ∧ View.le φ1 φ2 ∧ Sx w [] φ2 [.own v4 41 6 x1.length (x1.flatMap GBest.enc)] [(11, v4)] 42 a w') ?_ ?_
   ·refine wp_block (f_loop (fun (ys1 : List GKind) a w' => ∃ i1 : Nat, ∃ x1 : List GBest, ∃ φ2 : View, ∃ v4 : Value, (∃ dn, p_k = dn ++ ys1 ∧ dn.length = i1) ∧ record_All_l1 r2 j1 ys1 i1 x1 = some r ∧ View.le φ1 φ2 ∧ Sx w [] φ2 [.own v4 41 6 x1.length (x1.flatMap GBest.enc)] [(9, u1), (11, v4), (29, v_p_k), (30, iV (p_k.length : Int)), (31, iV (i1 : Int))] 42 a w') List.length p_k ⟨0, ([] : List GBest), φ1, (.slice none 0 0), ⟨[], rfl, rfl⟩, h, View.le_refl _, S.nf [true] rfl (subR rfl)⟩ ?_)
    clear S h; rintro ys1 a w4 ⟨i1, x1, φ2, v4, ⟨dn, hd1, hi1⟩, h, hl2, S⟩
    cases ys1 with
    | nil =>
     rw [record_All_l1.eq_1] at h
     refine f_seq (f_region (lv S (rn_lss (S.tm rfl) (S.tm rfl)) rfl ?_)); clear S; intro a S
     refine l_done ?_
     replace S := S.nk [.own v4 41 6 x1.length (x1.flatMap GBest.enc)] [(9, u1), (11, v4), (29, v_p_k), (30, iV (p_k.length : Int)), (31, iV (i1 : Int)), (32, bV (decide ((i1 : Int) < (p_k.length : Int))))] [true] rfl (subR rfl)
     refine then_n (f_seq (wp_cond_false ((S.tm rfl).trans (congrArg Value.bool (rng_nil hd1 hi1))) (wp_exit (then_x (then_x (x_same ?_))))))
     refine then_n ?_
     exact ⟨x1, φ2, v4, h, hl2, S.nf [true] rfl ⟨rfl, trivial⟩⟩
    | cons y1 ys1 =>
     rw [record_All_l1.eq_2] at h
     refine f_seq (f_region (lv S (rn_lss (S.tm rfl) (S.tm rfl)) rfl ?_)); clear S; intro a S
     refine l_done ?_
     replace S := S.nk [.own v4 41 6 x1.length (x1.flatMap GBest.enc)] [(9, u1), (11, v4), (29, v_p_k), (30, iV (p_k.length : Int)), (31, iV (i1 : Int)), (32, bV (decide ((i1 : Int) < (p_k.length : Int))))] [true] rfl (subR rfl)
     refine then_n (f_seq (wp_cond_true ((S.tm rfl).trans (congrArg Value.bool (rng_cons hd1 hi1))) (wp_skip (then_n (f_seq (wp_block ?_))))))
     refine f_seq (f_region ?_)
     obtain ⟨r3, hg1, hl3⟩ := All2.at hr_p_k (get_mid hd1 hi1)
     obtain ⟨u3, rfl, hs3⟩ := hl3
     obtain ⟨b1, o1, hm2, hr5⟩ := rn_indexT (a := a) (x := .tmp 29) (y := .tmp 31) (ty := 0) sl_26 hs_p_k hg1 rfl (S.tm rfl) (S.tm rfl)
     refine lv S (hr5 _) rfl ?_; clear S; intro a S
     clear hr5
     refine lv S (rn_ldA Tryz.isAgg47 Tryz.sizeOf47 (off := o1) (o := 0) (part := [sV y1.Key, sV y1.Race, u3.val, iV y1.Young, iV y1.Old]) rfl rfl (S.tm rfl) (hm2.at S.emb0)) rfl ?_; clear S; intro a S
     refine l_alloc S Tryz.zeroValue47 (cs := [sV k_empty, sV k_empty, .slice none 0 0, iV 0, iV 0]) rfl rfl ?_; clear S; intro a w6 b2 hz2 hk4 S
     refine l_store S (S.tm rfl) (S.tm rfl) (i := 0) (off := 0) rfl Tryz.sizeOf47 (vs := [sV y1.Key, sV y1.Race, u3.val, iV y1.Young, iV y1.Old]) rfl rfl rfl (all1 rfl (all1 rfl (all1 (SlcLen.one (slc_len hs3)) (all1 rfl (all1 rfl rfl))))) ?_; clear S; intro w7 hk5 S
     refine l_done (then_n (f_region (lv S (rn_move (S.tm rfl)) rfl ?_))); clear S; intro a S
     refine lv S (rn_ldA Tryz.isAgg47 Tryz.sizeOf47 (off := 0) (o := 0) (part := [sV y1.Key, sV y1.Race, u3.val, iV y1.Young, iV y1.Old]) rfl rfl (S.tm rfl) (S.cellsAt (i := 0) rfl)) rfl ?_; clear S; intro a S
     refine lv S (rn_move (S.tm rfl)) rfl ?_; clear S; intro a S
     obtain ⟨r4, hr6, h⟩ := bindE h
     have hz3 := S.keep.size
     refine l_enter S (fun _ => run_call (vs := [.agg (R47.enc (R47.mk y1.Key y1.Race u3 y1.Young y1.Old)).toArray, u1]) ⟨(S.tm rfl), (S.tm rfl), trivial⟩ Tryz.call30) (record_record_ok _ y1 (R47.mk y1.Key y1.Race u3 y1.Young y1.Old) ⟨u3, rfl, (hs3.mono (S.le_arg nil_sub))⟩ u1 r2.1 rs1 (hs1.mono (View.le_trans hl2 (S.le_new nil_sub))) (rels_68 (View.le_trans hl2 (S.le_new nil_sub)) hr4) _ hr6) rfl ?_; clear S; intro v5 a w8 hv4 hk6 hn4 S
     obtain ⟨φ3, hl4, hm3, S⟩ := S.see' hn4 hz3
     have hs4 := hv4.mono hm3
     obtain ⟨hc1, h⟩ := chkE h
     refine l_appendS (Y := []) sl_36 GBest.enc_ok S (S.tm rfl) (i := 1) rfl (S.tm rfl) (hs4.mono (S.le_new (fun _ h => by cases h))) rfl rfl (by have := room_lt hc1; omega) rfl ?_; clear S; intro v6 a w9 hk7 S
     refine lv S (rn_assign (S.tm rfl)) rfl ?_; clear S; intro a S
     refine l_done (blk_n (then_n (f_region (lv S (rn_add (S.tm rfl) rfl) rfl ?_)))); clear S; intro a S
     refine lv S (rn_move (S.tm rfl)) rfl ?_; clear S; intro a S
     refine l_done ?_
     replace S := S.nk [.own v6 41 6 (x1 ++ r4).length ((x1 ++ r4).flatMap GBest.enc)] [(9, u1), (11, v6), (29, v_p_k), (30, iV (p_k.length : Int)), (31, iV (W ((i1 : Int) + 1)))] [false, true] rfl (subR rfl)
     refine then_n ?_
     exact ⟨ys1, ⟨i1 + 1, (x1 ++ r4), φ3, v6, ⟨_, (hd1).trans (List.append_cons _ _ _), by simp [hi1]⟩, h, (View.le_trans hl2 hl4), S.nf [true] rfl ⟨rfl, rfl, rfl, rfl, (congrArg (fun z => some (Value.int .i64 z)) (rng_next hd1 hi1 (slc_maxD hs_p_k hr_p_k))), trivial⟩⟩, Nat.lt_succ_self _⟩
   clear S h; rintro a w5 ⟨x1, φ2, v4, h, hl2, S⟩; rw [hj1] at h; clear hj1 j1
   refine then_n (f_seq (f_region (lv S (rn_move (S.tm rfl)) rfl ?_))); clear S; intro a S
   refine lv S (rn_assign (S.tm rfl)) rfl ?_; clear S; intro a S
   refine lv S (rn_assign rfl) rfl ?_; clear S; intro a S
   refine l_done (then_n (wp_ret ?_))
   obtain rfl := Option.some.inj h
   exact f_ret2 S Tryz.results8 rfl rfl ⟨_, rfl, (own_retT S (i := 0) rfl rfl)⟩
theorem tumbkeep2_spoil_Best_ok (w : World) (v_p_l : Value) (p_l : List GBest) (hb_p_l : (LEnt.own v_p_l 41 6 p_l.length (p_l.flatMap GBest.enc)).holds w) (r : (List GBest)) (h : tumbkeep2_spoil_Best p_l = some r) :
    Calls Tryz.prog 9 [v_p_l].toArray w (Ret w (v_p_l.ownBlock.toList) fun _ v w' => (LEnt.own v_p_l 41 6 r.length (r.flatMap GBest.enc)).holds w' ∧ v = .tuple #[]) := by
 refine f_enter (v_p_l.ownBlock.toList) [.own v_p_l 41 6 p_l.length (p_l.flatMap GBest.enc)] Tryz.func9 rfl Tryz.ntmps9 rfl (fun e he => by simp only [List.mem_singleton] at he; subst he; exact hb_p_l) (fps_one_nodup _) (fps_one_sub _) fun a S => ?_
 unfold tumbkeep2_spoil_Best at h
 replace S := S.nk [.own v_p_l 41 6 p_l.length (p_l.flatMap GBest.enc)] [(0, v_p_l)] [true] rfl ⟨rfl, trivial⟩
 refine f_seq (f_region (l_alloc S Tryz.zeroValue41 (cs := [sV k_empty, sV k_empty, sV k_empty, iV 0, iV 0, bV false]) rfl rfl ?_)); clear S; intro a w1 b1 hz1 hk1 S
 refine l_done (then_n (f_seq (f_region (lv S (rn_move (S.tm rfl)) rfl ?_)))); clear S; intro a S
 refine lv S (rn_lenT sl_36 (S.tm rfl) (own_len (S.own_at (i := 1) rfl))) rfl ?_; clear S; intro a S
 refine lv S (rn_move rfl) rfl ?_; clear S; intro a S
 refine l_done (then_n ?_)
 replace S := S.nk [.blk b1 (GBest.enc (GBest.mk k_empty k_empty k_empty 0 0 false)) 41, .own v_p_l 41 6 p_l.length (p_l.flatMap GBest.enc)] [(0, v_p_l), (2, .pointer (some ⟨b1, 0, none⟩)), (5, iV (p_l.length : Int)), (6, iV 0)] [true, true] rfl (subR rfl)
 have hm1 := own_max (S.own_at (i := 1) rfl)
 obtain ⟨j1, hj1, h⟩ := joinE h
 refine f_join (fun a w' => ∃ x1 : List GBest, j1 x1 = some r ∧ Sx w (v_p_l.ownBlock.toList) nov [.blk b1 (GBest.enc (GBest.mk k_empty k_empty k_empty 0 0 false)) 41, .own v_p_l 41 6 x1.length (x1.flatMap GBest.enc)] [] 14 a w') ?_ ?_
 ·refine wp_block (f_loop (fun (ys1 : List GBest) a w' => ∃ i1 : Nat, ∃ x1 : List GBest, (∃ dn, p_l = dn ++ ys1 ∧ dn.length = i1) ∧ tumbkeep2_spoil_Best_l1 j1 ys1 i1 x1 = some r ∧ Sx w (v_p_l.ownBlock.toList) nov [.blk b1 (GBest.enc (GBest.mk k_empty k_empty k_empty 0 0 false)) 41, .own v_p_l 41 6 x1.length (x1.flatMap GBest.enc)] [(0, v_p_l), (2, .pointer (some ⟨b1, 0, none⟩)), (5, iV (p_l.length : Int)), (6, iV (i1 : Int))] 14 a w') List.length p_l ⟨0, p_l, ⟨[], rfl, rfl⟩, h, S.nf [true, true] rfl (subR rfl)⟩ ?_)
  clear S h; rintro ys1 a w2 ⟨i1, x1, ⟨dn, hd1, hi1⟩, h, S⟩
  cases ys1 with
  | nil =>
   rw [tumbkeep2_spoil_Best_l1.eq_1] at h
   refine f_seq (f_region (lv S (rn_lss (S.tm rfl) (S.tm rfl)) rfl ?_)); clear S; intro a S
   refine l_done ?_
   replace S := S.nk [.blk b1 (GBest.enc (GBest.mk k_empty k_empty k_empty 0 0 false)) 41, .own v_p_l 41 6 x1.length (x1.flatMap GBest.enc)] [(0, v_p_l), (2, .pointer (some ⟨b1, 0, none⟩)), (5, iV (p_l.length : Int)), (6, iV (i1 : Int)), (7, bV (decide ((i1 : Int) < (p_l.length : Int))))] [true, true] rfl (subR rfl)
   refine then_n (f_seq (wp_cond_false ((S.tm rfl).trans (congrArg Value.bool (rng_nil hd1 hi1))) (wp_exit (then_x (then_x (x_same ?_))))))
   refine then_n ?_
   exact ⟨x1, h, S.nf [true, true] rfl trivial⟩
  | cons y1 ys1 =>
   rw [tumbkeep2_spoil_Best_l1.eq_2] at h
   refine f_seq (f_region (lv S (rn_lss (S.tm rfl) (S.tm rfl)) rfl ?_)); clear S; intro a S
   refine l_done ?_
   replace S := S.nk [.blk b1 (GBest.enc (GBest.mk k_empty k_empty k_empty 0 0 false)) 41, .own v_p_l 41 6 x1.length (x1.flatMap GBest.enc)] [(0, v_p_l), (2, .pointer (some ⟨b1, 0, none⟩)), (5, iV (p_l.length : Int)), (6, iV (i1 : Int)), (7, bV (decide ((i1 : Int) < (p_l.length : Int))))] [true, true] rfl (subR rfl)
   refine then_n (f_seq (wp_cond_true ((S.tm rfl).trans (congrArg Value.bool (rng_cons hd1 hi1))) (wp_skip (then_n (f_seq (wp_block ?_))))))
   refine f_seq (f_region (lv S (rn_move (S.tm rfl)) rfl ?_)); clear S; intro a S
   refine lv S (rn_assign (S.tm rfl)) rfl ?_; clear S; intro a S
   refine l_done (then_n (f_region (lv S (rn_move (S.tm rfl)) rfl ?_))); clear S; intro a S
   refine lv S (rn_move (S.tm rfl)) rfl ?_; clear S; intro a S
   refine lv S (rn_ldA Tryz.isAgg41 Tryz.sizeOf41 (off := 0) (o := 0) (part := (GBest.enc (GBest.mk k_empty k_empty k_empty 0 0 false))) rfl rfl (S.tm rfl) (S.cellsAt (i := 0) rfl)) rfl ?_; clear S; intro a S
   obtain ⟨hc1, h⟩ := chkE h
   obtain ⟨b2, hg1, hr1⟩ := rn_indexS (a := a) (x := .tmp 9) (y := .tmp 10) (ty := 0) sl_36 GBest.enc_ok S (i := 1) rfl (inB_get hc1).1 (inB_get hc1).2 (S.tm rfl) (S.tm rfl)
   refine lv S (hr1 _) rfl ?_; clear S; intro a S
   clear hr1
   refine l_storeO (c := 0) (j := (i1 : Int).toNat) (GBest.mk k_empty k_empty k_empty 0 0 false) GBest.enc_ok S (S.tm rfl) (S.tm rfl) (i := 1) rfl hg1 (inB_get hc1).1 Tryz.sizeOf41 (vs := [sV k_empty, sV k_empty, sV k_empty, iV 0, iV 0, bV false]) rfl rfl rfl rfl rfl ?_; clear S; intro w5 hk3 S
   refine l_done (blk_n (then_n (f_region (lv S (rn_add (S.tm rfl) rfl) rfl ?_)))); clear S; intro a S
   refine lv S (rn_move (S.tm rfl)) rfl ?_; clear S; intro a S
   refine l_done (then_n ?_)
   exact ⟨ys1, ⟨i1 + 1, (x1.set ((i1 : Int).toNat) (GBest.mk k_empty k_empty k_empty 0 0 false)), ⟨_, (hd1).trans (List.append_cons _ _ _), by simp [hi1]⟩, h, S.nf [true, true] rfl ⟨rfl, rfl, rfl, (congrArg (fun z => some (Value.int .i64 z)) (rng_next hd1 hi1 hm1)), trivial⟩⟩, Nat.lt_succ_self _⟩
 clear S h; rintro a w3 ⟨x1, h, S⟩; rw [hj1] at h; clear hj1 j1
 obtain rfl := Option.some.inj h
 exact f_ret0 S Tryz.results9 ⟨(S.holds _ (List.mem_of_getElem? (i := 1) rfl)), rfl⟩
theorem record_Open_ok (w : World) (v_p_l : Value) (p_l : List GStep) (hs_p_l : Slc (view w []) 8 v_p_l (p_l.map GStep.enc)) (p_at : Int) (r : (List ByteArray) × Int) (h : record_Open p_l p_at = some r) :
    Calls Tryz.prog 10 [v_p_l, iV p_at].toArray w (Ret w [] fun τ v _ => ∃ u1 : Value, v = .tuple #[u1, iV r.2] ∧ OwnV τ 9 1 u1 r.1.length (r.1.flatMap eStr)) := by
 refine f_enter [] [] Tryz.func10 rfl Tryz.ntmps10 rfl (by simp) (by simp [fps]) (by simp [fps]) fun a S => ?_
 unfold record_Open at h
 replace S := S.nk [] [(0, v_p_l), (1, iV p_at)] [] rfl (subR rfl)
 refine f_seq (f_region (lv S (rn_assign rfl) rfl ?_)); clear S; intro a S
 refine lv S (rn_assign rfl) rfl ?_; clear S; intro a S
 refine l_done (then_n (f_seq (f_seq (f_region (lv S (rn_move (S.tm rfl)) rfl ?_))))); clear S; intro a S
 obtain ⟨r1, hr1, h⟩ := bindE h
 refine l_enter S (fun _ => run_call (vs := [v_p_l]) ⟨(S.tm rfl), trivial⟩ Tryz.call22) (record_CheckSteps_ok _ v_p_l p_l (hs_p_l.mono (S.le_arg nil_sub)) _ hr1) rfl ?_; clear S; intro v1 a w1 hv1 hk1 hn1 S
 subst hv1
 refine lv S (rn_assign (S.tm rfl)) rfl ?_; clear S; intro a S
 refine l_done (then_n (f_seq (f_region (lv S (rn_move (S.tm rfl)) rfl ?_)))); clear S; intro a S
 refine lv S (rn_neq (S.tm rfl) rfl) rfl ?_; clear S; intro a S
 refine l_done (then_n (f_cond (S.tm rfl) (fun hb1 => ?_) (fun hb1 => ?_)))
 ·replace h := iteT h hb1
  refine f_seq (f_region (lv S (rn_move (S.tm rfl)) rfl ?_)); clear S; intro a S
  refine lv S (rn_assign rfl) rfl ?_; clear S; intro a S
  refine lv S (rn_assign (S.tm rfl)) rfl ?_; clear S; intro a S
  refine l_done (then_n (wp_ret (then_r ?_)))
  obtain rfl := Option.some.inj h
  exact f_ret2 S Tryz.results10 rfl rfl ⟨_, rfl, (ownV_nil _ _ _)⟩
 ·replace h := iteF h hb1
  refine wp_skip (then_n (f_seq (f_seq (f_region (lv S (rn_move (S.tm rfl)) rfl ?_))))); clear S; intro a S
  refine l_enter S (fun _ => run_call (vs := [iV p_at]) ⟨(S.tm rfl), trivial⟩ Tryz.call28) (words_IsMoment_ok _ p_at _ rfl) rfl ?_; clear S; intro v2 a w2 hv2 hk2 hn2 S
  subst hv2
  refine lv S (rn_not (S.tm rfl)) rfl ?_; clear S; intro a S
  refine l_done (then_n (f_cond (S.tm rfl) (fun hb2 => ?_) (fun hb2 => ?_)))
  ·replace h := iteT h hb2
   refine f_seq (f_region (lv S (rn_assign rfl) rfl ?_)); clear S; intro a S
   refine lv S (rn_assign rfl) rfl ?_; clear S; intro a S
   refine l_done (then_n (wp_ret (then_r ?_)))
   obtain rfl := Option.some.inj h
   exact f_ret2 S Tryz.results10 rfl rfl ⟨_, rfl, (ownV_nil _ _ _)⟩
  ·replace h := iteF h hb2
   refine wp_skip (then_n (f_seq (f_region (lv S (rn_move (S.tm rfl)) rfl ?_)))); clear S; intro a S
   refine lv S (rn_move (S.tm rfl)) rfl ?_; clear S; intro a S
   obtain ⟨r2, hr2, h⟩ := bindE h
   have hz1 := S.keep.size
   refine l_enter S (fun _ => run_call (vs := [v_p_l, iV p_at]) ⟨(S.tm rfl), (S.tm rfl), trivial⟩ Tryz.call29) (record_follow_ok _ v_p_l p_l (hs_p_l.mono (S.le_arg nil_sub)) p_at _ hr2) rfl ?_; clear S; intro v3 a w3 hv3 hk3 hn3 S
   obtain ⟨u1, u2, rfl, ho1, ho2⟩ := hv3
   obtain ⟨rs1, ho3, hr3⟩ := ho1
   obtain ⟨φ1, hl1, hm1, S⟩ := S.see' hn3 hz1
   have hs1 := ho3.mono hm1
   have hr4 := rels_68 hm1 hr3
   have hs2 := ho2.mono hm1
   refine lv S (rn_move (S.tm rfl)) rfl ?_; clear S; intro a S
   refine lv S (rn_extract (S.tm rfl) rfl) rfl ?_; clear S; intro a S
   refine lv S (rn_extract (S.tm rfl) rfl) rfl ?_; clear S; intro a S
   refine lv S (rn_assign (S.tm rfl)) rfl ?_; clear S; intro a S
   refine lv S (rn_assign (S.tm rfl)) rfl ?_; clear S; intro a S
   refine l_done ?_
   replace S := S.nk [] [(7, u1)] [] rfl ⟨rfl, trivial⟩
   refine then_n (f_seq (f_region (lv S (rn_assign rfl) rfl ?_))); clear S; intro a S
   replace S := S.nil 9 1
   refine l_done (then_n (f_seq (f_seq (f_region (lv S (rn_move (S.tm rfl)) rfl ?_))))); clear S; intro a S
   refine lv S (rn_lenT sl_64 (S.tm rfl) (slc_lenD hs1 hr4)) rfl ?_; clear S; intro a S
   refine lv S (rn_move rfl) rfl ?_; clear S; intro a S
   refine l_done (then_n ?_)
   replace S := S.nk [.own (.slice none 0 0) 9 1 ([] : List ByteArray).length (([] : List ByteArray).flatMap eStr)] [(9, (.slice none 0 0)), (26, u1), (27, iV (r2.1.length : Int)), (28, iV 0)] [true] rfl (subR rfl)
   obtain ⟨j1, hj1, h⟩ := joinE h
   refine f_join (fun a w' => ∃ x1 : List ByteArray, ∃ v4 : Value, j1 x1 = some r ∧ Sx w [] φ1 [.own v4 9 1 x1.length (x1.flatMap eStr)] [(9, v4)] 54 a w') ?_ ?_
   ·refine wp_block (f_loop (fun (ys1 : List Grecord_swum) a w' => ∃ i1 : Nat, ∃ x1 : List ByteArray, ∃ v4 : Value, (∃ dn, r2.1 = dn ++ ys1 ∧ dn.length = i1) ∧ record_Open_l1 j1 ys1 i1 x1 = some r ∧ Sx w [] φ1 [.own v4 9 1 x1.length (x1.flatMap eStr)] [(9, v4), (26, u1), (27, iV (r2.1.length : Int)), (28, iV (i1 : Int))] 54 a w') List.length r2.1 ⟨0, ([] : List ByteArray), (.slice none 0 0), ⟨[], rfl, rfl⟩, h, S.nf [true] rfl (subR rfl)⟩ ?_)
    clear S h; rintro ys1 a w4 ⟨i1, x1, v4, ⟨dn, hd1, hi1⟩, h, S⟩
    cases ys1 with
    | nil =>
     rw [record_Open_l1.eq_1] at h
     refine f_seq (f_region (lv S (rn_lss (S.tm rfl) (S.tm rfl)) rfl ?_)); clear S; intro a S
     refine l_done ?_
     replace S := S.nk [.own v4 9 1 x1.length (x1.flatMap eStr)] [(9, v4), (26, u1), (27, iV (r2.1.length : Int)), (28, iV (i1 : Int)), (29, bV (decide ((i1 : Int) < (r2.1.length : Int))))] [true] rfl (subR rfl)
     refine then_n (f_seq (wp_cond_false ((S.tm rfl).trans (congrArg Value.bool (rng_nil hd1 hi1))) (wp_exit (then_x (then_x (x_same ?_))))))
     refine then_n ?_
     exact ⟨x1, v4, h, S.nf [true] rfl ⟨rfl, trivial⟩⟩
    | cons y1 ys1 =>
     rw [record_Open_l1.eq_2] at h
     refine f_seq (f_region (lv S (rn_lss (S.tm rfl) (S.tm rfl)) rfl ?_)); clear S; intro a S
     refine l_done ?_
     replace S := S.nk [.own v4 9 1 x1.length (x1.flatMap eStr)] [(9, v4), (26, u1), (27, iV (r2.1.length : Int)), (28, iV (i1 : Int)), (29, bV (decide ((i1 : Int) < (r2.1.length : Int))))] [true] rfl (subR rfl)
     refine then_n (f_seq (wp_cond_true ((S.tm rfl).trans (congrArg Value.bool (rng_cons hd1 hi1))) (wp_skip (then_n (f_seq ?_)))))
     obtain ⟨j2, hj2, h⟩ := joinE h
     refine f_join (fun a w' => ∃ x2 : List ByteArray, ∃ v5 : Value, j2 x2 = some r ∧ Sx w [] φ1 [.own v5 9 1 x2.length (x2.flatMap eStr)] [(9, v5), (26, u1), (27, iV (r2.1.length : Int)), (28, iV (i1 : Int))] 54 a w') ?_ ?_
     ·refine wp_block (f_seq (f_region ?_))
      obtain ⟨r3, hg1, hl2⟩ := All2.at hr4 (get_mid hd1 hi1)
      have hb3 := hl2
      obtain ⟨b1, o1, hm2, hr5⟩ := rn_indexT (a := a) (x := .tmp 26) (y := .tmp 28) (ty := 0) sl_64 hs1 hg1 rfl (S.tm rfl) (S.tm rfl)
      refine lv S (hr5 _) rfl ?_; clear S; intro a S
      clear hr5
      refine lv S (rn_ld Tryz.isAgg68 (off := o1) (o := 0) (S.tm rfl) (hm2.at S.emb) rfl) rfl ?_; clear S; intro a S
      refine lv S (rn_assign (S.tm rfl)) rfl ?_; clear S; intro a S
      refine l_done (then_n (f_seq (f_region (lv S (rn_move (S.tm rfl)) rfl ?_)))); clear S; intro a S
      refine lv S (rn_nilCheck (S.tm rfl)) rfl ?_; clear S; intro a S
      refine lv S (rn_fld fa_70_1 (S.tm rfl)) rfl ?_; clear S; intro a S
      refine lv S (rn_ld Tryz.isAgg4 (off := 0) (o := 8) (S.tm rfl) ((mem_blk hb3).at S.emb) rfl) rfl ?_; clear S; intro a S
      refine lv S (rn_not (S.tm rfl)) rfl ?_; clear S; intro a S
      refine lv S (rn_move (S.tm rfl)) rfl ?_; clear S; intro a S
      refine f_cutm 6 (fun a w' => Keep [] w4 w' ∧ Sx w [] φ1 [.own v4 9 1 x1.length (x1.flatMap eStr)] [(9, v4), (11, .pointer (some ⟨r3, 0, none⟩)), (26, u1), (27, iV (r2.1.length : Int)), (28, iV (i1 : Int)), (43, bV ((!y1.sure_) && (!y1.void_)))] 54 a w') ?_ ?_
      ·rcases Bool.eq_false_or_eq_true (!y1.sure_) with hb4 | hb4
       ·refine l_want S rfl rfl rfl hb4 (lv S (rn_move (S.tm rfl)) rfl ?_); clear S; intro a S
        refine l_want S rfl rfl rfl hb4 (lv S (rn_nilCheck (S.tm rfl)) rfl ?_); clear S; intro a S
        refine l_want S rfl rfl rfl hb4 (lv S (rn_fld fa_70_2 (S.tm rfl)) rfl ?_); clear S; intro a S
        refine l_want S rfl rfl rfl hb4 (lv S (rn_ld Tryz.isAgg4 (off := 0) (o := 9) (S.tm rfl) ((mem_blk hb3).at S.emb) rfl) rfl ?_); clear S; intro a S
        refine l_want S rfl rfl rfl hb4 (lv S (rn_not (S.tm rfl)) rfl ?_); clear S; intro a S
        refine lv S (rn_and_t hb4 (S.tm rfl) (S.tm rfl)) rfl ?_; clear S; intro a S
        refine l_done (then_n ?_)
        exact ⟨Keep.refl _ _, S.nf [true] rfl (subR rfl)⟩
       ·iterate 5 (refine l_skip S rfl rfl rfl (neq_f hb4) rfl ?_ rfl; clear S; intro a S)
        refine lv S (rn_and_f (!y1.void_) hb4 (S.tm rfl) rfl) rfl ?_; clear S; intro a S
        refine l_done (then_n ?_)
        exact ⟨Keep.refl _ _, S.nf [true] rfl (subR rfl)⟩
      clear S; rintro a w7 ⟨hk4, S⟩
      refine l_done (then_n ?_)
      obtain ⟨j3, hj3, h⟩ := joinE h
      refine f_join (fun a w' => ∃ x3 : List ByteArray, ∃ v6 : Value, j3 x3 = some r ∧ Sx w [] φ1 [.own v6 9 1 x3.length (x3.flatMap eStr)] [(9, v6), (26, u1), (27, iV (r2.1.length : Int)), (28, iV (i1 : Int))] 54 a w') ?_ ?_
      ·refine f_cond (S.tm rfl) (fun hb5 => ?_) (fun hb5 => ?_)
       ·replace h := iteT h hb5
        refine f_region (lv S (rn_move (S.tm rfl)) rfl ?_); clear S; intro a S
        refine lv S (rn_move (S.tm rfl)) rfl ?_; clear S; intro a S
        refine lv S (rn_nilCheck (S.tm rfl)) rfl ?_; clear S; intro a S
        refine lv S (rn_fld fa_70_0 (S.tm rfl)) rfl ?_; clear S; intro a S
        refine lv S (rn_fld fa_35_2 (S.tm rfl)) rfl ?_; clear S; intro a S
        refine lv S (rn_ld Tryz.isAgg9 (off := 0) (o := 2) (S.tm rfl) ((mem_blk hb3).at S.emb) rfl) rfl ?_; clear S; intro a S
        refine l_buildSlice S Tryz.underlying42 Tryz.sizeOf9 Tryz.zeroValue9 rfl rfl (pv := [(0, sV y1.s_.Id)]) ⟨rfl, (S.tm rfl), trivial⟩ (cs := [sV y1.s_.Id]) (by kernel_rfl) rfl ?_; clear S; intro a w9 b2 hz2 hk5 S
        obtain ⟨hc1, h⟩ := chkE h
        refine l_appendT sl_42 enc_str S (S.tm rfl) (i := 1) rfl (S.tm rfl) (j := 0) rfl (ys := [y1.s_.Id]) rfl rfl rfl rfl (by have := room_lt hc1; omega) rfl ?_; clear S; intro v7 a w10 hk6 S
        refine lv S (rn_assign (S.tm rfl)) rfl ?_; clear S; intro a S
        refine l_done (then_n ?_)
        exact ⟨(x1 ++ [y1.s_.Id]), v7, h, S.nf [false, true] rfl (subR rfl)⟩
       ·replace h := iteF h hb5
        refine wp_skip (then_n ?_)
        exact ⟨x1, v4, h, S.nf [true] rfl (subR rfl)⟩
      clear S h; rintro a w8 ⟨x3, v6, h, S⟩; rw [hj3] at h; clear hj3 j3
      refine blk_n (then_n ?_)
      exact ⟨x3, v6, h, S.nf [true] rfl (subR rfl)⟩
     clear S h; rintro a w6 ⟨x2, v5, h, S⟩; rw [hj2] at h; clear hj2 j2
     refine then_n (f_region (lv S (rn_add (S.tm rfl) rfl) rfl ?_)); clear S; intro a S
     refine lv S (rn_move (S.tm rfl)) rfl ?_; clear S; intro a S
     refine l_done (then_n ?_)
     exact ⟨ys1, ⟨i1 + 1, x2, v5, ⟨_, (hd1).trans (List.append_cons _ _ _), by simp [hi1]⟩, h, S.nf [true] rfl ⟨rfl, rfl, rfl, (congrArg (fun z => some (Value.int .i64 z)) (rng_next hd1 hi1 (slc_maxD hs1 hr4))), trivial⟩⟩, Nat.lt_succ_self _⟩
   clear S h; rintro a w5 ⟨x1, v4, h, S⟩; rw [hj1] at h; clear hj1 j1
   refine then_n (f_seq (f_region (lv S (rn_move (S.tm rfl)) rfl ?_))); clear S; intro a S
   refine lv S (rn_assign (S.tm rfl)) rfl ?_; clear S; intro a S
   refine lv S (rn_assign rfl) rfl ?_; clear S; intro a S
   refine l_done (then_n (wp_ret ?_))
   obtain rfl := Option.some.inj h
   exact f_ret2 S Tryz.results10 rfl rfl ⟨_, rfl, (own_retT S (i := 0) rfl rfl)⟩
theorem tumbkeep2_spoil_string_ok (w : World) (v_p_l : Value) (p_l : List ByteArray) (hb_p_l : (LEnt.own v_p_l 9 1 p_l.length (p_l.flatMap eStr)).holds w) (r : (List ByteArray)) (h : tumbkeep2_spoil_string p_l = some r) :
    Calls Tryz.prog 11 [v_p_l].toArray w (Ret w (v_p_l.ownBlock.toList) fun _ v w' => (LEnt.own v_p_l 9 1 r.length (r.flatMap eStr)).holds w' ∧ v = .tuple #[]) := by
 refine f_enter (v_p_l.ownBlock.toList) [.own v_p_l 9 1 p_l.length (p_l.flatMap eStr)] Tryz.func11 rfl Tryz.ntmps11 rfl (fun e he => by simp only [List.mem_singleton] at he; subst he; exact hb_p_l) (fps_one_nodup _) (fps_one_sub _) fun a S => ?_
 unfold tumbkeep2_spoil_string at h
 replace S := S.nk [.own v_p_l 9 1 p_l.length (p_l.flatMap eStr)] [(0, v_p_l)] [true] rfl ⟨rfl, trivial⟩
 refine f_seq (f_region (lv S (rn_assign rfl) rfl ?_)); clear S; intro a S
 refine l_done (then_n (f_seq (f_region (lv S (rn_move (S.tm rfl)) rfl ?_)))); clear S; intro a S
 refine lv S (rn_lenT sl_42 (S.tm rfl) (own_len (S.own_at (i := 0) rfl))) rfl ?_; clear S; intro a S
 refine lv S (rn_move rfl) rfl ?_; clear S; intro a S
 refine l_done (then_n ?_)
 replace S := S.nk [.own v_p_l 9 1 p_l.length (p_l.flatMap eStr)] [(0, v_p_l), (2, sV k_empty), (5, iV (p_l.length : Int)), (6, iV 0)] [true] rfl (subR rfl)
 have hm1 := own_max (S.own_at (i := 0) rfl)
 obtain ⟨j1, hj1, h⟩ := joinE h
 refine f_join (fun a w' => ∃ x1 : List ByteArray, j1 x1 = some r ∧ Sx w (v_p_l.ownBlock.toList) nov [.own v_p_l 9 1 x1.length (x1.flatMap eStr)] [] 14 a w') ?_ ?_
 ·refine wp_block (f_loop (fun (ys1 : List ByteArray) a w' => ∃ i1 : Nat, ∃ x1 : List ByteArray, (∃ dn, p_l = dn ++ ys1 ∧ dn.length = i1) ∧ tumbkeep2_spoil_string_l1 j1 ys1 i1 x1 = some r ∧ Sx w (v_p_l.ownBlock.toList) nov [.own v_p_l 9 1 x1.length (x1.flatMap eStr)] [(0, v_p_l), (2, sV k_empty), (5, iV (p_l.length : Int)), (6, iV (i1 : Int))] 14 a w') List.length p_l ⟨0, p_l, ⟨[], rfl, rfl⟩, h, S.nf [true] rfl (subR rfl)⟩ ?_)
  clear S h; rintro ys1 a w1 ⟨i1, x1, ⟨dn, hd1, hi1⟩, h, S⟩
  cases ys1 with
  | nil =>
   rw [tumbkeep2_spoil_string_l1.eq_1] at h
   refine f_seq (f_region (lv S (rn_lss (S.tm rfl) (S.tm rfl)) rfl ?_)); clear S; intro a S
   refine l_done ?_
   replace S := S.nk [.own v_p_l 9 1 x1.length (x1.flatMap eStr)] [(0, v_p_l), (2, sV k_empty), (5, iV (p_l.length : Int)), (6, iV (i1 : Int)), (7, bV (decide ((i1 : Int) < (p_l.length : Int))))] [true] rfl (subR rfl)
   refine then_n (f_seq (wp_cond_false ((S.tm rfl).trans (congrArg Value.bool (rng_nil hd1 hi1))) (wp_exit (then_x (then_x (x_same ?_))))))
   refine then_n ?_
   exact ⟨x1, h, S.nf [true] rfl trivial⟩
  | cons y1 ys1 =>
   rw [tumbkeep2_spoil_string_l1.eq_2] at h
   refine f_seq (f_region (lv S (rn_lss (S.tm rfl) (S.tm rfl)) rfl ?_)); clear S; intro a S
   refine l_done ?_
   replace S := S.nk [.own v_p_l 9 1 x1.length (x1.flatMap eStr)] [(0, v_p_l), (2, sV k_empty), (5, iV (p_l.length : Int)), (6, iV (i1 : Int)), (7, bV (decide ((i1 : Int) < (p_l.length : Int))))] [true] rfl (subR rfl)
   refine then_n (f_seq (wp_cond_true ((S.tm rfl).trans (congrArg Value.bool (rng_cons hd1 hi1))) (wp_skip (then_n (f_seq (wp_block ?_))))))
   refine f_seq (f_region (lv S (rn_move (S.tm rfl)) rfl ?_)); clear S; intro a S
   refine lv S (rn_assign (S.tm rfl)) rfl ?_; clear S; intro a S
   refine l_done (then_n (f_region (lv S (rn_move (S.tm rfl)) rfl ?_))); clear S; intro a S
   refine lv S (rn_move (S.tm rfl)) rfl ?_; clear S; intro a S
   refine lv S (rn_move (S.tm rfl)) rfl ?_; clear S; intro a S
   obtain ⟨hc1, h⟩ := chkE h
   obtain ⟨b1, hg1, hr1⟩ := rn_indexS (a := a) (x := .tmp 9) (y := .tmp 10) (ty := 0) sl_42 enc_str S (i := 0) rfl (inB_get hc1).1 (inB_get hc1).2 (S.tm rfl) (S.tm rfl)
   refine lv S (hr1 _) rfl ?_; clear S; intro a S
   clear hr1
   refine l_storeO (c := 0) (j := (i1 : Int).toNat) k_empty enc_str S (S.tm rfl) (S.tm rfl) (i := 0) rfl hg1 (inB_get hc1).1 Tryz.sizeOf9 (vs := [sV k_empty]) rfl rfl rfl rfl rfl ?_; clear S; intro w4 hk2 S
   refine l_done (blk_n (then_n (f_region (lv S (rn_add (S.tm rfl) rfl) rfl ?_)))); clear S; intro a S
   refine lv S (rn_move (S.tm rfl)) rfl ?_; clear S; intro a S
   refine l_done (then_n ?_)
   exact ⟨ys1, ⟨i1 + 1, (x1.set ((i1 : Int).toNat) k_empty), ⟨_, (hd1).trans (List.append_cons _ _ _), by simp [hi1]⟩, h, S.nf [true] rfl ⟨rfl, rfl, rfl, (congrArg (fun z => some (Value.int .i64 z)) (rng_next hd1 hi1 hm1)), trivial⟩⟩, Nat.lt_succ_self _⟩
 clear S h; rintro a w2 ⟨x1, h, S⟩; rw [hj1] at h; clear hj1 j1
 obtain rfl := Option.some.inj h
 exact f_ret0 S Tryz.results11 ⟨(S.holds _ (List.mem_of_getElem? (i := 0) rfl)), rfl⟩
set_option maxRecDepth 20000 in
theorem slices_Equal_string_ok (w : World) (v_p_s1 : Value) (p_s1 : List ByteArray) (hs_p_s1 : Slc (view w []) 1 v_p_s1 (p_s1.map eStr)) (v_p_s2 : Value) (p_s2 : List ByteArray) (hs_p_s2 : Slc (view w []) 1 v_p_s2 (p_s2.map eStr)) (r : Bool) (h : slices_Equal_string p_s1 p_s2 = some r) :
    Calls Tryz.prog 13 [v_p_s1, v_p_s2].toArray w (Ret w [] fun _ v _ => v = bV r) := by
 refine f_enter [] [] Tryz.func13 rfl Tryz.ntmps13 rfl (by simp) (by simp [fps]) (by simp [fps]) fun a S => ?_
 unfold slices_Equal_string at h
 replace S := S.nk [] [(0, v_p_s1), (1, v_p_s2)] [] rfl (subR rfl)
 refine f_seq (f_region (lv S (rn_assign rfl) rfl ?_)); clear S; intro a S
 refine l_done (then_n (f_seq (f_seq (f_region (lv S (rn_move (S.tm rfl)) rfl ?_))))); clear S; intro a S
 refine lv S (rn_lenT sl_42 (S.tm rfl) (slc_len hs_p_s1)) rfl ?_; clear S; intro a S
 refine lv S (rn_move (S.tm rfl)) rfl ?_; clear S; intro a S
 refine lv S (rn_lenT sl_42 (S.tm rfl) (slc_len hs_p_s2)) rfl ?_; clear S; intro a S
 refine lv S (rn_neq (S.tm rfl) (S.tm rfl)) rfl ?_; clear S; intro a S
 refine l_done (then_n (f_cond (S.tm rfl) (fun hb1 => ?_) (fun hb1 => ?_)))
 ·replace h := iteT h hb1
  refine f_seq (f_region (lv S (rn_assign rfl) rfl ?_)); clear S; intro a S
  refine l_done (then_n (wp_ret (then_r ?_)))
  obtain rfl := Option.some.inj h
  exact f_ret S Tryz.results13 rfl rfl
 ·replace h := iteF h hb1
  refine wp_skip (then_n (f_seq (f_seq (f_region (lv S (rn_move (S.tm rfl)) rfl ?_))))); clear S; intro a S
  refine lv S (rn_lenT sl_42 (S.tm rfl) (slc_len hs_p_s1)) rfl ?_; clear S; intro a S
  refine lv S (rn_move rfl) rfl ?_; clear S; intro a S
  refine l_done (then_n ?_)
  replace S := S.nk [] [(0, v_p_s1), (1, v_p_s2), (12, iV (p_s1.length : Int)), (13, iV 0)] [] rfl (subR rfl)
  obtain ⟨j1, hj1, h⟩ := joinE h
  refine f_join (fun a w' => j1 = some r ∧ Sx w [] nov [] [] 26 a w') ?_ ?_
  ·refine wp_block (f_loop (fun (ys1 : List ByteArray) a w' => ∃ i1 : Nat, (∃ dn, p_s1 = dn ++ ys1 ∧ dn.length = i1) ∧ slices_Equal_string_l1 p_s2 j1 ys1 i1 = some r ∧ Sx w [] nov [] [(0, v_p_s1), (1, v_p_s2), (12, iV (p_s1.length : Int)), (13, iV (i1 : Int))] 26 a w') List.length p_s1 ⟨0, ⟨[], rfl, rfl⟩, h, S.nf [] rfl (subR rfl)⟩ ?_)
   clear S h; rintro ys1 a w1 ⟨i1, ⟨dn, hd1, hi1⟩, h, S⟩
   cases ys1 with
   | nil =>
    rw [slices_Equal_string_l1.eq_1] at h
    refine f_seq (f_region (lv S (rn_lss (S.tm rfl) (S.tm rfl)) rfl ?_)); clear S; intro a S
    refine l_done ?_
    replace S := S.nk [] [(0, v_p_s1), (1, v_p_s2), (12, iV (p_s1.length : Int)), (13, iV (i1 : Int)), (14, bV (decide ((i1 : Int) < (p_s1.length : Int))))] [] rfl (subR rfl)
    refine then_n (f_seq (wp_cond_false ((S.tm rfl).trans (congrArg Value.bool (rng_nil hd1 hi1))) (wp_exit (then_x (then_x (x_same ?_))))))
    refine then_n ?_
    exact ⟨h, S.nf [] rfl trivial⟩
   | cons y1 ys1 =>
    rw [slices_Equal_string_l1.eq_2] at h
    refine f_seq (f_region (lv S (rn_lss (S.tm rfl) (S.tm rfl)) rfl ?_)); clear S; intro a S
    refine l_done ?_
    replace S := S.nk [] [(0, v_p_s1), (1, v_p_s2), (12, iV (p_s1.length : Int)), (13, iV (i1 : Int)), (14, bV (decide ((i1 : Int) < (p_s1.length : Int))))] [] rfl (subR rfl)
    refine then_n (f_seq (wp_cond_true ((S.tm rfl).trans (congrArg Value.bool (rng_cons hd1 hi1))) (wp_skip (then_n (f_seq (wp_block ?_))))))
    refine f_seq (f_region (lv S (rn_move (S.tm rfl)) rfl ?_)); clear S; intro a S
    refine lv S (rn_assign (S.tm rfl)) rfl ?_; clear S; intro a S
    refine l_done (then_n (f_seq (d_region [] ([]) Tryz.mixed S rfl (by kernel_rfl) ?_))); clear S; intro w3 hk1 hsel S
    refine d_rest [0, 1, 2, 3, 4, 5, 6, 7, 8] hsel (by kernel_rfl) rfl ?_
    clear hsel
    refine s_lv S rfl (rn_move (S.tm rfl)) rfl ?_; clear S; intro a S
    refine s_lv S rfl (rn_move (S.tm rfl)) rfl ?_; clear S; intro a S
    obtain ⟨b1, o1, hm1, hr1⟩ := rn_indexT (a := a) (x := .tmp 16) (y := .tmp 17) (ty := 0) sl_42 hs_p_s1 (get_mid hd1 hi1) rfl (S.tm rfl) (S.tm rfl)
    refine s_lv S rfl (hr1 _) rfl ?_; clear S; intro a S
    clear hr1
    refine s_lv S rfl (rn_ld Tryz.isAgg9 (off := o1) (o := 0) (S.tm rfl) (hm1.at S.emb0) rfl) rfl ?_; clear S; intro a S
    refine s_lv S rfl (rn_move (S.tm rfl)) rfl ?_; clear S; intro a S
    refine s_lv S rfl (rn_move (S.tm rfl)) rfl ?_; clear S; intro a S
    obtain ⟨hc1, h⟩ := chkE h
    obtain ⟨b2, o2, hm2, hr2⟩ := rn_indexT (a := a) (x := .tmp 20) (y := .tmp 21) (ty := 0) sl_42 hs_p_s2 (inB_get hc1).1 (inB_get hc1).2 (S.tm rfl) (S.tm rfl)
    refine s_lv S rfl (hr2 _) rfl ?_; clear S; intro a S
    clear hr2
    refine s_lv S rfl (rn_ld Tryz.isAgg9 (off := o2) (o := 0) (S.tm rfl) (hm2.at S.emb0) rfl) rfl ?_; clear S; intro a S
    refine s_lv S rfl (rn_sneq (S.tm rfl) (S.tm rfl)) rfl ?_; clear S; intro a S
    refine s_done ?_
    replace S := S.nk [] [(0, v_p_s1), (1, v_p_s2), (12, iV (p_s1.length : Int)), (13, iV (i1 : Int)), (24, bV (!decide (y1 = (nth p_s2 (i1 : Int)))))] [] rfl (subR rfl)
    refine then_n (f_cond (S.tm rfl) (fun hb2 => ?_) (fun hb2 => ?_))
    ·replace h := iteT h hb2
     refine f_seq (f_region (lv S (rn_assign rfl) rfl ?_)); clear S; intro a S
     refine l_done (then_n (wp_ret (blk_r (then_r (then_r (blk_r ?_))))))
     refine then_r (then_r ?_)
     obtain rfl := Option.some.inj h
     exact f_ret S Tryz.results13 rfl rfl
    ·replace h := iteF h hb2
     refine wp_skip (blk_n (then_n (f_region (lv S (rn_add (S.tm rfl) rfl) rfl ?_)))); clear S; intro a S
     refine lv S (rn_move (S.tm rfl)) rfl ?_; clear S; intro a S
     refine l_done (then_n ?_)
     exact ⟨ys1, ⟨i1 + 1, ⟨_, (hd1).trans (List.append_cons _ _ _), by simp [hi1]⟩, h, S.nf [] rfl ⟨rfl, rfl, rfl, (congrArg (fun z => some (Value.int .i64 z)) (rng_next hd1 hi1 (slc_max hs_p_s1))), trivial⟩⟩, Nat.lt_succ_self _⟩
  clear S h; rintro a w2 ⟨h, S⟩; rw [hj1] at h; clear hj1 j1
  refine then_n (f_seq (f_region (lv S (rn_assign rfl) rfl ?_))); clear S; intro a S
  refine l_done (then_n (wp_ret ?_))
  obtain rfl := Option.some.inj h
  exact f_ret S Tryz.results13 rfl rfl
theorem tumbkeep2_RecordsStay_c1_ok (w : World) (p_p : GKind) (q_p_p : R47) (hq_p_p : rel_47 (view w []) p_p q_p_p) (p_q : GKind) (q_p_q : R47) (hq_p_q : rel_47 (view w []) p_q q_p_q) (r : Bool) (h : tumbkeep2_RecordsStay_c1 p_p p_q = some r) :
    Calls Tryz.prog 12 [.agg (R47.enc q_p_p).toArray, .agg (R47.enc q_p_q).toArray].toArray w (Ret w [] fun _ v _ => v = bV r) := by
 obtain ⟨u1, rfl, hs1⟩ := hq_p_p
 obtain ⟨u2, rfl, hs2⟩ := hq_p_q
 refine f_enter [] [] Tryz.func12 rfl Tryz.ntmps12 rfl (by simp) (by simp [fps]) (by simp [fps]) fun a S => ?_
 unfold tumbkeep2_RecordsStay_c1 at h
 replace S := S.nk [] [(0, .agg #[sV p_p.Key, sV p_p.Race, u1.val, iV p_p.Young, iV p_p.Old]), (1, .agg #[sV p_q.Key, sV p_q.Race, u2.val, iV p_q.Young, iV p_q.Old])] [] rfl (subR rfl)
 refine f_seq (f_region (l_box S (S.tm rfl) (cs := [sV p_p.Key, sV p_p.Race, u1.val, iV p_p.Young, iV p_p.Old]) rfl rfl ?_)); clear S; intro a w1 b1 hz1 hk1 S
 refine l_box S (S.tm rfl) (cs := [sV p_q.Key, sV p_q.Race, u2.val, iV p_q.Young, iV p_q.Old]) rfl rfl ?_; clear S; intro a w2 b2 hz2 hk2 S
 refine lv S (rn_assign rfl) rfl ?_; clear S; intro a S
 refine l_done (then_n (f_seq (f_region (lv S (rn_fld fa_47_0 (S.tm rfl)) rfl ?_)))); clear S; intro a S
 refine lv S (rn_load Tryz.isAgg9 (S.tm rfl) (S.cell (i := 1) rfl rfl)) rfl ?_; clear S; intro a S
 refine lv S (rn_fld fa_47_0 (S.tm rfl)) rfl ?_; clear S; intro a S
 refine lv S (rn_load Tryz.isAgg9 (S.tm rfl) (S.cell (i := 0) rfl rfl)) rfl ?_; clear S; intro a S
 refine lv S (rn_seql (S.tm rfl) (S.tm rfl)) rfl ?_; clear S; intro a S
 refine lv S (rn_move (S.tm rfl)) rfl ?_; clear S; intro a S
 refine f_cutm 6 (fun a w' => Keep [] w2 w' ∧ Sx w [] nov [.blk b2 [sV p_q.Key, sV p_q.Race, u2.val, iV p_q.Young, iV p_q.Old] 47, .blk b1 [sV p_p.Key, sV p_p.Race, u1.val, iV p_p.Young, iV p_p.Old] 47] [(2, .pointer (some ⟨b1, 0, none⟩)), (3, .pointer (some ⟨b2, 0, none⟩)), (16, bV ((decide (p_p.Key = p_q.Key)) && (decide (p_p.Race = p_q.Race))))] 38 a w') ?_ ?_
 ·rcases Bool.eq_false_or_eq_true (decide (p_p.Key = p_q.Key)) with hb1 | hb1
  ·refine l_want S rfl rfl rfl hb1 (lv S (rn_fld fa_47_1 (S.tm rfl)) rfl ?_); clear S; intro a S
   refine l_want S rfl rfl rfl hb1 (lv S (rn_load Tryz.isAgg9 (S.tm rfl) (S.cell (i := 1) rfl rfl)) rfl ?_); clear S; intro a S
   refine l_want S rfl rfl rfl hb1 (lv S (rn_fld fa_47_1 (S.tm rfl)) rfl ?_); clear S; intro a S
   refine l_want S rfl rfl rfl hb1 (lv S (rn_load Tryz.isAgg9 (S.tm rfl) (S.cell (i := 0) rfl rfl)) rfl ?_); clear S; intro a S
   refine l_want S rfl rfl rfl hb1 (lv S (rn_seql (S.tm rfl) (S.tm rfl)) rfl ?_); clear S; intro a S
   refine lv S (rn_and_t hb1 (S.tm rfl) (S.tm rfl)) rfl ?_; clear S; intro a S
   refine l_done (then_n ?_)
   exact ⟨Keep.refl _ _, S.nf [true, true] rfl (subR rfl)⟩
  ·iterate 5 (refine l_skip S rfl rfl rfl (neq_f hb1) rfl ?_ rfl; clear S; intro a S)
   refine lv S (rn_and_f (decide (p_p.Race = p_q.Race)) hb1 (S.tm rfl) rfl) rfl ?_; clear S; intro a S
   refine l_done (then_n ?_)
   exact ⟨Keep.refl _ _, S.nf [true, true] rfl (subR rfl)⟩
 clear S; rintro a w3 ⟨hk3, S⟩
 refine lv S (rn_move (S.tm rfl)) rfl ?_; clear S; intro a S
 refine f_cutm 6 (fun a w' => Keep [] w3 w' ∧ Sx w [] nov [.blk b2 [sV p_q.Key, sV p_q.Race, u2.val, iV p_q.Young, iV p_q.Old] 47, .blk b1 [sV p_p.Key, sV p_p.Race, u1.val, iV p_p.Young, iV p_p.Old] 47] [(2, .pointer (some ⟨b1, 0, none⟩)), (3, .pointer (some ⟨b2, 0, none⟩)), (23, bV (((decide (p_p.Key = p_q.Key)) && (decide (p_p.Race = p_q.Race))) && (decide (p_p.Young = p_q.Young))))] 38 a w') ?_ ?_
 ·rcases Bool.eq_false_or_eq_true ((decide (p_p.Key = p_q.Key)) && (decide (p_p.Race = p_q.Race))) with hb2 | hb2
  ·refine l_want S rfl rfl rfl hb2 (lv S (rn_fld fa_47_3 (S.tm rfl)) rfl ?_); clear S; intro a S
   refine l_want S rfl rfl rfl hb2 (lv S (rn_load Tryz.isAgg3 (S.tm rfl) (S.cell (i := 1) rfl rfl)) rfl ?_); clear S; intro a S
   refine l_want S rfl rfl rfl hb2 (lv S (rn_fld fa_47_3 (S.tm rfl)) rfl ?_); clear S; intro a S
   refine l_want S rfl rfl rfl hb2 (lv S (rn_load Tryz.isAgg3 (S.tm rfl) (S.cell (i := 0) rfl rfl)) rfl ?_); clear S; intro a S
   refine l_want S rfl rfl rfl hb2 (lv S (rn_eql (S.tm rfl) (S.tm rfl)) rfl ?_); clear S; intro a S
   refine lv S (rn_and_t hb2 (S.tm rfl) (S.tm rfl)) rfl ?_; clear S; intro a S
   refine l_done (then_n ?_)
   exact ⟨Keep.refl _ _, S.nf [true, true] rfl (subR rfl)⟩
  ·iterate 5 (refine l_skip S rfl rfl rfl (neq_f hb2) rfl ?_ rfl; clear S; intro a S)
   refine lv S (rn_and_f (decide (p_p.Young = p_q.Young)) hb2 (S.tm rfl) rfl) rfl ?_; clear S; intro a S
   refine l_done (then_n ?_)
   exact ⟨Keep.refl _ _, S.nf [true, true] rfl (subR rfl)⟩
 clear S; rintro a w4 ⟨hk4, S⟩
 refine lv S (rn_move (S.tm rfl)) rfl ?_; clear S; intro a S
 refine f_cutm 6 (fun a w' => Keep [] w4 w' ∧ Sx w [] nov [.blk b2 [sV p_q.Key, sV p_q.Race, u2.val, iV p_q.Young, iV p_q.Old] 47, .blk b1 [sV p_p.Key, sV p_p.Race, u1.val, iV p_p.Young, iV p_p.Old] 47] [(2, .pointer (some ⟨b1, 0, none⟩)), (3, .pointer (some ⟨b2, 0, none⟩)), (30, bV ((((decide (p_p.Key = p_q.Key)) && (decide (p_p.Race = p_q.Race))) && (decide (p_p.Young = p_q.Young))) && (decide (p_p.Old = p_q.Old))))] 38 a w') ?_ ?_
 ·rcases Bool.eq_false_or_eq_true (((decide (p_p.Key = p_q.Key)) && (decide (p_p.Race = p_q.Race))) && (decide (p_p.Young = p_q.Young))) with hb3 | hb3
  ·refine l_want S rfl rfl rfl hb3 (lv S (rn_fld fa_47_4 (S.tm rfl)) rfl ?_); clear S; intro a S
   refine l_want S rfl rfl rfl hb3 (lv S (rn_load Tryz.isAgg3 (S.tm rfl) (S.cell (i := 1) rfl rfl)) rfl ?_); clear S; intro a S
   refine l_want S rfl rfl rfl hb3 (lv S (rn_fld fa_47_4 (S.tm rfl)) rfl ?_); clear S; intro a S
   refine l_want S rfl rfl rfl hb3 (lv S (rn_load Tryz.isAgg3 (S.tm rfl) (S.cell (i := 0) rfl rfl)) rfl ?_); clear S; intro a S
   refine l_want S rfl rfl rfl hb3 (lv S (rn_eql (S.tm rfl) (S.tm rfl)) rfl ?_); clear S; intro a S
   refine lv S (rn_and_t hb3 (S.tm rfl) (S.tm rfl)) rfl ?_; clear S; intro a S
   refine l_done (then_n ?_)
   exact ⟨Keep.refl _ _, S.nf [true, true] rfl (subR rfl)⟩
  ·iterate 5 (refine l_skip S rfl rfl rfl (neq_f hb3) rfl ?_ rfl; clear S; intro a S)
   refine lv S (rn_and_f (decide (p_p.Old = p_q.Old)) hb3 (S.tm rfl) rfl) rfl ?_; clear S; intro a S
   refine l_done (then_n ?_)
   exact ⟨Keep.refl _ _, S.nf [true, true] rfl (subR rfl)⟩
 clear S; rintro a w5 ⟨hk5, S⟩
 refine lv S (rn_move (S.tm rfl)) rfl ?_; clear S; intro a S
 obtain ⟨j1, hj1, h⟩ := joinE h
 refine f_cutm 6 (fun a w' => ∃ c1, j1 c1 = some r ∧ Keep [] w5 w' ∧ Sx w [] nov [.blk b2 [sV p_q.Key, sV p_q.Race, u2.val, iV p_q.Young, iV p_q.Old] 47, .blk b1 [sV p_p.Key, sV p_p.Race, u1.val, iV p_p.Young, iV p_p.Old] 47] [(37, bV c1)] 38 a w') ?_ ?_
 ·rcases Bool.eq_false_or_eq_true ((((decide (p_p.Key = p_q.Key)) && (decide (p_p.Race = p_q.Race))) && (decide (p_p.Young = p_q.Young))) && (decide (p_p.Old = p_q.Old))) with hb4 | hb4
  ·replace h := iteT h hb4
   refine l_want S rfl rfl rfl hb4 (lv S (rn_fld fa_47_2 (S.tm rfl)) rfl ?_); clear S; intro a S
   refine l_want S rfl rfl rfl hb4 (lv S (rn_load Tryz.isAgg42 (S.tm rfl) (S.cell (i := 1) rfl rfl)) rfl ?_); clear S; intro a S
   refine l_want S rfl rfl rfl hb4 (lv S (rn_fld fa_47_2 (S.tm rfl)) rfl ?_); clear S; intro a S
   refine l_want S rfl rfl rfl hb4 (lv S (rn_load Tryz.isAgg42 (S.tm rfl) (S.cell (i := 0) rfl rfl)) rfl ?_); clear S; intro a S
   refine l_want S rfl rfl rfl hb4 ?_
   obtain ⟨r1, hr1, h⟩ := bindE h
   refine l_enter S (fun _ => run_call (vs := [u1.val, u2.val]) ⟨(S.tm rfl), (S.tm rfl), trivial⟩ Tryz.call13) (slices_Equal_string_ok _ u1.val p_p.Clubs (hs1.mono (S.le_arg nil_sub)) u2.val p_q.Clubs (hs2.mono (S.le_arg nil_sub)) _ hr1) rfl ?_; clear S; intro v1 a w7 hv1 hk6 hn1 S
   subst hv1
   refine lv S (rn_and_t hb4 (S.tm rfl) (S.tm rfl)) rfl ?_; clear S; intro a S
   refine l_done (then_n ?_)
   exact ⟨_, h, hk6, S.nf [true, true] rfl ⟨rfl, trivial⟩⟩
  ·replace h := iteF h hb4
   iterate 5 (refine l_skip S rfl rfl rfl (neq_f hb4) rfl ?_ rfl; clear S; intro a S)
   refine lv S (rn_and_f true hb4 (S.tm rfl) rfl) rfl ?_; clear S; intro a S
   refine l_done (then_n ?_)
   exact ⟨_, h, Keep.refl _ _, S.nf [true, true] rfl ⟨rfl, trivial⟩⟩
 clear S h; rintro a w6 ⟨c1, h, hk7, S⟩; rw [hj1] at h; clear hj1 j1
 refine lv S (rn_assign (S.tm rfl)) rfl ?_; clear S; intro a S
 refine l_done (then_n (wp_ret ?_))
 obtain rfl := Option.some.inj h
 exact f_ret S Tryz.results12 rfl rfl
theorem slices_EqualFunc_Kind_tumbkeep2_RecordsStay_c1_ok (w : World) (v_p_s1 : Value) (p_s1 : List GKind) (rs_p_s1 : List R47) (hs_p_s1 : Slc (view w []) 5 v_p_s1 (rs_p_s1.map R47.enc)) (hr_p_s1 : All2 (rel_47 (view w [])) p_s1 rs_p_s1) (v_p_s2 : Value) (p_s2 : List GKind) (rs_p_s2 : List R47) (hs_p_s2 : Slc (view w []) 5 v_p_s2 (rs_p_s2.map R47.enc)) (hr_p_s2 : All2 (rel_47 (view w [])) p_s2 rs_p_s2) (r : Bool) (h : slices_EqualFunc_Kind_tumbkeep2_RecordsStay_c1 p_s1 p_s2 = some r) :
    Calls Tryz.prog 14 [v_p_s1, v_p_s2, .func (.func 12) #[] #[]].toArray w (Ret w [] fun _ v _ => v = bV r) := by
 refine f_enter [] [] Tryz.func14 rfl Tryz.ntmps14 rfl (by simp) (by simp [fps]) (by simp [fps]) fun a S => ?_
 unfold slices_EqualFunc_Kind_tumbkeep2_RecordsStay_c1 at h
 replace S := S.nk [] [(0, v_p_s1), (1, v_p_s2), (2, .func (.func 12) #[] #[])] [] rfl (subR rfl)
 refine f_seq (f_region (lv S (rn_assign rfl) rfl ?_)); clear S; intro a S
 refine l_done (then_n (f_seq (f_seq (f_region (lv S (rn_move (S.tm rfl)) rfl ?_))))); clear S; intro a S
 refine lv S (rn_lenT sl_26 (S.tm rfl) (slc_lenD hs_p_s1 hr_p_s1)) rfl ?_; clear S; intro a S
 refine lv S (rn_move (S.tm rfl)) rfl ?_; clear S; intro a S
 refine lv S (rn_lenT sl_26 (S.tm rfl) (slc_lenD hs_p_s2 hr_p_s2)) rfl ?_; clear S; intro a S
 refine lv S (rn_neq (S.tm rfl) (S.tm rfl)) rfl ?_; clear S; intro a S
 refine l_done (then_n (f_cond (S.tm rfl) (fun hb1 => ?_) (fun hb1 => ?_)))
 ·replace h := iteT h hb1
  refine f_seq (f_region (lv S (rn_assign rfl) rfl ?_)); clear S; intro a S
  refine l_done (then_n (wp_ret (then_r ?_)))
  obtain rfl := Option.some.inj h
  exact f_ret S Tryz.results14 rfl rfl
 ·replace h := iteF h hb1
  refine wp_skip (then_n (f_seq (f_seq (f_region (lv S (rn_move (S.tm rfl)) rfl ?_))))); clear S; intro a S
  refine lv S (rn_lenT sl_26 (S.tm rfl) (slc_lenD hs_p_s1 hr_p_s1)) rfl ?_; clear S; intro a S
  refine lv S (rn_move rfl) rfl ?_; clear S; intro a S
  refine l_done (then_n ?_)
  replace S := S.nk [] [(1, v_p_s2), (2, .func (.func 12) #[] #[]), (15, v_p_s1), (16, iV (p_s1.length : Int)), (17, iV 0)] [] rfl (subR rfl)
  obtain ⟨j1, hj1, h⟩ := joinE h
  refine f_join (fun a w' => j1 = some r ∧ Sx w [] nov [] [] 32 a w') ?_ ?_
  ·refine wp_block (f_loop (fun (ys1 : List GKind) a w' => ∃ i1 : Nat, (∃ dn, p_s1 = dn ++ ys1 ∧ dn.length = i1) ∧ slices_EqualFunc_Kind_tumbkeep2_RecordsStay_c1_l1 p_s2 j1 ys1 i1 = some r ∧ Sx w [] nov [] [(1, v_p_s2), (2, .func (.func 12) #[] #[]), (15, v_p_s1), (16, iV (p_s1.length : Int)), (17, iV (i1 : Int))] 32 a w') List.length p_s1 ⟨0, ⟨[], rfl, rfl⟩, h, S.nf [] rfl (subR rfl)⟩ ?_)
   clear S h; rintro ys1 a w1 ⟨i1, ⟨dn, hd1, hi1⟩, h, S⟩
   cases ys1 with
   | nil =>
    rw [slices_EqualFunc_Kind_tumbkeep2_RecordsStay_c1_l1.eq_1] at h
    refine f_seq (f_region (lv S (rn_lss (S.tm rfl) (S.tm rfl)) rfl ?_)); clear S; intro a S
    refine l_done ?_
    replace S := S.nk [] [(1, v_p_s2), (2, .func (.func 12) #[] #[]), (15, v_p_s1), (16, iV (p_s1.length : Int)), (17, iV (i1 : Int)), (18, bV (decide ((i1 : Int) < (p_s1.length : Int))))] [] rfl (subR rfl)
    refine then_n (f_seq (wp_cond_false ((S.tm rfl).trans (congrArg Value.bool (rng_nil hd1 hi1))) (wp_exit (then_x (then_x (x_same ?_))))))
    refine then_n ?_
    exact ⟨h, S.nf [] rfl trivial⟩
   | cons y1 ys1 =>
    rw [slices_EqualFunc_Kind_tumbkeep2_RecordsStay_c1_l1.eq_2] at h
    refine f_seq (f_region (lv S (rn_lss (S.tm rfl) (S.tm rfl)) rfl ?_)); clear S; intro a S
    refine l_done ?_
    replace S := S.nk [] [(1, v_p_s2), (2, .func (.func 12) #[] #[]), (15, v_p_s1), (16, iV (p_s1.length : Int)), (17, iV (i1 : Int)), (18, bV (decide ((i1 : Int) < (p_s1.length : Int))))] [] rfl (subR rfl)
    refine then_n (f_seq (wp_cond_true ((S.tm rfl).trans (congrArg Value.bool (rng_cons hd1 hi1))) (wp_skip (then_n (f_seq (wp_block ?_))))))
    refine f_seq (f_region (lv S (rn_move (S.tm rfl)) rfl ?_)); clear S; intro a S
    obtain ⟨r1, hg1, hl1⟩ := All2.at hr_p_s1 (get_mid hd1 hi1)
    obtain ⟨u1, rfl, hs1⟩ := hl1
    obtain ⟨b1, o1, hm1, hr1⟩ := rn_indexT (a := a) (x := .tmp 15) (y := .tmp 17) (ty := 0) sl_26 hs_p_s1 hg1 rfl (S.tm rfl) (S.tm rfl)
    refine lv S (hr1 _) rfl ?_; clear S; intro a S
    clear hr1
    refine lv S (rn_ldA Tryz.isAgg47 Tryz.sizeOf47 (off := o1) (o := 0) (part := [sV y1.Key, sV y1.Race, u1.val, iV y1.Young, iV y1.Old]) rfl rfl (S.tm rfl) (hm1.at S.emb0)) rfl ?_; clear S; intro a S
    refine l_alloc S Tryz.zeroValue47 (cs := [sV k_empty, sV k_empty, .slice none 0 0, iV 0, iV 0]) rfl rfl ?_; clear S; intro a w3 b2 hz1 hk1 S
    refine lv S (rn_assign (S.tm rfl)) rfl ?_; clear S; intro a S
    refine l_store S (S.tm rfl) (S.tm rfl) (i := 0) (off := 0) rfl Tryz.sizeOf47 (vs := [sV y1.Key, sV y1.Race, u1.val, iV y1.Young, iV y1.Old]) rfl rfl rfl (all1 rfl (all1 rfl (all1 (SlcLen.one (slc_len hs1)) (all1 rfl (all1 rfl rfl))))) ?_; clear S; intro w4 hk2 S
    refine l_done (then_n (f_seq (f_region (lv S (rn_move (S.tm rfl)) rfl ?_)))); clear S; intro a S
    refine lv S (rn_move (S.tm rfl)) rfl ?_; clear S; intro a S
    obtain ⟨hc1, h⟩ := chkE h
    obtain ⟨r2, hg2, hl2⟩ := all2_get hr_p_s2 hc1
    obtain ⟨u2, rfl, hs2⟩ := hl2
    obtain ⟨b3, o2, hm2, hr2⟩ := rn_indexT (a := a) (x := .tmp 22) (y := .tmp 23) (ty := 0) sl_26 hs_p_s2 hg2 (inB_get hc1).2 (S.tm rfl) (S.tm rfl)
    refine lv S (hr2 _) rfl ?_; clear S; intro a S
    clear hr2
    refine lv S (rn_ldA Tryz.isAgg47 Tryz.sizeOf47 (off := o2) (o := 0) (part := [sV ((nth p_s2 (i1 : Int)).Key), sV ((nth p_s2 (i1 : Int)).Race), u2.val, iV ((nth p_s2 (i1 : Int)).Young), iV ((nth p_s2 (i1 : Int)).Old)]) rfl rfl (S.tm rfl) (hm2.at S.emb0)) rfl ?_; clear S; intro a S
    refine l_alloc S Tryz.zeroValue47 (cs := [sV k_empty, sV k_empty, .slice none 0 0, iV 0, iV 0]) rfl rfl ?_; clear S; intro a w5 b4 hz2 hk3 S
    refine l_store S (S.tm rfl) (S.tm rfl) (i := 0) (off := 0) rfl Tryz.sizeOf47 (vs := [sV ((nth p_s2 (i1 : Int)).Key), sV ((nth p_s2 (i1 : Int)).Race), u2.val, iV ((nth p_s2 (i1 : Int)).Young), iV ((nth p_s2 (i1 : Int)).Old)]) rfl rfl rfl (all1 rfl (all1 rfl (all1 (SlcLen.one (slc_len hs2)) (all1 rfl (all1 rfl rfl))))) ?_; clear S; intro w6 hk4 S
    refine l_done ?_
    replace S := S.nk [.blk b4 [sV ((nth p_s2 (i1 : Int)).Key), sV ((nth p_s2 (i1 : Int)).Race), u2.val, iV ((nth p_s2 (i1 : Int)).Young), iV ((nth p_s2 (i1 : Int)).Old)] 47, .blk b2 [sV y1.Key, sV y1.Race, u1.val, iV y1.Young, iV y1.Old] 47] [(1, v_p_s2), (2, .func (.func 12) #[] #[]), (8, .pointer (some ⟨b2, 0, none⟩)), (9, .pointer (some ⟨b4, 0, none⟩)), (15, v_p_s1), (16, iV (p_s1.length : Int)), (17, iV (i1 : Int))] [true, true] rfl (subR rfl)
    refine then_n (f_seq (f_region (lv S (rn_move (S.tm rfl)) rfl ?_))); clear S; intro a S
    refine lv S (rn_ldA Tryz.isAgg47 Tryz.sizeOf47 (off := 0) (o := 0) (part := [sV y1.Key, sV y1.Race, u1.val, iV y1.Young, iV y1.Old]) rfl rfl (S.tm rfl) (S.cellsAt (i := 1) rfl)) rfl ?_; clear S; intro a S
    refine lv S (rn_ldA Tryz.isAgg47 Tryz.sizeOf47 (off := 0) (o := 0) (part := [sV ((nth p_s2 (i1 : Int)).Key), sV ((nth p_s2 (i1 : Int)).Race), u2.val, iV ((nth p_s2 (i1 : Int)).Young), iV ((nth p_s2 (i1 : Int)).Old)]) rfl rfl (S.tm rfl) (S.cellsAt (i := 0) rfl)) rfl ?_; clear S; intro a S
    obtain ⟨r3, hr3, h⟩ := bindE h
    refine l_enter S (fun _ => run_callV (cap := []) (S.tm rfl) (vs := [.agg (R47.enc (R47.mk y1.Key y1.Race u1 y1.Young y1.Old)).toArray, .agg (R47.enc (R47.mk ((nth p_s2 (i1 : Int)).Key) ((nth p_s2 (i1 : Int)).Race) u2 ((nth p_s2 (i1 : Int)).Young) ((nth p_s2 (i1 : Int)).Old))).toArray]) ⟨(S.tm rfl), (S.tm rfl), trivial⟩ Tryz.call12) (tumbkeep2_RecordsStay_c1_ok _ y1 (R47.mk y1.Key y1.Race u1 y1.Young y1.Old) ⟨u1, rfl, (hs1.mono (S.le_arg nil_sub))⟩ (nth p_s2 (i1 : Int)) (R47.mk ((nth p_s2 (i1 : Int)).Key) ((nth p_s2 (i1 : Int)).Race) u2 ((nth p_s2 (i1 : Int)).Young) ((nth p_s2 (i1 : Int)).Old)) ⟨u2, rfl, (hs2.mono (S.le_arg nil_sub))⟩ _ hr3) rfl ?_; clear S; intro v1 a w7 hv1 hk5 hn1 S
    subst hv1
    refine lv S (rn_not (S.tm rfl)) rfl ?_; clear S; intro a S
    refine l_done (then_n (f_cond (S.tm rfl) (fun hb2 => ?_) (fun hb2 => ?_)))
    ·replace h := iteT h hb2
     refine f_seq (f_region (lv S (rn_assign rfl) rfl ?_)); clear S; intro a S
     refine l_done (then_n (wp_ret (blk_r (then_r (then_r (blk_r ?_))))))
     refine then_r (then_r ?_)
     obtain rfl := Option.some.inj h
     exact f_ret S Tryz.results14 rfl rfl
    ·replace h := iteF h hb2
     refine wp_skip (blk_n (then_n (f_region (lv S (rn_add (S.tm rfl) rfl) rfl ?_)))); clear S; intro a S
     refine lv S (rn_move (S.tm rfl)) rfl ?_; clear S; intro a S
     refine l_done (then_n ?_)
     exact ⟨ys1, ⟨i1 + 1, ⟨_, (hd1).trans (List.append_cons _ _ _), by simp [hi1]⟩, h, S.nf [false, false] rfl ⟨rfl, rfl, rfl, rfl, (congrArg (fun z => some (Value.int .i64 z)) (rng_next hd1 hi1 (slc_maxD hs_p_s1 hr_p_s1))), trivial⟩⟩, Nat.lt_succ_self _⟩
  clear S h; rintro a w2 ⟨h, S⟩; rw [hj1] at h; clear hj1 j1
  refine then_n (f_seq (f_region (lv S (rn_assign rfl) rfl ?_))); clear S; intro a S
  refine l_done (then_n (wp_ret ?_))
  obtain rfl := Option.some.inj h
  exact f_ret S Tryz.results14 rfl rfl
set_option maxRecDepth 20000 in
theorem slices_Equal_Step_ok (w : World) (v_p_s1 : Value) (p_s1 : List GStep) (hs_p_s1 : Slc (view w []) 8 v_p_s1 (p_s1.map GStep.enc)) (v_p_s2 : Value) (p_s2 : List GStep) (hs_p_s2 : Slc (view w []) 8 v_p_s2 (p_s2.map GStep.enc)) (r : Bool) (h : slices_Equal_Step p_s1 p_s2 = some r) :
    Calls Tryz.prog 15 [v_p_s1, v_p_s2].toArray w (Ret w [] fun _ v _ => v = bV r) := by
 refine f_enter [] [] Tryz.func15 rfl Tryz.ntmps15 rfl (by simp) (by simp [fps]) (by simp [fps]) fun a S => ?_
 unfold slices_Equal_Step at h
 replace S := S.nk [] [(0, v_p_s1), (1, v_p_s2)] [] rfl (subR rfl)
 refine f_seq (f_region (lv S (rn_assign rfl) rfl ?_)); clear S; intro a S
 refine l_done (then_n (f_seq (f_seq (f_region (lv S (rn_move (S.tm rfl)) rfl ?_))))); clear S; intro a S
 refine lv S (rn_lenT sl_28 (S.tm rfl) (slc_len hs_p_s1)) rfl ?_; clear S; intro a S
 refine lv S (rn_move (S.tm rfl)) rfl ?_; clear S; intro a S
 refine lv S (rn_lenT sl_28 (S.tm rfl) (slc_len hs_p_s2)) rfl ?_; clear S; intro a S
 refine lv S (rn_neq (S.tm rfl) (S.tm rfl)) rfl ?_; clear S; intro a S
 refine l_done (then_n (f_cond (S.tm rfl) (fun hb1 => ?_) (fun hb1 => ?_)))
 ·replace h := iteT h hb1
  refine f_seq (f_region (lv S (rn_assign rfl) rfl ?_)); clear S; intro a S
  refine l_done (then_n (wp_ret (then_r ?_)))
  obtain rfl := Option.some.inj h
  exact f_ret S Tryz.results15 rfl rfl
 ·replace h := iteF h hb1
  refine wp_skip (then_n (f_seq (f_seq (f_region (lv S (rn_move (S.tm rfl)) rfl ?_))))); clear S; intro a S
  refine lv S (rn_lenT sl_28 (S.tm rfl) (slc_len hs_p_s1)) rfl ?_; clear S; intro a S
  refine lv S (rn_move rfl) rfl ?_; clear S; intro a S
  refine l_done (then_n ?_)
  replace S := S.nk [] [(0, v_p_s1), (1, v_p_s2), (12, iV (p_s1.length : Int)), (13, iV 0)] [] rfl (subR rfl)
  obtain ⟨j1, hj1, h⟩ := joinE h
  refine f_join (fun a w' => j1 = some r ∧ Sx w [] nov [] [] 26 a w') ?_ ?_
  ·refine wp_block (f_loop (fun (ys1 : List GStep) a w' => ∃ i1 : Nat, (∃ dn, p_s1 = dn ++ ys1 ∧ dn.length = i1) ∧ slices_Equal_Step_l1 p_s2 j1 ys1 i1 = some r ∧ Sx w [] nov [] [(0, v_p_s1), (1, v_p_s2), (12, iV (p_s1.length : Int)), (13, iV (i1 : Int))] 26 a w') List.length p_s1 ⟨0, ⟨[], rfl, rfl⟩, h, S.nf [] rfl (subR rfl)⟩ ?_)
   clear S h; rintro ys1 a w1 ⟨i1, ⟨dn, hd1, hi1⟩, h, S⟩
   cases ys1 with
   | nil =>
    rw [slices_Equal_Step_l1.eq_1] at h
    refine f_seq (f_region (lv S (rn_lss (S.tm rfl) (S.tm rfl)) rfl ?_)); clear S; intro a S
    refine l_done ?_
    replace S := S.nk [] [(0, v_p_s1), (1, v_p_s2), (12, iV (p_s1.length : Int)), (13, iV (i1 : Int)), (14, bV (decide ((i1 : Int) < (p_s1.length : Int))))] [] rfl (subR rfl)
    refine then_n (f_seq (wp_cond_false ((S.tm rfl).trans (congrArg Value.bool (rng_nil hd1 hi1))) (wp_exit (then_x (then_x (x_same ?_))))))
    refine then_n ?_
    exact ⟨h, S.nf [] rfl trivial⟩
   | cons y1 ys1 =>
    rw [slices_Equal_Step_l1.eq_2] at h
    refine f_seq (f_region (lv S (rn_lss (S.tm rfl) (S.tm rfl)) rfl ?_)); clear S; intro a S
    refine l_done ?_
    replace S := S.nk [] [(0, v_p_s1), (1, v_p_s2), (12, iV (p_s1.length : Int)), (13, iV (i1 : Int)), (14, bV (decide ((i1 : Int) < (p_s1.length : Int))))] [] rfl (subR rfl)
    refine then_n (f_seq (wp_cond_true ((S.tm rfl).trans (congrArg Value.bool (rng_cons hd1 hi1))) (wp_skip (then_n (f_seq (wp_block ?_))))))
    refine f_seq (f_region (lv S (rn_move (S.tm rfl)) rfl ?_)); clear S; intro a S
    refine lv S (rn_assign (S.tm rfl)) rfl ?_; clear S; intro a S
    refine l_done (then_n (f_seq (d_region [] ([]) Tryz.mixed S rfl (by kernel_rfl) ?_))); clear S; intro w3 hk1 hsel S
    refine d_rest [0, 1, 2, 3, 4, 5, 6, 7, 8] hsel (by kernel_rfl) rfl ?_
    clear hsel
    refine s_lv S rfl (rn_move (S.tm rfl)) rfl ?_; clear S; intro a S
    refine s_lv S rfl (rn_move (S.tm rfl)) rfl ?_; clear S; intro a S
    obtain ⟨b1, o1, hm1, hr1⟩ := rn_indexT (a := a) (x := .tmp 16) (y := .tmp 17) (ty := 0) sl_28 hs_p_s1 (get_mid hd1 hi1) rfl (S.tm rfl) (S.tm rfl)
    refine s_lv S rfl (hr1 _) rfl ?_; clear S; intro a S
    clear hr1
    refine s_lv S rfl (rn_ldA Tryz.isAgg35 Tryz.sizeOf35 (off := o1) (o := 0) (part := (GStep.enc y1)) rfl rfl (S.tm rfl) (hm1.at S.emb0)) rfl ?_; clear S; intro a S
    refine s_lv S rfl (rn_move (S.tm rfl)) rfl ?_; clear S; intro a S
    refine s_lv S rfl (rn_move (S.tm rfl)) rfl ?_; clear S; intro a S
    obtain ⟨hc1, h⟩ := chkE h
    obtain ⟨b2, o2, hm2, hr2⟩ := rn_indexT (a := a) (x := .tmp 20) (y := .tmp 21) (ty := 0) sl_28 hs_p_s2 (inB_get hc1).1 (inB_get hc1).2 (S.tm rfl) (S.tm rfl)
    refine s_lv S rfl (hr2 _) rfl ?_; clear S; intro a S
    clear hr2
    refine s_lv S rfl (rn_ldA Tryz.isAgg35 Tryz.sizeOf35 (off := o2) (o := 0) (part := (GStep.enc (nth p_s2 (i1 : Int)))) rfl rfl (S.tm rfl) (hm2.at S.emb0)) rfl ?_; clear S; intro a S
    refine s_lv S rfl (rn_neq_35 (m := y1) (n := (nth p_s2 (i1 : Int))) (S.tm rfl) (S.tm rfl)) rfl ?_; clear S; intro a S
    refine s_done ?_
    replace S := S.nk [] [(0, v_p_s1), (1, v_p_s2), (12, iV (p_s1.length : Int)), (13, iV (i1 : Int)), (24, bV (!decide (y1 = (nth p_s2 (i1 : Int)))))] [] rfl (subR rfl)
    refine then_n (f_cond (S.tm rfl) (fun hb2 => ?_) (fun hb2 => ?_))
    ·replace h := iteT h hb2
     refine f_seq (f_region (lv S (rn_assign rfl) rfl ?_)); clear S; intro a S
     refine l_done (then_n (wp_ret (blk_r (then_r (then_r (blk_r ?_))))))
     refine then_r (then_r ?_)
     obtain rfl := Option.some.inj h
     exact f_ret S Tryz.results15 rfl rfl
    ·replace h := iteF h hb2
     refine wp_skip (blk_n (then_n (f_region (lv S (rn_add (S.tm rfl) rfl) rfl ?_)))); clear S; intro a S
     refine lv S (rn_move (S.tm rfl)) rfl ?_; clear S; intro a S
     refine l_done (then_n ?_)
     exact ⟨ys1, ⟨i1 + 1, ⟨_, (hd1).trans (List.append_cons _ _ _), by simp [hi1]⟩, h, S.nf [] rfl ⟨rfl, rfl, rfl, (congrArg (fun z => some (Value.int .i64 z)) (rng_next hd1 hi1 (slc_max hs_p_s1))), trivial⟩⟩, Nat.lt_succ_self _⟩
  clear S h; rintro a w2 ⟨h, S⟩; rw [hj1] at h; clear hj1 j1
  refine then_n (f_seq (f_region (lv S (rn_assign rfl) rfl ?_))); clear S; intro a S
  refine l_done (then_n (wp_ret ?_))
  obtain rfl := Option.some.inj h
  exact f_ret S Tryz.results15 rfl rfl
theorem swimmer_leap_ok (w : World) (p_year : Int) (r : Bool) (h : swimmer_leap p_year = r) :
    Calls Tryz.prog 85 [iV p_year].toArray w (Ret w [] fun _ v _ => v = bV r) := by
 refine f_enter [] [] Tryz.func85 rfl Tryz.ntmps85 rfl (by simp) (by simp [fps]) (by simp [fps]) fun a S => ?_
 unfold swimmer_leap at h
 replace S := S.nk [] [(0, iV p_year)] [] rfl ⟨rfl, trivial⟩
 refine f_seq (f_region (lv S (rn_assign rfl) rfl ?_)); clear S; intro a S
 refine l_done (then_n (f_seq (f_region (lv S (rn_move (S.tm rfl)) rfl ?_)))); clear S; intro a S
 refine lv S (rn_rem (S.tm rfl) rfl (by decide)) rfl ?_; clear S; intro a S
 refine lv S (rn_eql (S.tm rfl) rfl) rfl ?_; clear S; intro a S
 refine lv S (rn_move (S.tm rfl)) rfl ?_; clear S; intro a S
 refine f_cutm 9 (fun a w' => Keep [] w w' ∧ Sx w [] nov [] [(15, bV ((decide ((Int.tmod p_year 4) = 0)) && ((!decide ((Int.tmod p_year 100) = 0)) || (decide ((Int.tmod p_year 400) = 0)))))] 16 a w') ?_ ?_
 ·rcases Bool.eq_false_or_eq_true (decide ((Int.tmod p_year 4) = 0)) with hb1 | hb1
  ·refine l_want S rfl rfl rfl hb1 (lv S (rn_move (S.tm rfl)) rfl ?_); clear S; intro a S
   refine l_want S rfl rfl rfl hb1 (lv S (rn_rem (S.tm rfl) rfl (by decide)) rfl ?_); clear S; intro a S
   refine l_want S rfl rfl rfl hb1 (lv S (rn_neq (S.tm rfl) rfl) rfl ?_); clear S; intro a S
   refine l_want S rfl rfl rfl hb1 (lv S (rn_move (S.tm rfl)) rfl ?_); clear S; intro a S
   refine f_cutm 4 (fun a w' => Keep [] w w' ∧ Sx w [] nov [] [(6, bV (decide ((Int.tmod p_year 4) = 0))), (14, bV ((!decide ((Int.tmod p_year 100) = 0)) || (decide ((Int.tmod p_year 400) = 0))))] 16 a w') ?_ ?_
   ·rcases Bool.eq_false_or_eq_true (!decide ((Int.tmod p_year 100) = 0)) with hb2 | hb2
    ·iterate 3 (refine l_skip S rfl rfl rfl (neq_t hb2) rfl ?_ rfl; clear S; intro a S)
     refine l_want S rfl rfl rfl hb1 (lv S (rn_or_t (decide ((Int.tmod p_year 400) = 0)) hb2 (S.tm rfl) rfl) rfl ?_); clear S; intro a S
     refine l_done (then_n ?_)
     exact ⟨Keep.refl _ _, S.nf [] rfl (subR rfl)⟩
    ·refine l_want S rfl rfl rfl hb2 (lv S (rn_move (S.tm rfl)) rfl ?_); clear S; intro a S
     refine l_want S rfl rfl rfl hb2 (lv S (rn_rem (S.tm rfl) rfl (by decide)) rfl ?_); clear S; intro a S
     refine l_want S rfl rfl rfl hb2 (lv S (rn_eql (S.tm rfl) rfl) rfl ?_); clear S; intro a S
     refine l_want S rfl rfl rfl hb1 (lv S (rn_or_f hb2 (S.tm rfl) (S.tm rfl)) rfl ?_); clear S; intro a S
     refine l_done (then_n ?_)
     exact ⟨Keep.refl _ _, S.nf [] rfl (subR rfl)⟩
   clear S; rintro a w2 ⟨hk1, S⟩
   refine lv S (rn_and_t hb1 (S.tm rfl) (S.tm rfl)) rfl ?_; clear S; intro a S
   refine l_done (then_n ?_)
   exact ⟨hk1, S.nf [] rfl ⟨rfl, trivial⟩⟩
  ·iterate 4 (refine l_skip S rfl rfl rfl (neq_f hb1) rfl ?_ rfl; clear S; intro a S)
   iterate 3 (refine l_skipU S rfl rfl rfl rfl ?_; clear S; intro a S)
   refine l_skip S rfl rfl rfl (neq_f hb1) rfl ?_ rfl; clear S; intro a S
   refine lv S (rn_and_f ((!decide ((Int.tmod p_year 100) = 0)) || (decide ((Int.tmod p_year 400) = 0))) hb1 (S.tm rfl) rfl) rfl ?_; clear S; intro a S
   refine l_done (then_n ?_)
   exact ⟨Keep.refl _ _, S.nf [] rfl ⟨rfl, trivial⟩⟩
 clear S; rintro a w1 ⟨hk2, S⟩
 refine lv S (rn_assign (S.tm rfl)) rfl ?_; clear S; intro a S
 refine l_done (then_n (wp_ret ?_))
 subst h
 exact f_ret S Tryz.results85 rfl rfl
theorem swimmer_long_ok (w : World) (p_year : Int) (p_month : Int) (r : Int) (h : swimmer_long p_year p_month = r) :
    Calls Tryz.prog 53 [iV p_year, iV p_month].toArray w (Ret w [] fun _ v _ => v = iV r) := by
 refine f_enter [] [] Tryz.func53 rfl Tryz.ntmps53 rfl (by simp) (by simp [fps]) (by simp [fps]) fun a S => ?_
 unfold swimmer_long at h
 replace S := S.nk [] [(0, iV p_year), (1, iV p_month)] [] rfl (subR rfl)
 refine f_seq (f_region (lv S (rn_assign rfl) rfl ?_)); clear S; intro a S
 refine l_done (then_n (f_seq (f_seq (f_region (lv S (rn_move (S.tm rfl)) rfl ?_))))); clear S; intro a S
 refine l_done (then_n (wp_block (f_seq (f_region (lv S (rn_eql (S.tm rfl) rfl) rfl ?_))))); clear S; intro a S
 refine lv S (rn_assign (S.tm rfl)) rfl ?_; clear S; intro a S
 refine l_done (then_n (f_cond (S.tm rfl) (fun hb1 => ?_) (fun hb1 => ?_)))
 ·replace h := iteT h hb1
  refine f_seq (f_seq (f_region (lv S (rn_move (S.tm rfl)) rfl ?_))); clear S; intro a S
  refine l_enter S (fun _ => run_call (vs := [iV p_year]) ⟨(S.tm rfl), trivial⟩ Tryz.call85) (swimmer_leap_ok _ p_year _ rfl) rfl ?_; clear S; intro v1 a w1 hv1 hk1 hn1 S
  subst hv1
  refine l_done (then_n (f_cond (S.tm rfl) (fun hb2 => ?_) (fun hb2 => ?_)))
  ·replace h := iteT h hb2
   refine f_seq (f_region (lv S (rn_assign rfl) rfl ?_)); clear S; intro a S
   refine l_done (then_n (wp_ret (then_r (blk_r (then_r ?_)))))
   subst h
   exact f_ret S Tryz.results53 rfl rfl
  ·replace h := iteF h hb2
   refine wp_skip (then_n (f_seq (f_region (lv S (rn_assign rfl) rfl ?_)))); clear S; intro a S
   refine l_done (then_n (wp_ret (blk_r (then_r ?_))))
   subst h
   exact f_ret S Tryz.results53 rfl rfl
 ·replace h := iteF h hb1
  refine f_seq (f_seq (f_region (lv S (rn_eql (S.tm rfl) rfl) rfl ?_))); clear S; intro a S
  refine lv S (rn_assign (S.tm rfl)) rfl ?_; clear S; intro a S
  refine l_done (then_n ?_)
  obtain ⟨j1, hj1, h⟩ := joinE h
  refine f_join (fun a w' => ∃ x1 : Bool, j1 x1 = r ∧ Sx w [] nov [] [(10, bV x1)] 15 a w') ?_ ?_
  ·refine f_cond (S.tm rfl) (fun hb3 => ?_) (fun hb3 => ?_)
   ·replace h := iteT h hb3
    refine wp_skip (then_n ?_)
    exact ⟨decide (p_month = 4), h, S.nf [] rfl ⟨rfl, trivial⟩⟩
   ·replace h := iteF h hb3
    refine f_seq (f_region (lv S (rn_eql (S.tm rfl) rfl) rfl ?_)); clear S; intro a S
    refine lv S (rn_assign (S.tm rfl)) rfl ?_; clear S; intro a S
    refine l_done (then_n ?_)
    obtain ⟨j2, hj2, h⟩ := joinE h
    refine f_join (fun a w' => ∃ x2 : Bool, j2 x2 = r ∧ Sx w [] nov [] [(10, bV x2)] 15 a w') ?_ ?_
    ·refine f_cond (S.tm rfl) (fun hb4 => ?_) (fun hb4 => ?_)
     ·replace h := iteT h hb4
      refine wp_skip (then_n ?_)
      exact ⟨decide (p_month = 6), h, S.nf [] rfl ⟨rfl, trivial⟩⟩
     ·replace h := iteF h hb4
      refine f_seq (f_region (lv S (rn_eql (S.tm rfl) rfl) rfl ?_)); clear S; intro a S
      refine lv S (rn_assign (S.tm rfl)) rfl ?_; clear S; intro a S
      refine l_done (then_n ?_)
      obtain ⟨j3, hj3, h⟩ := joinE h
      refine f_join (fun a w' => ∃ x3 : Bool, j3 x3 = r ∧ Sx w [] nov [] [(10, bV x3)] 15 a w') ?_ ?_
      ·refine f_cond (S.tm rfl) (fun hb5 => ?_) (fun hb5 => ?_)
       ·replace h := iteT h hb5
        refine wp_skip (then_n ?_)
        exact ⟨decide (p_month = 9), h, S.nf [] rfl ⟨rfl, trivial⟩⟩
       ·replace h := iteF h hb5
        refine f_region (lv S (rn_eql (S.tm rfl) rfl) rfl ?_); clear S; intro a S
        refine lv S (rn_assign (S.tm rfl)) rfl ?_; clear S; intro a S
        refine l_done (then_n ?_)
        exact ⟨decide (p_month = 11), h, S.nf [] rfl ⟨rfl, trivial⟩⟩
      clear S h; rintro a w4 ⟨x3, h, S⟩; rw [hj3] at h; clear hj3 j3
      refine then_n ?_
      exact ⟨x3, h, S.nf [] rfl ⟨rfl, trivial⟩⟩
    clear S h; rintro a w3 ⟨x2, h, S⟩; rw [hj2] at h; clear hj2 j2
    refine then_n ?_
    exact ⟨x2, h, S.nf [] rfl ⟨rfl, trivial⟩⟩
  clear S h; rintro a w2 ⟨x1, h, S⟩; rw [hj1] at h; clear hj1 j1
  refine then_n (f_cond (S.tm rfl) (fun hb6 => ?_) (fun hb6 => ?_))
  ·replace h := iteT h hb6
   refine f_seq (f_region (lv S (rn_assign rfl) rfl ?_)); clear S; intro a S
   refine l_done (then_n (wp_ret (blk_r (then_r ?_))))
   subst h
   exact f_ret S Tryz.results53 rfl rfl
  ·replace h := iteF h hb6
   refine wp_skip (blk_n (then_n (f_seq (f_region (lv S (rn_assign rfl) rfl ?_))))); clear S; intro a S
   refine l_done (then_n (wp_ret ?_))
   subst h
   exact f_ret S Tryz.results53 rfl rfl
theorem swimmer_yearLong_ok (w : World) (p_year : Int) (r : Int) (h : swimmer_yearLong p_year = r) :
    Calls Tryz.prog 54 [iV p_year].toArray w (Ret w [] fun _ v _ => v = iV r) := by
 refine f_enter [] [] Tryz.func54 rfl Tryz.ntmps54 rfl (by simp) (by simp [fps]) (by simp [fps]) fun a S => ?_
 unfold swimmer_yearLong at h
 replace S := S.nk [] [(0, iV p_year)] [] rfl ⟨rfl, trivial⟩
 refine f_seq (f_region (lv S (rn_assign rfl) rfl ?_)); clear S; intro a S
 refine l_done (then_n (f_seq (f_seq (f_region (lv S (rn_move (S.tm rfl)) rfl ?_))))); clear S; intro a S
 refine l_enter S (fun _ => run_call (vs := [iV p_year]) ⟨(S.tm rfl), trivial⟩ Tryz.call85) (swimmer_leap_ok _ p_year _ rfl) rfl ?_; clear S; intro v1 a w1 hv1 hk1 hn1 S
 subst hv1
 refine l_done (then_n (f_cond (S.tm rfl) (fun hb1 => ?_) (fun hb1 => ?_)))
 ·replace h := iteT h hb1
  refine f_seq (f_region (lv S (rn_assign rfl) rfl ?_)); clear S; intro a S
  refine l_done (then_n (wp_ret (then_r ?_)))
  subst h
  exact f_ret S Tryz.results54 rfl rfl
 ·replace h := iteF h hb1
  refine wp_skip (then_n (f_seq (f_region (lv S (rn_assign rfl) rfl ?_)))); clear S; intro a S
  refine l_done (then_n (wp_ret ?_))
  subst h
  exact f_ret S Tryz.results54 rfl rfl
theorem swimmer_isDay_ok (w : World) (p_n : Int) (r : Bool) (h : swimmer_isDay p_n = r) :
    Calls Tryz.prog 55 [iV p_n].toArray w (Ret w [] fun _ v _ => v = bV r) := by
 refine f_enter [] [] Tryz.func55 rfl Tryz.ntmps55 rfl (by simp) (by simp [fps]) (by simp [fps]) fun a S => ?_
 unfold swimmer_isDay at h
 replace S := S.nk [] [(0, iV p_n)] [] rfl ⟨rfl, trivial⟩
 refine f_seq (f_region (lv S (rn_assign rfl) rfl ?_)); clear S; intro a S
 refine l_done (then_n (f_seq (f_region (lv S (rn_move (S.tm rfl)) rfl ?_)))); clear S; intro a S
 refine l_enter S (fun _ => run_call (vs := [iV p_n, iV (-40000), iV 4000]) ⟨(S.tm rfl), rfl, rfl, trivial⟩ Tryz.call52) (words_Within_ok _ p_n (-40000) 4000 _ rfl) rfl ?_; clear S; intro v1 a w1 hv1 hk1 hn1 S
 subst hv1
 refine lv S (rn_assign (S.tm rfl)) rfl ?_; clear S; intro a S
 refine l_done (then_n (wp_ret ?_))
 subst h
 exact f_ret S Tryz.results55 rfl rfl
end Go.Proofs.YtigenjanhebbeaaGreatDoor
