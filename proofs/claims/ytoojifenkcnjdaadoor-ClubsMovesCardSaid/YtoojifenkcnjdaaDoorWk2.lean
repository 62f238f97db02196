/- Each Go function computes its plain twin, by program. -/
import Derived.Test.YtoojifenkcnjdaaDoorWk1
namespace Go.Proofs.YtoojifenkcnjdaaDoor
open Go
set_option maxRecDepth 20000 in
theorem tumbref2_MovesFault_ok (w : World) (v_p_l : Value) (p_l : List GMove) (hs_p_l : Slc (view w []) 3 v_p_l (p_l.map GMove.enc)) (r : Int) (h : tumbref2_MovesFault p_l = some r) :
    Calls Tryd.prog 9 [v_p_l].toArray w (Ret w [] fun τ v w' => v = .int .i64 r) := by
  refine f_enter [] [] Tryd.func9 rfl Tryd.ntmps9 rfl (by simp) (by simp [fps]) (by simp [fps]) fun a S => ?_
  unfold tumbref2_MovesFault at h
  replace S := S.nf (L' := []) (K' := [(0, v_p_l)]) [] rfl ⟨rfl, trivial⟩
  refine f_seq ?_
  refine f_region ?_
  refine lv S (rn_assign rfl) rfl ?_; clear S; intro a S
  refine l_done ?_
  replace S := S.nf (L' := []) (K' := [(0, v_p_l)]) [] rfl ⟨rfl, trivial⟩
  refine then_n ?_
  refine f_seq ?_
  refine f_seq ?_
  refine f_region ?_
  refine lv S (rn_move (S.tm rfl)) rfl ?_; clear S; intro a S
  refine lv S (rn_lenT sl_26 (S.tm rfl) (slc_len hs_p_l)) rfl ?_; clear S; intro a S
  refine lv S (rn_gtr (S.tm rfl) rfl) rfl ?_; clear S; intro a S
  refine l_done ?_
  replace S := S.nf (L' := []) (K' := [(0, v_p_l), (8, .bool (decide (1000 < (p_l.length : Int))))]) [] rfl ⟨rfl, rfl, trivial⟩
  refine then_n ?_
  refine f_cond (S.tm rfl) (fun hb1 => ?_) (fun hb1 => ?_)
  · replace h := iteT h hb1
    refine f_seq ?_
    refine f_region ?_
    refine lv S (rn_assign rfl) rfl ?_; clear S; intro a S
    refine l_done ?_
    replace S := S.nf (L' := []) (K' := [(2, .int .i64 2)]) [] rfl ⟨rfl, trivial⟩
    refine then_n ?_
    refine wp_ret ?_
    refine then_r ?_
    obtain rfl := Option.some.inj h
    exact f_ret S Tryd.results9 rfl rfl
  · replace h := iteF h hb1
    refine wp_skip ?_
    refine then_n ?_
    refine f_seq ?_
    refine f_seq ?_
    refine f_region ?_
    refine lv S (rn_move (S.tm rfl)) rfl ?_; clear S; intro a S
    refine lv S (rn_lenT sl_26 (S.tm rfl) (slc_len hs_p_l)) rfl ?_; clear S; intro a S
    refine lv S (rn_move rfl) rfl ?_; clear S; intro a S
    refine l_done ?_
    replace S := S.nf (L' := []) (K' := [(0, v_p_l), (9, v_p_l), (10, .int .i64 (p_l.length : Int)), (11, .int .i64 0)]) [] rfl ⟨rfl, rfl, rfl, rfl, trivial⟩
    refine then_n ?_
    obtain ⟨j1, hj1, h⟩ := joinE h
    refine f_join (fun a w' => j1 = some r ∧ Sx w [] nov [] [] 74 a w') ?_ ?_
    · refine wp_block ?_
      refine f_loop (fun (ys1 : List GMove) a w' => ∃ i1 : Nat, (∃ dn, p_l = dn ++ ys1 ∧ dn.length = i1) ∧ tumbref2_MovesFault_l1 p_l j1 ys1 i1 = some r ∧ Sx w [] nov [] [(0, v_p_l), (9, v_p_l), (10, .int .i64 (p_l.length : Int)), (11, .int .i64 (i1 : Int))] 74 a w') List.length p_l ⟨0, ⟨[], rfl, rfl⟩, h, S.nf [] rfl ⟨rfl, rfl, rfl, rfl, trivial⟩⟩ ?_
      clear S h; rintro ys1 a w1 ⟨i1, ⟨dn, hd1, hi1⟩, h, S⟩
      cases ys1 with
      | nil =>
        rw [tumbref2_MovesFault_l1.eq_1] at h
        refine f_seq ?_
        refine f_region ?_
        refine lv S (rn_lss (S.tm rfl) (S.tm rfl)) rfl ?_; clear S; intro a S
        refine l_done ?_
        replace S := S.nf (L' := []) (K' := [(0, v_p_l), (9, v_p_l), (10, .int .i64 (p_l.length : Int)), (11, .int .i64 (i1 : Int)), (12, .bool (decide ((i1 : Int) < (p_l.length : Int))))]) [] rfl ⟨rfl, rfl, rfl, rfl, rfl, trivial⟩
        refine then_n ?_
        refine f_seq ?_
        refine wp_cond_false ((S.tm rfl).trans (congrArg Value.bool (rng_nil hd1 hi1))) ?_
        refine wp_exit ?_
        refine then_x ?_
        refine then_x ?_
        refine x_same ?_
        refine then_n ?_
        exact ⟨h, S.nf [] rfl trivial⟩
      | cons y1 ys1 =>
        rw [tumbref2_MovesFault_l1.eq_2] at h
        refine f_seq ?_
        refine f_region ?_
        refine lv S (rn_lss (S.tm rfl) (S.tm rfl)) rfl ?_; clear S; intro a S
        refine l_done ?_
        replace S := S.nf (L' := []) (K' := [(0, v_p_l), (9, v_p_l), (10, .int .i64 (p_l.length : Int)), (11, .int .i64 (i1 : Int)), (12, .bool (decide ((i1 : Int) < (p_l.length : Int))))]) [] rfl ⟨rfl, rfl, rfl, rfl, rfl, trivial⟩
        refine then_n ?_
        refine f_seq ?_
        refine wp_cond_true ((S.tm rfl).trans (congrArg Value.bool (rng_cons hd1 hi1))) ?_
        refine wp_skip ?_
        refine then_n ?_
        refine f_seq ?_
        refine wp_block ?_
        refine f_seq ?_
        refine f_region ?_
        refine lv S (rn_move (S.tm rfl)) rfl ?_; clear S; intro a S
        obtain ⟨b1, o1, hm1, hr1⟩ := rn_indexT (a := a) (x := .tmp 9) (y := .tmp 11) (ty := 0) sl_26 hs_p_l (get_mid hd1 hi1) rfl (S.tm rfl) (S.tm rfl)
        refine lv S (hr1 _) rfl ?_; clear S; intro a S
        clear hr1
        refine lv S (rn_ldA Tryd.isAgg59 Tryd.sizeOf59 (off := o1) (o := 0) (part := [.string y1.Who, .string y1.Club, .int .i64 y1.Day]) rfl rfl (S.tm rfl) (hm1.at S.emb0)) rfl ?_; clear S; intro a S
        refine l_alloc S Tryd.zeroValue59 (cs := [.string k_empty, .string k_empty, .int .i64 0]) rfl rfl ?_; clear S; intro a w3 b2 hz1 hk1 S
        refine lv S (rn_assign (S.tm rfl)) rfl ?_; clear S; intro a S
        refine l_store S (S.tm rfl) (S.tm rfl) (i := 0) (off := 0) rfl Tryd.sizeOf59 (vs := [.string y1.Who, .string y1.Club, .int .i64 y1.Day]) rfl rfl rfl rfl ?_; clear S; intro w4 hk2 S
        refine l_done ?_
        replace S := S.nf (L' := [.blk b2 [.string y1.Who, .string y1.Club, .int .i64 y1.Day] 59]) (K' := [(0, v_p_l), (3, .int .i64 (i1 : Int)), (4, .pointer (some ⟨b2, 0, none⟩)), (9, v_p_l), (10, .int .i64 (p_l.length : Int)), (11, .int .i64 (i1 : Int))]) [true] rfl ⟨rfl, rfl, rfl, rfl, rfl, rfl, trivial⟩
        refine then_n ?_
        refine f_seq ?_
        refine wp_block ?_
        refine f_seq ?_
        refine f_region ?_
        refine lv S (rn_fld fa_59_0 (S.tm rfl)) rfl ?_; clear S; intro a S
        refine lv S (rn_load Tryd.isAgg9 (S.tm rfl) (S.cell (i := 0) rfl rfl)) rfl ?_; clear S; intro a S
        obtain ⟨r1, hr2, h⟩ := bindE h
        refine l_enter S (fun _ => run_call (vs := [.string y1.Who]) ⟨(S.tm rfl), trivial⟩ Tryd.call31) (tumbref2_Key_ok _ y1.Who _ hr2) rfl ?_; clear S; intro v1 a w5 hv1 hk3 hn1 S
        subst hv1
        refine lv S (rn_not (S.tm rfl)) rfl ?_; clear S; intro a S
        refine lv S (rn_move (S.tm rfl)) rfl ?_; clear S; intro a S
        obtain ⟨j2, hj2, h⟩ := joinE h
        refine f_cutm 10 (fun a w' => ∃ c1, j2 c1 = some r ∧ Keep [] w5 w' ∧ Sx w [] nov [.blk b2 [.string y1.Who, .string y1.Club, .int .i64 y1.Day] 59] [(0, v_p_l), (3, .int .i64 (i1 : Int)), (4, .pointer (some ⟨b2, 0, none⟩)), (9, v_p_l), (10, .int .i64 (p_l.length : Int)), (11, .int .i64 (i1 : Int)), (31, .bool c1)] 74 a w') ?_ ?_
        · rcases Bool.eq_false_or_eq_true (!r1) with hb2 | hb2
          · replace h := iteT h hb2
            refine l_skip S rfl rfl rfl (neq_t hb2) rfl ?_ rfl; clear S; intro a S
            refine l_skip S rfl rfl rfl (neq_t hb2) rfl ?_ rfl; clear S; intro a S
            refine l_skip S rfl rfl rfl (neq_t hb2) rfl ?_ rfl; clear S; intro a S
            refine l_skip S rfl rfl rfl (neq_t hb2) rfl ?_ rfl; clear S; intro a S
            refine l_skipU S rfl rfl rfl rfl ?_; clear S; intro a S
            refine l_skipU S rfl rfl rfl rfl ?_; clear S; intro a S
            refine l_skipU S rfl rfl rfl rfl ?_; clear S; intro a S
            refine l_skipU S rfl rfl rfl rfl ?_; clear S; intro a S
            refine l_skip S rfl rfl rfl (neq_t hb2) rfl ?_ rfl; clear S; intro a S
            refine lv S (rn_or_t true hb2 (S.tm rfl) rfl) rfl ?_; clear S; intro a S
            refine l_done ?_
            refine then_n ?_
            exact ⟨_, h, Keep.refl _ _, S.nf [true] rfl ⟨rfl, rfl, rfl, rfl, rfl, rfl, rfl, trivial⟩⟩
          · replace h := iteF h hb2
            refine l_want S rfl rfl rfl hb2 ?_
            refine lv S (rn_fld fa_59_1 (S.tm rfl)) rfl ?_; clear S; intro a S
            refine l_want S rfl rfl rfl hb2 ?_
            refine lv S (rn_load Tryd.isAgg9 (S.tm rfl) (S.cell (i := 0) rfl rfl)) rfl ?_; clear S; intro a S
            refine l_want S rfl rfl rfl hb2 ?_
            refine lv S (rn_sneq (S.tm rfl) rfl) rfl ?_; clear S; intro a S
            refine l_want S rfl rfl rfl hb2 ?_
            refine lv S (rn_move (S.tm rfl)) rfl ?_; clear S; intro a S
            obtain ⟨j3, hj3, h⟩ := joinE h
            refine f_cutm 5 (fun a w' => ∃ c2, j3 c2 = some r ∧ Keep [] w5 w' ∧ Sx w [] nov [.blk b2 [.string y1.Who, .string y1.Club, .int .i64 y1.Day] 59] [(0, v_p_l), (3, .int .i64 (i1 : Int)), (4, .pointer (some ⟨b2, 0, none⟩)), (9, v_p_l), (10, .int .i64 (p_l.length : Int)), (11, .int .i64 (i1 : Int)), (21, .bool (!r1)), (22, .pointer (some ⟨b2, 1, none⟩)), (23, .string y1.Club), (24, .bool (!decide (y1.Club = k_empty))), (25, .bool (!decide (y1.Club = k_empty))), (30, .bool c2)] 74 a w') ?_ ?_
            · rcases Bool.eq_false_or_eq_true (!decide (y1.Club = k_empty)) with hb3 | hb3
              · replace h := iteT h hb3
                refine l_want S rfl rfl rfl hb3 ?_
                refine lv S (rn_fld fa_59_1 (S.tm rfl)) rfl ?_; clear S; intro a S
                refine l_want S rfl rfl rfl hb3 ?_
                refine lv S (rn_load Tryd.isAgg9 (S.tm rfl) (S.cell (i := 0) rfl rfl)) rfl ?_; clear S; intro a S
                refine l_want S rfl rfl rfl hb3 ?_
                obtain ⟨r2, hr3, h⟩ := bindE h
                refine l_enter S (fun _ => run_call (vs := [.string y1.Club]) ⟨(S.tm rfl), trivial⟩ Tryd.call31) (tumbref2_Key_ok _ y1.Club _ hr3) rfl ?_; clear S; intro v2 a w8 hv2 hk4 hn2 S
                subst hv2
                refine l_want S rfl rfl rfl hb3 ?_
                refine lv S (rn_not (S.tm rfl)) rfl ?_; clear S; intro a S
                refine l_want S rfl rfl rfl hb2 ?_
                refine lv S (rn_and_t hb3 (S.tm rfl) (S.tm rfl)) rfl ?_; clear S; intro a S
                refine l_done ?_
                refine then_n ?_
                exact ⟨_, h, hk4, S.nf [true] rfl ⟨rfl, rfl, rfl, rfl, rfl, rfl, rfl, rfl, rfl, rfl, rfl, rfl, trivial⟩⟩
              · replace h := iteF h hb3
                refine l_skip S rfl rfl rfl (neq_f hb3) rfl ?_ rfl; clear S; intro a S
                refine l_skip S rfl rfl rfl (neq_f hb3) rfl ?_ rfl; clear S; intro a S
                refine l_skip S rfl rfl rfl (neq_f hb3) rfl ?_ rfl; clear S; intro a S
                refine l_skip S rfl rfl rfl (neq_f hb3) rfl ?_ rfl; clear S; intro a S
                refine l_want S rfl rfl rfl hb2 ?_
                refine lv S (rn_and_f true hb3 (S.tm rfl) rfl) rfl ?_; clear S; intro a S
                refine l_done ?_
                refine then_n ?_
                exact ⟨_, h, Keep.refl _ _, S.nf [true] rfl ⟨rfl, rfl, rfl, rfl, rfl, rfl, rfl, rfl, rfl, rfl, rfl, rfl, trivial⟩⟩
            clear S h; rintro a w7 ⟨c2, h, hk5, S⟩; rw [hj3] at h; clear hj3 j3
            refine lv S (rn_or_f hb2 (S.tm rfl) (S.tm rfl)) rfl ?_; clear S; intro a S
            refine l_done ?_
            refine then_n ?_
            exact ⟨_, h, hk5, S.nf [true] rfl ⟨rfl, rfl, rfl, rfl, rfl, rfl, rfl, trivial⟩⟩
        clear S h; rintro a w6 ⟨c1, h, hk6, S⟩; rw [hj2] at h; clear hj2 j2
        refine lv S (rn_assign (S.tm rfl)) rfl ?_; clear S; intro a S
        refine l_done ?_
        replace S := S.nf (L' := [.blk b2 [.string y1.Who, .string y1.Club, .int .i64 y1.Day] 59]) (K' := [(0, v_p_l), (3, .int .i64 (i1 : Int)), (4, .pointer (some ⟨b2, 0, none⟩)), (9, v_p_l), (10, .int .i64 (p_l.length : Int)), (11, .int .i64 (i1 : Int)), (16, .bool c1)]) [true] rfl ⟨rfl, rfl, rfl, rfl, rfl, rfl, rfl, trivial⟩
        refine then_n ?_
        refine f_cond (S.tm rfl) (fun hb4 => ?_) (fun hb4 => ?_)
        · replace h := iteT h hb4
          refine f_seq ?_
          refine f_region ?_
          refine lv S (rn_assign rfl) rfl ?_; clear S; intro a S
          refine l_done ?_
          replace S := S.nf (L' := []) (K' := [(2, .int .i64 5)]) [false] rfl ⟨rfl, trivial⟩
          refine then_n ?_
          refine wp_ret ?_
          refine blk_r ?_
          refine then_r ?_
          refine blk_r ?_
          refine then_r ?_
          refine then_r ?_
          refine blk_r ?_
          refine then_r ?_
          refine then_r ?_
          obtain rfl := Option.some.inj h
          exact f_ret S Tryd.results9 rfl rfl
        · replace h := iteF h hb4
          refine f_seq ?_
          refine f_region ?_
          refine lv S (rn_fld fa_59_2 (S.tm rfl)) rfl ?_; clear S; intro a S
          refine lv S (rn_load Tryd.isAgg3 (S.tm rfl) (S.cell (i := 0) rfl rfl)) rfl ?_; clear S; intro a S
          refine l_enter S (fun _ => run_call (vs := [.int .i64 y1.Day]) ⟨(S.tm rfl), trivial⟩ Tryd.call13) (tumbref2_Day_ok _ y1.Day _ rfl) rfl ?_; clear S; intro v3 a w9 hv3 hk7 hn3 S
          subst hv3
          refine lv S (rn_not (S.tm rfl)) rfl ?_; clear S; intro a S
          refine lv S (rn_assign (S.tm rfl)) rfl ?_; clear S; intro a S
          refine l_done ?_
          replace S := S.nf (L' := [.blk b2 [.string y1.Who, .string y1.Club, .int .i64 y1.Day] 59]) (K' := [(0, v_p_l), (3, .int .i64 (i1 : Int)), (4, .pointer (some ⟨b2, 0, none⟩)), (9, v_p_l), (10, .int .i64 (p_l.length : Int)), (11, .int .i64 (i1 : Int)), (32, .bool (!(tumbref2_Day y1.Day)))]) [true] rfl ⟨rfl, rfl, rfl, rfl, rfl, rfl, rfl, trivial⟩
          refine then_n ?_
          refine f_cond (S.tm rfl) (fun hb5 => ?_) (fun hb5 => ?_)
          · replace h := iteT h hb5
            refine f_seq ?_
            refine f_region ?_
            refine lv S (rn_assign rfl) rfl ?_; clear S; intro a S
            refine l_done ?_
            replace S := S.nf (L' := []) (K' := [(2, .int .i64 1)]) [false] rfl ⟨rfl, trivial⟩
            refine then_n ?_
            refine wp_ret ?_
            refine blk_r ?_
            refine then_r ?_
            refine blk_r ?_
            refine then_r ?_
            refine then_r ?_
            refine blk_r ?_
            refine then_r ?_
            refine then_r ?_
            obtain rfl := Option.some.inj h
            exact f_ret S Tryd.results9 rfl rfl
          · replace h := iteF h hb5
            refine f_seq ?_
            obtain ⟨j4, hj4, h⟩ := joinE h
            refine f_join (fun a w' => ∃ x1 : Bool, j4 x1 = some r ∧ Sx w [] nov [.blk b2 [.string y1.Who, .string y1.Club, .int .i64 y1.Day] 59] [(0, v_p_l), (3, .int .i64 (i1 : Int)), (4, .pointer (some ⟨b2, 0, none⟩)), (9, v_p_l), (10, .int .i64 (p_l.length : Int)), (11, .int .i64 (i1 : Int)), (37, .bool x1)] 74 a w') ?_ ?_
            · rcases Bool.eq_false_or_eq_true (decide (0 < (i1 : Int))) with hb6 | hb6
              · replace h := iteT h hb6
                obtain ⟨hc1, h⟩ := chkE h
                refine d_region [] ([]) Tryd.mixed S rfl (by kernel_rfl) ?_; clear S; intro w12 hk9 hsel S
                refine d_quiet 0 S hsel rfl rfl rfl (by kernel_rfl) (by kernel_rfl) rfl (fun _ hw => (rn_move (S.tm rfl))) ?_; clear S; intro a S
                refine d_quiet 1 S hsel rfl rfl rfl (by kernel_rfl) (by kernel_rfl) rfl (fun _ hw => (rn_gtr (S.tm rfl) rfl)) ?_; clear S; intro a S
                refine d_quiet 2 S hsel rfl rfl rfl (by kernel_rfl) (by kernel_rfl) rfl (fun _ hw => (rn_move (S.tm rfl))) ?_; clear S; intro a S
                refine d_quiet_g 3 S hsel rfl rfl rfl rfl hb6 rfl rfl (by kernel_rfl) (by kernel_rfl) rfl (fun _ hw => (rn_move (S.tm rfl))) ?_; clear S; intro a S
                refine d_quiet_g 4 S hsel rfl rfl rfl rfl hb6 rfl rfl (by kernel_rfl) (by kernel_rfl) rfl (fun _ hw => (rn_move (S.tm rfl))) ?_; clear S; intro a S
                refine d_quiet_g 5 S hsel rfl rfl rfl rfl hb6 rfl rfl (by kernel_rfl) (by kernel_rfl) rfl (fun _ hw => (rn_sub (S.tm rfl) rfl)) ?_; clear S; intro a S
                obtain ⟨b4, o3, hm3, hr5⟩ := rn_indexT (a := a) (x := .tmp 41) (y := .tmp 43) (ty := 0) sl_26 (hs_p_l.mono (S.le_arg nil_sub)) (inB_get hc1).1 (inB_get hc1).2 (S.tm rfl) (S.tm rfl)
                refine d_quiet_g 6 S hsel rfl rfl rfl rfl hb6 rfl rfl (by kernel_rfl) (by kernel_rfl) rfl (fun _ hw => hr5 _) ?_; clear S; intro a S
                clear hr5
                refine d_quiet_g 7 S hsel rfl rfl rfl rfl hb6 rfl rfl (by kernel_rfl) (by kernel_rfl) rfl (fun _ hw => (rn_ldA Tryd.isAgg59 Tryd.sizeOf59 (off := o3) (o := 0) (part := [.string ((nth p_l (W ((i1 : Int) - 1))).Who), .string ((nth p_l (W ((i1 : Int) - 1))).Club), .int .i64 ((nth p_l (W ((i1 : Int) - 1))).Day)]) rfl rfl (S.tm rfl) (hm3.kept hw))) ?_; clear S; intro a S
                refine d_quiet_g 8 S hsel rfl rfl rfl rfl hb6 rfl rfl (by kernel_rfl) (by kernel_rfl) rfl (fun _ hw => (rn_ldA Tryd.isAgg59 Tryd.sizeOf59 (off := 0) (o := 0) (part := [.string y1.Who, .string y1.Club, .int .i64 y1.Day]) rfl rfl (S.tm rfl) ((S.blk_mem (i := 0) (cells := [.string y1.Who, .string y1.Club, .int .i64 y1.Day]) (b := b2) (T := 59) rfl (ne_nil (e' := .blk b2 [.string y1.Who, .string y1.Club, .int .i64 y1.Day] 59))).kept hw))) ?_; clear S; intro a S
                refine d_loud1 9 (by kernel_rfl) rfl ?_
                refine l_want S rfl rfl rfl hb6 ?_
                refine l_enter S (fun _ => run_call (vs := [.agg (GMove.enc (nth p_l (W ((i1 : Int) - 1)))).toArray, .agg (GMove.enc y1).toArray]) ⟨(S.tm rfl), (S.tm rfl), trivial⟩ Tryd.call32) (tumbref2_moveOrder_ok _ (nth p_l (W ((i1 : Int) - 1))) y1 _ rfl) rfl ?_; clear S; intro v5 a w13 hv5 hk10 hn5 S
                subst hv5
                refine l_done ?_
                refine d_next hk10 ?_
                refine d_rest [10, 11, 12] hsel (by kernel_rfl) rfl ?_
                clear hsel
                refine s_want S rfl rfl rfl rfl hb6 ?_
                refine s_lv0 S (rn_geq (S.tm rfl) rfl) rfl ?_; clear S; intro a S
                refine s_lv S rfl (rn_pick_b hb6 (S.tm rfl) (S.tm rfl)) rfl ?_; clear S; intro a S
                refine s_lv S rfl (rn_assign (S.tm rfl)) rfl ?_; clear S; intro a S
                refine s_done ?_
                replace S := S.nf (L' := [.blk b2 [.string y1.Who, .string y1.Club, .int .i64 y1.Day] 59]) (K' := [(0, v_p_l), (3, .int .i64 (i1 : Int)), (4, .pointer (some ⟨b2, 0, none⟩)), (9, v_p_l), (10, .int .i64 (p_l.length : Int)), (11, .int .i64 (i1 : Int)), (37, .bool (decide (0 ≤ (tumbref2_moveOrder (nth p_l (W ((i1 : Int) - 1))) y1)))), (41, v_p_l), (42, .int .i64 (i1 : Int)), (43, .int .i64 (W ((i1 : Int) - 1))), (44, .pointer (some ⟨b4, o3, none⟩)), (45, .agg #[.string ((nth p_l (W ((i1 : Int) - 1))).Who), .string ((nth p_l (W ((i1 : Int) - 1))).Club), .int .i64 ((nth p_l (W ((i1 : Int) - 1))).Day)]), (46, .agg #[.string y1.Who, .string y1.Club, .int .i64 y1.Day]), (47, .int .i64 (tumbref2_moveOrder (nth p_l (W ((i1 : Int) - 1))) y1)), (48, .bool (decide (0 ≤ (tumbref2_moveOrder (nth p_l (W ((i1 : Int) - 1))) y1))))]) [true] rfl ⟨rfl, rfl, rfl, rfl, rfl, rfl, rfl, rfl, rfl, rfl, rfl, rfl, rfl, rfl, rfl, trivial⟩
                refine then_n ?_
                exact ⟨decide (0 ≤ (tumbref2_moveOrder (nth p_l (W ((i1 : Int) - 1))) y1)), h, S.nf [true] rfl ⟨rfl, rfl, rfl, rfl, rfl, rfl, rfl, trivial⟩⟩
              · replace h := iteF h hb6
                refine d_region [] ([]) Tryd.mixed S rfl (by kernel_rfl) ?_; clear S; intro w14 hk11 hsel S
                refine d_rest [0, 1, 2, 3, 4, 5, 6, 7, 8, 9, 10, 11, 12] hsel (by kernel_rfl) rfl ?_
                clear hsel
                refine s_lv S rfl (rn_move (S.tm rfl)) rfl ?_; clear S; intro a S
                refine s_lv S rfl (rn_gtr (S.tm rfl) rfl) rfl ?_; clear S; intro a S
                refine s_lv S rfl (rn_move (S.tm rfl)) rfl ?_; clear S; intro a S
                refine s_skip S rfl rfl rfl rfl (neq_f hb6) rfl ?_ rfl; clear S; intro a S
                refine s_skip S rfl rfl rfl rfl (neq_f hb6) rfl ?_ rfl; clear S; intro a S
                refine s_skip S rfl rfl rfl rfl (neq_f hb6) rfl ?_ rfl; clear S; intro a S
                refine s_skip S rfl rfl rfl rfl (neq_f hb6) rfl ?_ rfl; clear S; intro a S
                refine s_skip S rfl rfl rfl rfl (neq_f hb6) rfl ?_ rfl; clear S; intro a S
                refine s_skip S rfl rfl rfl rfl (neq_f hb6) rfl ?_ rfl; clear S; intro a S
                refine s_skip S rfl rfl rfl rfl (neq_f hb6) rfl ?_ rfl; clear S; intro a S
                refine s_skip S rfl rfl rfl rfl (neq_f hb6) rfl ?_ rfl; clear S; intro a S
                refine s_lv S rfl (rn_pick_c hb6 (S.tm rfl) rfl) rfl ?_; clear S; intro a S
                refine s_lv S rfl (rn_assign (S.tm rfl)) rfl ?_; clear S; intro a S
                refine s_done ?_
                replace S := S.nf (L' := [.blk b2 [.string y1.Who, .string y1.Club, .int .i64 y1.Day] 59]) (K' := [(0, v_p_l), (3, .int .i64 (i1 : Int)), (4, .pointer (some ⟨b2, 0, none⟩)), (9, v_p_l), (10, .int .i64 (p_l.length : Int)), (11, .int .i64 (i1 : Int)), (37, .bool false)]) [true] rfl ⟨rfl, rfl, rfl, rfl, rfl, rfl, rfl, trivial⟩
                refine then_n ?_
                exact ⟨false, h, S.nf [true] rfl ⟨rfl, rfl, rfl, rfl, rfl, rfl, rfl, trivial⟩⟩
            clear S h; rintro a w10 ⟨x1, h, S⟩; rw [hj4] at h; clear hj4 j4
            refine then_n ?_
            refine f_cond (S.tm rfl) (fun hb7 => ?_) (fun hb7 => ?_)
            · replace h := iteT h hb7
              refine f_seq ?_
              refine f_region ?_
              refine lv S (rn_assign rfl) rfl ?_; clear S; intro a S
              refine l_done ?_
              replace S := S.nf (L' := []) (K' := [(2, .int .i64 7)]) [false] rfl ⟨rfl, trivial⟩
              refine then_n ?_
              refine wp_ret ?_
              refine blk_r ?_
              refine then_r ?_
              refine blk_r ?_
              refine then_r ?_
              refine then_r ?_
              refine blk_r ?_
              refine then_r ?_
              refine then_r ?_
              obtain rfl := Option.some.inj h
              exact f_ret S Tryd.results9 rfl rfl
            · replace h := iteF h hb7
              refine wp_skip ?_
              refine blk_n ?_
              refine then_n ?_
              refine f_seq ?_
              refine f_region ?_
              refine lv S (rn_assign rfl) rfl ?_; clear S; intro a S
              refine l_done ?_
              replace S := S.nf (L' := [.blk b2 [.string y1.Who, .string y1.Club, .int .i64 y1.Day] 59]) (K' := [(0, v_p_l), (3, .int .i64 (i1 : Int)), (4, .pointer (some ⟨b2, 0, none⟩)), (5, .string k_empty), (9, v_p_l), (10, .int .i64 (p_l.length : Int)), (11, .int .i64 (i1 : Int))]) [true] rfl ⟨rfl, rfl, rfl, rfl, rfl, rfl, rfl, trivial⟩
              refine then_n ?_
              refine f_seq ?_
              refine f_seq ?_
              refine d_region [] ([]) Tryd.mixed S rfl (by kernel_rfl) ?_; clear S; intro w15 hk12 hsel S
              refine d_rest [0, 1, 2, 3, 4, 5, 6, 7, 8, 9, 10, 11, 12] hsel (by kernel_rfl) rfl ?_
              clear hsel
              refine s_lv S rfl (rn_move (S.tm rfl)) rfl ?_; clear S; intro a S
              refine s_lv S rfl (rn_gtr (S.tm rfl) rfl) rfl ?_; clear S; intro a S
              refine s_lv S rfl (rn_move (S.tm rfl)) rfl ?_; clear S; intro a S
              obtain ⟨j5, hj5, h⟩ := joinE h
              refine s_cutm 10 (fun a w' => ∃ c3, j5 c3 = some r ∧ Keep [] w15 w' ∧ Sx w [] nov [.blk b2 [.string y1.Who, .string y1.Club, .int .i64 y1.Day] 59] [(0, v_p_l), (3, .int .i64 (i1 : Int)), (4, .pointer (some ⟨b2, 0, none⟩)), (5, .string k_empty), (9, v_p_l), (10, .int .i64 (p_l.length : Int)), (11, .int .i64 (i1 : Int)), (62, .bool c3)] 74 a w') ?_ ?_
              · rcases Bool.eq_false_or_eq_true (decide (0 < (i1 : Int))) with hb8 | hb8
                · replace h := iteT h hb8
                  refine s_want S rfl rfl rfl rfl hb8 ?_
                  refine s_lv0 S (rn_move (S.tm rfl)) rfl ?_; clear S; intro a S
                  refine s_want S rfl rfl rfl rfl hb8 ?_
                  refine s_lv0 S (rn_move (S.tm rfl)) rfl ?_; clear S; intro a S
                  refine s_want S rfl rfl rfl rfl hb8 ?_
                  refine s_lv0 S (rn_sub (S.tm rfl) rfl) rfl ?_; clear S; intro a S
                  refine s_want S rfl rfl rfl rfl hb8 ?_
                  obtain ⟨hc2, h⟩ := chkE h
                  obtain ⟨b5, o4, hm4, hr6⟩ := rn_indexT (a := a) (x := .tmp 53) (y := .tmp 55) (ty := 0) sl_26 hs_p_l (inB_get hc2).1 (inB_get hc2).2 (S.tm rfl) (S.tm rfl)
                  refine s_lv0 S (hr6 _) rfl ?_; clear S; intro a S
                  clear hr6
                  refine s_want S rfl rfl rfl rfl hb8 ?_
                  refine s_lv0 S (rn_fld fa_59_0 (S.tm rfl)) rfl ?_; clear S; intro a S
                  refine s_want S rfl rfl rfl rfl hb8 ?_
                  refine s_lv0 S (rn_ld Tryd.isAgg9 (off := o4) (o := 0) (S.tm rfl) (hm4.at S.emb0) rfl) rfl ?_; clear S; intro a S
                  refine s_want S rfl rfl rfl rfl hb8 ?_
                  refine s_lv0 S (rn_fld fa_59_0 (S.tm rfl)) rfl ?_; clear S; intro a S
                  refine s_want S rfl rfl rfl rfl hb8 ?_
                  refine s_lv0 S (rn_load Tryd.isAgg9 (S.tm rfl) (S.cell (i := 0) rfl rfl)) rfl ?_; clear S; intro a S
                  refine s_want S rfl rfl rfl rfl hb8 ?_
                  refine s_lv0 S (rn_seql (S.tm rfl) (S.tm rfl)) rfl ?_; clear S; intro a S
                  refine s_lv S rfl (rn_and_t hb8 (S.tm rfl) (S.tm rfl)) rfl ?_; clear S; intro a S
                  refine s_done ?_
                  exact ⟨_, h, Keep.refl _ _, S.nf [true] rfl ⟨rfl, rfl, rfl, rfl, rfl, rfl, rfl, rfl, trivial⟩⟩
                · replace h := iteF h hb8
                  refine s_skip S rfl rfl rfl rfl (neq_f hb8) rfl ?_ rfl; clear S; intro a S
                  refine s_skip S rfl rfl rfl rfl (neq_f hb8) rfl ?_ rfl; clear S; intro a S
                  refine s_skip S rfl rfl rfl rfl (neq_f hb8) rfl ?_ rfl; clear S; intro a S
                  refine s_skip S rfl rfl rfl rfl (neq_f hb8) rfl ?_ rfl; clear S; intro a S
                  refine s_skip S rfl rfl rfl rfl (neq_f hb8) rfl ?_ rfl; clear S; intro a S
                  refine s_skip S rfl rfl rfl rfl (neq_f hb8) rfl ?_ rfl; clear S; intro a S
                  refine s_skip S rfl rfl rfl rfl (neq_f hb8) rfl ?_ rfl; clear S; intro a S
                  refine s_skip S rfl rfl rfl rfl (neq_f hb8) rfl ?_ rfl; clear S; intro a S
                  refine s_skip S rfl rfl rfl rfl (neq_f hb8) rfl ?_ rfl; clear S; intro a S
                  refine s_lv S rfl (rn_and_f true hb8 (S.tm rfl) rfl) rfl ?_; clear S; intro a S
                  refine s_done ?_
                  exact ⟨_, h, Keep.refl _ _, S.nf [true] rfl ⟨rfl, rfl, rfl, rfl, rfl, rfl, rfl, rfl, trivial⟩⟩
              clear S h; rintro a w16 ⟨c3, h, hk13, S⟩; rw [hj5] at h; clear hj5 j5
              refine s_done ?_
              replace S := S.nf (L' := [.blk b2 [.string y1.Who, .string y1.Club, .int .i64 y1.Day] 59]) (K' := [(0, v_p_l), (3, .int .i64 (i1 : Int)), (4, .pointer (some ⟨b2, 0, none⟩)), (5, .string k_empty), (9, v_p_l), (10, .int .i64 (p_l.length : Int)), (11, .int .i64 (i1 : Int)), (62, .bool c3)]) [true] rfl ⟨rfl, rfl, rfl, rfl, rfl, rfl, rfl, rfl, trivial⟩
              refine then_n ?_
              obtain ⟨j6, hj6, h⟩ := joinE h
              refine f_join (fun a w' => ∃ x2 : ByteArray, j6 x2 = some r ∧ Sx w [] nov [.blk b2 [.string y1.Who, .string y1.Club, .int .i64 y1.Day] 59] [(0, v_p_l), (4, .pointer (some ⟨b2, 0, none⟩)), (5, .string x2), (9, v_p_l), (10, .int .i64 (p_l.length : Int)), (11, .int .i64 (i1 : Int))] 74 a w') ?_ ?_
              · refine f_cond (S.tm rfl) (fun hb9 => ?_) (fun hb9 => ?_)
                · replace h := iteT h hb9
                  refine f_region ?_
                  refine lv S (rn_move (S.tm rfl)) rfl ?_; clear S; intro a S
                  refine lv S (rn_move (S.tm rfl)) rfl ?_; clear S; intro a S
                  refine lv S (rn_sub (S.tm rfl) rfl) rfl ?_; clear S; intro a S
                  obtain ⟨hc3, h⟩ := chkE h
                  obtain ⟨b6, o5, hm5, hr7⟩ := rn_indexT (a := a) (x := .tmp 63) (y := .tmp 65) (ty := 0) sl_26 hs_p_l (inB_get hc3).1 (inB_get hc3).2 (S.tm rfl) (S.tm rfl)
                  refine lv S (hr7 _) rfl ?_; clear S; intro a S
                  clear hr7
                  refine lv S (rn_fld fa_59_1 (S.tm rfl)) rfl ?_; clear S; intro a S
                  refine lv S (rn_ld Tryd.isAgg9 (off := o5) (o := 1) (S.tm rfl) (hm5.at S.emb0) rfl) rfl ?_; clear S; intro a S
                  refine lv S (rn_assign (S.tm rfl)) rfl ?_; clear S; intro a S
                  refine l_done ?_
                  replace S := S.nf (L' := [.blk b2 [.string y1.Who, .string y1.Club, .int .i64 y1.Day] 59]) (K' := [(0, v_p_l), (4, .pointer (some ⟨b2, 0, none⟩)), (5, .string ((nth p_l (W ((i1 : Int) - 1))).Club)), (9, v_p_l), (10, .int .i64 (p_l.length : Int)), (11, .int .i64 (i1 : Int))]) [true] rfl ⟨rfl, rfl, rfl, rfl, rfl, rfl, trivial⟩
                  refine then_n ?_
                  exact ⟨(nth p_l (W ((i1 : Int) - 1))).Club, h, S.nf [true] rfl ⟨rfl, rfl, rfl, rfl, rfl, rfl, trivial⟩⟩
                · replace h := iteF h hb9
                  refine wp_skip ?_
                  refine then_n ?_
                  exact ⟨k_empty, h, S.nf [true] rfl ⟨rfl, rfl, rfl, rfl, rfl, rfl, trivial⟩⟩
              clear S h; rintro a w17 ⟨x2, h, S⟩; rw [hj6] at h; clear hj6 j6
              refine then_n ?_
              refine f_seq ?_
              refine f_region ?_
              refine lv S (rn_fld fa_59_1 (S.tm rfl)) rfl ?_; clear S; intro a S
              refine lv S (rn_load Tryd.isAgg9 (S.tm rfl) (S.cell (i := 0) rfl rfl)) rfl ?_; clear S; intro a S
              refine lv S (rn_move (S.tm rfl)) rfl ?_; clear S; intro a S
              refine lv S (rn_seql (S.tm rfl) (S.tm rfl)) rfl ?_; clear S; intro a S
              refine l_done ?_
              replace S := S.nf (L' := []) (K' := [(0, v_p_l), (9, v_p_l), (10, .int .i64 (p_l.length : Int)), (11, .int .i64 (i1 : Int)), (72, .bool (decide (y1.Club = x2)))]) [false] rfl ⟨rfl, rfl, rfl, rfl, rfl, trivial⟩
              refine then_n ?_
              refine f_cond (S.tm rfl) (fun hb10 => ?_) (fun hb10 => ?_)
              · replace h := iteT h hb10
                refine f_seq ?_
                refine f_region ?_
                refine lv S (rn_assign rfl) rfl ?_; clear S; intro a S
                refine l_done ?_
                replace S := S.nf (L' := []) (K' := [(2, .int .i64 3)]) [] rfl ⟨rfl, trivial⟩
                refine then_n ?_
                refine wp_ret ?_
                refine blk_r ?_
                refine then_r ?_
                refine then_r ?_
                refine blk_r ?_
                refine then_r ?_
                refine then_r ?_
                obtain rfl := Option.some.inj h
                exact f_ret S Tryd.results9 rfl rfl
              · replace h := iteF h hb10
                refine wp_skip ?_
                refine blk_n ?_
                refine then_n ?_
                refine f_region ?_
                refine lv S (rn_add (S.tm rfl) rfl) rfl ?_; clear S; intro a S
                refine lv S (rn_move (S.tm rfl)) rfl ?_; clear S; intro a S
                refine l_done ?_
                replace S := S.nf (L' := []) (K' := [(0, v_p_l), (9, v_p_l), (10, .int .i64 (p_l.length : Int)), (11, .int .i64 (W ((i1 : Int) + 1)))]) [] rfl ⟨rfl, rfl, rfl, rfl, trivial⟩
                refine then_n ?_
                exact ⟨ys1, ⟨i1 + 1, ⟨_, (hd1).trans (List.append_cons _ _ _), by simp [hi1]⟩, h, S.nf [] rfl ⟨rfl, rfl, rfl, (congrArg (fun z => some (Value.int .i64 z)) (rng_next hd1 hi1 (slc_max hs_p_l))), trivial⟩⟩, Nat.lt_succ_self _⟩
    clear S h; rintro a w2 ⟨h, S⟩; rw [hj1] at h; clear hj1 j1
    refine then_n ?_
    refine f_seq ?_
    refine f_region ?_
    refine lv S (rn_assign rfl) rfl ?_; clear S; intro a S
    refine l_done ?_
    replace S := S.nf (L' := []) (K' := [(2, .int .i64 0)]) [] rfl ⟨rfl, trivial⟩
    refine then_n ?_
    refine wp_ret ?_
    obtain rfl := Option.some.inj h
    exact f_ret S Tryd.results9 rfl rfl
theorem tumblaw2_when_ok (w : World) (p_is : Bool) (p_e : Int) (r : Int) (h : tumblaw2_when p_is p_e = r) :
    Calls Tryd.prog 12 [.bool p_is, .int .i64 p_e].toArray w (Ret w [] fun τ v w' => v = .int .i64 r) := by
  refine f_enter [] [] Tryd.func12 rfl Tryd.ntmps12 rfl (by simp) (by simp [fps]) (by simp [fps]) fun a S => ?_
  unfold tumblaw2_when at h
  replace S := S.nf (L' := []) (K' := [(0, .bool p_is), (1, .int .i64 p_e)]) [] rfl ⟨rfl, rfl, trivial⟩
  refine f_seq ?_
  refine f_region ?_
  refine lv S (rn_assign rfl) rfl ?_; clear S; intro a S
  refine l_done ?_
  replace S := S.nf (L' := []) (K' := [(0, .bool p_is), (1, .int .i64 p_e)]) [] rfl ⟨rfl, rfl, trivial⟩
  refine then_n ?_
  refine f_seq ?_
  refine f_seq ?_
  refine f_region ?_
  refine lv S (rn_move (S.tm rfl)) rfl ?_; clear S; intro a S
  refine l_done ?_
  replace S := S.nf (L' := []) (K' := [(1, .int .i64 p_e), (5, .bool p_is)]) [] rfl ⟨rfl, rfl, trivial⟩
  refine then_n ?_
  refine f_cond (S.tm rfl) (fun hb1 => ?_) (fun hb1 => ?_)
  · replace h := iteT h hb1
    refine f_seq ?_
    refine f_region ?_
    refine lv S (rn_move (S.tm rfl)) rfl ?_; clear S; intro a S
    refine lv S (rn_assign (S.tm rfl)) rfl ?_; clear S; intro a S
    refine l_done ?_
    replace S := S.nf (L' := []) (K' := [(4, .int .i64 p_e)]) [] rfl ⟨rfl, trivial⟩
    refine then_n ?_
    refine wp_ret ?_
    refine then_r ?_
    subst h
    exact f_ret S Tryd.results12 rfl rfl
  · replace h := iteF h hb1
    refine wp_skip ?_
    refine then_n ?_
    refine f_seq ?_
    refine f_region ?_
    refine lv S (rn_assign rfl) rfl ?_; clear S; intro a S
    refine l_done ?_
    replace S := S.nf (L' := []) (K' := [(4, .int .i64 0)]) [] rfl ⟨rfl, trivial⟩
    refine then_n ?_
    refine wp_ret ?_
    subst h
    exact f_ret S Tryd.results12 rfl rfl
theorem tumblaw2_nameFault_ok (w : World) (p_s : ByteArray) (r : Int) (h : tumblaw2_nameFault p_s = some r) :
    Calls Tryd.prog 11 [.string p_s].toArray w (Ret w [] fun τ v w' => v = .int .i64 r) := by
  refine f_enter [] [] Tryd.func11 rfl Tryd.ntmps11 rfl (by simp) (by simp [fps]) (by simp [fps]) fun a S => ?_
  unfold tumblaw2_nameFault at h
  replace S := S.nf (L' := []) (K' := [(0, .string p_s)]) [] rfl ⟨rfl, trivial⟩
  refine f_seq ?_
  refine f_region ?_
  refine lv S (rn_assign rfl) rfl ?_; clear S; intro a S
  refine l_done ?_
  replace S := S.nf (L' := []) (K' := [(0, .string p_s)]) [] rfl ⟨rfl, trivial⟩
  refine then_n ?_
  refine f_seq ?_
  refine f_region ?_
  refine lv S (rn_move (S.tm rfl)) rfl ?_; clear S; intro a S
  obtain ⟨r1, hr1, h⟩ := bindE h
  refine l_enter S (fun _ => run_call (vs := [.string p_s]) ⟨(S.tm rfl), trivial⟩ Tryd.call31) (tumbref2_Key_ok _ p_s _ hr1) rfl ?_; clear S; intro v1 a w1 hv1 hk1 hn1 S
  subst hv1
  refine lv S (rn_not (S.tm rfl)) rfl ?_; clear S; intro a S
  refine l_enter S (fun _ => run_call (vs := [.bool (!r1), .int .i64 5]) ⟨(S.tm rfl), rfl, trivial⟩ Tryd.call12) (tumblaw2_when_ok _ (!r1) 5 _ rfl) rfl ?_; clear S; intro v2 a w2 hv2 hk2 hn2 S
  subst hv2
  refine lv S (rn_assign (S.tm rfl)) rfl ?_; clear S; intro a S
  refine l_done ?_
  replace S := S.nf (L' := []) (K' := [(2, .int .i64 (tumblaw2_when (!r1) 5))]) [] rfl ⟨rfl, trivial⟩
  refine then_n ?_
  refine wp_ret ?_
  obtain rfl := Option.some.inj h
  exact f_ret S Tryd.results11 rfl rfl
theorem tumblaw2_errs_ok (w : World) (v_p_l : Value) (p_l : List Int) (hs_p_l : Slc (view w []) 1 v_p_l (p_l.map eInt)) (r : Int) (h : tumblaw2_errs p_l = r) :
    Calls Tryd.prog 10 [v_p_l].toArray w (Ret w [] fun τ v w' => v = .int .i64 r) := by
  refine f_enter [] [] Tryd.func10 rfl Tryd.ntmps10 rfl (by simp) (by simp [fps]) (by simp [fps]) fun a S => ?_
  unfold tumblaw2_errs at h
  replace S := S.nf (L' := []) (K' := [(0, v_p_l)]) [] rfl ⟨rfl, trivial⟩
  refine f_seq ?_
  refine f_region ?_
  refine lv S (rn_assign rfl) rfl ?_; clear S; intro a S
  refine l_done ?_
  replace S := S.nf (L' := []) (K' := [(0, v_p_l)]) [] rfl ⟨rfl, trivial⟩
  refine then_n ?_
  refine f_seq ?_
  refine f_seq ?_
  refine f_region ?_
  refine lv S (rn_move (S.tm rfl)) rfl ?_; clear S; intro a S
  refine lv S (rn_lenT sl_65 (S.tm rfl) (slc_len hs_p_l)) rfl ?_; clear S; intro a S
  refine lv S (rn_move rfl) rfl ?_; clear S; intro a S
  refine l_done ?_
  replace S := S.nf (L' := []) (K' := [(5, v_p_l), (6, .int .i64 (p_l.length : Int)), (7, .int .i64 0)]) [] rfl ⟨rfl, rfl, rfl, trivial⟩
  refine then_n ?_
  obtain ⟨j1, hj1, h⟩ := joinE h
  refine f_join (fun a w' => j1 = r ∧ Sx w [] nov [] [] 15 a w') ?_ ?_
  · refine wp_block ?_
    refine f_loop (fun (ys1 : List Int) a w' => ∃ i1 : Nat, (∃ dn, p_l = dn ++ ys1 ∧ dn.length = i1) ∧ tumblaw2_errs_l1 j1 ys1 i1 = r ∧ Sx w [] nov [] [(5, v_p_l), (6, .int .i64 (p_l.length : Int)), (7, .int .i64 (i1 : Int))] 15 a w') List.length p_l ⟨0, ⟨[], rfl, rfl⟩, h, S.nf [] rfl ⟨rfl, rfl, rfl, trivial⟩⟩ ?_
    clear S h; rintro ys1 a w1 ⟨i1, ⟨dn, hd1, hi1⟩, h, S⟩
    cases ys1 with
    | nil =>
      rw [tumblaw2_errs_l1.eq_1] at h
      refine f_seq ?_
      refine f_region ?_
      refine lv S (rn_lss (S.tm rfl) (S.tm rfl)) rfl ?_; clear S; intro a S
      refine l_done ?_
      replace S := S.nf (L' := []) (K' := [(5, v_p_l), (6, .int .i64 (p_l.length : Int)), (7, .int .i64 (i1 : Int)), (8, .bool (decide ((i1 : Int) < (p_l.length : Int))))]) [] rfl ⟨rfl, rfl, rfl, rfl, trivial⟩
      refine then_n ?_
      refine f_seq ?_
      refine wp_cond_false ((S.tm rfl).trans (congrArg Value.bool (rng_nil hd1 hi1))) ?_
      refine wp_exit ?_
      refine then_x ?_
      refine then_x ?_
      refine x_same ?_
      refine then_n ?_
      exact ⟨h, S.nf [] rfl trivial⟩
    | cons y1 ys1 =>
      rw [tumblaw2_errs_l1.eq_2] at h
      refine f_seq ?_
      refine f_region ?_
      refine lv S (rn_lss (S.tm rfl) (S.tm rfl)) rfl ?_; clear S; intro a S
      refine l_done ?_
      replace S := S.nf (L' := []) (K' := [(5, v_p_l), (6, .int .i64 (p_l.length : Int)), (7, .int .i64 (i1 : Int)), (8, .bool (decide ((i1 : Int) < (p_l.length : Int))))]) [] rfl ⟨rfl, rfl, rfl, rfl, trivial⟩
      refine then_n ?_
      refine f_seq ?_
      refine wp_cond_true ((S.tm rfl).trans (congrArg Value.bool (rng_cons hd1 hi1))) ?_
      refine wp_skip ?_
      refine then_n ?_
      refine f_seq ?_
      refine wp_block ?_
      refine f_seq ?_
      refine f_region ?_
      obtain ⟨b1, o1, hm1, hr1⟩ := rn_indexT (a := a) (x := .tmp 5) (y := .tmp 7) (ty := 0) sl_65 hs_p_l (get_mid hd1 hi1) rfl (S.tm rfl) (S.tm rfl)
      refine lv S (hr1 _) rfl ?_; clear S; intro a S
      clear hr1
      refine lv S (rn_ld Tryd.isAgg30 (off := o1) (o := 0) (S.tm rfl) (hm1.at S.emb0) rfl) rfl ?_; clear S; intro a S
      refine lv S (rn_assign (S.tm rfl)) rfl ?_; clear S; intro a S
      refine l_done ?_
      replace S := S.nf (L' := []) (K' := [(4, .int .i64 y1), (5, v_p_l), (6, .int .i64 (p_l.length : Int)), (7, .int .i64 (i1 : Int))]) [] rfl ⟨rfl, rfl, rfl, rfl, trivial⟩
      refine then_n ?_
      refine f_seq ?_
      refine f_region ?_
      refine lv S (rn_move (S.tm rfl)) rfl ?_; clear S; intro a S
      refine lv S (rn_neq (S.tm rfl) rfl) rfl ?_; clear S; intro a S
      refine l_done ?_
      replace S := S.nf (L' := []) (K' := [(4, .int .i64 y1), (5, v_p_l), (6, .int .i64 (p_l.length : Int)), (7, .int .i64 (i1 : Int)), (12, .bool (!decide (y1 = 0)))]) [] rfl ⟨rfl, rfl, rfl, rfl, rfl, trivial⟩
      refine then_n ?_
      refine f_cond (S.tm rfl) (fun hb1 => ?_) (fun hb1 => ?_)
      · replace h := iteT h hb1
        refine f_seq ?_
        refine f_region ?_
        refine lv S (rn_move (S.tm rfl)) rfl ?_; clear S; intro a S
        refine lv S (rn_assign (S.tm rfl)) rfl ?_; clear S; intro a S
        refine l_done ?_
        replace S := S.nf (L' := []) (K' := [(2, .int .i64 y1)]) [] rfl ⟨rfl, trivial⟩
        refine then_n ?_
        refine wp_ret ?_
        refine blk_r ?_
        refine then_r ?_
        refine then_r ?_
        refine blk_r ?_
        refine then_r ?_
        refine then_r ?_
        subst h
        exact f_ret S Tryd.results10 rfl rfl
      · replace h := iteF h hb1
        refine wp_skip ?_
        refine blk_n ?_
        refine then_n ?_
        refine f_region ?_
        refine lv S (rn_add (S.tm rfl) rfl) rfl ?_; clear S; intro a S
        refine lv S (rn_move (S.tm rfl)) rfl ?_; clear S; intro a S
        refine l_done ?_
        replace S := S.nf (L' := []) (K' := [(5, v_p_l), (6, .int .i64 (p_l.length : Int)), (7, .int .i64 (W ((i1 : Int) + 1)))]) [] rfl ⟨rfl, rfl, rfl, trivial⟩
        refine then_n ?_
        exact ⟨ys1, ⟨i1 + 1, ⟨_, (hd1).trans (List.append_cons _ _ _), by simp [hi1]⟩, h, S.nf [] rfl ⟨rfl, rfl, (congrArg (fun z => some (Value.int .i64 z)) (rng_next hd1 hi1 (slc_max hs_p_l))), trivial⟩⟩, Nat.lt_succ_self _⟩
  clear S h; rintro a w2 ⟨h, S⟩; rw [hj1] at h; clear hj1 j1
  refine then_n ?_
  refine f_seq ?_
  refine f_region ?_
  refine lv S (rn_assign rfl) rfl ?_; clear S; intro a S
  refine l_done ?_
  replace S := S.nf (L' := []) (K' := [(2, .int .i64 0)]) [] rfl ⟨rfl, trivial⟩
  refine then_n ?_
  refine wp_ret ?_
  subst h
  exact f_ret S Tryd.results10 rfl rfl
theorem tumbref2_ClubFor_ok (w : World) (v_p_l : Value) (p_l : List GMove) (hs_p_l : Slc (view w []) 3 v_p_l (p_l.map GMove.enc)) (p_who : ByteArray) (p_day : Int) (r : ByteArray) (h : tumbref2_ClubFor p_l p_who p_day = r) :
    Calls Tryd.prog 14 [v_p_l, .string p_who, .int .i64 p_day].toArray w (Ret w [] fun τ v w' => v = .string r) := by
  refine f_enter [] [] Tryd.func14 rfl Tryd.ntmps14 rfl (by simp) (by simp [fps]) (by simp [fps]) fun a S => ?_
  unfold tumbref2_ClubFor at h
  replace S := S.nf (L' := []) (K' := [(0, v_p_l), (1, .string p_who), (2, .int .i64 p_day)]) [] rfl ⟨rfl, rfl, rfl, trivial⟩
  refine f_seq ?_
  refine f_region ?_
  refine lv S (rn_assign rfl) rfl ?_; clear S; intro a S
  refine l_done ?_
  replace S := S.nf (L' := []) (K' := [(0, v_p_l), (1, .string p_who), (2, .int .i64 p_day)]) [] rfl ⟨rfl, rfl, rfl, trivial⟩
  refine then_n ?_
  refine f_seq ?_
  refine f_region ?_
  refine lv S (rn_assign rfl) rfl ?_; clear S; intro a S
  refine l_done ?_
  replace S := S.nf (L' := []) (K' := [(0, v_p_l), (1, .string p_who), (2, .int .i64 p_day), (7, .string k_empty)]) [] rfl ⟨rfl, rfl, rfl, rfl, trivial⟩
  refine then_n ?_
  refine f_seq ?_
  refine f_seq ?_
  refine f_region ?_
  refine lv S (rn_move (S.tm rfl)) rfl ?_; clear S; intro a S
  refine lv S (rn_lenT sl_26 (S.tm rfl) (slc_len hs_p_l)) rfl ?_; clear S; intro a S
  refine lv S (rn_move rfl) rfl ?_; clear S; intro a S
  refine l_done ?_
  replace S := S.nf (L' := []) (K' := [(1, .string p_who), (2, .int .i64 p_day), (7, .string k_empty), (10, v_p_l), (11, .int .i64 (p_l.length : Int)), (12, .int .i64 0)]) [] rfl ⟨rfl, rfl, rfl, rfl, rfl, rfl, trivial⟩
  refine then_n ?_
  obtain ⟨j1, hj1, h⟩ := joinE h
  refine f_join (fun a w' => ∃ x1 : ByteArray, j1 x1 = r ∧ Sx w [] nov [] [(7, .string x1)] 30 a w') ?_ ?_
  · refine wp_block ?_
    refine f_loop (fun (ys1 : List GMove) a w' => ∃ i1 : Nat, ∃ x1 : ByteArray, (∃ dn, p_l = dn ++ ys1 ∧ dn.length = i1) ∧ tumbref2_ClubFor_l1 p_who p_day j1 ys1 i1 x1 = r ∧ Sx w [] nov [] [(1, .string p_who), (2, .int .i64 p_day), (7, .string x1), (10, v_p_l), (11, .int .i64 (p_l.length : Int)), (12, .int .i64 (i1 : Int))] 30 a w') List.length p_l ⟨0, k_empty, ⟨[], rfl, rfl⟩, h, S.nf [] rfl ⟨rfl, rfl, rfl, rfl, rfl, rfl, trivial⟩⟩ ?_
    clear S h; rintro ys1 a w1 ⟨i1, x1, ⟨dn, hd1, hi1⟩, h, S⟩
    cases ys1 with
    | nil =>
      rw [tumbref2_ClubFor_l1.eq_1] at h
      refine f_seq ?_
      refine f_region ?_
      refine lv S (rn_lss (S.tm rfl) (S.tm rfl)) rfl ?_; clear S; intro a S
      refine l_done ?_
      replace S := S.nf (L' := []) (K' := [(1, .string p_who), (2, .int .i64 p_day), (7, .string x1), (10, v_p_l), (11, .int .i64 (p_l.length : Int)), (12, .int .i64 (i1 : Int)), (13, .bool (decide ((i1 : Int) < (p_l.length : Int))))]) [] rfl ⟨rfl, rfl, rfl, rfl, rfl, rfl, rfl, trivial⟩
      refine then_n ?_
      refine f_seq ?_
      refine wp_cond_false ((S.tm rfl).trans (congrArg Value.bool (rng_nil hd1 hi1))) ?_
      refine wp_exit ?_
      refine then_x ?_
      refine then_x ?_
      refine x_same ?_
      refine then_n ?_
      exact ⟨x1, h, S.nf [] rfl ⟨rfl, trivial⟩⟩
    | cons y1 ys1 =>
      rw [tumbref2_ClubFor_l1.eq_2] at h
      refine f_seq ?_
      refine f_region ?_
      refine lv S (rn_lss (S.tm rfl) (S.tm rfl)) rfl ?_; clear S; intro a S
      refine l_done ?_
      replace S := S.nf (L' := []) (K' := [(1, .string p_who), (2, .int .i64 p_day), (7, .string x1), (10, v_p_l), (11, .int .i64 (p_l.length : Int)), (12, .int .i64 (i1 : Int)), (13, .bool (decide ((i1 : Int) < (p_l.length : Int))))]) [] rfl ⟨rfl, rfl, rfl, rfl, rfl, rfl, rfl, trivial⟩
      refine then_n ?_
      refine f_seq ?_
      refine wp_cond_true ((S.tm rfl).trans (congrArg Value.bool (rng_cons hd1 hi1))) ?_
      refine wp_skip ?_
      refine then_n ?_
      refine f_seq ?_
      obtain ⟨j2, hj2, h⟩ := joinE h
      refine f_join (fun a w' => ∃ x2 : ByteArray, j2 x2 = r ∧ Sx w [] nov [] [(1, .string p_who), (2, .int .i64 p_day), (7, .string x2), (10, v_p_l), (11, .int .i64 (p_l.length : Int)), (12, .int .i64 (i1 : Int))] 30 a w') ?_ ?_
      · refine wp_block ?_
        refine f_seq ?_
        refine f_region ?_
        obtain ⟨b1, o1, hm1, hr1⟩ := rn_indexT (a := a) (x := .tmp 10) (y := .tmp 12) (ty := 0) sl_26 hs_p_l (get_mid hd1 hi1) rfl (S.tm rfl) (S.tm rfl)
        refine lv S (hr1 _) rfl ?_; clear S; intro a S
        clear hr1
        refine lv S (rn_ldA Tryd.isAgg59 Tryd.sizeOf59 (off := o1) (o := 0) (part := [.string y1.Who, .string y1.Club, .int .i64 y1.Day]) rfl rfl (S.tm rfl) (hm1.at S.emb0)) rfl ?_; clear S; intro a S
        refine l_alloc S Tryd.zeroValue59 (cs := [.string k_empty, .string k_empty, .int .i64 0]) rfl rfl ?_; clear S; intro a w4 b2 hz1 hk1 S
        refine l_store S (S.tm rfl) (S.tm rfl) (i := 0) (off := 0) rfl Tryd.sizeOf59 (vs := [.string y1.Who, .string y1.Club, .int .i64 y1.Day]) rfl rfl rfl rfl ?_; clear S; intro w5 hk2 S
        refine l_done ?_
        replace S := S.nf (L' := [.blk b2 [.string y1.Who, .string y1.Club, .int .i64 y1.Day] 59]) (K' := [(1, .string p_who), (2, .int .i64 p_day), (7, .string x1), (9, .pointer (some ⟨b2, 0, none⟩)), (10, v_p_l), (11, .int .i64 (p_l.length : Int)), (12, .int .i64 (i1 : Int))]) [true] rfl ⟨rfl, rfl, rfl, rfl, rfl, rfl, rfl, trivial⟩
        refine then_n ?_
        refine f_seq ?_
        refine f_region ?_
        refine lv S (rn_fld fa_59_0 (S.tm rfl)) rfl ?_; clear S; intro a S
        refine lv S (rn_load Tryd.isAgg9 (S.tm rfl) (S.cell (i := 0) rfl rfl)) rfl ?_; clear S; intro a S
        refine lv S (rn_move (S.tm rfl)) rfl ?_; clear S; intro a S
        refine lv S (rn_seql (S.tm rfl) (S.tm rfl)) rfl ?_; clear S; intro a S
        refine lv S (rn_move (S.tm rfl)) rfl ?_; clear S; intro a S
        refine f_cutm 5 (fun a w' => Keep [] w5 w' ∧ Sx w [] nov [.blk b2 [.string y1.Who, .string y1.Club, .int .i64 y1.Day] 59] [(1, .string p_who), (2, .int .i64 p_day), (7, .string x1), (9, .pointer (some ⟨b2, 0, none⟩)), (10, v_p_l), (11, .int .i64 (p_l.length : Int)), (12, .int .i64 (i1 : Int)), (25, .bool ((decide (y1.Who = p_who)) && (decide (y1.Day ≤ p_day))))] 30 a w') ?_ ?_
        · rcases Bool.eq_false_or_eq_true (decide (y1.Who = p_who)) with hb1 | hb1
          · refine l_want S rfl rfl rfl hb1 ?_
            refine lv S (rn_fld fa_59_2 (S.tm rfl)) rfl ?_; clear S; intro a S
            refine l_want S rfl rfl rfl hb1 ?_
            refine lv S (rn_load Tryd.isAgg3 (S.tm rfl) (S.cell (i := 0) rfl rfl)) rfl ?_; clear S; intro a S
            refine l_want S rfl rfl rfl hb1 ?_
            refine lv S (rn_move (S.tm rfl)) rfl ?_; clear S; intro a S
            refine l_want S rfl rfl rfl hb1 ?_
            refine lv S (rn_leq (S.tm rfl) (S.tm rfl)) rfl ?_; clear S; intro a S
            refine lv S (rn_and_t hb1 (S.tm rfl) (S.tm rfl)) rfl ?_; clear S; intro a S
            refine l_done ?_
            refine then_n ?_
            exact ⟨Keep.refl _ _, S.nf [true] rfl ⟨rfl, rfl, rfl, rfl, rfl, rfl, rfl, rfl, trivial⟩⟩
          · refine l_skip S rfl rfl rfl (neq_f hb1) rfl ?_ rfl; clear S; intro a S
            refine l_skip S rfl rfl rfl (neq_f hb1) rfl ?_ rfl; clear S; intro a S
            refine l_skip S rfl rfl rfl (neq_f hb1) rfl ?_ rfl; clear S; intro a S
            refine l_skip S rfl rfl rfl (neq_f hb1) rfl ?_ rfl; clear S; intro a S
            refine lv S (rn_and_f (decide (y1.Day ≤ p_day)) hb1 (S.tm rfl) rfl) rfl ?_; clear S; intro a S
            refine l_done ?_
            refine then_n ?_
            exact ⟨Keep.refl _ _, S.nf [true] rfl ⟨rfl, rfl, rfl, rfl, rfl, rfl, rfl, rfl, trivial⟩⟩
        clear S; rintro a w6 ⟨hk3, S⟩
        refine l_done ?_
        replace S := S.nf (L' := [.blk b2 [.string y1.Who, .string y1.Club, .int .i64 y1.Day] 59]) (K' := [(1, .string p_who), (2, .int .i64 p_day), (7, .string x1), (9, .pointer (some ⟨b2, 0, none⟩)), (10, v_p_l), (11, .int .i64 (p_l.length : Int)), (12, .int .i64 (i1 : Int)), (25, .bool ((decide (y1.Who = p_who)) && (decide (y1.Day ≤ p_day))))]) [true] rfl ⟨rfl, rfl, rfl, rfl, rfl, rfl, rfl, rfl, trivial⟩
        refine then_n ?_
        obtain ⟨j3, hj3, h⟩ := joinE h
        refine f_join (fun a w' => ∃ x3 : ByteArray, j3 x3 = r ∧ Sx w [] nov [] [(1, .string p_who), (2, .int .i64 p_day), (7, .string x3), (10, v_p_l), (11, .int .i64 (p_l.length : Int)), (12, .int .i64 (i1 : Int))] 30 a w') ?_ ?_
        · refine f_cond (S.tm rfl) (fun hb2 => ?_) (fun hb2 => ?_)
          · replace h := iteT h hb2
            refine f_region ?_
            refine lv S (rn_fld fa_59_1 (S.tm rfl)) rfl ?_; clear S; intro a S
            refine lv S (rn_load Tryd.isAgg9 (S.tm rfl) (S.cell (i := 0) rfl rfl)) rfl ?_; clear S; intro a S
            refine lv S (rn_assign (S.tm rfl)) rfl ?_; clear S; intro a S
            refine l_done ?_
            replace S := S.nf (L' := []) (K' := [(1, .string p_who), (2, .int .i64 p_day), (7, .string y1.Club), (10, v_p_l), (11, .int .i64 (p_l.length : Int)), (12, .int .i64 (i1 : Int))]) [false] rfl ⟨rfl, rfl, rfl, rfl, rfl, rfl, trivial⟩
            refine then_n ?_
            exact ⟨y1.Club, h, S.nf [] rfl ⟨rfl, rfl, rfl, rfl, rfl, rfl, trivial⟩⟩
          · replace h := iteF h hb2
            refine wp_skip ?_
            refine then_n ?_
            exact ⟨x1, h, S.nf [false] rfl ⟨rfl, rfl, rfl, rfl, rfl, rfl, trivial⟩⟩
        clear S h; rintro a w7 ⟨x3, h, S⟩; rw [hj3] at h; clear hj3 j3
        refine blk_n ?_
        refine then_n ?_
        exact ⟨x3, h, S.nf [] rfl ⟨rfl, rfl, rfl, rfl, rfl, rfl, trivial⟩⟩
      clear S h; rintro a w3 ⟨x2, h, S⟩; rw [hj2] at h; clear hj2 j2
      refine then_n ?_
      refine f_region ?_
      refine lv S (rn_add (S.tm rfl) rfl) rfl ?_; clear S; intro a S
      refine lv S (rn_move (S.tm rfl)) rfl ?_; clear S; intro a S
      refine l_done ?_
      replace S := S.nf (L' := []) (K' := [(1, .string p_who), (2, .int .i64 p_day), (7, .string x2), (10, v_p_l), (11, .int .i64 (p_l.length : Int)), (12, .int .i64 (W ((i1 : Int) + 1)))]) [] rfl ⟨rfl, rfl, rfl, rfl, rfl, rfl, trivial⟩
      refine then_n ?_
      exact ⟨ys1, ⟨i1 + 1, x2, ⟨_, (hd1).trans (List.append_cons _ _ _), by simp [hi1]⟩, h, S.nf [] rfl ⟨rfl, rfl, rfl, rfl, rfl, (congrArg (fun z => some (Value.int .i64 z)) (rng_next hd1 hi1 (slc_max hs_p_l))), trivial⟩⟩, Nat.lt_succ_self _⟩
  clear S h; rintro a w2 ⟨x1, h, S⟩; rw [hj1] at h; clear hj1 j1
  refine then_n ?_
  refine f_seq ?_
  refine f_region ?_
  refine lv S (rn_move (S.tm rfl)) rfl ?_; clear S; intro a S
  refine lv S (rn_assign (S.tm rfl)) rfl ?_; clear S; intro a S
  refine l_done ?_
  replace S := S.nf (L' := []) (K' := [(6, .string x1)]) [] rfl ⟨rfl, trivial⟩
  refine then_n ?_
  refine wp_ret ?_
  subst h
  exact f_ret S Tryd.results14 rfl rfl
theorem slices_Index_string_ok (w : World) (v_p_s : Value) (p_s : List ByteArray) (hs_p_s : Slc (view w []) 1 v_p_s (p_s.map eStr)) (p_v : ByteArray) (r : Int) (h : slices_Index_string p_s p_v = r) :
    Calls Tryd.prog 52 [v_p_s, .string p_v].toArray w (Ret w [] fun τ v w' => v = .int .i64 r) := by
  refine f_enter [] [] Tryd.func52 rfl Tryd.ntmps52 rfl (by simp) (by simp [fps]) (by simp [fps]) fun a S => ?_
  unfold slices_Index_string at h
  replace S := S.nf (L' := []) (K' := [(0, v_p_s), (1, .string p_v)]) [] rfl ⟨rfl, rfl, trivial⟩
  refine f_seq ?_
  refine f_region ?_
  refine lv S (rn_assign rfl) rfl ?_; clear S; intro a S
  refine l_done ?_
  replace S := S.nf (L' := []) (K' := [(0, v_p_s), (1, .string p_v)]) [] rfl ⟨rfl, rfl, trivial⟩
  refine then_n ?_
  refine f_seq ?_
  refine f_seq ?_
  refine f_region ?_
  refine lv S (rn_move (S.tm rfl)) rfl ?_; clear S; intro a S
  refine lv S (rn_lenT sl_33 (S.tm rfl) (slc_len hs_p_s)) rfl ?_; clear S; intro a S
  refine lv S (rn_move rfl) rfl ?_; clear S; intro a S
  refine l_done ?_
  replace S := S.nf (L' := []) (K' := [(0, v_p_s), (1, .string p_v), (7, .int .i64 (p_s.length : Int)), (8, .int .i64 0)]) [] rfl ⟨rfl, rfl, rfl, rfl, trivial⟩
  refine then_n ?_
  obtain ⟨j1, hj1, h⟩ := joinE h
  refine f_join (fun a w' => j1 = r ∧ Sx w [] nov [] [] 19 a w') ?_ ?_
  · refine wp_block ?_
    refine f_loop (fun (ys1 : List ByteArray) a w' => ∃ i1 : Nat, (∃ dn, p_s = dn ++ ys1 ∧ dn.length = i1) ∧ slices_Index_string_l1 p_v j1 ys1 i1 = r ∧ Sx w [] nov [] [(0, v_p_s), (1, .string p_v), (7, .int .i64 (p_s.length : Int)), (8, .int .i64 (i1 : Int))] 19 a w') List.length p_s ⟨0, ⟨[], rfl, rfl⟩, h, S.nf [] rfl ⟨rfl, rfl, rfl, rfl, trivial⟩⟩ ?_
    clear S h; rintro ys1 a w1 ⟨i1, ⟨dn, hd1, hi1⟩, h, S⟩
    cases ys1 with
    | nil =>
      rw [slices_Index_string_l1.eq_1] at h
      refine f_seq ?_
      refine f_region ?_
      refine lv S (rn_lss (S.tm rfl) (S.tm rfl)) rfl ?_; clear S; intro a S
      refine l_done ?_
      replace S := S.nf (L' := []) (K' := [(0, v_p_s), (1, .string p_v), (7, .int .i64 (p_s.length : Int)), (8, .int .i64 (i1 : Int)), (9, .bool (decide ((i1 : Int) < (p_s.length : Int))))]) [] rfl ⟨rfl, rfl, rfl, rfl, rfl, trivial⟩
      refine then_n ?_
      refine f_seq ?_
      refine wp_cond_false ((S.tm rfl).trans (congrArg Value.bool (rng_nil hd1 hi1))) ?_
      refine wp_exit ?_
      refine then_x ?_
      refine then_x ?_
      refine x_same ?_
      refine then_n ?_
      exact ⟨h, S.nf [] rfl trivial⟩
    | cons y1 ys1 =>
      rw [slices_Index_string_l1.eq_2] at h
      refine f_seq ?_
      refine f_region ?_
      refine lv S (rn_lss (S.tm rfl) (S.tm rfl)) rfl ?_; clear S; intro a S
      refine l_done ?_
      replace S := S.nf (L' := []) (K' := [(0, v_p_s), (1, .string p_v), (7, .int .i64 (p_s.length : Int)), (8, .int .i64 (i1 : Int)), (9, .bool (decide ((i1 : Int) < (p_s.length : Int))))]) [] rfl ⟨rfl, rfl, rfl, rfl, rfl, trivial⟩
      refine then_n ?_
      refine f_seq ?_
      refine wp_cond_true ((S.tm rfl).trans (congrArg Value.bool (rng_cons hd1 hi1))) ?_
      refine wp_skip ?_
      refine then_n ?_
      refine f_seq ?_
      refine wp_block ?_
      refine f_seq ?_
      refine f_region ?_
      refine lv S (rn_move (S.tm rfl)) rfl ?_; clear S; intro a S
      refine lv S (rn_assign (S.tm rfl)) rfl ?_; clear S; intro a S
      refine l_done ?_
      replace S := S.nf (L' := []) (K' := [(0, v_p_s), (1, .string p_v), (5, .int .i64 (i1 : Int)), (7, .int .i64 (p_s.length : Int)), (8, .int .i64 (i1 : Int))]) [] rfl ⟨rfl, rfl, rfl, rfl, rfl, trivial⟩
      refine then_n ?_
      refine f_seq ?_
      refine f_region ?_
      refine lv S (rn_move (S.tm rfl)) rfl ?_; clear S; intro a S
      refine lv S (rn_move (S.tm rfl)) rfl ?_; clear S; intro a S
      refine lv S (rn_move (S.tm rfl)) rfl ?_; clear S; intro a S
      obtain ⟨b1, o1, hm1, hr1⟩ := rn_indexT (a := a) (x := .tmp 12) (y := .tmp 13) (ty := 0) sl_33 hs_p_s (get_mid hd1 hi1) rfl (S.tm rfl) (S.tm rfl)
      refine lv S (hr1 _) rfl ?_; clear S; intro a S
      clear hr1
      refine lv S (rn_ld Tryd.isAgg9 (off := o1) (o := 0) (S.tm rfl) (hm1.at S.emb0) rfl) rfl ?_; clear S; intro a S
      refine lv S (rn_seql (S.tm rfl) (S.tm rfl)) rfl ?_; clear S; intro a S
      refine l_done ?_
      replace S := S.nf (L' := []) (K' := [(0, v_p_s), (1, .string p_v), (5, .int .i64 (i1 : Int)), (7, .int .i64 (p_s.length : Int)), (8, .int .i64 (i1 : Int)), (16, .bool (decide (p_v = y1)))]) [] rfl ⟨rfl, rfl, rfl, rfl, rfl, rfl, trivial⟩
      refine then_n ?_
      refine f_cond (S.tm rfl) (fun hb1 => ?_) (fun hb1 => ?_)
      · replace h := iteT h hb1
        refine f_seq ?_
        refine f_region ?_
        refine lv S (rn_move (S.tm rfl)) rfl ?_; clear S; intro a S
        refine lv S (rn_assign (S.tm rfl)) rfl ?_; clear S; intro a S
        refine l_done ?_
        replace S := S.nf (L' := []) (K' := [(4, .int .i64 (i1 : Int))]) [] rfl ⟨rfl, trivial⟩
        refine then_n ?_
        refine wp_ret ?_
        refine blk_r ?_
        refine then_r ?_
        refine then_r ?_
        refine blk_r ?_
        refine then_r ?_
        refine then_r ?_
        subst h
        exact f_ret S Tryd.results52 rfl rfl
      · replace h := iteF h hb1
        refine wp_skip ?_
        refine blk_n ?_
        refine then_n ?_
        refine f_region ?_
        refine lv S (rn_add (S.tm rfl) rfl) rfl ?_; clear S; intro a S
        refine lv S (rn_move (S.tm rfl)) rfl ?_; clear S; intro a S
        refine l_done ?_
        replace S := S.nf (L' := []) (K' := [(0, v_p_s), (1, .string p_v), (7, .int .i64 (p_s.length : Int)), (8, .int .i64 (W ((i1 : Int) + 1)))]) [] rfl ⟨rfl, rfl, rfl, rfl, trivial⟩
        refine then_n ?_
        exact ⟨ys1, ⟨i1 + 1, ⟨_, (hd1).trans (List.append_cons _ _ _), by simp [hi1]⟩, h, S.nf [] rfl ⟨rfl, rfl, rfl, (congrArg (fun z => some (Value.int .i64 z)) (rng_next hd1 hi1 (slc_max hs_p_s))), trivial⟩⟩, Nat.lt_succ_self _⟩
  clear S h; rintro a w2 ⟨h, S⟩; rw [hj1] at h; clear hj1 j1
  refine then_n ?_
  refine f_seq ?_
  refine f_region ?_
  refine lv S (rn_assign rfl) rfl ?_; clear S; intro a S
  refine l_done ?_
  replace S := S.nf (L' := []) (K' := [(4, .int .i64 (-1))]) [] rfl ⟨rfl, trivial⟩
  refine then_n ?_
  refine wp_ret ?_
  subst h
  exact f_ret S Tryd.results52 rfl rfl
theorem slices_Contains_string_ok (w : World) (v_p_s : Value) (p_s : List ByteArray) (hs_p_s : Slc (view w []) 1 v_p_s (p_s.map eStr)) (p_v : ByteArray) (r : Bool) (h : slices_Contains_string p_s p_v = r) :
    Calls Tryd.prog 34 [v_p_s, .string p_v].toArray w (Ret w [] fun τ v w' => v = .bool r) := by
  refine f_enter [] [] Tryd.func34 rfl Tryd.ntmps34 rfl (by simp) (by simp [fps]) (by simp [fps]) fun a S => ?_
  unfold slices_Contains_string at h
  replace S := S.nf (L' := []) (K' := [(0, v_p_s), (1, .string p_v)]) [] rfl ⟨rfl, rfl, trivial⟩
  refine f_seq ?_
  refine f_region ?_
  refine lv S (rn_assign rfl) rfl ?_; clear S; intro a S
  refine l_done ?_
  replace S := S.nf (L' := []) (K' := [(0, v_p_s), (1, .string p_v)]) [] rfl ⟨rfl, rfl, trivial⟩
  refine then_n ?_
  refine f_seq ?_
  refine f_region ?_
  refine lv S (rn_move (S.tm rfl)) rfl ?_; clear S; intro a S
  refine lv S (rn_move (S.tm rfl)) rfl ?_; clear S; intro a S
  refine l_enter S (fun _ => run_call (vs := [v_p_s, .string p_v]) ⟨(S.tm rfl), (S.tm rfl), trivial⟩ Tryd.call52) (slices_Index_string_ok _ v_p_s p_s (hs_p_s.mono (S.le_arg nil_sub)) p_v _ rfl) rfl ?_; clear S; intro v1 a w1 hv1 hk1 hn1 S
  subst hv1
  refine lv S (rn_geq (S.tm rfl) rfl) rfl ?_; clear S; intro a S
  refine lv S (rn_assign (S.tm rfl)) rfl ?_; clear S; intro a S
  refine l_done ?_
  replace S := S.nf (L' := []) (K' := [(4, .bool (decide (0 ≤ (slices_Index_string p_s p_v))))]) [] rfl ⟨rfl, trivial⟩
  refine then_n ?_
  refine wp_ret ?_
  subst h
  exact f_ret S Tryd.results34 rfl rfl
theorem tumbref2_MembersOf_ok (w : World) (v_p_l : Value) (p_l : List GMove) (hs_p_l : Slc (view w []) 3 v_p_l (p_l.map GMove.enc)) (p_club : ByteArray) (p_day : Int) (r : (List ByteArray)) (h : tumbref2_MembersOf p_l p_club p_day = some r) :
    Calls Tryd.prog 15 [v_p_l, .string p_club, .int .i64 p_day].toArray w (Ret w [] fun τ v w' => OwnV τ 9 1 v r.length (r.flatMap eStr)) := by
  refine f_enter [] [] Tryd.func15 rfl Tryd.ntmps15 rfl (by simp) (by simp [fps]) (by simp [fps]) fun a S => ?_
  unfold tumbref2_MembersOf at h
  replace S := S.nf (L' := []) (K' := [(0, v_p_l), (1, .string p_club), (2, .int .i64 p_day)]) [] rfl ⟨rfl, rfl, rfl, trivial⟩
  refine f_seq ?_
  refine f_region ?_
  refine lv S (rn_assign rfl) rfl ?_; clear S; intro a S
  refine l_done ?_
  replace S := S.nf (L' := []) (K' := [(0, v_p_l), (1, .string p_club), (2, .int .i64 p_day)]) [] rfl ⟨rfl, rfl, rfl, trivial⟩
  refine then_n ?_
  refine f_seq ?_
  refine f_region ?_
  refine lv S (rn_assign rfl) rfl ?_; clear S; intro a S
  replace S := S.nil 9 1
  refine l_done ?_
  replace S := S.nf (L' := [.own (.slice none 0 0) 9 1 ([] : List ByteArray).length (([] : List ByteArray).flatMap eStr)]) (K' := [(0, v_p_l), (1, .string p_club), (2, .int .i64 p_day), (7, (.slice none 0 0))]) [true] rfl ⟨rfl, rfl, rfl, rfl, trivial⟩
  refine then_n ?_
  refine f_seq ?_
  refine f_seq ?_
  refine f_region ?_
  refine lv S (rn_move (S.tm rfl)) rfl ?_; clear S; intro a S
  refine lv S (rn_lenT sl_26 (S.tm rfl) (slc_len hs_p_l)) rfl ?_; clear S; intro a S
  refine lv S (rn_move rfl) rfl ?_; clear S; intro a S
  refine l_done ?_
  replace S := S.nf (L' := [.own (.slice none 0 0) 9 1 ([] : List ByteArray).length (([] : List ByteArray).flatMap eStr)]) (K' := [(0, v_p_l), (1, .string p_club), (2, .int .i64 p_day), (7, (.slice none 0 0)), (10, v_p_l), (11, .int .i64 (p_l.length : Int)), (12, .int .i64 0)]) [true] rfl ⟨rfl, rfl, rfl, rfl, rfl, rfl, rfl, trivial⟩
  refine then_n ?_
  obtain ⟨j1, hj1, h⟩ := joinE h
  refine f_join (fun a w' => ∃ x1 : List ByteArray, ∃ v1 : Value, j1 x1 = some r ∧ Sx w [] nov [.own v1 9 1 x1.length (x1.flatMap eStr)] [(7, v1)] 37 a w') ?_ ?_
  · refine wp_block ?_
    refine f_loop (fun (ys1 : List GMove) a w' => ∃ i1 : Nat, ∃ x1 : List ByteArray, ∃ v1 : Value, (∃ dn, p_l = dn ++ ys1 ∧ dn.length = i1) ∧ tumbref2_MembersOf_l1 p_l p_day p_club j1 ys1 i1 x1 = some r ∧ Sx w [] nov [.own v1 9 1 x1.length (x1.flatMap eStr)] [(0, v_p_l), (1, .string p_club), (2, .int .i64 p_day), (7, v1), (10, v_p_l), (11, .int .i64 (p_l.length : Int)), (12, .int .i64 (i1 : Int))] 37 a w') List.length p_l ⟨0, ([] : List ByteArray), (.slice none 0 0), ⟨[], rfl, rfl⟩, h, S.nf [true] rfl ⟨rfl, rfl, rfl, rfl, rfl, rfl, rfl, trivial⟩⟩ ?_
    clear S h; rintro ys1 a w1 ⟨i1, x1, v1, ⟨dn, hd1, hi1⟩, h, S⟩
    cases ys1 with
    | nil =>
      rw [tumbref2_MembersOf_l1.eq_1] at h
      refine f_seq ?_
      refine f_region ?_
      refine lv S (rn_lss (S.tm rfl) (S.tm rfl)) rfl ?_; clear S; intro a S
      refine l_done ?_
      replace S := S.nf (L' := [.own v1 9 1 x1.length (x1.flatMap eStr)]) (K' := [(0, v_p_l), (1, .string p_club), (2, .int .i64 p_day), (7, v1), (10, v_p_l), (11, .int .i64 (p_l.length : Int)), (12, .int .i64 (i1 : Int)), (13, .bool (decide ((i1 : Int) < (p_l.length : Int))))]) [true] rfl ⟨rfl, rfl, rfl, rfl, rfl, rfl, rfl, rfl, trivial⟩
      refine then_n ?_
      refine f_seq ?_
      refine wp_cond_false ((S.tm rfl).trans (congrArg Value.bool (rng_nil hd1 hi1))) ?_
      refine wp_exit ?_
      refine then_x ?_
      refine then_x ?_
      refine x_same ?_
      refine then_n ?_
      exact ⟨x1, v1, h, S.nf [true] rfl ⟨rfl, trivial⟩⟩
    | cons y1 ys1 =>
      rw [tumbref2_MembersOf_l1.eq_2] at h
      refine f_seq ?_
      refine f_region ?_
      refine lv S (rn_lss (S.tm rfl) (S.tm rfl)) rfl ?_; clear S; intro a S
      refine l_done ?_
      replace S := S.nf (L' := [.own v1 9 1 x1.length (x1.flatMap eStr)]) (K' := [(0, v_p_l), (1, .string p_club), (2, .int .i64 p_day), (7, v1), (10, v_p_l), (11, .int .i64 (p_l.length : Int)), (12, .int .i64 (i1 : Int)), (13, .bool (decide ((i1 : Int) < (p_l.length : Int))))]) [true] rfl ⟨rfl, rfl, rfl, rfl, rfl, rfl, rfl, rfl, trivial⟩
      refine then_n ?_
      refine f_seq ?_
      refine wp_cond_true ((S.tm rfl).trans (congrArg Value.bool (rng_cons hd1 hi1))) ?_
      refine wp_skip ?_
      refine then_n ?_
      refine f_seq ?_
      obtain ⟨j2, hj2, h⟩ := joinE h
      refine f_join (fun a w' => ∃ x2 : List ByteArray, ∃ v2 : Value, j2 x2 = some r ∧ Sx w [] nov [.own v2 9 1 x2.length (x2.flatMap eStr)] [(0, v_p_l), (1, .string p_club), (2, .int .i64 p_day), (7, v2), (10, v_p_l), (11, .int .i64 (p_l.length : Int)), (12, .int .i64 (i1 : Int))] 37 a w') ?_ ?_
      · refine wp_block ?_
        refine f_seq ?_
        refine f_region ?_
        obtain ⟨b1, o1, hm1, hr1⟩ := rn_indexT (a := a) (x := .tmp 10) (y := .tmp 12) (ty := 0) sl_26 hs_p_l (get_mid hd1 hi1) rfl (S.tm rfl) (S.tm rfl)
        refine lv S (hr1 _) rfl ?_; clear S; intro a S
        clear hr1
        refine lv S (rn_ldA Tryd.isAgg59 Tryd.sizeOf59 (off := o1) (o := 0) (part := [.string y1.Who, .string y1.Club, .int .i64 y1.Day]) rfl rfl (S.tm rfl) (hm1.at S.emb0)) rfl ?_; clear S; intro a S
        refine l_alloc S Tryd.zeroValue59 (cs := [.string k_empty, .string k_empty, .int .i64 0]) rfl rfl ?_; clear S; intro a w4 b2 hz1 hk1 S
        refine l_store S (S.tm rfl) (S.tm rfl) (i := 0) (off := 0) rfl Tryd.sizeOf59 (vs := [.string y1.Who, .string y1.Club, .int .i64 y1.Day]) rfl rfl rfl rfl ?_; clear S; intro w5 hk2 S
        refine l_done ?_
        replace S := S.nf (L' := [.blk b2 [.string y1.Who, .string y1.Club, .int .i64 y1.Day] 59, .own v1 9 1 x1.length (x1.flatMap eStr)]) (K' := [(0, v_p_l), (1, .string p_club), (2, .int .i64 p_day), (7, v1), (9, .pointer (some ⟨b2, 0, none⟩)), (10, v_p_l), (11, .int .i64 (p_l.length : Int)), (12, .int .i64 (i1 : Int))]) [true, true] rfl ⟨rfl, rfl, rfl, rfl, rfl, rfl, rfl, rfl, trivial⟩
        refine then_n ?_
        refine f_seq ?_
        refine f_region ?_
        refine lv S (rn_move (S.tm rfl)) rfl ?_; clear S; intro a S
        refine lv S (rn_fld fa_59_0 (S.tm rfl)) rfl ?_; clear S; intro a S
        refine lv S (rn_load Tryd.isAgg9 (S.tm rfl) (S.cell (i := 0) rfl rfl)) rfl ?_; clear S; intro a S
        refine lv S (rn_move (S.tm rfl)) rfl ?_; clear S; intro a S
        refine l_enter S (fun _ => run_call (vs := [v_p_l, .string y1.Who, .int .i64 p_day]) ⟨(S.tm rfl), (S.tm rfl), (S.tm rfl), trivial⟩ Tryd.call14) (tumbref2_ClubFor_ok _ v_p_l p_l (hs_p_l.mono (S.le_arg nil_sub)) y1.Who p_day _ rfl) rfl ?_; clear S; intro v3 a w6 hv1 hk3 hn1 S
        subst hv1
        refine lv S (rn_move (S.tm rfl)) rfl ?_; clear S; intro a S
        refine lv S (rn_seql (S.tm rfl) (S.tm rfl)) rfl ?_; clear S; intro a S
        refine lv S (rn_move (S.tm rfl)) rfl ?_; clear S; intro a S
        refine f_cutm 6 (fun a w' => Keep [] w6 w' ∧ Sx w [] nov [.blk b2 [.string y1.Who, .string y1.Club, .int .i64 y1.Day] 59, .own v1 9 1 x1.length (x1.flatMap eStr)] [(0, v_p_l), (1, .string p_club), (2, .int .i64 p_day), (7, v1), (9, .pointer (some ⟨b2, 0, none⟩)), (10, v_p_l), (11, .int .i64 (p_l.length : Int)), (12, .int .i64 (i1 : Int)), (29, .bool ((decide ((tumbref2_ClubFor p_l y1.Who p_day) = p_club)) && (!(slices_Contains_string x1 y1.Who))))] 37 a w') ?_ ?_
        · rcases Bool.eq_false_or_eq_true (decide ((tumbref2_ClubFor p_l y1.Who p_day) = p_club)) with hb1 | hb1
          · refine l_want S rfl rfl rfl hb1 ?_
            refine lv S (rn_move (S.tm rfl)) rfl ?_; clear S; intro a S
            refine l_want S rfl rfl rfl hb1 ?_
            refine lv S (rn_fld fa_59_0 (S.tm rfl)) rfl ?_; clear S; intro a S
            refine l_want S rfl rfl rfl hb1 ?_
            refine lv S (rn_load Tryd.isAgg9 (S.tm rfl) (S.cell (i := 0) rfl rfl)) rfl ?_; clear S; intro a S
            refine l_want S rfl rfl rfl hb1 ?_
            refine l_enter S (fun _ => run_call (vs := [v1, .string y1.Who]) ⟨(S.tm rfl), (S.tm rfl), trivial⟩ Tryd.call34) (slices_Contains_string_ok _ v1 x1 (own_slcT enc_str S (i := 1) rfl (ne_nil (e' := .own v1 9 1 x1.length (x1.flatMap eStr)))) y1.Who _ rfl) rfl ?_; clear S; intro v4 a w8 hv2 hk4 hn2 S
            subst hv2
            refine l_want S rfl rfl rfl hb1 ?_
            refine lv S (rn_not (S.tm rfl)) rfl ?_; clear S; intro a S
            refine lv S (rn_and_t hb1 (S.tm rfl) (S.tm rfl)) rfl ?_; clear S; intro a S
            refine l_done ?_
            refine then_n ?_
            exact ⟨hk4, S.nf [true, true] rfl ⟨rfl, rfl, rfl, rfl, rfl, rfl, rfl, rfl, rfl, trivial⟩⟩
          · refine l_skip S rfl rfl rfl (neq_f hb1) rfl ?_ rfl; clear S; intro a S
            refine l_skip S rfl rfl rfl (neq_f hb1) rfl ?_ rfl; clear S; intro a S
            refine l_skip S rfl rfl rfl (neq_f hb1) rfl ?_ rfl; clear S; intro a S
            refine l_skip S rfl rfl rfl (neq_f hb1) rfl ?_ rfl; clear S; intro a S
            refine l_skip S rfl rfl rfl (neq_f hb1) rfl ?_ rfl; clear S; intro a S
            refine lv S (rn_and_f (!(slices_Contains_string x1 y1.Who)) hb1 (S.tm rfl) rfl) rfl ?_; clear S; intro a S
            refine l_done ?_
            refine then_n ?_
            exact ⟨Keep.refl _ _, S.nf [true, true] rfl ⟨rfl, rfl, rfl, rfl, rfl, rfl, rfl, rfl, rfl, trivial⟩⟩
        clear S; rintro a w7 ⟨hk5, S⟩
        refine l_done ?_
        replace S := S.nf (L' := [.blk b2 [.string y1.Who, .string y1.Club, .int .i64 y1.Day] 59, .own v1 9 1 x1.length (x1.flatMap eStr)]) (K' := [(0, v_p_l), (1, .string p_club), (2, .int .i64 p_day), (7, v1), (9, .pointer (some ⟨b2, 0, none⟩)), (10, v_p_l), (11, .int .i64 (p_l.length : Int)), (12, .int .i64 (i1 : Int)), (29, .bool ((decide ((tumbref2_ClubFor p_l y1.Who p_day) = p_club)) && (!(slices_Contains_string x1 y1.Who))))]) [true, true] rfl ⟨rfl, rfl, rfl, rfl, rfl, rfl, rfl, rfl, rfl, trivial⟩
        refine then_n ?_
        obtain ⟨j3, hj3, h⟩ := joinE h
        refine f_join (fun a w' => ∃ x3 : List ByteArray, ∃ v5 : Value, j3 x3 = some r ∧ Sx w [] nov [.own v5 9 1 x3.length (x3.flatMap eStr)] [(0, v_p_l), (1, .string p_club), (2, .int .i64 p_day), (7, v5), (10, v_p_l), (11, .int .i64 (p_l.length : Int)), (12, .int .i64 (i1 : Int))] 37 a w') ?_ ?_
        · refine f_cond (S.tm rfl) (fun hb2 => ?_) (fun hb2 => ?_)
          · replace h := iteT h hb2
            refine f_region ?_
            refine lv S (rn_move (S.tm rfl)) rfl ?_; clear S; intro a S
            refine lv S (rn_fld fa_59_0 (S.tm rfl)) rfl ?_; clear S; intro a S
            refine lv S (rn_load Tryd.isAgg9 (S.tm rfl) (S.cell (i := 0) rfl rfl)) rfl ?_; clear S; intro a S
            refine l_buildSlice S Tryd.underlying33 Tryd.sizeOf9 Tryd.zeroValue9 rfl rfl (pv := [(0, .string y1.Who)]) ⟨rfl, (S.tm rfl), trivial⟩ (cs := [.string y1.Who]) (by kernel_rfl) rfl ?_; clear S; intro a w10 b3 hz2 hk6 S
            obtain ⟨hc1, h⟩ := chkE h
            refine l_appendT sl_33 enc_str S (S.tm rfl) (i := 2) rfl (S.tm rfl) (j := 0) rfl (ys := [y1.Who]) rfl rfl rfl rfl (by have := room_lt hc1; omega) rfl ?_; clear S; intro v6 a w11 hk7 S
            refine lv S (rn_assign (S.tm rfl)) rfl ?_; clear S; intro a S
            refine l_done ?_
            replace S := S.nf (L' := [.own v6 9 1 (x1 ++ [y1.Who]).length ((x1 ++ [y1.Who]).flatMap eStr)]) (K' := [(0, v_p_l), (1, .string p_club), (2, .int .i64 p_day), (7, v6), (10, v_p_l), (11, .int .i64 (p_l.length : Int)), (12, .int .i64 (i1 : Int))]) [false, false, true] rfl ⟨rfl, rfl, rfl, rfl, rfl, rfl, rfl, trivial⟩
            refine then_n ?_
            exact ⟨(x1 ++ [y1.Who]), v6, h, S.nf [true] rfl ⟨rfl, rfl, rfl, rfl, rfl, rfl, rfl, trivial⟩⟩
          · replace h := iteF h hb2
            refine wp_skip ?_
            refine then_n ?_
            exact ⟨x1, v1, h, S.nf [false, true] rfl ⟨rfl, rfl, rfl, rfl, rfl, rfl, rfl, trivial⟩⟩
        clear S h; rintro a w9 ⟨x3, v5, h, S⟩; rw [hj3] at h; clear hj3 j3
        refine blk_n ?_
        refine then_n ?_
        exact ⟨x3, v5, h, S.nf [true] rfl ⟨rfl, rfl, rfl, rfl, rfl, rfl, rfl, trivial⟩⟩
      clear S h; rintro a w3 ⟨x2, v2, h, S⟩; rw [hj2] at h; clear hj2 j2
      refine then_n ?_
      refine f_region ?_
      refine lv S (rn_add (S.tm rfl) rfl) rfl ?_; clear S; intro a S
      refine lv S (rn_move (S.tm rfl)) rfl ?_; clear S; intro a S
      refine l_done ?_
      replace S := S.nf (L' := [.own v2 9 1 x2.length (x2.flatMap eStr)]) (K' := [(0, v_p_l), (1, .string p_club), (2, .int .i64 p_day), (7, v2), (10, v_p_l), (11, .int .i64 (p_l.length : Int)), (12, .int .i64 (W ((i1 : Int) + 1)))]) [true] rfl ⟨rfl, rfl, rfl, rfl, rfl, rfl, rfl, trivial⟩
      refine then_n ?_
      exact ⟨ys1, ⟨i1 + 1, x2, v2, ⟨_, (hd1).trans (List.append_cons _ _ _), by simp [hi1]⟩, h, S.nf [true] rfl ⟨rfl, rfl, rfl, rfl, rfl, rfl, (congrArg (fun z => some (Value.int .i64 z)) (rng_next hd1 hi1 (slc_max hs_p_l))), trivial⟩⟩, Nat.lt_succ_self _⟩
  clear S h; rintro a w2 ⟨x1, v1, h, S⟩; rw [hj1] at h; clear hj1 j1
  refine then_n ?_
  refine f_seq ?_
  refine f_region ?_
  refine lv S (rn_move (S.tm rfl)) rfl ?_; clear S; intro a S
  refine lv S (rn_assign (S.tm rfl)) rfl ?_; clear S; intro a S
  refine l_done ?_
  replace S := S.nf (L' := [.own v1 9 1 x1.length (x1.flatMap eStr)]) (K' := [(6, v1)]) [true] rfl ⟨rfl, trivial⟩
  refine then_n ?_
  refine wp_ret ?_
  obtain rfl := Option.some.inj h
  exact f_ret S Tryd.results15 rfl (own_retT S (i := 0) rfl rfl)
set_option maxRecDepth 20000 in
theorem slices_Equal_string_ok (w : World) (v_p_s1 : Value) (p_s1 : List ByteArray) (hs_p_s1 : Slc (view w []) 1 v_p_s1 (p_s1.map eStr)) (v_p_s2 : Value) (p_s2 : List ByteArray) (hs_p_s2 : Slc (view w []) 1 v_p_s2 (p_s2.map eStr)) (r : Bool) (h : slices_Equal_string p_s1 p_s2 = some r) :
    Calls Tryd.prog 17 [v_p_s1, v_p_s2].toArray w (Ret w [] fun τ v w' => v = .bool r) := by
  refine f_enter [] [] Tryd.func17 rfl Tryd.ntmps17 rfl (by simp) (by simp [fps]) (by simp [fps]) fun a S => ?_
  unfold slices_Equal_string at h
  replace S := S.nf (L' := []) (K' := [(0, v_p_s1), (1, v_p_s2)]) [] rfl ⟨rfl, rfl, trivial⟩
  refine f_seq ?_
  refine f_region ?_
  refine lv S (rn_assign rfl) rfl ?_; clear S; intro a S
  refine l_done ?_
  replace S := S.nf (L' := []) (K' := [(0, v_p_s1), (1, v_p_s2)]) [] rfl ⟨rfl, rfl, trivial⟩
  refine then_n ?_
  refine f_seq ?_
  refine f_seq ?_
  refine f_region ?_
  refine lv S (rn_move (S.tm rfl)) rfl ?_; clear S; intro a S
  refine lv S (rn_lenT sl_33 (S.tm rfl) (slc_len hs_p_s1)) rfl ?_; clear S; intro a S
  refine lv S (rn_move (S.tm rfl)) rfl ?_; clear S; intro a S
  refine lv S (rn_lenT sl_33 (S.tm rfl) (slc_len hs_p_s2)) rfl ?_; clear S; intro a S
  refine lv S (rn_neq (S.tm rfl) (S.tm rfl)) rfl ?_; clear S; intro a S
  refine l_done ?_
  replace S := S.nf (L' := []) (K' := [(0, v_p_s1), (1, v_p_s2), (10, .bool (!decide ((p_s1.length : Int) = (p_s2.length : Int))))]) [] rfl ⟨rfl, rfl, rfl, trivial⟩
  refine then_n ?_
  refine f_cond (S.tm rfl) (fun hb1 => ?_) (fun hb1 => ?_)
  · replace h := iteT h hb1
    refine f_seq ?_
    refine f_region ?_
    refine lv S (rn_assign rfl) rfl ?_; clear S; intro a S
    refine l_done ?_
    replace S := S.nf (L' := []) (K' := [(4, .bool false)]) [] rfl ⟨rfl, trivial⟩
    refine then_n ?_
    refine wp_ret ?_
    refine then_r ?_
    obtain rfl := Option.some.inj h
    exact f_ret S Tryd.results17 rfl rfl
  · replace h := iteF h hb1
    refine wp_skip ?_
    refine then_n ?_
    refine f_seq ?_
    refine f_seq ?_
    refine f_region ?_
    refine lv S (rn_move (S.tm rfl)) rfl ?_; clear S; intro a S
    refine lv S (rn_lenT sl_33 (S.tm rfl) (slc_len hs_p_s1)) rfl ?_; clear S; intro a S
    refine lv S (rn_move rfl) rfl ?_; clear S; intro a S
    refine l_done ?_
    replace S := S.nf (L' := []) (K' := [(0, v_p_s1), (1, v_p_s2), (12, .int .i64 (p_s1.length : Int)), (13, .int .i64 0)]) [] rfl ⟨rfl, rfl, rfl, rfl, trivial⟩
    refine then_n ?_
    obtain ⟨j1, hj1, h⟩ := joinE h
    refine f_join (fun a w' => j1 = some r ∧ Sx w [] nov [] [] 26 a w') ?_ ?_
    · refine wp_block ?_
      refine f_loop (fun (ys1 : List ByteArray) a w' => ∃ i1 : Nat, (∃ dn, p_s1 = dn ++ ys1 ∧ dn.length = i1) ∧ slices_Equal_string_l1 p_s2 j1 ys1 i1 = some r ∧ Sx w [] nov [] [(0, v_p_s1), (1, v_p_s2), (12, .int .i64 (p_s1.length : Int)), (13, .int .i64 (i1 : Int))] 26 a w') List.length p_s1 ⟨0, ⟨[], rfl, rfl⟩, h, S.nf [] rfl ⟨rfl, rfl, rfl, rfl, trivial⟩⟩ ?_
      clear S h; rintro ys1 a w1 ⟨i1, ⟨dn, hd1, hi1⟩, h, S⟩
      cases ys1 with
      | nil =>
        rw [slices_Equal_string_l1.eq_1] at h
        refine f_seq ?_
        refine f_region ?_
        refine lv S (rn_lss (S.tm rfl) (S.tm rfl)) rfl ?_; clear S; intro a S
        refine l_done ?_
        replace S := S.nf (L' := []) (K' := [(0, v_p_s1), (1, v_p_s2), (12, .int .i64 (p_s1.length : Int)), (13, .int .i64 (i1 : Int)), (14, .bool (decide ((i1 : Int) < (p_s1.length : Int))))]) [] rfl ⟨rfl, rfl, rfl, rfl, rfl, trivial⟩
        refine then_n ?_
        refine f_seq ?_
        refine wp_cond_false ((S.tm rfl).trans (congrArg Value.bool (rng_nil hd1 hi1))) ?_
        refine wp_exit ?_
        refine then_x ?_
        refine then_x ?_
        refine x_same ?_
        refine then_n ?_
        exact ⟨h, S.nf [] rfl trivial⟩
      | cons y1 ys1 =>
        rw [slices_Equal_string_l1.eq_2] at h
        refine f_seq ?_
        refine f_region ?_
        refine lv S (rn_lss (S.tm rfl) (S.tm rfl)) rfl ?_; clear S; intro a S
        refine l_done ?_
        replace S := S.nf (L' := []) (K' := [(0, v_p_s1), (1, v_p_s2), (12, .int .i64 (p_s1.length : Int)), (13, .int .i64 (i1 : Int)), (14, .bool (decide ((i1 : Int) < (p_s1.length : Int))))]) [] rfl ⟨rfl, rfl, rfl, rfl, rfl, trivial⟩
        refine then_n ?_
        refine f_seq ?_
        refine wp_cond_true ((S.tm rfl).trans (congrArg Value.bool (rng_cons hd1 hi1))) ?_
        refine wp_skip ?_
        refine then_n ?_
        refine f_seq ?_
        refine wp_block ?_
        refine f_seq ?_
        refine f_region ?_
        refine lv S (rn_move (S.tm rfl)) rfl ?_; clear S; intro a S
        refine lv S (rn_assign (S.tm rfl)) rfl ?_; clear S; intro a S
        refine l_done ?_
        replace S := S.nf (L' := []) (K' := [(0, v_p_s1), (1, v_p_s2), (5, .int .i64 (i1 : Int)), (12, .int .i64 (p_s1.length : Int)), (13, .int .i64 (i1 : Int))]) [] rfl ⟨rfl, rfl, rfl, rfl, rfl, trivial⟩
        refine then_n ?_
        refine f_seq ?_
        refine d_region [] ([]) Tryd.mixed S rfl (by kernel_rfl) ?_; clear S; intro w3 hk1 hsel S
        refine d_rest [0, 1, 2, 3, 4, 5, 6, 7, 8] hsel (by kernel_rfl) rfl ?_
        clear hsel
        refine s_lv S rfl (rn_move (S.tm rfl)) rfl ?_; clear S; intro a S
        refine s_lv S rfl (rn_move (S.tm rfl)) rfl ?_; clear S; intro a S
        obtain ⟨b1, o1, hm1, hr1⟩ := rn_indexT (a := a) (x := .tmp 16) (y := .tmp 17) (ty := 0) sl_33 hs_p_s1 (get_mid hd1 hi1) rfl (S.tm rfl) (S.tm rfl)
        refine s_lv S rfl (hr1 _) rfl ?_; clear S; intro a S
        clear hr1
        refine s_lv S rfl (rn_ld Tryd.isAgg9 (off := o1) (o := 0) (S.tm rfl) (hm1.at S.emb0) rfl) rfl ?_; clear S; intro a S
        refine s_lv S rfl (rn_move (S.tm rfl)) rfl ?_; clear S; intro a S
        refine s_lv S rfl (rn_move (S.tm rfl)) rfl ?_; clear S; intro a S
        obtain ⟨hc1, h⟩ := chkE h
        obtain ⟨b2, o2, hm2, hr2⟩ := rn_indexT (a := a) (x := .tmp 20) (y := .tmp 21) (ty := 0) sl_33 hs_p_s2 (inB_get hc1).1 (inB_get hc1).2 (S.tm rfl) (S.tm rfl)
        refine s_lv S rfl (hr2 _) rfl ?_; clear S; intro a S
        clear hr2
        refine s_lv S rfl (rn_ld Tryd.isAgg9 (off := o2) (o := 0) (S.tm rfl) (hm2.at S.emb0) rfl) rfl ?_; clear S; intro a S
        refine s_lv S rfl (rn_sneq (S.tm rfl) (S.tm rfl)) rfl ?_; clear S; intro a S
        refine s_done ?_
        replace S := S.nf (L' := []) (K' := [(0, v_p_s1), (1, v_p_s2), (12, .int .i64 (p_s1.length : Int)), (13, .int .i64 (i1 : Int)), (24, .bool (!decide (y1 = (nth p_s2 (i1 : Int)))))]) [] rfl ⟨rfl, rfl, rfl, rfl, rfl, trivial⟩
        refine then_n ?_
        refine f_cond (S.tm rfl) (fun hb2 => ?_) (fun hb2 => ?_)
        · replace h := iteT h hb2
          refine f_seq ?_
          refine f_region ?_
          refine lv S (rn_assign rfl) rfl ?_; clear S; intro a S
          refine l_done ?_
          replace S := S.nf (L' := []) (K' := [(4, .bool false)]) [] rfl ⟨rfl, trivial⟩
          refine then_n ?_
          refine wp_ret ?_
          refine blk_r ?_
          refine then_r ?_
          refine then_r ?_
          refine blk_r ?_
          refine then_r ?_
          refine then_r ?_
          obtain rfl := Option.some.inj h
          exact f_ret S Tryd.results17 rfl rfl
        · replace h := iteF h hb2
          refine wp_skip ?_
          refine blk_n ?_
          refine then_n ?_
          refine f_region ?_
          refine lv S (rn_add (S.tm rfl) rfl) rfl ?_; clear S; intro a S
          refine lv S (rn_move (S.tm rfl)) rfl ?_; clear S; intro a S
          refine l_done ?_
          replace S := S.nf (L' := []) (K' := [(0, v_p_s1), (1, v_p_s2), (12, .int .i64 (p_s1.length : Int)), (13, .int .i64 (W ((i1 : Int) + 1)))]) [] rfl ⟨rfl, rfl, rfl, rfl, trivial⟩
          refine then_n ?_
          exact ⟨ys1, ⟨i1 + 1, ⟨_, (hd1).trans (List.append_cons _ _ _), by simp [hi1]⟩, h, S.nf [] rfl ⟨rfl, rfl, rfl, (congrArg (fun z => some (Value.int .i64 z)) (rng_next hd1 hi1 (slc_max hs_p_s1))), trivial⟩⟩, Nat.lt_succ_self _⟩
    clear S h; rintro a w2 ⟨h, S⟩; rw [hj1] at h; clear hj1 j1
    refine then_n ?_
    refine f_seq ?_
    refine f_region ?_
    refine lv S (rn_assign rfl) rfl ?_; clear S; intro a S
    refine l_done ?_
    replace S := S.nf (L' := []) (K' := [(4, .bool true)]) [] rfl ⟨rfl, trivial⟩
    refine then_n ?_
    refine wp_ret ?_
    obtain rfl := Option.some.inj h
    exact f_ret S Tryd.results17 rfl rfl
theorem Stream_MeetRace_ok (w : World) (b_p_s : Nat) (v_p_s_L : Value) (p_s_L : List Int) (hs_p_s_L : Slc (view w [b_p_s]) 1 v_p_s_L (p_s_L.map eInt)) (p_s_at : Int) (hb_b_p_s : (LEnt.blk b_p_s [v_p_s_L, .int .i64 p_s_at] 25).holds w) (p_key : ByteArray) (r : GRace × Int) (h : Stream_MeetRace p_s_L p_s_at p_key = some r) :
    Calls Tryd.prog 18 [.pointer (some ⟨b_p_s, 0, none⟩), .string p_key].toArray w (Ret w [b_p_s] fun τ v w' => (LEnt.blk b_p_s [v_p_s_L, .int .i64 r.2] 25).holds w' ∧ v = .agg (GRace.enc r.1).toArray) := by
  refine f_enter [b_p_s] [.blk b_p_s [v_p_s_L, .int .i64 p_s_at] 25] Tryd.func18 rfl Tryd.ntmps18 rfl (fun e he => by simp only [List.mem_singleton] at he; subst he; exact hb_b_p_s) (by simp [fps, LEnt.fp]) (by simp [fps, LEnt.fp]) fun a S => ?_
  unfold Stream_MeetRace at h
  replace S := S.nf (L' := [.blk b_p_s [v_p_s_L, .int .i64 p_s_at] 25]) (K' := [(0, .pointer (some ⟨b_p_s, 0, none⟩)), (1, .string p_key)]) [true] rfl ⟨rfl, rfl, trivial⟩
  refine f_seq ?_
  refine f_region ?_
  refine l_alloc S Tryd.zeroValue45 (cs := [.string k_empty, .int .i64 0, .int .i64 0, .int .i64 0, .int .i64 0, .int .i64 0, .int .i64 0, .int .i64 0]) rfl rfl ?_; clear S; intro a w1 b1 hz1 hk1 S
  refine l_done ?_
  replace S := S.nf (L' := [.blk b1 [.string k_empty, .int .i64 0, .int .i64 0, .int .i64 0, .int .i64 0, .int .i64 0, .int .i64 0, .int .i64 0] 45, .blk b_p_s [v_p_s_L, .int .i64 p_s_at] 25]) (K' := [(0, .pointer (some ⟨b_p_s, 0, none⟩)), (1, .string p_key), (4, .pointer (some ⟨b1, 0, none⟩))]) [true, true] rfl ⟨rfl, rfl, rfl, trivial⟩
  refine then_n ?_
  refine f_seq ?_
  refine f_region ?_
  refine lv S (rn_move (S.tm rfl)) rfl ?_; clear S; intro a S
  refine lv S (rn_move (S.tm rfl)) rfl ?_; clear S; intro a S
  refine l_buildSlice S Tryd.underlying22 Tryd.sizeOf3 Tryd.zeroValue3 rfl rfl (pv := [(0, .int .i64 50), (1, .int .i64 100), (2, .int .i64 200)]) ⟨rfl, rfl, rfl, rfl, rfl, rfl, trivial⟩ (cs := [.int .i64 50, .int .i64 100, .int .i64 200]) (by kernel_rfl) rfl ?_; clear S; intro a w2 b2 hz2 hk2 S
  obtain ⟨r1, hr1, h⟩ := bindE h
  refine l_enter1 2 S (b := b_p_s) rfl rfl (fun _ => .blk b_p_s [v_p_s_L, .int .i64 r1.2] 25) (fun _ => run_call (vs := [.pointer (some ⟨b_p_s, 0, none⟩), .slice (some ⟨b2, 0, none⟩) 3 3]) ⟨(S.tm rfl), (S.tm rfl), trivial⟩ Tryd.call19) (Stream_Pick_ok _ b_p_s v_p_s_L p_s_L (hs_p_s_L.mono (S.le_arg (fp_sub (i := 2) (e := .blk b_p_s [v_p_s_L, .int .i64 p_s_at] 25) rfl))) p_s_at (S.holds _ (List.mem_of_getElem? (i := 2) rfl)) (.slice (some ⟨b2, 0, none⟩) 3 3) [50, 100, 200] (lit_slcT enc_int S (i := 0) rfl rfl rfl rfl ((ne_fp (i := 2) (j := 0) (e := .blk b_p_s [v_p_s_L, .int .i64 p_s_at] 25) (e' := .blk b2 [.int .i64 50, .int .i64 100, .int .i64 200] 3) S rfl rfl rfl) _ rfl)) _ hr1) rfl (fun _ _ _ h => ⟨h.1, fun _ hc => by cases hc; rfl⟩) ?_; clear S; intro v1 a w3 hv1 hk3 hn1 S
  replace hv1 := hv1.2
  subst hv1
  refine lv S (rn_move (S.tm rfl)) rfl ?_; clear S; intro a S
  refine l_buildSlice S Tryd.underlying22 Tryd.sizeOf3 Tryd.zeroValue3 rfl rfl (pv := [(0, .int .i64 1), (1, .int .i64 2), (2, .int .i64 3), (3, .int .i64 4)]) ⟨rfl, rfl, rfl, rfl, rfl, rfl, rfl, rfl, trivial⟩ (cs := [.int .i64 1, .int .i64 2, .int .i64 3, .int .i64 4]) (by kernel_rfl) rfl ?_; clear S; intro a w4 b3 hz3 hk4 S
  obtain ⟨r2, hr2, h⟩ := bindE h
  refine l_enter1 3 S (b := b_p_s) rfl rfl (fun _ => .blk b_p_s [v_p_s_L, .int .i64 r2.2] 25) (fun _ => run_call (vs := [.pointer (some ⟨b_p_s, 0, none⟩), .slice (some ⟨b3, 0, none⟩) 4 4]) ⟨(S.tm rfl), (S.tm rfl), trivial⟩ Tryd.call19) (Stream_Pick_ok _ b_p_s v_p_s_L p_s_L (hs_p_s_L.mono (S.le_arg (fp_sub (i := 3) (e := .blk b_p_s [v_p_s_L, .int .i64 r1.2] 25) rfl))) r1.2 (S.holds _ (List.mem_of_getElem? (i := 3) rfl)) (.slice (some ⟨b3, 0, none⟩) 4 4) [1, 2, 3, 4] (lit_slcT enc_int S (i := 0) rfl rfl rfl rfl ((ne_fp (i := 3) (j := 0) (e := .blk b_p_s [v_p_s_L, .int .i64 r1.2] 25) (e' := .blk b3 [.int .i64 1, .int .i64 2, .int .i64 3, .int .i64 4] 3) S rfl rfl rfl) _ rfl)) _ hr2) rfl (fun _ _ _ h => ⟨h.1, fun _ hc => by cases hc; rfl⟩) ?_; clear S; intro v2 a w5 hv2 hk5 hn2 S
  replace hv2 := hv2.2
  subst hv2
  refine lv S (rn_move (S.tm rfl)) rfl ?_; clear S; intro a S
  refine l_buildSlice S Tryd.underlying22 Tryd.sizeOf3 Tryd.zeroValue3 rfl rfl (pv := [(0, .int .i64 25), (1, .int .i64 50)]) ⟨rfl, rfl, rfl, rfl, trivial⟩ (cs := [.int .i64 25, .int .i64 50]) (by kernel_rfl) rfl ?_; clear S; intro a w6 b4 hz4 hk6 S
  obtain ⟨r3, hr3, h⟩ := bindE h
  refine l_enter1 4 S (b := b_p_s) rfl rfl (fun _ => .blk b_p_s [v_p_s_L, .int .i64 r3.2] 25) (fun _ => run_call (vs := [.pointer (some ⟨b_p_s, 0, none⟩), .slice (some ⟨b4, 0, none⟩) 2 2]) ⟨(S.tm rfl), (S.tm rfl), trivial⟩ Tryd.call19) (Stream_Pick_ok _ b_p_s v_p_s_L p_s_L (hs_p_s_L.mono (S.le_arg (fp_sub (i := 4) (e := .blk b_p_s [v_p_s_L, .int .i64 r2.2] 25) rfl))) r2.2 (S.holds _ (List.mem_of_getElem? (i := 4) rfl)) (.slice (some ⟨b4, 0, none⟩) 2 2) [25, 50] (lit_slcT enc_int S (i := 0) rfl rfl rfl rfl ((ne_fp (i := 4) (j := 0) (e := .blk b_p_s [v_p_s_L, .int .i64 r2.2] 25) (e' := .blk b4 [.int .i64 25, .int .i64 50] 3) S rfl rfl rfl) _ rfl)) _ hr3) rfl (fun _ _ _ h => ⟨h.1, fun _ hc => by cases hc; rfl⟩) ?_; clear S; intro v3 a w7 hv3 hk7 hn3 S
  replace hv3 := hv3.2
  subst hv3
  refine lv S (rn_move (S.tm rfl)) rfl ?_; clear S; intro a S
  refine l_buildSlice S Tryd.underlying22 Tryd.sizeOf3 Tryd.zeroValue3 rfl rfl (pv := [(0, .int .i64 1), (1, .int .i64 1), (2, .int .i64 1), (3, .int .i64 4)]) ⟨rfl, rfl, rfl, rfl, rfl, rfl, rfl, rfl, trivial⟩ (cs := [.int .i64 1, .int .i64 1, .int .i64 1, .int .i64 4]) (by kernel_rfl) rfl ?_; clear S; intro a w8 b5 hz5 hk8 S
  obtain ⟨r4, hr4, h⟩ := bindE h
  refine l_enter1 5 S (b := b_p_s) rfl rfl (fun _ => .blk b_p_s [v_p_s_L, .int .i64 r4.2] 25) (fun _ => run_call (vs := [.pointer (some ⟨b_p_s, 0, none⟩), .slice (some ⟨b5, 0, none⟩) 4 4]) ⟨(S.tm rfl), (S.tm rfl), trivial⟩ Tryd.call19) (Stream_Pick_ok _ b_p_s v_p_s_L p_s_L (hs_p_s_L.mono (S.le_arg (fp_sub (i := 5) (e := .blk b_p_s [v_p_s_L, .int .i64 r3.2] 25) rfl))) r3.2 (S.holds _ (List.mem_of_getElem? (i := 5) rfl)) (.slice (some ⟨b5, 0, none⟩) 4 4) [1, 1, 1, 4] (lit_slcT enc_int S (i := 0) rfl rfl rfl rfl ((ne_fp (i := 5) (j := 0) (e := .blk b_p_s [v_p_s_L, .int .i64 r3.2] 25) (e' := .blk b5 [.int .i64 1, .int .i64 1, .int .i64 1, .int .i64 4] 3) S rfl rfl rfl) _ rfl)) _ hr4) rfl (fun _ _ _ h => ⟨h.1, fun _ hc => by cases hc; rfl⟩) ?_; clear S; intro v4 a w9 hv4 hk9 hn4 S
  replace hv4 := hv4.2
  subst hv4
  refine lv S (rn_move (S.tm rfl)) rfl ?_; clear S; intro a S
  refine l_buildSlice S Tryd.underlying22 Tryd.sizeOf3 Tryd.zeroValue3 rfl rfl (pv := [(0, .int .i64 0), (1, .int .i64 1), (2, .int .i64 2)]) ⟨rfl, rfl, rfl, rfl, rfl, rfl, trivial⟩ (cs := [.int .i64 0, .int .i64 1, .int .i64 2]) (by kernel_rfl) rfl ?_; clear S; intro a w10 b6 hz6 hk10 S
  obtain ⟨r5, hr5, h⟩ := bindE h
  refine l_enter1 6 S (b := b_p_s) rfl rfl (fun _ => .blk b_p_s [v_p_s_L, .int .i64 r5.2] 25) (fun _ => run_call (vs := [.pointer (some ⟨b_p_s, 0, none⟩), .slice (some ⟨b6, 0, none⟩) 3 3]) ⟨(S.tm rfl), (S.tm rfl), trivial⟩ Tryd.call19) (Stream_Pick_ok _ b_p_s v_p_s_L p_s_L (hs_p_s_L.mono (S.le_arg (fp_sub (i := 6) (e := .blk b_p_s [v_p_s_L, .int .i64 r4.2] 25) rfl))) r4.2 (S.holds _ (List.mem_of_getElem? (i := 6) rfl)) (.slice (some ⟨b6, 0, none⟩) 3 3) [0, 1, 2] (lit_slcT enc_int S (i := 0) rfl rfl rfl rfl ((ne_fp (i := 6) (j := 0) (e := .blk b_p_s [v_p_s_L, .int .i64 r4.2] 25) (e' := .blk b6 [.int .i64 0, .int .i64 1, .int .i64 2] 3) S rfl rfl rfl) _ rfl)) _ hr5) rfl (fun _ _ _ h => ⟨h.1, fun _ hc => by cases hc; rfl⟩) ?_; clear S; intro v5 a w11 hv5 hk11 hn5 S
  replace hv5 := hv5.2
  subst hv5
  refine lv S (rn_move (S.tm rfl)) rfl ?_; clear S; intro a S
  refine l_buildSlice S Tryd.underlying22 Tryd.sizeOf3 Tryd.zeroValue3 rfl rfl (pv := [(0, .int .i64 0), (1, .int .i64 0), (2, .int .i64 5), (3, .int .i64 10)]) ⟨rfl, rfl, rfl, rfl, rfl, rfl, rfl, rfl, trivial⟩ (cs := [.int .i64 0, .int .i64 0, .int .i64 5, .int .i64 10]) (by kernel_rfl) rfl ?_; clear S; intro a w12 b7 hz7 hk12 S
  obtain ⟨r6, hr6, h⟩ := bindE h
  refine l_enter1 7 S (b := b_p_s) rfl rfl (fun _ => .blk b_p_s [v_p_s_L, .int .i64 r6.2] 25) (fun _ => run_call (vs := [.pointer (some ⟨b_p_s, 0, none⟩), .slice (some ⟨b7, 0, none⟩) 4 4]) ⟨(S.tm rfl), (S.tm rfl), trivial⟩ Tryd.call19) (Stream_Pick_ok _ b_p_s v_p_s_L p_s_L (hs_p_s_L.mono (S.le_arg (fp_sub (i := 7) (e := .blk b_p_s [v_p_s_L, .int .i64 r5.2] 25) rfl))) r5.2 (S.holds _ (List.mem_of_getElem? (i := 7) rfl)) (.slice (some ⟨b7, 0, none⟩) 4 4) [0, 0, 5, 10] (lit_slcT enc_int S (i := 0) rfl rfl rfl rfl ((ne_fp (i := 7) (j := 0) (e := .blk b_p_s [v_p_s_L, .int .i64 r5.2] 25) (e' := .blk b7 [.int .i64 0, .int .i64 0, .int .i64 5, .int .i64 10] 3) S rfl rfl rfl) _ rfl)) _ hr6) rfl (fun _ _ _ h => ⟨h.1, fun _ hc => by cases hc; rfl⟩) ?_; clear S; intro v6 a w13 hv6 hk13 hn6 S
  replace hv6 := hv6.2
  subst hv6
  refine lv S (rn_bld bt_45 (pv := [(0, .string p_key), (1, .int .i64 r1.1), (2, .int .i64 r2.1), (3, .int .i64 r3.1), (4, .int .i64 r4.1), (5, .int .i64 r5.1), (6, .int .i64 r6.1)]) ⟨rfl, (S.tm rfl), rfl, (S.tm rfl), rfl, (S.tm rfl), rfl, (S.tm rfl), rfl, (S.tm rfl), rfl, (S.tm rfl), rfl, (S.tm rfl), trivial⟩ (cs := [.string p_key, .int .i64 r1.1, .int .i64 r2.1, .int .i64 r3.1, .int .i64 r4.1, .int .i64 r5.1, .int .i64 r6.1, .int .i64 0]) (by kernel_rfl)) rfl ?_; clear S; intro a S
  refine l_alloc S Tryd.zeroValue45 (cs := [.string k_empty, .int .i64 0, .int .i64 0, .int .i64 0, .int .i64 0, .int .i64 0, .int .i64 0, .int .i64 0]) rfl rfl ?_; clear S; intro a w14 b8 hz8 hk14 S
  refine l_store S (S.tm rfl) (S.tm rfl) (i := 0) (off := 0) rfl Tryd.sizeOf45 (vs := [.string p_key, .int .i64 r1.1, .int .i64 r2.1, .int .i64 r3.1, .int .i64 r4.1, .int .i64 r5.1, .int .i64 r6.1, .int .i64 0]) rfl rfl rfl rfl ?_; clear S; intro w15 hk15 S
  refine l_done ?_
  replace S := S.nf (L' := [.blk b8 [.string p_key, .int .i64 r1.1, .int .i64 r2.1, .int .i64 r3.1, .int .i64 r4.1, .int .i64 r5.1, .int .i64 r6.1, .int .i64 0] 45, .blk b1 [.string k_empty, .int .i64 0, .int .i64 0, .int .i64 0, .int .i64 0, .int .i64 0, .int .i64 0, .int .i64 0] 45, .blk b_p_s [v_p_s_L, .int .i64 r6.2] 25]) (K' := [(0, .pointer (some ⟨b_p_s, 0, none⟩)), (4, .pointer (some ⟨b1, 0, none⟩)), (5, .pointer (some ⟨b8, 0, none⟩))]) [true, false, false, false, false, false, false, true, true] rfl ⟨rfl, rfl, rfl, trivial⟩
  refine then_n ?_
  refine f_seq ?_
  obtain ⟨r7, hr7, h⟩ := bindE h
  refine d_region [7] ([b_p_s]) Tryd.mixed S rfl (by kernel_rfl) ?_; clear S; intro w19 hk19 hsel S
  refine d_pure 0 S hsel rfl rfl (by kernel_rfl) (by kernel_rfl) rfl (fun _ => (rn_fld fa_45_6 (S.tm rfl))) ?_; clear S; intro a S
  refine d_quiet 1 S hsel rfl (by kernel_rfl) (by kernel_rfl) (by kernel_rfl) (by kernel_rfl) rfl (fun _ hw => (rn_ld Tryd.isAgg3 (off := 0) (o := 6) (S.tm rfl) ((S.blk_mem (i := 0) (cells := [.string p_key, .int .i64 r1.1, .int .i64 r2.1, .int .i64 r3.1, .int .i64 r4.1, .int .i64 r5.1, .int .i64 r6.1, .int .i64 0]) (b := b8) (T := 45) rfl (ne_fp (i := 2) (j := 0) (e := .blk b_p_s [v_p_s_L, .int .i64 r6.2] 25) (e' := .blk b8 [.string p_key, .int .i64 r1.1, .int .i64 r2.1, .int .i64 r3.1, .int .i64 r4.1, .int .i64 r5.1, .int .i64 r6.1, .int .i64 0] 45) S rfl rfl rfl)).kept hw) rfl)) ?_; clear S; intro a S
  refine d_pure 2 S hsel rfl rfl (by kernel_rfl) (by kernel_rfl) rfl (fun _ => (rn_move (S.tm rfl))) ?_; clear S; intro a S
  refine d_loud1 3 (by kernel_rfl) rfl ?_
  refine l_buildSlice S Tryd.underlying22 Tryd.sizeOf3 Tryd.zeroValue3 rfl rfl (pv := [(0, .int .i64 0), (1, .int .i64 5), (2, .int .i64 90)]) ⟨rfl, rfl, rfl, rfl, rfl, rfl, trivial⟩ (cs := [.int .i64 0, .int .i64 5, .int .i64 90]) (by kernel_rfl) rfl ?_; clear S; intro a w20 b10 hz10 hk20 S
  refine l_done ?_
  refine d_next (Keep.none hk20) ?_
  refine d_loud1 4 (by kernel_rfl) rfl ?_
  refine l_enter1 3 S (b := b_p_s) rfl rfl (fun _ => .blk b_p_s [v_p_s_L, .int .i64 r7.2] 25) (fun _ => run_call (vs := [.pointer (some ⟨b_p_s, 0, none⟩), .slice (some ⟨b10, 0, none⟩) 3 3]) ⟨(S.tm rfl), (S.tm rfl), trivial⟩ Tryd.call19) (Stream_Pick_ok _ b_p_s v_p_s_L p_s_L (hs_p_s_L.mono (S.le_arg (fp_sub (i := 3) (e := .blk b_p_s [v_p_s_L, .int .i64 r6.2] 25) rfl))) r6.2 (S.holds _ (List.mem_of_getElem? (i := 3) rfl)) (.slice (some ⟨b10, 0, none⟩) 3 3) [0, 5, 90] (lit_slcT enc_int S (i := 0) rfl rfl rfl rfl ((ne_fp (i := 3) (j := 0) (e := .blk b_p_s [v_p_s_L, .int .i64 r6.2] 25) (e' := .blk b10 [.int .i64 0, .int .i64 5, .int .i64 90] 3) S rfl rfl rfl) _ rfl)) _ hr7) rfl (fun _ _ _ h => ⟨h.1, fun _ hc => by cases hc; rfl⟩) ?_; clear S; intro v8 a w21 hv8 hk21 hn8 S
  replace hv8 := hv8.2
  subst hv8
  refine l_done ?_
  refine d_next hk21 ?_
  refine d_pure 5 S hsel rfl rfl (by kernel_rfl) (by kernel_rfl) rfl (fun _ => (rn_add (S.tm rfl) (S.tm rfl))) ?_; clear S; intro a S
  refine d_pure 6 S hsel rfl rfl (by kernel_rfl) (by kernel_rfl) rfl (fun _ => (rn_fld fa_45_7 (S.tm rfl))) ?_; clear S; intro a S
  refine d_loudB 7 ([b_p_s] ++ [b8]) rfl (by kernel_rfl) rfl ?_
  refine l_store S (S.tm rfl) (S.tm rfl) (i := 1) (off := 7) rfl Tryd.sizeOf3 (vs := [.int .i64 (W (r6.1 + r7.1))]) rfl rfl rfl rfl ?_; clear S; intro w22 hk22 S
  refine l_done ?_
  refine d_nextB ?_
  refine d_end (by kernel_rfl) ?_
  clear hsel
  replace S := S.nf (L' := [.blk b8 [.string p_key, .int .i64 r1.1, .int .i64 r2.1, .int .i64 r3.1, .int .i64 r4.1, .int .i64 r5.1, .int .i64 r6.1, .int .i64 (W (r6.1 + r7.1))] 45, .blk b1 [.string k_empty, .int .i64 0, .int .i64 0, .int .i64 0, .int .i64 0, .int .i64 0, .int .i64 0, .int .i64 0] 45, .blk b_p_s [v_p_s_L, .int .i64 r7.2] 25]) (K' := [(4, .pointer (some ⟨b1, 0, none⟩)), (5, .pointer (some ⟨b8, 0, none⟩))]) [false, true, true, true] rfl ⟨rfl, rfl, trivial⟩
  refine then_n ?_
  refine f_seq ?_
  refine f_region ?_
  refine lv S (rn_ldA Tryd.isAgg45 Tryd.sizeOf45 (off := 0) (o := 0) (part := [.string p_key, .int .i64 r1.1, .int .i64 r2.1, .int .i64 r3.1, .int .i64 r4.1, .int .i64 r5.1, .int .i64 r6.1, .int .i64 (W (r6.1 + r7.1))]) rfl rfl (S.tm rfl) (S.cellsAt (i := 0) rfl)) rfl ?_; clear S; intro a S
  refine l_store S (S.tm rfl) (S.tm rfl) (i := 1) (off := 0) rfl Tryd.sizeOf45 (vs := [.string p_key, .int .i64 r1.1, .int .i64 r2.1, .int .i64 r3.1, .int .i64 r4.1, .int .i64 r5.1, .int .i64 r6.1, .int .i64 (W (r6.1 + r7.1))]) rfl rfl rfl rfl ?_; clear S; intro w23 hk23 S
  refine l_done ?_
  replace S := S.nf (L' := [.blk b1 [.string p_key, .int .i64 r1.1, .int .i64 r2.1, .int .i64 r3.1, .int .i64 r4.1, .int .i64 r5.1, .int .i64 r6.1, .int .i64 (W (r6.1 + r7.1))] 45, .blk b_p_s [v_p_s_L, .int .i64 r7.2] 25]) (K' := [(4, .pointer (some ⟨b1, 0, none⟩))]) [false, true, true] rfl ⟨rfl, trivial⟩
  refine then_n ?_
  refine wp_ret ?_
  obtain rfl := Option.some.inj h
  exact f_retG S (rs := [.cell 4 45]) (vs := [.agg #[.string p_key, .int .i64 r1.1, .int .i64 r2.1, .int .i64 r3.1, .int .i64 r4.1, .int .i64 r5.1, .int .i64 r6.1, .int .i64 (W (r6.1 + r7.1))]]) Tryd.results18 ⟨(res_cell (off := 0) S rfl Tryd.isAgg45 Tryd.sizeOf45 rfl (S.cellsAt (i := 0) rfl)), trivial⟩ rfl ⟨(S.holds _ (List.mem_of_getElem? (i := 1) rfl)), rfl⟩
theorem timing_CheckRace_ok (w : World) (p_r : GRace) (r : Int) (h : timing_CheckRace p_r = some r) :
    Calls Tryd.prog 40 [.agg (GRace.enc p_r).toArray].toArray w (Ret w [] fun τ v w' => v = .int .i64 r) := by
  refine f_enter [] [] Tryd.func40 rfl Tryd.ntmps40 rfl (by simp) (by simp [fps]) (by simp [fps]) fun a S => ?_
  unfold timing_CheckRace at h
  replace S := S.nf (L' := []) (K' := [(0, .agg (GRace.enc p_r).toArray)]) [] rfl ⟨rfl, trivial⟩
  refine f_seq ?_
  refine f_region ?_
  refine l_box S (S.tm rfl) (cs := [.string p_r.Key, .int .i64 p_r.Metres, .int .i64 p_r.Stroke, .int .i64 p_r.Course, .int .i64 p_r.Legs, .int .i64 p_r.Sex, .int .i64 p_r.Young, .int .i64 p_r.Old]) rfl rfl ?_; clear S; intro a w1 b1 hz1 hk1 S
  refine lv S (rn_assign rfl) rfl ?_; clear S; intro a S
  refine l_done ?_
  replace S := S.nf (L' := [.blk b1 [.string p_r.Key, .int .i64 p_r.Metres, .int .i64 p_r.Stroke, .int .i64 p_r.Course, .int .i64 p_r.Legs, .int .i64 p_r.Sex, .int .i64 p_r.Young, .int .i64 p_r.Old] 45]) (K' := [(1, .pointer (some ⟨b1, 0, none⟩))]) [true] rfl ⟨rfl, trivial⟩
  refine then_n ?_
  refine f_seq ?_
  refine wp_block ?_
  refine f_seq ?_
  refine f_region ?_
  refine lv S (rn_fld fa_45_0 (S.tm rfl)) rfl ?_; clear S; intro a S
  refine lv S (rn_load Tryd.isAgg9 (S.tm rfl) (S.cell (i := 0) rfl rfl)) rfl ?_; clear S; intro a S
  obtain ⟨r1, hr1, h⟩ := bindE h
  refine l_enter S (fun _ => run_call (vs := [.string p_r.Key]) ⟨(S.tm rfl), trivial⟩ Tryd.call35) (words_IsKey_ok _ p_r.Key _ hr1) rfl ?_; clear S; intro v1 a w2 hv1 hk2 hn1 S
  subst hv1
  refine lv S (rn_not (S.tm rfl)) rfl ?_; clear S; intro a S
  refine lv S (rn_assign (S.tm rfl)) rfl ?_; clear S; intro a S
  refine l_done ?_
  replace S := S.nf (L' := [.blk b1 [.string p_r.Key, .int .i64 p_r.Metres, .int .i64 p_r.Stroke, .int .i64 p_r.Course, .int .i64 p_r.Legs, .int .i64 p_r.Sex, .int .i64 p_r.Young, .int .i64 p_r.Old] 45]) (K' := [(1, .pointer (some ⟨b1, 0, none⟩)), (3, .bool (!r1))]) [true] rfl ⟨rfl, rfl, trivial⟩
  refine then_n ?_
  refine f_cond (S.tm rfl) (fun hb1 => ?_) (fun hb1 => ?_)
  · replace h := iteT h hb1
    refine f_seq ?_
    refine f_region ?_
    refine lv S (rn_assign rfl) rfl ?_; clear S; intro a S
    refine l_done ?_
    replace S := S.nf (L' := []) (K' := [(2, .int .i64 5)]) [false] rfl ⟨rfl, trivial⟩
    refine then_n ?_
    refine wp_ret ?_
    refine blk_r ?_
    refine then_r ?_
    obtain rfl := Option.some.inj h
    exact f_ret S Tryd.results40 rfl rfl
  · replace h := iteF h hb1
    refine f_seq ?_
    refine f_region ?_
    refine lv S (rn_fld fa_45_2 (S.tm rfl)) rfl ?_; clear S; intro a S
    refine lv S (rn_load Tryd.isAgg3 (S.tm rfl) (S.cell (i := 0) rfl rfl)) rfl ?_; clear S; intro a S
    refine l_enter S (fun _ => run_call (vs := [.int .i64 p_r.Stroke, .int .i64 1, .int .i64 5]) ⟨(S.tm rfl), rfl, rfl, trivial⟩ Tryd.call54) (words_Within_ok _ p_r.Stroke 1 5 _ rfl) rfl ?_; clear S; intro v2 a w3 hv2 hk3 hn2 S
    subst hv2
    refine lv S (rn_not (S.tm rfl)) rfl ?_; clear S; intro a S
    refine lv S (rn_move (S.tm rfl)) rfl ?_; clear S; intro a S
    refine f_cutm 5 (fun a w' => Keep [] w3 w' ∧ Sx w [] nov [.blk b1 [.string p_r.Key, .int .i64 p_r.Metres, .int .i64 p_r.Stroke, .int .i64 p_r.Course, .int .i64 p_r.Legs, .int .i64 p_r.Sex, .int .i64 p_r.Young, .int .i64 p_r.Old] 45] [(1, .pointer (some ⟨b1, 0, none⟩)), (18, .bool ((!(words_Within p_r.Stroke 1 5)) || (!(words_Within p_r.Sex 0 2))))] 95 a w') ?_ ?_
    · rcases Bool.eq_false_or_eq_true (!(words_Within p_r.Stroke 1 5)) with hb2 | hb2
      · refine l_skip S rfl rfl rfl (neq_t hb2) rfl ?_ rfl; clear S; intro a S
        refine l_skip S rfl rfl rfl (neq_t hb2) rfl ?_ rfl; clear S; intro a S
        refine l_skip S rfl rfl rfl (neq_t hb2) rfl ?_ rfl; clear S; intro a S
        refine l_skip S rfl rfl rfl (neq_t hb2) rfl ?_ rfl; clear S; intro a S
        refine lv S (rn_or_t (!(words_Within p_r.Sex 0 2)) hb2 (S.tm rfl) rfl) rfl ?_; clear S; intro a S
        refine l_done ?_
        refine then_n ?_
        exact ⟨Keep.refl _ _, S.nf [true] rfl ⟨rfl, rfl, trivial⟩⟩
      · refine l_want S rfl rfl rfl hb2 ?_
        refine lv S (rn_fld fa_45_5 (S.tm rfl)) rfl ?_; clear S; intro a S
        refine l_want S rfl rfl rfl hb2 ?_
        refine lv S (rn_load Tryd.isAgg3 (S.tm rfl) (S.cell (i := 0) rfl rfl)) rfl ?_; clear S; intro a S
        refine l_want S rfl rfl rfl hb2 ?_
        refine l_enter S (fun _ => run_call (vs := [.int .i64 p_r.Sex, .int .i64 0, .int .i64 2]) ⟨(S.tm rfl), rfl, rfl, trivial⟩ Tryd.call54) (words_Within_ok _ p_r.Sex 0 2 _ rfl) rfl ?_; clear S; intro v3 a w5 hv3 hk4 hn3 S
        subst hv3
        refine l_want S rfl rfl rfl hb2 ?_
        refine lv S (rn_not (S.tm rfl)) rfl ?_; clear S; intro a S
        refine lv S (rn_or_f hb2 (S.tm rfl) (S.tm rfl)) rfl ?_; clear S; intro a S
        refine l_done ?_
        refine then_n ?_
        exact ⟨hk4, S.nf [true] rfl ⟨rfl, rfl, trivial⟩⟩
    clear S; rintro a w4 ⟨hk5, S⟩
    refine lv S (rn_assign (S.tm rfl)) rfl ?_; clear S; intro a S
    refine l_done ?_
    replace S := S.nf (L' := [.blk b1 [.string p_r.Key, .int .i64 p_r.Metres, .int .i64 p_r.Stroke, .int .i64 p_r.Course, .int .i64 p_r.Legs, .int .i64 p_r.Sex, .int .i64 p_r.Young, .int .i64 p_r.Old] 45]) (K' := [(1, .pointer (some ⟨b1, 0, none⟩)), (8, .bool ((!(words_Within p_r.Stroke 1 5)) || (!(words_Within p_r.Sex 0 2))))]) [true] rfl ⟨rfl, rfl, trivial⟩
    refine then_n ?_
    refine f_cond (S.tm rfl) (fun hb3 => ?_) (fun hb3 => ?_)
    · replace h := iteT h hb3
      refine f_seq ?_
      refine f_region ?_
      refine lv S (rn_assign rfl) rfl ?_; clear S; intro a S
      refine l_done ?_
      replace S := S.nf (L' := []) (K' := [(2, .int .i64 4)]) [false] rfl ⟨rfl, trivial⟩
      refine then_n ?_
      refine wp_ret ?_
      refine blk_r ?_
      refine then_r ?_
      obtain rfl := Option.some.inj h
      exact f_ret S Tryd.results40 rfl rfl
    · replace h := iteF h hb3
      refine f_seq ?_
      refine f_region ?_
      refine lv S (rn_fld fa_45_3 (S.tm rfl)) rfl ?_; clear S; intro a S
      refine lv S (rn_load Tryd.isAgg3 (S.tm rfl) (S.cell (i := 0) rfl rfl)) rfl ?_; clear S; intro a S
      refine lv S (rn_neq (S.tm rfl) rfl) rfl ?_; clear S; intro a S
      refine lv S (rn_move (S.tm rfl)) rfl ?_; clear S; intro a S
      refine f_cutm 4 (fun a w' => Keep [] w4 w' ∧ Sx w [] nov [.blk b1 [.string p_r.Key, .int .i64 p_r.Metres, .int .i64 p_r.Stroke, .int .i64 p_r.Course, .int .i64 p_r.Legs, .int .i64 p_r.Sex, .int .i64 p_r.Young, .int .i64 p_r.Old] 45] [(1, .pointer (some ⟨b1, 0, none⟩)), (27, .bool ((!decide (p_r.Course = 25)) && (!decide (p_r.Course = 50))))] 95 a w') ?_ ?_
      · rcases Bool.eq_false_or_eq_true (!decide (p_r.Course = 25)) with hb4 | hb4
        · refine l_want S rfl rfl rfl hb4 ?_
          refine lv S (rn_fld fa_45_3 (S.tm rfl)) rfl ?_; clear S; intro a S
          refine l_want S rfl rfl rfl hb4 ?_
          refine lv S (rn_load Tryd.isAgg3 (S.tm rfl) (S.cell (i := 0) rfl rfl)) rfl ?_; clear S; intro a S
          refine l_want S rfl rfl rfl hb4 ?_
          refine lv S (rn_neq (S.tm rfl) rfl) rfl ?_; clear S; intro a S
          refine lv S (rn_and_t hb4 (S.tm rfl) (S.tm rfl)) rfl ?_; clear S; intro a S
          refine l_done ?_
          refine then_n ?_
          exact ⟨Keep.refl _ _, S.nf [true] rfl ⟨rfl, rfl, trivial⟩⟩
        · refine l_skip S rfl rfl rfl (neq_f hb4) rfl ?_ rfl; clear S; intro a S
          refine l_skip S rfl rfl rfl (neq_f hb4) rfl ?_ rfl; clear S; intro a S
          refine l_skip S rfl rfl rfl (neq_f hb4) rfl ?_ rfl; clear S; intro a S
          refine lv S (rn_and_f (!decide (p_r.Course = 50)) hb4 (S.tm rfl) rfl) rfl ?_; clear S; intro a S
          refine l_done ?_
          refine then_n ?_
          exact ⟨Keep.refl _ _, S.nf [true] rfl ⟨rfl, rfl, trivial⟩⟩
      clear S; rintro a w6 ⟨hk6, S⟩
      refine lv S (rn_move (S.tm rfl)) rfl ?_; clear S; intro a S
      refine f_cutm 5 (fun a w' => Keep [] w6 w' ∧ Sx w [] nov [.blk b1 [.string p_r.Key, .int .i64 p_r.Metres, .int .i64 p_r.Stroke, .int .i64 p_r.Course, .int .i64 p_r.Legs, .int .i64 p_r.Sex, .int .i64 p_r.Young, .int .i64 p_r.Old] 45] [(1, .pointer (some ⟨b1, 0, none⟩)), (33, .bool (((!decide (p_r.Course = 25)) && (!decide (p_r.Course = 50))) || (!(words_Within p_r.Legs 1 4))))] 95 a w') ?_ ?_
      · rcases Bool.eq_false_or_eq_true ((!decide (p_r.Course = 25)) && (!decide (p_r.Course = 50))) with hb5 | hb5
        · refine l_skip S rfl rfl rfl (neq_t hb5) rfl ?_ rfl; clear S; intro a S
          refine l_skip S rfl rfl rfl (neq_t hb5) rfl ?_ rfl; clear S; intro a S
          refine l_skip S rfl rfl rfl (neq_t hb5) rfl ?_ rfl; clear S; intro a S
          refine l_skip S rfl rfl rfl (neq_t hb5) rfl ?_ rfl; clear S; intro a S
          refine lv S (rn_or_t (!(words_Within p_r.Legs 1 4)) hb5 (S.tm rfl) rfl) rfl ?_; clear S; intro a S
          refine l_done ?_
          refine then_n ?_
          exact ⟨Keep.refl _ _, S.nf [true] rfl ⟨rfl, rfl, trivial⟩⟩
        · refine l_want S rfl rfl rfl hb5 ?_
          refine lv S (rn_fld fa_45_4 (S.tm rfl)) rfl ?_; clear S; intro a S
          refine l_want S rfl rfl rfl hb5 ?_
          refine lv S (rn_load Tryd.isAgg3 (S.tm rfl) (S.cell (i := 0) rfl rfl)) rfl ?_; clear S; intro a S
          refine l_want S rfl rfl rfl hb5 ?_
          refine l_enter S (fun _ => run_call (vs := [.int .i64 p_r.Legs, .int .i64 1, .int .i64 4]) ⟨(S.tm rfl), rfl, rfl, trivial⟩ Tryd.call54) (words_Within_ok _ p_r.Legs 1 4 _ rfl) rfl ?_; clear S; intro v4 a w8 hv4 hk7 hn4 S
          subst hv4
          refine l_want S rfl rfl rfl hb5 ?_
          refine lv S (rn_not (S.tm rfl)) rfl ?_; clear S; intro a S
          refine lv S (rn_or_f hb5 (S.tm rfl) (S.tm rfl)) rfl ?_; clear S; intro a S
          refine l_done ?_
          refine then_n ?_
          exact ⟨hk7, S.nf [true] rfl ⟨rfl, rfl, trivial⟩⟩
      clear S; rintro a w7 ⟨hk8, S⟩
      refine lv S (rn_move (S.tm rfl)) rfl ?_; clear S; intro a S
      refine f_cutm 5 (fun a w' => Keep [] w7 w' ∧ Sx w [] nov [.blk b1 [.string p_r.Key, .int .i64 p_r.Metres, .int .i64 p_r.Stroke, .int .i64 p_r.Course, .int .i64 p_r.Legs, .int .i64 p_r.Sex, .int .i64 p_r.Young, .int .i64 p_r.Old] 45] [(1, .pointer (some ⟨b1, 0, none⟩)), (39, .bool ((((!decide (p_r.Course = 25)) && (!decide (p_r.Course = 50))) || (!(words_Within p_r.Legs 1 4))) || (!(words_Within p_r.Metres 25 1500))))] 95 a w') ?_ ?_
      · rcases Bool.eq_false_or_eq_true (((!decide (p_r.Course = 25)) && (!decide (p_r.Course = 50))) || (!(words_Within p_r.Legs 1 4))) with hb6 | hb6
        · refine l_skip S rfl rfl rfl (neq_t hb6) rfl ?_ rfl; clear S; intro a S
          refine l_skip S rfl rfl rfl (neq_t hb6) rfl ?_ rfl; clear S; intro a S
          refine l_skip S rfl rfl rfl (neq_t hb6) rfl ?_ rfl; clear S; intro a S
          refine l_skip S rfl rfl rfl (neq_t hb6) rfl ?_ rfl; clear S; intro a S
          refine lv S (rn_or_t (!(words_Within p_r.Metres 25 1500)) hb6 (S.tm rfl) rfl) rfl ?_; clear S; intro a S
          refine l_done ?_
          refine then_n ?_
          exact ⟨Keep.refl _ _, S.nf [true] rfl ⟨rfl, rfl, trivial⟩⟩
        · refine l_want S rfl rfl rfl hb6 ?_
          refine lv S (rn_fld fa_45_1 (S.tm rfl)) rfl ?_; clear S; intro a S
          refine l_want S rfl rfl rfl hb6 ?_
          refine lv S (rn_load Tryd.isAgg3 (S.tm rfl) (S.cell (i := 0) rfl rfl)) rfl ?_; clear S; intro a S
          refine l_want S rfl rfl rfl hb6 ?_
          refine l_enter S (fun _ => run_call (vs := [.int .i64 p_r.Metres, .int .i64 25, .int .i64 1500]) ⟨(S.tm rfl), rfl, rfl, trivial⟩ Tryd.call54) (words_Within_ok _ p_r.Metres 25 1500 _ rfl) rfl ?_; clear S; intro v5 a w10 hv5 hk9 hn5 S
          subst hv5
          refine l_want S rfl rfl rfl hb6 ?_
          refine lv S (rn_not (S.tm rfl)) rfl ?_; clear S; intro a S
          refine lv S (rn_or_f hb6 (S.tm rfl) (S.tm rfl)) rfl ?_; clear S; intro a S
          refine l_done ?_
          refine then_n ?_
          exact ⟨hk9, S.nf [true] rfl ⟨rfl, rfl, trivial⟩⟩
      clear S; rintro a w9 ⟨hk10, S⟩
      refine lv S (rn_move (S.tm rfl)) rfl ?_; clear S; intro a S
      refine f_cutm 4 (fun a w' => Keep [] w9 w' ∧ Sx w [] nov [.blk b1 [.string p_r.Key, .int .i64 p_r.Metres, .int .i64 p_r.Stroke, .int .i64 p_r.Course, .int .i64 p_r.Legs, .int .i64 p_r.Sex, .int .i64 p_r.Young, .int .i64 p_r.Old] 45] [(1, .pointer (some ⟨b1, 0, none⟩)), (44, .bool (((((!decide (p_r.Course = 25)) && (!decide (p_r.Course = 50))) || (!(words_Within p_r.Legs 1 4))) || (!(words_Within p_r.Metres 25 1500))) || (decide (p_r.Young < 0))))] 95 a w') ?_ ?_
      · rcases Bool.eq_false_or_eq_true ((((!decide (p_r.Course = 25)) && (!decide (p_r.Course = 50))) || (!(words_Within p_r.Legs 1 4))) || (!(words_Within p_r.Metres 25 1500))) with hb7 | hb7
        · refine l_skip S rfl rfl rfl (neq_t hb7) rfl ?_ rfl; clear S; intro a S
          refine l_skip S rfl rfl rfl (neq_t hb7) rfl ?_ rfl; clear S; intro a S
          refine l_skip S rfl rfl rfl (neq_t hb7) rfl ?_ rfl; clear S; intro a S
          refine lv S (rn_or_t (decide (p_r.Young < 0)) hb7 (S.tm rfl) rfl) rfl ?_; clear S; intro a S
          refine l_done ?_
          refine then_n ?_
          exact ⟨Keep.refl _ _, S.nf [true] rfl ⟨rfl, rfl, trivial⟩⟩
        · refine l_want S rfl rfl rfl hb7 ?_
          refine lv S (rn_fld fa_45_6 (S.tm rfl)) rfl ?_; clear S; intro a S
          refine l_want S rfl rfl rfl hb7 ?_
          refine lv S (rn_load Tryd.isAgg3 (S.tm rfl) (S.cell (i := 0) rfl rfl)) rfl ?_; clear S; intro a S
          refine l_want S rfl rfl rfl hb7 ?_
          refine lv S (rn_lss (S.tm rfl) rfl) rfl ?_; clear S; intro a S
          refine lv S (rn_or_f hb7 (S.tm rfl) (S.tm rfl)) rfl ?_; clear S; intro a S
          refine l_done ?_
          refine then_n ?_
          exact ⟨Keep.refl _ _, S.nf [true] rfl ⟨rfl, rfl, trivial⟩⟩
      clear S; rintro a w11 ⟨hk11, S⟩
      refine lv S (rn_move (S.tm rfl)) rfl ?_; clear S; intro a S
      refine f_cutm 6 (fun a w' => Keep [] w11 w' ∧ Sx w [] nov [.blk b1 [.string p_r.Key, .int .i64 p_r.Metres, .int .i64 p_r.Stroke, .int .i64 p_r.Course, .int .i64 p_r.Legs, .int .i64 p_r.Sex, .int .i64 p_r.Young, .int .i64 p_r.Old] 45] [(1, .pointer (some ⟨b1, 0, none⟩)), (51, .bool ((((((!decide (p_r.Course = 25)) && (!decide (p_r.Course = 50))) || (!(words_Within p_r.Legs 1 4))) || (!(words_Within p_r.Metres 25 1500))) || (decide (p_r.Young < 0))) || (decide (p_r.Old < p_r.Young))))] 95 a w') ?_ ?_
      · rcases Bool.eq_false_or_eq_true (((((!decide (p_r.Course = 25)) && (!decide (p_r.Course = 50))) || (!(words_Within p_r.Legs 1 4))) || (!(words_Within p_r.Metres 25 1500))) || (decide (p_r.Young < 0))) with hb8 | hb8
        · refine l_skip S rfl rfl rfl (neq_t hb8) rfl ?_ rfl; clear S; intro a S
          refine l_skip S rfl rfl rfl (neq_t hb8) rfl ?_ rfl; clear S; intro a S
          refine l_skip S rfl rfl rfl (neq_t hb8) rfl ?_ rfl; clear S; intro a S
          refine l_skip S rfl rfl rfl (neq_t hb8) rfl ?_ rfl; clear S; intro a S
          refine l_skip S rfl rfl rfl (neq_t hb8) rfl ?_ rfl; clear S; intro a S
          refine lv S (rn_or_t (decide (p_r.Old < p_r.Young)) hb8 (S.tm rfl) rfl) rfl ?_; clear S; intro a S
          refine l_done ?_
          refine then_n ?_
          exact ⟨Keep.refl _ _, S.nf [true] rfl ⟨rfl, rfl, trivial⟩⟩
        · refine l_want S rfl rfl rfl hb8 ?_
          refine lv S (rn_fld fa_45_6 (S.tm rfl)) rfl ?_; clear S; intro a S
          refine l_want S rfl rfl rfl hb8 ?_
          refine lv S (rn_load Tryd.isAgg3 (S.tm rfl) (S.cell (i := 0) rfl rfl)) rfl ?_; clear S; intro a S
          refine l_want S rfl rfl rfl hb8 ?_
          refine lv S (rn_fld fa_45_7 (S.tm rfl)) rfl ?_; clear S; intro a S
          refine l_want S rfl rfl rfl hb8 ?_
          refine lv S (rn_load Tryd.isAgg3 (S.tm rfl) (S.cell (i := 0) rfl rfl)) rfl ?_; clear S; intro a S
          refine l_want S rfl rfl rfl hb8 ?_
          refine lv S (rn_gtr (S.tm rfl) (S.tm rfl)) rfl ?_; clear S; intro a S
          refine lv S (rn_or_f hb8 (S.tm rfl) (S.tm rfl)) rfl ?_; clear S; intro a S
          refine l_done ?_
          refine then_n ?_
          exact ⟨Keep.refl _ _, S.nf [true] rfl ⟨rfl, rfl, trivial⟩⟩
      clear S; rintro a w12 ⟨hk12, S⟩
      refine lv S (rn_move (S.tm rfl)) rfl ?_; clear S; intro a S
      refine f_cutm 4 (fun a w' => Keep [] w12 w' ∧ Sx w [] nov [.blk b1 [.string p_r.Key, .int .i64 p_r.Metres, .int .i64 p_r.Stroke, .int .i64 p_r.Course, .int .i64 p_r.Legs, .int .i64 p_r.Sex, .int .i64 p_r.Young, .int .i64 p_r.Old] 45] [(1, .pointer (some ⟨b1, 0, none⟩)), (56, .bool (((((((!decide (p_r.Course = 25)) && (!decide (p_r.Course = 50))) || (!(words_Within p_r.Legs 1 4))) || (!(words_Within p_r.Metres 25 1500))) || (decide (p_r.Young < 0))) || (decide (p_r.Old < p_r.Young))) || (decide (120 < p_r.Old))))] 95 a w') ?_ ?_
      · rcases Bool.eq_false_or_eq_true ((((((!decide (p_r.Course = 25)) && (!decide (p_r.Course = 50))) || (!(words_Within p_r.Legs 1 4))) || (!(words_Within p_r.Metres 25 1500))) || (decide (p_r.Young < 0))) || (decide (p_r.Old < p_r.Young))) with hb9 | hb9
        · refine l_skip S rfl rfl rfl (neq_t hb9) rfl ?_ rfl; clear S; intro a S
          refine l_skip S rfl rfl rfl (neq_t hb9) rfl ?_ rfl; clear S; intro a S
          refine l_skip S rfl rfl rfl (neq_t hb9) rfl ?_ rfl; clear S; intro a S
          refine lv S (rn_or_t (decide (120 < p_r.Old)) hb9 (S.tm rfl) rfl) rfl ?_; clear S; intro a S
          refine l_done ?_
          refine then_n ?_
          exact ⟨Keep.refl _ _, S.nf [true] rfl ⟨rfl, rfl, trivial⟩⟩
        · refine l_want S rfl rfl rfl hb9 ?_
          refine lv S (rn_fld fa_45_7 (S.tm rfl)) rfl ?_; clear S; intro a S
          refine l_want S rfl rfl rfl hb9 ?_
          refine lv S (rn_load Tryd.isAgg3 (S.tm rfl) (S.cell (i := 0) rfl rfl)) rfl ?_; clear S; intro a S
          refine l_want S rfl rfl rfl hb9 ?_
          refine lv S (rn_gtr (S.tm rfl) rfl) rfl ?_; clear S; intro a S
          refine lv S (rn_or_f hb9 (S.tm rfl) (S.tm rfl)) rfl ?_; clear S; intro a S
          refine l_done ?_
          refine then_n ?_
          exact ⟨Keep.refl _ _, S.nf [true] rfl ⟨rfl, rfl, trivial⟩⟩
      clear S; rintro a w13 ⟨hk13, S⟩
      refine lv S (rn_assign (S.tm rfl)) rfl ?_; clear S; intro a S
      refine l_done ?_
      replace S := S.nf (L' := [.blk b1 [.string p_r.Key, .int .i64 p_r.Metres, .int .i64 p_r.Stroke, .int .i64 p_r.Course, .int .i64 p_r.Legs, .int .i64 p_r.Sex, .int .i64 p_r.Young, .int .i64 p_r.Old] 45]) (K' := [(1, .pointer (some ⟨b1, 0, none⟩)), (19, .bool (((((((!decide (p_r.Course = 25)) && (!decide (p_r.Course = 50))) || (!(words_Within p_r.Legs 1 4))) || (!(words_Within p_r.Metres 25 1500))) || (decide (p_r.Young < 0))) || (decide (p_r.Old < p_r.Young))) || (decide (120 < p_r.Old))))]) [true] rfl ⟨rfl, rfl, trivial⟩
      refine then_n ?_
      refine f_cond (S.tm rfl) (fun hb10 => ?_) (fun hb10 => ?_)
      · replace h := iteT h hb10
        refine f_seq ?_
        refine f_region ?_
        refine lv S (rn_assign rfl) rfl ?_; clear S; intro a S
        refine l_done ?_
        replace S := S.nf (L' := []) (K' := [(2, .int .i64 1)]) [false] rfl ⟨rfl, trivial⟩
        refine then_n ?_
        refine wp_ret ?_
        refine blk_r ?_
        refine then_r ?_
        obtain rfl := Option.some.inj h
        exact f_ret S Tryd.results40 rfl rfl
      · replace h := iteF h hb10
        refine f_seq ?_
        refine f_region ?_
        refine lv S (rn_fld fa_45_1 (S.tm rfl)) rfl ?_; clear S; intro a S
        refine lv S (rn_load Tryd.isAgg3 (S.tm rfl) (S.cell (i := 0) rfl rfl)) rfl ?_; clear S; intro a S
        refine lv S (rn_fld fa_45_3 (S.tm rfl)) rfl ?_; clear S; intro a S
        refine lv S (rn_load Tryd.isAgg3 (S.tm rfl) (S.cell (i := 0) rfl rfl)) rfl ?_; clear S; intro a S
        obtain ⟨hc1, h⟩ := chkE h
        refine lv S (rn_rem (S.tm rfl) (S.tm rfl) (by simpa using hc1)) rfl ?_; clear S; intro a S
        refine lv S (rn_neq (S.tm rfl) rfl) rfl ?_; clear S; intro a S
        refine lv S (rn_assign (S.tm rfl)) rfl ?_; clear S; intro a S
        refine l_done ?_
        replace S := S.nf (L' := [.blk b1 [.string p_r.Key, .int .i64 p_r.Metres, .int .i64 p_r.Stroke, .int .i64 p_r.Course, .int .i64 p_r.Legs, .int .i64 p_r.Sex, .int .i64 p_r.Young, .int .i64 p_r.Old] 45]) (K' := [(1, .pointer (some ⟨b1, 0, none⟩)), (57, .bool (!decide ((Int.tmod p_r.Metres p_r.Course) = 0)))]) [true] rfl ⟨rfl, rfl, trivial⟩
        refine then_n ?_
        refine f_cond (S.tm rfl) (fun hb11 => ?_) (fun hb11 => ?_)
        · replace h := iteT h hb11
          refine f_seq ?_
          refine f_region ?_
          refine lv S (rn_assign rfl) rfl ?_; clear S; intro a S
          refine l_done ?_
          replace S := S.nf (L' := []) (K' := [(2, .int .i64 3)]) [false] rfl ⟨rfl, trivial⟩
          refine then_n ?_
          refine wp_ret ?_
          refine blk_r ?_
          refine then_r ?_
          obtain rfl := Option.some.inj h
          exact f_ret S Tryd.results40 rfl rfl
        · replace h := iteF h hb11
          refine f_seq ?_
          refine f_seq ?_
          refine f_region ?_
          refine lv S (rn_fld fa_45_2 (S.tm rfl)) rfl ?_; clear S; intro a S
          refine lv S (rn_load Tryd.isAgg3 (S.tm rfl) (S.cell (i := 0) rfl rfl)) rfl ?_; clear S; intro a S
          refine lv S (rn_eql (S.tm rfl) rfl) rfl ?_; clear S; intro a S
          refine lv S (rn_move (S.tm rfl)) rfl ?_; clear S; intro a S
          refine f_cutm 4 (fun a w' => Keep [] w13 w' ∧ Sx w [] nov [.blk b1 [.string p_r.Key, .int .i64 p_r.Metres, .int .i64 p_r.Stroke, .int .i64 p_r.Course, .int .i64 p_r.Legs, .int .i64 p_r.Sex, .int .i64 p_r.Young, .int .i64 p_r.Old] 45] [(1, .pointer (some ⟨b1, 0, none⟩)), (72, .bool ((decide (p_r.Stroke = 5)) && (decide (p_r.Legs = 1))))] 95 a w') ?_ ?_
          · rcases Bool.eq_false_or_eq_true (decide (p_r.Stroke = 5)) with hb12 | hb12
            · refine l_want S rfl rfl rfl hb12 ?_
              refine lv S (rn_fld fa_45_4 (S.tm rfl)) rfl ?_; clear S; intro a S
              refine l_want S rfl rfl rfl hb12 ?_
              refine lv S (rn_load Tryd.isAgg3 (S.tm rfl) (S.cell (i := 0) rfl rfl)) rfl ?_; clear S; intro a S
              refine l_want S rfl rfl rfl hb12 ?_
              refine lv S (rn_eql (S.tm rfl) rfl) rfl ?_; clear S; intro a S
              refine lv S (rn_and_t hb12 (S.tm rfl) (S.tm rfl)) rfl ?_; clear S; intro a S
              refine l_done ?_
              refine then_n ?_
              exact ⟨Keep.refl _ _, S.nf [true] rfl ⟨rfl, rfl, trivial⟩⟩
            · refine l_skip S rfl rfl rfl (neq_f hb12) rfl ?_ rfl; clear S; intro a S
              refine l_skip S rfl rfl rfl (neq_f hb12) rfl ?_ rfl; clear S; intro a S
              refine l_skip S rfl rfl rfl (neq_f hb12) rfl ?_ rfl; clear S; intro a S
              refine lv S (rn_and_f (decide (p_r.Legs = 1)) hb12 (S.tm rfl) rfl) rfl ?_; clear S; intro a S
              refine l_done ?_
              refine then_n ?_
              exact ⟨Keep.refl _ _, S.nf [true] rfl ⟨rfl, rfl, trivial⟩⟩
          clear S; rintro a w14 ⟨hk14, S⟩
          refine lv S (rn_move (S.tm rfl)) rfl ?_; clear S; intro a S
          obtain ⟨j1, hj1, h⟩ := joinE h
          refine f_cutm 8 (fun a w' => ∃ c1, j1 c1 = some r ∧ Keep [] w14 w' ∧ Sx w [] nov [.blk b1 [.string p_r.Key, .int .i64 p_r.Metres, .int .i64 p_r.Stroke, .int .i64 p_r.Course, .int .i64 p_r.Legs, .int .i64 p_r.Sex, .int .i64 p_r.Young, .int .i64 p_r.Old] 45] [(1, .pointer (some ⟨b1, 0, none⟩)), (81, .bool c1)] 95 a w') ?_ ?_
          · rcases Bool.eq_false_or_eq_true ((decide (p_r.Stroke = 5)) && (decide (p_r.Legs = 1))) with hb13 | hb13
            · replace h := iteT h hb13
              refine l_want S rfl rfl rfl hb13 ?_
              refine lv S (rn_fld fa_45_1 (S.tm rfl)) rfl ?_; clear S; intro a S
              refine l_want S rfl rfl rfl hb13 ?_
              refine lv S (rn_load Tryd.isAgg3 (S.tm rfl) (S.cell (i := 0) rfl rfl)) rfl ?_; clear S; intro a S
              refine l_want S rfl rfl rfl hb13 ?_
              refine lv S (rn_fld fa_45_3 (S.tm rfl)) rfl ?_; clear S; intro a S
              refine l_want S rfl rfl rfl hb13 ?_
              refine lv S (rn_load Tryd.isAgg3 (S.tm rfl) (S.cell (i := 0) rfl rfl)) rfl ?_; clear S; intro a S
              refine l_want S rfl rfl rfl hb13 ?_
              refine lv S (rn_mul rfl (S.tm rfl)) rfl ?_; clear S; intro a S
              refine l_want S rfl rfl rfl hb13 ?_
              obtain ⟨hc2, h⟩ := chkE h
              refine lv S (rn_rem (S.tm rfl) (S.tm rfl) (by simpa using hc2)) rfl ?_; clear S; intro a S
              refine l_want S rfl rfl rfl hb13 ?_
              refine lv S (rn_neq (S.tm rfl) rfl) rfl ?_; clear S; intro a S
              refine lv S (rn_and_t hb13 (S.tm rfl) (S.tm rfl)) rfl ?_; clear S; intro a S
              refine l_done ?_
              refine then_n ?_
              exact ⟨_, h, Keep.refl _ _, S.nf [true] rfl ⟨rfl, rfl, trivial⟩⟩
            · replace h := iteF h hb13
              refine l_skip S rfl rfl rfl (neq_f hb13) rfl ?_ rfl; clear S; intro a S
              refine l_skip S rfl rfl rfl (neq_f hb13) rfl ?_ rfl; clear S; intro a S
              refine l_skip S rfl rfl rfl (neq_f hb13) rfl ?_ rfl; clear S; intro a S
              refine l_skip S rfl rfl rfl (neq_f hb13) rfl ?_ rfl; clear S; intro a S
              refine l_skip S rfl rfl rfl (neq_f hb13) rfl ?_ rfl; clear S; intro a S
              refine l_skip S rfl rfl rfl (neq_f hb13) rfl ?_ rfl; clear S; intro a S
              refine l_skip S rfl rfl rfl (neq_f hb13) rfl ?_ rfl; clear S; intro a S
              refine lv S (rn_and_f true hb13 (S.tm rfl) rfl) rfl ?_; clear S; intro a S
              refine l_done ?_
              refine then_n ?_
              exact ⟨_, h, Keep.refl _ _, S.nf [true] rfl ⟨rfl, rfl, trivial⟩⟩
          clear S h; rintro a w15 ⟨c1, h, hk15, S⟩; rw [hj1] at h; clear hj1 j1
          refine lv S (rn_assign (S.tm rfl)) rfl ?_; clear S; intro a S
          refine l_done ?_
          replace S := S.nf (L' := [.blk b1 [.string p_r.Key, .int .i64 p_r.Metres, .int .i64 p_r.Stroke, .int .i64 p_r.Course, .int .i64 p_r.Legs, .int .i64 p_r.Sex, .int .i64 p_r.Young, .int .i64 p_r.Old] 45]) (K' := [(1, .pointer (some ⟨b1, 0, none⟩)), (64, .bool c1)]) [true] rfl ⟨rfl, rfl, trivial⟩
          refine then_n ?_
          obtain ⟨j2, hj2, h⟩ := joinE h
          refine f_join (fun a w' => ∃ x1 : Bool, j2 x1 = some r ∧ Sx w [] nov [] [(64, .bool x1)] 95 a w') ?_ ?_
          · refine f_cond (S.tm rfl) (fun hb14 => ?_) (fun hb14 => ?_)
            · replace h := iteT h hb14
              refine wp_skip ?_
              refine then_n ?_
              exact ⟨c1, h, S.nf [false] rfl ⟨rfl, trivial⟩⟩
            · replace h := iteF h hb14
              refine f_region ?_
              refine lv S (rn_fld fa_45_2 (S.tm rfl)) rfl ?_; clear S; intro a S
              refine lv S (rn_load Tryd.isAgg3 (S.tm rfl) (S.cell (i := 0) rfl rfl)) rfl ?_; clear S; intro a S
              refine lv S (rn_eql (S.tm rfl) rfl) rfl ?_; clear S; intro a S
              refine lv S (rn_move (S.tm rfl)) rfl ?_; clear S; intro a S
              refine f_cutm 4 (fun a w' => Keep [] w15 w' ∧ Sx w [] nov [.blk b1 [.string p_r.Key, .int .i64 p_r.Metres, .int .i64 p_r.Stroke, .int .i64 p_r.Course, .int .i64 p_r.Legs, .int .i64 p_r.Sex, .int .i64 p_r.Young, .int .i64 p_r.Old] 45] [(1, .pointer (some ⟨b1, 0, none⟩)), (89, .bool ((decide (p_r.Stroke = 5)) && (decide (1 < p_r.Legs))))] 95 a w') ?_ ?_
              · rcases Bool.eq_false_or_eq_true (decide (p_r.Stroke = 5)) with hb15 | hb15
                · refine l_want S rfl rfl rfl hb15 ?_
                  refine lv S (rn_fld fa_45_4 (S.tm rfl)) rfl ?_; clear S; intro a S
                  refine l_want S rfl rfl rfl hb15 ?_
                  refine lv S (rn_load Tryd.isAgg3 (S.tm rfl) (S.cell (i := 0) rfl rfl)) rfl ?_; clear S; intro a S
                  refine l_want S rfl rfl rfl hb15 ?_
                  refine lv S (rn_gtr (S.tm rfl) rfl) rfl ?_; clear S; intro a S
                  refine lv S (rn_and_t hb15 (S.tm rfl) (S.tm rfl)) rfl ?_; clear S; intro a S
                  refine l_done ?_
                  refine then_n ?_
                  exact ⟨Keep.refl _ _, S.nf [true] rfl ⟨rfl, rfl, trivial⟩⟩
                · refine l_skip S rfl rfl rfl (neq_f hb15) rfl ?_ rfl; clear S; intro a S
                  refine l_skip S rfl rfl rfl (neq_f hb15) rfl ?_ rfl; clear S; intro a S
                  refine l_skip S rfl rfl rfl (neq_f hb15) rfl ?_ rfl; clear S; intro a S
                  refine lv S (rn_and_f (decide (1 < p_r.Legs)) hb15 (S.tm rfl) rfl) rfl ?_; clear S; intro a S
                  refine l_done ?_
                  refine then_n ?_
                  exact ⟨Keep.refl _ _, S.nf [true] rfl ⟨rfl, rfl, trivial⟩⟩
              clear S; rintro a w17 ⟨hk16, S⟩
              refine lv S (rn_move (S.tm rfl)) rfl ?_; clear S; intro a S
              refine f_cutm 4 (fun a w' => Keep [] w17 w' ∧ Sx w [] nov [.blk b1 [.string p_r.Key, .int .i64 p_r.Metres, .int .i64 p_r.Stroke, .int .i64 p_r.Course, .int .i64 p_r.Legs, .int .i64 p_r.Sex, .int .i64 p_r.Young, .int .i64 p_r.Old] 45] [(94, .bool (((decide (p_r.Stroke = 5)) && (decide (1 < p_r.Legs))) && (!decide (p_r.Legs = 4))))] 95 a w') ?_ ?_
              · rcases Bool.eq_false_or_eq_true ((decide (p_r.Stroke = 5)) && (decide (1 < p_r.Legs))) with hb16 | hb16
                · refine l_want S rfl rfl rfl hb16 ?_
                  refine lv S (rn_fld fa_45_4 (S.tm rfl)) rfl ?_; clear S; intro a S
                  refine l_want S rfl rfl rfl hb16 ?_
                  refine lv S (rn_load Tryd.isAgg3 (S.tm rfl) (S.cell (i := 0) rfl rfl)) rfl ?_; clear S; intro a S
                  refine l_want S rfl rfl rfl hb16 ?_
                  refine lv S (rn_neq (S.tm rfl) rfl) rfl ?_; clear S; intro a S
                  refine lv S (rn_and_t hb16 (S.tm rfl) (S.tm rfl)) rfl ?_; clear S; intro a S
                  refine l_done ?_
                  refine then_n ?_
                  exact ⟨Keep.refl _ _, S.nf [true] rfl ⟨rfl, trivial⟩⟩
                · refine l_skip S rfl rfl rfl (neq_f hb16) rfl ?_ rfl; clear S; intro a S
                  refine l_skip S rfl rfl rfl (neq_f hb16) rfl ?_ rfl; clear S; intro a S
                  refine l_skip S rfl rfl rfl (neq_f hb16) rfl ?_ rfl; clear S; intro a S
                  refine lv S (rn_and_f (!decide (p_r.Legs = 4)) hb16 (S.tm rfl) rfl) rfl ?_; clear S; intro a S
                  refine l_done ?_
                  refine then_n ?_
                  exact ⟨Keep.refl _ _, S.nf [true] rfl ⟨rfl, trivial⟩⟩
              clear S; rintro a w18 ⟨hk17, S⟩
              refine lv S (rn_assign (S.tm rfl)) rfl ?_; clear S; intro a S
              refine l_done ?_
              replace S := S.nf (L' := []) (K' := [(64, .bool (((decide (p_r.Stroke = 5)) && (decide (1 < p_r.Legs))) && (!decide (p_r.Legs = 4))))]) [false] rfl ⟨rfl, trivial⟩
              refine then_n ?_
              exact ⟨(((decide (p_r.Stroke = 5)) && (decide (1 < p_r.Legs))) && (!decide (p_r.Legs = 4))), h, S.nf [] rfl ⟨rfl, trivial⟩⟩
          clear S h; rintro a w16 ⟨x1, h, S⟩; rw [hj2] at h; clear hj2 j2
          refine then_n ?_
          refine f_cond (S.tm rfl) (fun hb17 => ?_) (fun hb17 => ?_)
          · replace h := iteT h hb17
            refine f_seq ?_
            refine f_region ?_
            refine lv S (rn_assign rfl) rfl ?_; clear S; intro a S
            refine l_done ?_
            replace S := S.nf (L' := []) (K' := [(2, .int .i64 16)]) [] rfl ⟨rfl, trivial⟩
            refine then_n ?_
            refine wp_ret ?_
            refine blk_r ?_
            refine then_r ?_
            obtain rfl := Option.some.inj h
            exact f_ret S Tryd.results40 rfl rfl
          · replace h := iteF h hb17
            refine wp_skip ?_
            refine blk_n ?_
            refine then_n ?_
            refine f_seq ?_
            refine f_region ?_
            refine lv S (rn_assign rfl) rfl ?_; clear S; intro a S
            refine l_done ?_
            replace S := S.nf (L' := []) (K' := [(2, .int .i64 0)]) [] rfl ⟨rfl, trivial⟩
            refine then_n ?_
            refine wp_ret ?_
            obtain rfl := Option.some.inj h
            exact f_ret S Tryd.results40 rfl rfl
set_option maxRecDepth 20000 in
theorem swimmer_CheckSwimmers_ok (w : World) (v_p_l : Value) (p_l : List GSwimmer) (hs_p_l : Slc (view w []) 3 v_p_l (p_l.map GSwimmer.enc)) (r : Int) (h : swimmer_CheckSwimmers p_l = some r) :
    Calls Tryd.prog 57 [v_p_l].toArray w (Ret w [] fun τ v w' => v = .int .i64 r) := by
  refine f_enter [] [] Tryd.func57 rfl Tryd.ntmps57 rfl (by simp) (by simp [fps]) (by simp [fps]) fun a S => ?_
  unfold swimmer_CheckSwimmers at h
  replace S := S.nf (L' := []) (K' := [(0, v_p_l)]) [] rfl ⟨rfl, trivial⟩
  refine f_seq ?_
  refine f_region ?_
  refine lv S (rn_assign rfl) rfl ?_; clear S; intro a S
  refine l_done ?_
  replace S := S.nf (L' := []) (K' := [(0, v_p_l)]) [] rfl ⟨rfl, trivial⟩
  refine then_n ?_
  refine f_seq ?_
  refine f_seq ?_
  refine f_region ?_
  refine lv S (rn_move (S.tm rfl)) rfl ?_; clear S; intro a S
  refine lv S (rn_lenT sl_70 (S.tm rfl) (slc_len hs_p_l)) rfl ?_; clear S; intro a S
  refine lv S (rn_gtr (S.tm rfl) rfl) rfl ?_; clear S; intro a S
  refine l_done ?_
  replace S := S.nf (L' := []) (K' := [(0, v_p_l), (7, .bool (decide (500 < (p_l.length : Int))))]) [] rfl ⟨rfl, rfl, trivial⟩
  refine then_n ?_
  refine f_cond (S.tm rfl) (fun hb1 => ?_) (fun hb1 => ?_)
  · replace h := iteT h hb1
    refine f_seq ?_
    refine f_region ?_
    refine lv S (rn_assign rfl) rfl ?_; clear S; intro a S
    refine l_done ?_
    replace S := S.nf (L' := []) (K' := [(2, .int .i64 2)]) [] rfl ⟨rfl, trivial⟩
    refine then_n ?_
    refine wp_ret ?_
    refine then_r ?_
    obtain rfl := Option.some.inj h
    exact f_ret S Tryd.results57 rfl rfl
  · replace h := iteF h hb1
    refine wp_skip ?_
    refine then_n ?_
    refine f_seq ?_
    refine f_seq ?_
    refine f_region ?_
    refine lv S (rn_move (S.tm rfl)) rfl ?_; clear S; intro a S
    refine lv S (rn_lenT sl_70 (S.tm rfl) (slc_len hs_p_l)) rfl ?_; clear S; intro a S
    refine lv S (rn_move rfl) rfl ?_; clear S; intro a S
    refine l_done ?_
    replace S := S.nf (L' := []) (K' := [(0, v_p_l), (8, v_p_l), (9, .int .i64 (p_l.length : Int)), (10, .int .i64 0)]) [] rfl ⟨rfl, rfl, rfl, rfl, trivial⟩
    refine then_n ?_
    obtain ⟨j1, hj1, h⟩ := joinE h
    refine f_join (fun a w' => j1 = some r ∧ Sx w [] nov [] [] 50 a w') ?_ ?_
    · refine wp_block ?_
      refine f_loop (fun (ys1 : List GSwimmer) a w' => ∃ i1 : Nat, (∃ dn, p_l = dn ++ ys1 ∧ dn.length = i1) ∧ swimmer_CheckSwimmers_l1 p_l j1 ys1 i1 = some r ∧ Sx w [] nov [] [(0, v_p_l), (8, v_p_l), (9, .int .i64 (p_l.length : Int)), (10, .int .i64 (i1 : Int))] 50 a w') List.length p_l ⟨0, ⟨[], rfl, rfl⟩, h, S.nf [] rfl ⟨rfl, rfl, rfl, rfl, trivial⟩⟩ ?_
      clear S h; rintro ys1 a w1 ⟨i1, ⟨dn, hd1, hi1⟩, h, S⟩
      cases ys1 with
      | nil =>
        rw [swimmer_CheckSwimmers_l1.eq_1] at h
        refine f_seq ?_
        refine f_region ?_
        refine lv S (rn_lss (S.tm rfl) (S.tm rfl)) rfl ?_; clear S; intro a S
        refine l_done ?_
        replace S := S.nf (L' := []) (K' := [(0, v_p_l), (8, v_p_l), (9, .int .i64 (p_l.length : Int)), (10, .int .i64 (i1 : Int)), (11, .bool (decide ((i1 : Int) < (p_l.length : Int))))]) [] rfl ⟨rfl, rfl, rfl, rfl, rfl, trivial⟩
        refine then_n ?_
        refine f_seq ?_
        refine wp_cond_false ((S.tm rfl).trans (congrArg Value.bool (rng_nil hd1 hi1))) ?_
        refine wp_exit ?_
        refine then_x ?_
        refine then_x ?_
        refine x_same ?_
        refine then_n ?_
        exact ⟨h, S.nf [] rfl trivial⟩
      | cons y1 ys1 =>
        rw [swimmer_CheckSwimmers_l1.eq_2] at h
        refine f_seq ?_
        refine f_region ?_
        refine lv S (rn_lss (S.tm rfl) (S.tm rfl)) rfl ?_; clear S; intro a S
        refine l_done ?_
        replace S := S.nf (L' := []) (K' := [(0, v_p_l), (8, v_p_l), (9, .int .i64 (p_l.length : Int)), (10, .int .i64 (i1 : Int)), (11, .bool (decide ((i1 : Int) < (p_l.length : Int))))]) [] rfl ⟨rfl, rfl, rfl, rfl, rfl, trivial⟩
        refine then_n ?_
        refine f_seq ?_
        refine wp_cond_true ((S.tm rfl).trans (congrArg Value.bool (rng_cons hd1 hi1))) ?_
        refine wp_skip ?_
        refine then_n ?_
        refine f_seq ?_
        refine wp_block ?_
        refine f_seq ?_
        refine f_region ?_
        refine lv S (rn_move (S.tm rfl)) rfl ?_; clear S; intro a S
        obtain ⟨b1, o1, hm1, hr1⟩ := rn_indexT (a := a) (x := .tmp 8) (y := .tmp 10) (ty := 0) sl_70 hs_p_l (get_mid hd1 hi1) rfl (S.tm rfl) (S.tm rfl)
        refine lv S (hr1 _) rfl ?_; clear S; intro a S
        clear hr1
        refine lv S (rn_ldA Tryd.isAgg49 Tryd.sizeOf49 (off := o1) (o := 0) (part := [.string y1.Key, .int .i64 y1.Sex, .int .i64 y1.Born]) rfl rfl (S.tm rfl) (hm1.at S.emb0)) rfl ?_; clear S; intro a S
        refine l_alloc S Tryd.zeroValue49 (cs := [.string k_empty, .int .i64 0, .int .i64 0]) rfl rfl ?_; clear S; intro a w3 b2 hz1 hk1 S
        refine lv S (rn_assign (S.tm rfl)) rfl ?_; clear S; intro a S
        refine l_store S (S.tm rfl) (S.tm rfl) (i := 0) (off := 0) rfl Tryd.sizeOf49 (vs := [.string y1.Key, .int .i64 y1.Sex, .int .i64 y1.Born]) rfl rfl rfl rfl ?_; clear S; intro w4 hk2 S
        refine l_done ?_
        replace S := S.nf (L' := [.blk b2 [.string y1.Key, .int .i64 y1.Sex, .int .i64 y1.Born] 49]) (K' := [(0, v_p_l), (3, .int .i64 (i1 : Int)), (4, .pointer (some ⟨b2, 0, none⟩)), (8, v_p_l), (9, .int .i64 (p_l.length : Int)), (10, .int .i64 (i1 : Int))]) [true] rfl ⟨rfl, rfl, rfl, rfl, rfl, rfl, trivial⟩
        refine then_n ?_
        refine wp_block ?_
        refine f_seq ?_
        refine f_region ?_
        refine lv S (rn_fld fa_49_0 (S.tm rfl)) rfl ?_; clear S; intro a S
        refine lv S (rn_load Tryd.isAgg9 (S.tm rfl) (S.cell (i := 0) rfl rfl)) rfl ?_; clear S; intro a S
        obtain ⟨r1, hr2, h⟩ := bindE h
        refine l_enter S (fun _ => run_call (vs := [.string y1.Key]) ⟨(S.tm rfl), trivial⟩ Tryd.call35) (words_IsKey_ok _ y1.Key _ hr2) rfl ?_; clear S; intro v1 a w5 hv1 hk3 hn1 S
        subst hv1
        refine lv S (rn_not (S.tm rfl)) rfl ?_; clear S; intro a S
        refine lv S (rn_assign (S.tm rfl)) rfl ?_; clear S; intro a S
        refine l_done ?_
        replace S := S.nf (L' := [.blk b2 [.string y1.Key, .int .i64 y1.Sex, .int .i64 y1.Born] 49]) (K' := [(0, v_p_l), (3, .int .i64 (i1 : Int)), (4, .pointer (some ⟨b2, 0, none⟩)), (8, v_p_l), (9, .int .i64 (p_l.length : Int)), (10, .int .i64 (i1 : Int)), (15, .bool (!r1))]) [true] rfl ⟨rfl, rfl, rfl, rfl, rfl, rfl, rfl, trivial⟩
        refine then_n ?_
        refine f_cond (S.tm rfl) (fun hb2 => ?_) (fun hb2 => ?_)
        · replace h := iteT h hb2
          refine f_seq ?_
          refine f_region ?_
          refine lv S (rn_assign rfl) rfl ?_; clear S; intro a S
          refine l_done ?_
          replace S := S.nf (L' := []) (K' := [(2, .int .i64 5)]) [false] rfl ⟨rfl, trivial⟩
          refine then_n ?_
          refine wp_ret ?_
          refine blk_r ?_
          refine blk_r ?_
          refine then_r ?_
          refine then_r ?_
          refine blk_r ?_
          refine then_r ?_
          refine then_r ?_
          obtain rfl := Option.some.inj h
          exact f_ret S Tryd.results57 rfl rfl
        · replace h := iteF h hb2
          refine f_seq ?_
          refine d_region [] ([]) Tryd.mixed S rfl (by kernel_rfl) ?_; clear S; intro w6 hk4 hsel S
          refine d_rest [0, 1, 2, 3, 4, 5, 6, 7, 8, 9, 10, 11, 12, 13] hsel (by kernel_rfl) rfl ?_
          clear hsel
          refine s_lv S rfl (rn_move (S.tm rfl)) rfl ?_; clear S; intro a S
          refine s_lv S rfl (rn_gtr (S.tm rfl) rfl) rfl ?_; clear S; intro a S
          refine s_lv S rfl (rn_move (S.tm rfl)) rfl ?_; clear S; intro a S
          obtain ⟨j2, hj2, h⟩ := joinE h
          refine s_cutm 10 (fun a w' => ∃ c1, j2 c1 = some r ∧ Keep [] w6 w' ∧ Sx w [] nov [.blk b2 [.string y1.Key, .int .i64 y1.Sex, .int .i64 y1.Born] 49] [(0, v_p_l), (4, .pointer (some ⟨b2, 0, none⟩)), (8, v_p_l), (9, .int .i64 (p_l.length : Int)), (10, .int .i64 (i1 : Int)), (33, .bool c1)] 50 a w') ?_ ?_
          · rcases Bool.eq_false_or_eq_true (decide (0 < (i1 : Int))) with hb3 | hb3
            · replace h := iteT h hb3
              refine s_want S rfl rfl rfl rfl hb3 ?_
              refine s_lv0 S (rn_fld fa_49_0 (S.tm rfl)) rfl ?_; clear S; intro a S
              refine s_want S rfl rfl rfl rfl hb3 ?_
              refine s_lv0 S (rn_load Tryd.isAgg9 (S.tm rfl) (S.cell (i := 0) rfl rfl)) rfl ?_; clear S; intro a S
              refine s_want S rfl rfl rfl rfl hb3 ?_
              refine s_lv0 S (rn_move (S.tm rfl)) rfl ?_; clear S; intro a S
              refine s_want S rfl rfl rfl rfl hb3 ?_
              refine s_lv0 S (rn_move (S.tm rfl)) rfl ?_; clear S; intro a S
              refine s_want S rfl rfl rfl rfl hb3 ?_
              refine s_lv0 S (rn_sub (S.tm rfl) rfl) rfl ?_; clear S; intro a S
              refine s_want S rfl rfl rfl rfl hb3 ?_
              obtain ⟨hc1, h⟩ := chkE h
              obtain ⟨b3, o2, hm2, hr3⟩ := rn_indexT (a := a) (x := .tmp 26) (y := .tmp 28) (ty := 0) sl_70 hs_p_l (inB_get hc1).1 (inB_get hc1).2 (S.tm rfl) (S.tm rfl)
              refine s_lv0 S (hr3 _) rfl ?_; clear S; intro a S
              clear hr3
              refine s_want S rfl rfl rfl rfl hb3 ?_
              refine s_lv0 S (rn_fld fa_49_0 (S.tm rfl)) rfl ?_; clear S; intro a S
              refine s_want S rfl rfl rfl rfl hb3 ?_
              refine s_lv0 S (rn_ld Tryd.isAgg9 (off := o2) (o := 0) (S.tm rfl) (hm2.at S.emb0) rfl) rfl ?_; clear S; intro a S
              refine s_want S rfl rfl rfl rfl hb3 ?_
              refine s_lv0 S (rn_sleq (S.tm rfl) (S.tm rfl)) rfl ?_; clear S; intro a S
              refine s_lv S rfl (rn_and_t hb3 (S.tm rfl) (S.tm rfl)) rfl ?_; clear S; intro a S
              refine s_done ?_
              exact ⟨_, h, Keep.refl _ _, S.nf [true] rfl ⟨rfl, rfl, rfl, rfl, rfl, rfl, trivial⟩⟩
            · replace h := iteF h hb3
              refine s_skip S rfl rfl rfl rfl (neq_f hb3) rfl ?_ rfl; clear S; intro a S
              refine s_skip S rfl rfl rfl rfl (neq_f hb3) rfl ?_ rfl; clear S; intro a S
              refine s_skip S rfl rfl rfl rfl (neq_f hb3) rfl ?_ rfl; clear S; intro a S
              refine s_skip S rfl rfl rfl rfl (neq_f hb3) rfl ?_ rfl; clear S; intro a S
              refine s_skip S rfl rfl rfl rfl (neq_f hb3) rfl ?_ rfl; clear S; intro a S
              refine s_skip S rfl rfl rfl rfl (neq_f hb3) rfl ?_ rfl; clear S; intro a S
              refine s_skip S rfl rfl rfl rfl (neq_f hb3) rfl ?_ rfl; clear S; intro a S
              refine s_skip S rfl rfl rfl rfl (neq_f hb3) rfl ?_ rfl; clear S; intro a S
              refine s_skip S rfl rfl rfl rfl (neq_f hb3) rfl ?_ rfl; clear S; intro a S
              refine s_lv S rfl (rn_and_f true hb3 (S.tm rfl) rfl) rfl ?_; clear S; intro a S
              refine s_done ?_
              exact ⟨_, h, Keep.refl _ _, S.nf [true] rfl ⟨rfl, rfl, rfl, rfl, rfl, rfl, trivial⟩⟩
          clear S h; rintro a w7 ⟨c1, h, hk5, S⟩; rw [hj2] at h; clear hj2 j2
          refine s_lv S rfl (rn_assign (S.tm rfl)) rfl ?_; clear S; intro a S
          refine s_done ?_
          replace S := S.nf (L' := [.blk b2 [.string y1.Key, .int .i64 y1.Sex, .int .i64 y1.Born] 49]) (K' := [(0, v_p_l), (4, .pointer (some ⟨b2, 0, none⟩)), (8, v_p_l), (9, .int .i64 (p_l.length : Int)), (10, .int .i64 (i1 : Int)), (20, .bool c1)]) [true] rfl ⟨rfl, rfl, rfl, rfl, rfl, rfl, trivial⟩
          refine then_n ?_
          refine f_cond (S.tm rfl) (fun hb4 => ?_) (fun hb4 => ?_)
          · replace h := iteT h hb4
            refine f_seq ?_
            refine f_region ?_
            refine lv S (rn_assign rfl) rfl ?_; clear S; intro a S
            refine l_done ?_
            replace S := S.nf (L' := []) (K' := [(2, .int .i64 7)]) [false] rfl ⟨rfl, trivial⟩
            refine then_n ?_
            refine wp_ret ?_
            refine blk_r ?_
            refine blk_r ?_
            refine then_r ?_
            refine then_r ?_
            refine blk_r ?_
            refine then_r ?_
            refine then_r ?_
            obtain rfl := Option.some.inj h
            exact f_ret S Tryd.results57 rfl rfl
          · replace h := iteF h hb4
            refine f_seq ?_
            refine f_region ?_
            refine lv S (rn_fld fa_49_1 (S.tm rfl)) rfl ?_; clear S; intro a S
            refine lv S (rn_load Tryd.isAgg3 (S.tm rfl) (S.cell (i := 0) rfl rfl)) rfl ?_; clear S; intro a S
            refine lv S (rn_neq (S.tm rfl) rfl) rfl ?_; clear S; intro a S
            refine lv S (rn_move (S.tm rfl)) rfl ?_; clear S; intro a S
            refine f_cutm 4 (fun a w' => Keep [] w7 w' ∧ Sx w [] nov [.blk b2 [.string y1.Key, .int .i64 y1.Sex, .int .i64 y1.Born] 49] [(0, v_p_l), (4, .pointer (some ⟨b2, 0, none⟩)), (8, v_p_l), (9, .int .i64 (p_l.length : Int)), (10, .int .i64 (i1 : Int)), (42, .bool ((!decide (y1.Sex = 1)) && (!decide (y1.Sex = 2))))] 50 a w') ?_ ?_
            · rcases Bool.eq_false_or_eq_true (!decide (y1.Sex = 1)) with hb5 | hb5
              · refine l_want S rfl rfl rfl hb5 ?_
                refine lv S (rn_fld fa_49_1 (S.tm rfl)) rfl ?_; clear S; intro a S
                refine l_want S rfl rfl rfl hb5 ?_
                refine lv S (rn_load Tryd.isAgg3 (S.tm rfl) (S.cell (i := 0) rfl rfl)) rfl ?_; clear S; intro a S
                refine l_want S rfl rfl rfl hb5 ?_
                refine lv S (rn_neq (S.tm rfl) rfl) rfl ?_; clear S; intro a S
                refine lv S (rn_and_t hb5 (S.tm rfl) (S.tm rfl)) rfl ?_; clear S; intro a S
                refine l_done ?_
                refine then_n ?_
                exact ⟨Keep.refl _ _, S.nf [true] rfl ⟨rfl, rfl, rfl, rfl, rfl, rfl, trivial⟩⟩
              · refine l_skip S rfl rfl rfl (neq_f hb5) rfl ?_ rfl; clear S; intro a S
                refine l_skip S rfl rfl rfl (neq_f hb5) rfl ?_ rfl; clear S; intro a S
                refine l_skip S rfl rfl rfl (neq_f hb5) rfl ?_ rfl; clear S; intro a S
                refine lv S (rn_and_f (!decide (y1.Sex = 2)) hb5 (S.tm rfl) rfl) rfl ?_; clear S; intro a S
                refine l_done ?_
                refine then_n ?_
                exact ⟨Keep.refl _ _, S.nf [true] rfl ⟨rfl, rfl, rfl, rfl, rfl, rfl, trivial⟩⟩
            clear S; rintro a w8 ⟨hk6, S⟩
            refine lv S (rn_move (S.tm rfl)) rfl ?_; clear S; intro a S
            refine f_cutm 5 (fun a w' => Keep [] w8 w' ∧ Sx w [] nov [.blk b2 [.string y1.Key, .int .i64 y1.Sex, .int .i64 y1.Born] 49] [(0, v_p_l), (8, v_p_l), (9, .int .i64 (p_l.length : Int)), (10, .int .i64 (i1 : Int)), (48, .bool (((!decide (y1.Sex = 1)) && (!decide (y1.Sex = 2))) || (!(swimmer_isDay y1.Born))))] 50 a w') ?_ ?_
            · rcases Bool.eq_false_or_eq_true ((!decide (y1.Sex = 1)) && (!decide (y1.Sex = 2))) with hb6 | hb6
              · refine l_skip S rfl rfl rfl (neq_t hb6) rfl ?_ rfl; clear S; intro a S
                refine l_skip S rfl rfl rfl (neq_t hb6) rfl ?_ rfl; clear S; intro a S
                refine l_skip S rfl rfl rfl (neq_t hb6) rfl ?_ rfl; clear S; intro a S
                refine l_skip S rfl rfl rfl (neq_t hb6) rfl ?_ rfl; clear S; intro a S
                refine lv S (rn_or_t (!(swimmer_isDay y1.Born)) hb6 (S.tm rfl) rfl) rfl ?_; clear S; intro a S
                refine l_done ?_
                refine then_n ?_
                exact ⟨Keep.refl _ _, S.nf [true] rfl ⟨rfl, rfl, rfl, rfl, rfl, trivial⟩⟩
              · refine l_want S rfl rfl rfl hb6 ?_
                refine lv S (rn_fld fa_49_2 (S.tm rfl)) rfl ?_; clear S; intro a S
                refine l_want S rfl rfl rfl hb6 ?_
                refine lv S (rn_load Tryd.isAgg3 (S.tm rfl) (S.cell (i := 0) rfl rfl)) rfl ?_; clear S; intro a S
                refine l_want S rfl rfl rfl hb6 ?_
                refine l_enter S (fun _ => run_call (vs := [.int .i64 y1.Born]) ⟨(S.tm rfl), trivial⟩ Tryd.call36) (swimmer_isDay_ok _ y1.Born _ rfl) rfl ?_; clear S; intro v2 a w10 hv2 hk7 hn2 S
                subst hv2
                refine l_want S rfl rfl rfl hb6 ?_
                refine lv S (rn_not (S.tm rfl)) rfl ?_; clear S; intro a S
                refine lv S (rn_or_f hb6 (S.tm rfl) (S.tm rfl)) rfl ?_; clear S; intro a S
                refine l_done ?_
                refine then_n ?_
                exact ⟨hk7, S.nf [true] rfl ⟨rfl, rfl, rfl, rfl, rfl, trivial⟩⟩
            clear S; rintro a w9 ⟨hk8, S⟩
            refine lv S (rn_assign (S.tm rfl)) rfl ?_; clear S; intro a S
            refine l_done ?_
            replace S := S.nf (L' := []) (K' := [(0, v_p_l), (8, v_p_l), (9, .int .i64 (p_l.length : Int)), (10, .int .i64 (i1 : Int)), (34, .bool (((!decide (y1.Sex = 1)) && (!decide (y1.Sex = 2))) || (!(swimmer_isDay y1.Born))))]) [false] rfl ⟨rfl, rfl, rfl, rfl, rfl, trivial⟩
            refine then_n ?_
            refine f_cond (S.tm rfl) (fun hb7 => ?_) (fun hb7 => ?_)
            · replace h := iteT h hb7
              refine f_seq ?_
              refine f_region ?_
              refine lv S (rn_assign rfl) rfl ?_; clear S; intro a S
              refine l_done ?_
              replace S := S.nf (L' := []) (K' := [(2, .int .i64 1)]) [] rfl ⟨rfl, trivial⟩
              refine then_n ?_
              refine wp_ret ?_
              refine blk_r ?_
              refine blk_r ?_
              refine then_r ?_
              refine then_r ?_
              refine blk_r ?_
              refine then_r ?_
              refine then_r ?_
              obtain rfl := Option.some.inj h
              exact f_ret S Tryd.results57 rfl rfl
            · replace h := iteF h hb7
              refine wp_skip ?_
              refine blk_n ?_
              refine blk_n ?_
              refine then_n ?_
              refine f_region ?_
              refine lv S (rn_add (S.tm rfl) rfl) rfl ?_; clear S; intro a S
              refine lv S (rn_move (S.tm rfl)) rfl ?_; clear S; intro a S
              refine l_done ?_
              replace S := S.nf (L' := []) (K' := [(0, v_p_l), (8, v_p_l), (9, .int .i64 (p_l.length : Int)), (10, .int .i64 (W ((i1 : Int) + 1)))]) [] rfl ⟨rfl, rfl, rfl, rfl, trivial⟩
              refine then_n ?_
              exact ⟨ys1, ⟨i1 + 1, ⟨_, (hd1).trans (List.append_cons _ _ _), by simp [hi1]⟩, h, S.nf [] rfl ⟨rfl, rfl, rfl, (congrArg (fun z => some (Value.int .i64 z)) (rng_next hd1 hi1 (slc_max hs_p_l))), trivial⟩⟩, Nat.lt_succ_self _⟩
    clear S h; rintro a w2 ⟨h, S⟩; rw [hj1] at h; clear hj1 j1
    refine then_n ?_
    refine f_seq ?_
    refine f_region ?_
    refine lv S (rn_assign rfl) rfl ?_; clear S; intro a S
    refine l_done ?_
    replace S := S.nf (L' := []) (K' := [(2, .int .i64 0)]) [] rfl ⟨rfl, trivial⟩
    refine then_n ?_
    refine wp_ret ?_
    obtain rfl := Option.some.inj h
    exact f_ret S Tryd.results57 rfl rfl
theorem swimmer_isWay_ok (w : World) (p_n : Int) (r : Bool) (h : swimmer_isWay p_n = r) :
    Calls Tryd.prog 58 [.int .i64 p_n].toArray w (Ret w [] fun τ v w' => v = .bool r) := by
  refine f_enter [] [] Tryd.func58 rfl Tryd.ntmps58 rfl (by simp) (by simp [fps]) (by simp [fps]) fun a S => ?_
  unfold swimmer_isWay at h
  replace S := S.nf (L' := []) (K' := [(0, .int .i64 p_n)]) [] rfl ⟨rfl, trivial⟩
  refine f_seq ?_
  refine f_region ?_
  refine lv S (rn_assign rfl) rfl ?_; clear S; intro a S
  refine l_done ?_
  replace S := S.nf (L' := []) (K' := [(0, .int .i64 p_n)]) [] rfl ⟨rfl, trivial⟩
  refine then_n ?_
  refine f_seq ?_
  refine f_region ?_
  refine lv S (rn_move (S.tm rfl)) rfl ?_; clear S; intro a S
  refine lv S (rn_eql (S.tm rfl) rfl) rfl ?_; clear S; intro a S
  refine lv S (rn_move (S.tm rfl)) rfl ?_; clear S; intro a S
  refine f_cutm 3 (fun a w' => Keep [] w w' ∧ Sx w [] nov [] [(8, .bool ((decide (p_n = 1)) || (decide (p_n = 2))))] 9 a w') ?_ ?_
  · rcases Bool.eq_false_or_eq_true (decide (p_n = 1)) with hb1 | hb1
    · refine l_skip S rfl rfl rfl (neq_t hb1) rfl ?_ rfl; clear S; intro a S
      refine l_skip S rfl rfl rfl (neq_t hb1) rfl ?_ rfl; clear S; intro a S
      refine lv S (rn_or_t (decide (p_n = 2)) hb1 (S.tm rfl) rfl) rfl ?_; clear S; intro a S
      refine l_done ?_
      refine then_n ?_
      exact ⟨Keep.refl _ _, S.nf [] rfl ⟨rfl, trivial⟩⟩
    · refine l_want S rfl rfl rfl hb1 ?_
      refine lv S (rn_move (S.tm rfl)) rfl ?_; clear S; intro a S
      refine l_want S rfl rfl rfl hb1 ?_
      refine lv S (rn_eql (S.tm rfl) rfl) rfl ?_; clear S; intro a S
      refine lv S (rn_or_f hb1 (S.tm rfl) (S.tm rfl)) rfl ?_; clear S; intro a S
      refine l_done ?_
      refine then_n ?_
      exact ⟨Keep.refl _ _, S.nf [] rfl ⟨rfl, trivial⟩⟩
  clear S; rintro a w1 ⟨hk1, S⟩
  refine lv S (rn_assign (S.tm rfl)) rfl ?_; clear S; intro a S
  refine l_done ?_
  replace S := S.nf (L' := []) (K' := [(2, .bool ((decide (p_n = 1)) || (decide (p_n = 2))))]) [] rfl ⟨rfl, trivial⟩
  refine then_n ?_
  refine wp_ret ?_
  subst h
  exact f_ret S Tryd.results58 rfl rfl
theorem swimmer_checkAge_ok (w : World) (p_s : GSwimmer) (p_day : Int) (p_way : Int) (r : Int) (h : swimmer_checkAge p_s p_day p_way = some r) :
    Calls Tryd.prog 41 [.agg (GSwimmer.enc p_s).toArray, .int .i64 p_day, .int .i64 p_way].toArray w (Ret w [] fun τ v w' => v = .int .i64 r) := by
  refine f_enter [] [] Tryd.func41 rfl Tryd.ntmps41 rfl (by simp) (by simp [fps]) (by simp [fps]) fun a S => ?_
  unfold swimmer_checkAge at h
  replace S := S.nf (L' := []) (K' := [(0, .agg (GSwimmer.enc p_s).toArray), (1, .int .i64 p_day), (2, .int .i64 p_way)]) [] rfl ⟨rfl, rfl, rfl, trivial⟩
  refine f_seq ?_
  refine f_region ?_
  refine l_box S (S.tm rfl) (cs := [.string p_s.Key, .int .i64 p_s.Sex, .int .i64 p_s.Born]) rfl rfl ?_; clear S; intro a w1 b1 hz1 hk1 S
  refine lv S (rn_assign rfl) rfl ?_; clear S; intro a S
  refine l_done ?_
  replace S := S.nf (L' := [.blk b1 [.string p_s.Key, .int .i64 p_s.Sex, .int .i64 p_s.Born] 49]) (K' := [(1, .int .i64 p_day), (2, .int .i64 p_way), (3, .pointer (some ⟨b1, 0, none⟩))]) [true] rfl ⟨rfl, rfl, rfl, trivial⟩
  refine then_n ?_
  refine f_seq ?_
  refine f_seq ?_
  refine f_region ?_
  refine lv S (rn_ldA Tryd.isAgg49 Tryd.sizeOf49 (off := 0) (o := 0) (part := [.string p_s.Key, .int .i64 p_s.Sex, .int .i64 p_s.Born]) rfl rfl (S.tm rfl) (S.cellsAt (i := 0) rfl)) rfl ?_; clear S; intro a S
  refine l_buildSlice S Tryd.underlying70 Tryd.sizeOf49 Tryd.zeroValue49 rfl rfl (pv := [(0, .agg #[.string p_s.Key, .int .i64 p_s.Sex, .int .i64 p_s.Born])]) ⟨rfl, (S.tm rfl), trivial⟩ (cs := [.string p_s.Key, .int .i64 p_s.Sex, .int .i64 p_s.Born]) (by kernel_rfl) rfl ?_; clear S; intro a w2 b2 hz2 hk2 S
  obtain ⟨r1, hr1, h⟩ := bindE h
  refine l_enter S (fun _ => run_call (vs := [.slice (some ⟨b2, 0, none⟩) 1 1]) ⟨(S.tm rfl), trivial⟩ Tryd.call57) (swimmer_CheckSwimmers_ok _ (.slice (some ⟨b2, 0, none⟩) 1 1) [p_s] (lit_slcT GSwimmer.enc_ok S (i := 0) rfl rfl rfl rfl ((ne_nil (e' := .blk b2 [.string p_s.Key, .int .i64 p_s.Sex, .int .i64 p_s.Born] 49)) _ rfl)) _ hr1) rfl ?_; clear S; intro v1 a w3 hv1 hk3 hn1 S
  subst hv1
  refine lv S (rn_assign (S.tm rfl)) rfl ?_; clear S; intro a S
  refine l_done ?_
  replace S := S.nf (L' := [.blk b1 [.string p_s.Key, .int .i64 p_s.Sex, .int .i64 p_s.Born] 49]) (K' := [(1, .int .i64 p_day), (2, .int .i64 p_way), (3, .pointer (some ⟨b1, 0, none⟩)), (7, .int .i64 r1)]) [false, true] rfl ⟨rfl, rfl, rfl, rfl, trivial⟩
  refine then_n ?_
  refine f_seq ?_
  refine f_region ?_
  refine lv S (rn_move (S.tm rfl)) rfl ?_; clear S; intro a S
  refine lv S (rn_neq (S.tm rfl) rfl) rfl ?_; clear S; intro a S
  refine l_done ?_
  replace S := S.nf (L' := [.blk b1 [.string p_s.Key, .int .i64 p_s.Sex, .int .i64 p_s.Born] 49]) (K' := [(1, .int .i64 p_day), (2, .int .i64 p_way), (3, .pointer (some ⟨b1, 0, none⟩)), (7, .int .i64 r1), (12, .bool (!decide (r1 = 0)))]) [true] rfl ⟨rfl, rfl, rfl, rfl, rfl, trivial⟩
  refine then_n ?_
  refine f_cond (S.tm rfl) (fun hb1 => ?_) (fun hb1 => ?_)
  · replace h := iteT h hb1
    refine f_seq ?_
    refine f_region ?_
    refine lv S (rn_move (S.tm rfl)) rfl ?_; clear S; intro a S
    refine lv S (rn_assign (S.tm rfl)) rfl ?_; clear S; intro a S
    refine l_done ?_
    replace S := S.nf (L' := []) (K' := [(6, .int .i64 r1)]) [false] rfl ⟨rfl, trivial⟩
    refine then_n ?_
    refine wp_ret ?_
    refine then_r ?_
    obtain rfl := Option.some.inj h
    exact f_ret S Tryd.results41 rfl rfl
  · replace h := iteF h hb1
    refine wp_skip ?_
    refine then_n ?_
    refine f_seq ?_
    refine f_seq ?_
    refine f_region ?_
    refine lv S (rn_move (S.tm rfl)) rfl ?_; clear S; intro a S
    refine lv S (rn_fld fa_49_2 (S.tm rfl)) rfl ?_; clear S; intro a S
    refine lv S (rn_load Tryd.isAgg3 (S.tm rfl) (S.cell (i := 0) rfl rfl)) rfl ?_; clear S; intro a S
    refine l_enter S (fun _ => run_call (vs := [.int .i64 p_day, .int .i64 p_s.Born, .int .i64 4000]) ⟨(S.tm rfl), (S.tm rfl), rfl, trivial⟩ Tryd.call54) (words_Within_ok _ p_day p_s.Born 4000 _ rfl) rfl ?_; clear S; intro v2 a w4 hv2 hk4 hn2 S
    subst hv2
    refine lv S (rn_not (S.tm rfl)) rfl ?_; clear S; intro a S
    refine l_done ?_
    replace S := S.nf (L' := []) (K' := [(2, .int .i64 p_way), (18, .bool (!(words_Within p_day p_s.Born 4000)))]) [false] rfl ⟨rfl, rfl, trivial⟩
    refine then_n ?_
    refine f_cond (S.tm rfl) (fun hb2 => ?_) (fun hb2 => ?_)
    · replace h := iteT h hb2
      refine f_seq ?_
      refine f_region ?_
      refine lv S (rn_assign rfl) rfl ?_; clear S; intro a S
      refine l_done ?_
      replace S := S.nf (L' := []) (K' := [(6, .int .i64 1)]) [] rfl ⟨rfl, trivial⟩
      refine then_n ?_
      refine wp_ret ?_
      refine then_r ?_
      obtain rfl := Option.some.inj h
      exact f_ret S Tryd.results41 rfl rfl
    · replace h := iteF h hb2
      refine wp_skip ?_
      refine then_n ?_
      refine f_seq ?_
      refine f_seq ?_
      refine f_region ?_
      refine lv S (rn_move (S.tm rfl)) rfl ?_; clear S; intro a S
      refine l_enter S (fun _ => run_call (vs := [.int .i64 p_way]) ⟨(S.tm rfl), trivial⟩ Tryd.call58) (swimmer_isWay_ok _ p_way _ rfl) rfl ?_; clear S; intro v3 a w5 hv3 hk5 hn3 S
      subst hv3
      refine lv S (rn_not (S.tm rfl)) rfl ?_; clear S; intro a S
      refine l_done ?_
      replace S := S.nf (L' := []) (K' := [(21, .bool (!(swimmer_isWay p_way)))]) [] rfl ⟨rfl, trivial⟩
      refine then_n ?_
      refine f_cond (S.tm rfl) (fun hb3 => ?_) (fun hb3 => ?_)
      · replace h := iteT h hb3
        refine f_seq ?_
        refine f_region ?_
        refine lv S (rn_assign rfl) rfl ?_; clear S; intro a S
        refine l_done ?_
        replace S := S.nf (L' := []) (K' := [(6, .int .i64 4)]) [] rfl ⟨rfl, trivial⟩
        refine then_n ?_
        refine wp_ret ?_
        refine then_r ?_
        obtain rfl := Option.some.inj h
        exact f_ret S Tryd.results41 rfl rfl
      · replace h := iteF h hb3
        refine wp_skip ?_
        refine then_n ?_
        refine f_seq ?_
        refine f_region ?_
        refine lv S (rn_assign rfl) rfl ?_; clear S; intro a S
        refine l_done ?_
        replace S := S.nf (L' := []) (K' := [(6, .int .i64 0)]) [] rfl ⟨rfl, trivial⟩
        refine then_n ?_
        refine wp_ret ?_
        obtain rfl := Option.some.inj h
        exact f_ret S Tryd.results41 rfl rfl
theorem swimmer_leap_ok (w : World) (p_year : Int) (r : Bool) (h : swimmer_leap p_year = r) :
    Calls Tryd.prog 79 [.int .i64 p_year].toArray w (Ret w [] fun τ v w' => v = .bool r) := by
  refine f_enter [] [] Tryd.func79 rfl Tryd.ntmps79 rfl (by simp) (by simp [fps]) (by simp [fps]) fun a S => ?_
  unfold swimmer_leap at h
  replace S := S.nf (L' := []) (K' := [(0, .int .i64 p_year)]) [] rfl ⟨rfl, trivial⟩
  refine f_seq ?_
  refine f_region ?_
  refine lv S (rn_assign rfl) rfl ?_; clear S; intro a S
  refine l_done ?_
  replace S := S.nf (L' := []) (K' := [(0, .int .i64 p_year)]) [] rfl ⟨rfl, trivial⟩
  refine then_n ?_
  refine f_seq ?_
  refine f_region ?_
  refine lv S (rn_move (S.tm rfl)) rfl ?_; clear S; intro a S
  refine lv S (rn_rem (S.tm rfl) rfl (by decide)) rfl ?_; clear S; intro a S
  refine lv S (rn_eql (S.tm rfl) rfl) rfl ?_; clear S; intro a S
  refine lv S (rn_move (S.tm rfl)) rfl ?_; clear S; intro a S
  refine f_cutm 9 (fun a w' => Keep [] w w' ∧ Sx w [] nov [] [(15, .bool ((decide ((Int.tmod p_year 4) = 0)) && ((!decide ((Int.tmod p_year 100) = 0)) || (decide ((Int.tmod p_year 400) = 0)))))] 16 a w') ?_ ?_
  · rcases Bool.eq_false_or_eq_true (decide ((Int.tmod p_year 4) = 0)) with hb1 | hb1
    · refine l_want S rfl rfl rfl hb1 ?_
      refine lv S (rn_move (S.tm rfl)) rfl ?_; clear S; intro a S
      refine l_want S rfl rfl rfl hb1 ?_
      refine lv S (rn_rem (S.tm rfl) rfl (by decide)) rfl ?_; clear S; intro a S
      refine l_want S rfl rfl rfl hb1 ?_
      refine lv S (rn_neq (S.tm rfl) rfl) rfl ?_; clear S; intro a S
      refine l_want S rfl rfl rfl hb1 ?_
      refine lv S (rn_move (S.tm rfl)) rfl ?_; clear S; intro a S
      refine f_cutm 4 (fun a w' => Keep [] w w' ∧ Sx w [] nov [] [(6, .bool (decide ((Int.tmod p_year 4) = 0))), (14, .bool ((!decide ((Int.tmod p_year 100) = 0)) || (decide ((Int.tmod p_year 400) = 0))))] 16 a w') ?_ ?_
      · rcases Bool.eq_false_or_eq_true (!decide ((Int.tmod p_year 100) = 0)) with hb2 | hb2
        · refine l_skip S rfl rfl rfl (neq_t hb2) rfl ?_ rfl; clear S; intro a S
          refine l_skip S rfl rfl rfl (neq_t hb2) rfl ?_ rfl; clear S; intro a S
          refine l_skip S rfl rfl rfl (neq_t hb2) rfl ?_ rfl; clear S; intro a S
          refine l_want S rfl rfl rfl hb1 ?_
          refine lv S (rn_or_t (decide ((Int.tmod p_year 400) = 0)) hb2 (S.tm rfl) rfl) rfl ?_; clear S; intro a S
          refine l_done ?_
          refine then_n ?_
          exact ⟨Keep.refl _ _, S.nf [] rfl ⟨rfl, rfl, trivial⟩⟩
        · refine l_want S rfl rfl rfl hb2 ?_
          refine lv S (rn_move (S.tm rfl)) rfl ?_; clear S; intro a S
          refine l_want S rfl rfl rfl hb2 ?_
          refine lv S (rn_rem (S.tm rfl) rfl (by decide)) rfl ?_; clear S; intro a S
          refine l_want S rfl rfl rfl hb2 ?_
          refine lv S (rn_eql (S.tm rfl) rfl) rfl ?_; clear S; intro a S
          refine l_want S rfl rfl rfl hb1 ?_
          refine lv S (rn_or_f hb2 (S.tm rfl) (S.tm rfl)) rfl ?_; clear S; intro a S
          refine l_done ?_
          refine then_n ?_
          exact ⟨Keep.refl _ _, S.nf [] rfl ⟨rfl, rfl, trivial⟩⟩
      clear S; rintro a w2 ⟨hk1, S⟩
      refine lv S (rn_and_t hb1 (S.tm rfl) (S.tm rfl)) rfl ?_; clear S; intro a S
      refine l_done ?_
      refine then_n ?_
      exact ⟨hk1, S.nf [] rfl ⟨rfl, trivial⟩⟩
    · refine l_skip S rfl rfl rfl (neq_f hb1) rfl ?_ rfl; clear S; intro a S
      refine l_skip S rfl rfl rfl (neq_f hb1) rfl ?_ rfl; clear S; intro a S
      refine l_skip S rfl rfl rfl (neq_f hb1) rfl ?_ rfl; clear S; intro a S
      refine l_skip S rfl rfl rfl (neq_f hb1) rfl ?_ rfl; clear S; intro a S
      refine l_skipU S rfl rfl rfl rfl ?_; clear S; intro a S
      refine l_skipU S rfl rfl rfl rfl ?_; clear S; intro a S
      refine l_skipU S rfl rfl rfl rfl ?_; clear S; intro a S
      refine l_skip S rfl rfl rfl (neq_f hb1) rfl ?_ rfl; clear S; intro a S
      refine lv S (rn_and_f ((!decide ((Int.tmod p_year 100) = 0)) || (decide ((Int.tmod p_year 400) = 0))) hb1 (S.tm rfl) rfl) rfl ?_; clear S; intro a S
      refine l_done ?_
      refine then_n ?_
      exact ⟨Keep.refl _ _, S.nf [] rfl ⟨rfl, trivial⟩⟩
  clear S; rintro a w1 ⟨hk2, S⟩
  refine lv S (rn_assign (S.tm rfl)) rfl ?_; clear S; intro a S
  refine l_done ?_
  replace S := S.nf (L' := []) (K' := [(2, .bool ((decide ((Int.tmod p_year 4) = 0)) && ((!decide ((Int.tmod p_year 100) = 0)) || (decide ((Int.tmod p_year 400) = 0)))))]) [] rfl ⟨rfl, trivial⟩
  refine then_n ?_
  refine wp_ret ?_
  subst h
  exact f_ret S Tryd.results79 rfl rfl
theorem swimmer_yearLong_ok (w : World) (p_year : Int) (r : Int) (h : swimmer_yearLong p_year = r) :
    Calls Tryd.prog 64 [.int .i64 p_year].toArray w (Ret w [] fun τ v w' => v = .int .i64 r) := by
  refine f_enter [] [] Tryd.func64 rfl Tryd.ntmps64 rfl (by simp) (by simp [fps]) (by simp [fps]) fun a S => ?_
  unfold swimmer_yearLong at h
  replace S := S.nf (L' := []) (K' := [(0, .int .i64 p_year)]) [] rfl ⟨rfl, trivial⟩
  refine f_seq ?_
  refine f_region ?_
  refine lv S (rn_assign rfl) rfl ?_; clear S; intro a S
  refine l_done ?_
  replace S := S.nf (L' := []) (K' := [(0, .int .i64 p_year)]) [] rfl ⟨rfl, trivial⟩
  refine then_n ?_
  refine f_seq ?_
  refine f_seq ?_
  refine f_region ?_
  refine lv S (rn_move (S.tm rfl)) rfl ?_; clear S; intro a S
  refine l_enter S (fun _ => run_call (vs := [.int .i64 p_year]) ⟨(S.tm rfl), trivial⟩ Tryd.call79) (swimmer_leap_ok _ p_year _ rfl) rfl ?_; clear S; intro v1 a w1 hv1 hk1 hn1 S
  subst hv1
  refine l_done ?_
  replace S := S.nf (L' := []) (K' := [(4, .bool (swimmer_leap p_year))]) [] rfl ⟨rfl, trivial⟩
  refine then_n ?_
  refine f_cond (S.tm rfl) (fun hb1 => ?_) (fun hb1 => ?_)
  · replace h := iteT h hb1
    refine f_seq ?_
    refine f_region ?_
    refine lv S (rn_assign rfl) rfl ?_; clear S; intro a S
    refine l_done ?_
    replace S := S.nf (L' := []) (K' := [(2, .int .i64 366)]) [] rfl ⟨rfl, trivial⟩
    refine then_n ?_
    refine wp_ret ?_
    refine then_r ?_
    subst h
    exact f_ret S Tryd.results64 rfl rfl
  · replace h := iteF h hb1
    refine wp_skip ?_
    refine then_n ?_
    refine f_seq ?_
    refine f_region ?_
    refine lv S (rn_assign rfl) rfl ?_; clear S; intro a S
    refine l_done ?_
    replace S := S.nf (L' := []) (K' := [(2, .int .i64 365)]) [] rfl ⟨rfl, trivial⟩
    refine then_n ?_
    refine wp_ret ?_
    subst h
    exact f_ret S Tryd.results64 rfl rfl
theorem swimmer_long_ok (w : World) (p_year : Int) (p_month : Int) (r : Int) (h : swimmer_long p_year p_month = r) :
    Calls Tryd.prog 63 [.int .i64 p_year, .int .i64 p_month].toArray w (Ret w [] fun τ v w' => v = .int .i64 r) := by
  refine f_enter [] [] Tryd.func63 rfl Tryd.ntmps63 rfl (by simp) (by simp [fps]) (by simp [fps]) fun a S => ?_
  unfold swimmer_long at h
  replace S := S.nf (L' := []) (K' := [(0, .int .i64 p_year), (1, .int .i64 p_month)]) [] rfl ⟨rfl, rfl, trivial⟩
  refine f_seq ?_
  refine f_region ?_
  refine lv S (rn_assign rfl) rfl ?_; clear S; intro a S
  refine l_done ?_
  replace S := S.nf (L' := []) (K' := [(0, .int .i64 p_year), (1, .int .i64 p_month)]) [] rfl ⟨rfl, rfl, trivial⟩
  refine then_n ?_
  refine f_seq ?_
  refine f_seq ?_
  refine f_region ?_
  refine lv S (rn_move (S.tm rfl)) rfl ?_; clear S; intro a S
  refine l_done ?_
  replace S := S.nf (L' := []) (K' := [(0, .int .i64 p_year), (5, .int .i64 p_month)]) [] rfl ⟨rfl, rfl, trivial⟩
  refine then_n ?_
  refine wp_block ?_
  refine f_seq ?_
  refine f_region ?_
  refine lv S (rn_eql (S.tm rfl) rfl) rfl ?_; clear S; intro a S
  refine lv S (rn_assign (S.tm rfl)) rfl ?_; clear S; intro a S
  refine l_done ?_
  replace S := S.nf (L' := []) (K' := [(0, .int .i64 p_year), (5, .int .i64 p_month), (6, .bool (decide (p_month = 2)))]) [] rfl ⟨rfl, rfl, rfl, trivial⟩
  refine then_n ?_
  refine f_cond (S.tm rfl) (fun hb1 => ?_) (fun hb1 => ?_)
  · replace h := iteT h hb1
    refine f_seq ?_
    refine f_seq ?_
    refine f_region ?_
    refine lv S (rn_move (S.tm rfl)) rfl ?_; clear S; intro a S
    refine l_enter S (fun _ => run_call (vs := [.int .i64 p_year]) ⟨(S.tm rfl), trivial⟩ Tryd.call79) (swimmer_leap_ok _ p_year _ rfl) rfl ?_; clear S; intro v1 a w1 hv1 hk1 hn1 S
    subst hv1
    refine l_done ?_
    replace S := S.nf (L' := []) (K' := [(9, .bool (swimmer_leap p_year))]) [] rfl ⟨rfl, trivial⟩
    refine then_n ?_
    refine f_cond (S.tm rfl) (fun hb2 => ?_) (fun hb2 => ?_)
    · replace h := iteT h hb2
      refine f_seq ?_
      refine f_region ?_
      refine lv S (rn_assign rfl) rfl ?_; clear S; intro a S
      refine l_done ?_
      replace S := S.nf (L' := []) (K' := [(4, .int .i64 29)]) [] rfl ⟨rfl, trivial⟩
      refine then_n ?_
      refine wp_ret ?_
      refine then_r ?_
      refine blk_r ?_
      refine then_r ?_
      subst h
      exact f_ret S Tryd.results63 rfl rfl
    · replace h := iteF h hb2
      refine wp_skip ?_
      refine then_n ?_
      refine f_seq ?_
      refine f_region ?_
      refine lv S (rn_assign rfl) rfl ?_; clear S; intro a S
      refine l_done ?_
      replace S := S.nf (L' := []) (K' := [(4, .int .i64 28)]) [] rfl ⟨rfl, trivial⟩
      refine then_n ?_
      refine wp_ret ?_
      refine blk_r ?_
      refine then_r ?_
      subst h
      exact f_ret S Tryd.results63 rfl rfl
  · replace h := iteF h hb1
    refine f_seq ?_
    refine f_seq ?_
    refine f_region ?_
    refine lv S (rn_eql (S.tm rfl) rfl) rfl ?_; clear S; intro a S
    refine lv S (rn_assign (S.tm rfl)) rfl ?_; clear S; intro a S
    refine l_done ?_
    replace S := S.nf (L' := []) (K' := [(5, .int .i64 p_month), (10, .bool (decide (p_month = 4)))]) [] rfl ⟨rfl, rfl, trivial⟩
    refine then_n ?_
    obtain ⟨j1, hj1, h⟩ := joinE h
    refine f_join (fun a w' => ∃ x1 : Bool, j1 x1 = r ∧ Sx w [] nov [] [(10, .bool x1)] 15 a w') ?_ ?_
    · refine f_cond (S.tm rfl) (fun hb3 => ?_) (fun hb3 => ?_)
      · replace h := iteT h hb3
        refine wp_skip ?_
        refine then_n ?_
        exact ⟨decide (p_month = 4), h, S.nf [] rfl ⟨rfl, trivial⟩⟩
      · replace h := iteF h hb3
        refine f_seq ?_
        refine f_region ?_
        refine lv S (rn_eql (S.tm rfl) rfl) rfl ?_; clear S; intro a S
        refine lv S (rn_assign (S.tm rfl)) rfl ?_; clear S; intro a S
        refine l_done ?_
        replace S := S.nf (L' := []) (K' := [(5, .int .i64 p_month), (10, .bool (decide (p_month = 6)))]) [] rfl ⟨rfl, rfl, trivial⟩
        refine then_n ?_
        obtain ⟨j2, hj2, h⟩ := joinE h
        refine f_join (fun a w' => ∃ x2 : Bool, j2 x2 = r ∧ Sx w [] nov [] [(10, .bool x2)] 15 a w') ?_ ?_
        · refine f_cond (S.tm rfl) (fun hb4 => ?_) (fun hb4 => ?_)
          · replace h := iteT h hb4
            refine wp_skip ?_
            refine then_n ?_
            exact ⟨decide (p_month = 6), h, S.nf [] rfl ⟨rfl, trivial⟩⟩
          · replace h := iteF h hb4
            refine f_seq ?_
            refine f_region ?_
            refine lv S (rn_eql (S.tm rfl) rfl) rfl ?_; clear S; intro a S
            refine lv S (rn_assign (S.tm rfl)) rfl ?_; clear S; intro a S
            refine l_done ?_
            replace S := S.nf (L' := []) (K' := [(5, .int .i64 p_month), (10, .bool (decide (p_month = 9)))]) [] rfl ⟨rfl, rfl, trivial⟩
            refine then_n ?_
            obtain ⟨j3, hj3, h⟩ := joinE h
            refine f_join (fun a w' => ∃ x3 : Bool, j3 x3 = r ∧ Sx w [] nov [] [(10, .bool x3)] 15 a w') ?_ ?_
            · refine f_cond (S.tm rfl) (fun hb5 => ?_) (fun hb5 => ?_)
              · replace h := iteT h hb5
                refine wp_skip ?_
                refine then_n ?_
                exact ⟨decide (p_month = 9), h, S.nf [] rfl ⟨rfl, trivial⟩⟩
              · replace h := iteF h hb5
                refine f_region ?_
                refine lv S (rn_eql (S.tm rfl) rfl) rfl ?_; clear S; intro a S
                refine lv S (rn_assign (S.tm rfl)) rfl ?_; clear S; intro a S
                refine l_done ?_
                replace S := S.nf (L' := []) (K' := [(10, .bool (decide (p_month = 11)))]) [] rfl ⟨rfl, trivial⟩
                refine then_n ?_
                exact ⟨decide (p_month = 11), h, S.nf [] rfl ⟨rfl, trivial⟩⟩
            clear S h; rintro a w4 ⟨x3, h, S⟩; rw [hj3] at h; clear hj3 j3
            refine then_n ?_
            exact ⟨x3, h, S.nf [] rfl ⟨rfl, trivial⟩⟩
        clear S h; rintro a w3 ⟨x2, h, S⟩; rw [hj2] at h; clear hj2 j2
        refine then_n ?_
        exact ⟨x2, h, S.nf [] rfl ⟨rfl, trivial⟩⟩
    clear S h; rintro a w2 ⟨x1, h, S⟩; rw [hj1] at h; clear hj1 j1
    refine then_n ?_
    refine f_cond (S.tm rfl) (fun hb6 => ?_) (fun hb6 => ?_)
    · replace h := iteT h hb6
      refine f_seq ?_
      refine f_region ?_
      refine lv S (rn_assign rfl) rfl ?_; clear S; intro a S
      refine l_done ?_
      replace S := S.nf (L' := []) (K' := [(4, .int .i64 30)]) [] rfl ⟨rfl, trivial⟩
      refine then_n ?_
      refine wp_ret ?_
      refine blk_r ?_
      refine then_r ?_
      subst h
      exact f_ret S Tryd.results63 rfl rfl
    · replace h := iteF h hb6
      refine wp_skip ?_
      refine blk_n ?_
      refine then_n ?_
      refine f_seq ?_
      refine f_region ?_
      refine lv S (rn_assign rfl) rfl ?_; clear S; intro a S
      refine l_done ?_
      replace S := S.nf (L' := []) (K' := [(4, .int .i64 31)]) [] rfl ⟨rfl, trivial⟩
      refine then_n ?_
      refine wp_ret ?_
      subst h
      exact f_ret S Tryd.results63 rfl rfl
theorem swimmer_dateOf_ok (w : World) (p_day : Int) (r : GDate) (h : swimmer_dateOf p_day = some r) :
    Calls Tryd.prog 73 [.int .i64 p_day].toArray w (Ret w [] fun τ v w' => v = .agg (GDate.enc r).toArray) := by
  refine f_enter [] [] Tryd.func73 rfl Tryd.ntmps73 rfl (by simp) (by simp [fps]) (by simp [fps]) fun a S => ?_
  unfold swimmer_dateOf at h
  replace S := S.nf (L' := []) (K' := [(0, .int .i64 p_day)]) [] rfl ⟨rfl, trivial⟩
  refine f_seq ?_
  refine f_region ?_
  refine l_alloc S Tryd.zeroValue75 (cs := [.int .i64 0, .int .i64 0, .int .i64 0]) rfl rfl ?_; clear S; intro a w1 b1 hz1 hk1 S
  refine l_done ?_
  replace S := S.nf (L' := [.blk b1 [.int .i64 0, .int .i64 0, .int .i64 0] 75]) (K' := [(0, .int .i64 p_day), (2, .pointer (some ⟨b1, 0, none⟩))]) [true] rfl ⟨rfl, rfl, trivial⟩
  refine then_n ?_
  refine f_seq ?_
  refine f_region ?_
  refine lv S (rn_bld bt_75 (pv := [(0, .int .i64 2024), (1, .int .i64 1)]) ⟨rfl, rfl, rfl, rfl, trivial⟩ (cs := [.int .i64 2024, .int .i64 1, .int .i64 0]) (by kernel_rfl)) rfl ?_; clear S; intro a S
  refine l_alloc S Tryd.zeroValue75 (cs := [.int .i64 0, .int .i64 0, .int .i64 0]) rfl rfl ?_; clear S; intro a w2 b2 hz2 hk2 S
  refine l_store S (S.tm rfl) (S.tm rfl) (i := 0) (off := 0) rfl Tryd.sizeOf75 (vs := [.int .i64 2024, .int .i64 1, .int .i64 0]) rfl rfl rfl rfl ?_; clear S; intro w3 hk3 S
  refine l_done ?_
  replace S := S.nf (L' := [.blk b2 [.int .i64 2024, .int .i64 1, .int .i64 0] 75, .blk b1 [.int .i64 0, .int .i64 0, .int .i64 0] 75]) (K' := [(0, .int .i64 p_day), (2, .pointer (some ⟨b1, 0, none⟩)), (3, .pointer (some ⟨b2, 0, none⟩))]) [true, true] rfl ⟨rfl, rfl, rfl, trivial⟩
  refine then_n ?_
  refine f_seq ?_
  obtain ⟨j1, hj1, h⟩ := joinE h
  refine f_join (fun a w' => ∃ x1 : Int, ∃ x2 : Int, j1 x1 x2 = some r ∧ Sx w [] nov [.blk b2 [.int .i64 x1, .int .i64 1, .int .i64 0] 75, .blk b1 [.int .i64 0, .int .i64 0, .int .i64 0] 75] [(0, .int .i64 x2), (2, .pointer (some ⟨b1, 0, none⟩)), (3, .pointer (some ⟨b2, 0, none⟩))] 52 a w') ?_ ?_
  · refine wp_block ?_
    refine f_loop (fun (m1 : Nat) a w' => ∃ x1 : Int, ∃ x2 : Int, swimmer_dateOf_l1 j1 m1 x1 x2 = some r ∧ Sx w [] nov [.blk b2 [.int .i64 x1, .int .i64 1, .int .i64 0] 75, .blk b1 [.int .i64 0, .int .i64 0, .int .i64 0] 75] [(0, .int .i64 x2), (2, .pointer (some ⟨b1, 0, none⟩)), (3, .pointer (some ⟨b2, 0, none⟩))] 52 a w') id ((0 - p_day).toNat + 2) ⟨2024, p_day, h, S.nf [true, true] rfl ⟨rfl, rfl, rfl, trivial⟩⟩ ?_
    clear S h; rintro m1 a w4 ⟨x1, x2, h, S⟩
    cases m1 with
    | zero => rw [swimmer_dateOf_l1.eq_1] at h; cases h
    | succ m1 =>
      rw [swimmer_dateOf_l1.eq_2] at h
      refine f_seq ?_
      refine f_seq ?_
      refine f_region ?_
      refine lv S (rn_move (S.tm rfl)) rfl ?_; clear S; intro a S
      refine lv S (rn_lss (S.tm rfl) rfl) rfl ?_; clear S; intro a S
      refine l_done ?_
      replace S := S.nf (L' := [.blk b2 [.int .i64 x1, .int .i64 1, .int .i64 0] 75, .blk b1 [.int .i64 0, .int .i64 0, .int .i64 0] 75]) (K' := [(0, .int .i64 x2), (2, .pointer (some ⟨b1, 0, none⟩)), (3, .pointer (some ⟨b2, 0, none⟩)), (6, .bool (decide (x2 < 0)))]) [true, true] rfl ⟨rfl, rfl, rfl, rfl, trivial⟩
      refine then_n ?_
      refine f_cond (S.tm rfl) (fun hb1 => ?_) (fun hb1 => ?_)
      · replace h := iteT h hb1
        refine wp_skip ?_
        refine then_n ?_
        refine wp_block ?_
        refine f_seq ?_
        refine f_region ?_
        refine lv S (rn_fld fa_75_0 (S.tm rfl)) rfl ?_; clear S; intro a S
        refine lv S (rn_load Tryd.isAgg3 (S.tm rfl) (S.cell (i := 0) rfl rfl)) rfl ?_; clear S; intro a S
        refine lv S (rn_sub (S.tm rfl) rfl) rfl ?_; clear S; intro a S
        refine lv S (rn_fld fa_75_0 (S.tm rfl)) rfl ?_; clear S; intro a S
        refine l_store S (S.tm rfl) (S.tm rfl) (i := 0) (off := 0) rfl Tryd.sizeOf3 (vs := [.int .i64 (W (x1 - 1))]) rfl rfl rfl rfl ?_; clear S; intro w6 hk4 S
        refine l_done ?_
        replace S := S.nf (L' := [.blk b2 [.int .i64 (W (x1 - 1)), .int .i64 1, .int .i64 0] 75, .blk b1 [.int .i64 0, .int .i64 0, .int .i64 0] 75]) (K' := [(0, .int .i64 x2), (2, .pointer (some ⟨b1, 0, none⟩)), (3, .pointer (some ⟨b2, 0, none⟩))]) [true, true] rfl ⟨rfl, rfl, rfl, trivial⟩
        refine then_n ?_
        refine f_region ?_
        refine lv S (rn_move (S.tm rfl)) rfl ?_; clear S; intro a S
        refine lv S (rn_fld fa_75_0 (S.tm rfl)) rfl ?_; clear S; intro a S
        refine lv S (rn_load Tryd.isAgg3 (S.tm rfl) (S.cell (i := 0) rfl rfl)) rfl ?_; clear S; intro a S
        refine l_enter S (fun _ => run_call (vs := [.int .i64 (W (x1 - 1))]) ⟨(S.tm rfl), trivial⟩ Tryd.call64) (swimmer_yearLong_ok _ (W (x1 - 1)) _ rfl) rfl ?_; clear S; intro v1 a w7 hv1 hk5 hn1 S
        subst hv1
        refine lv S (rn_add (S.tm rfl) (S.tm rfl)) rfl ?_; clear S; intro a S
        refine lv S (rn_assign (S.tm rfl)) rfl ?_; clear S; intro a S
        refine l_done ?_
        replace S := S.nf (L' := [.blk b2 [.int .i64 (W (x1 - 1)), .int .i64 1, .int .i64 0] 75, .blk b1 [.int .i64 0, .int .i64 0, .int .i64 0] 75]) (K' := [(0, .int .i64 (W (x2 + (swimmer_yearLong (W (x1 - 1)))))), (2, .pointer (some ⟨b1, 0, none⟩)), (3, .pointer (some ⟨b2, 0, none⟩))]) [true, true] rfl ⟨rfl, rfl, rfl, trivial⟩
        refine blk_n ?_
        refine then_n ?_
        exact ⟨m1, ⟨W (x1 - 1), W (x2 + (swimmer_yearLong (W (x1 - 1)))), h, S.nf [true, true] rfl ⟨rfl, rfl, rfl, trivial⟩⟩, Nat.lt_succ_self _⟩
      · replace h := iteF h hb1
        refine wp_exit ?_
        refine then_x ?_
        refine then_x ?_
        refine x_same ?_
        refine then_n ?_
        exact ⟨x1, x2, h, S.nf [true, true] rfl ⟨rfl, rfl, rfl, trivial⟩⟩
  clear S h; rintro a w5 ⟨x1, x2, h, S⟩; rw [hj1] at h; clear hj1 j1
  refine then_n ?_
  refine f_seq ?_
  obtain ⟨j2, hj2, h⟩ := joinE h
  refine f_join (fun a w' => ∃ x3 : Int, ∃ x4 : Int, j2 x3 x4 = some r ∧ Sx w [] nov [.blk b2 [.int .i64 x3, .int .i64 1, .int .i64 0] 75, .blk b1 [.int .i64 0, .int .i64 0, .int .i64 0] 75] [(0, .int .i64 x4), (2, .pointer (some ⟨b1, 0, none⟩)), (3, .pointer (some ⟨b2, 0, none⟩))] 52 a w') ?_ ?_
  · refine wp_block ?_
    refine f_loop (fun (m2 : Nat) a w' => ∃ x3 : Int, ∃ x4 : Int, swimmer_dateOf_l2 j2 m2 x3 x4 = some r ∧ Sx w [] nov [.blk b2 [.int .i64 x3, .int .i64 1, .int .i64 0] 75, .blk b1 [.int .i64 0, .int .i64 0, .int .i64 0] 75] [(0, .int .i64 x4), (2, .pointer (some ⟨b1, 0, none⟩)), (3, .pointer (some ⟨b2, 0, none⟩))] 52 a w') id ((x2 - (swimmer_yearLong x1)).toNat + 2) ⟨x1, x2, h, S.nf [true, true] rfl ⟨rfl, rfl, rfl, trivial⟩⟩ ?_
    clear S h; rintro m2 a w8 ⟨x3, x4, h, S⟩
    cases m2 with
    | zero => rw [swimmer_dateOf_l2.eq_1] at h; cases h
    | succ m2 =>
      rw [swimmer_dateOf_l2.eq_2] at h
      refine f_seq ?_
      refine f_seq ?_
      refine f_region ?_
      refine lv S (rn_move (S.tm rfl)) rfl ?_; clear S; intro a S
      refine lv S (rn_fld fa_75_0 (S.tm rfl)) rfl ?_; clear S; intro a S
      refine lv S (rn_load Tryd.isAgg3 (S.tm rfl) (S.cell (i := 0) rfl rfl)) rfl ?_; clear S; intro a S
      refine l_enter S (fun _ => run_call (vs := [.int .i64 x3]) ⟨(S.tm rfl), trivial⟩ Tryd.call64) (swimmer_yearLong_ok _ x3 _ rfl) rfl ?_; clear S; intro v2 a w10 hv2 hk6 hn2 S
      subst hv2
      refine lv S (rn_geq (S.tm rfl) (S.tm rfl)) rfl ?_; clear S; intro a S
      refine l_done ?_
      replace S := S.nf (L' := [.blk b2 [.int .i64 x3, .int .i64 1, .int .i64 0] 75, .blk b1 [.int .i64 0, .int .i64 0, .int .i64 0] 75]) (K' := [(0, .int .i64 x4), (2, .pointer (some ⟨b1, 0, none⟩)), (3, .pointer (some ⟨b2, 0, none⟩)), (20, .bool (decide ((swimmer_yearLong x3) ≤ x4)))]) [true, true] rfl ⟨rfl, rfl, rfl, rfl, trivial⟩
      refine then_n ?_
      refine f_cond (S.tm rfl) (fun hb2 => ?_) (fun hb2 => ?_)
      · replace h := iteT h hb2
        refine wp_skip ?_
        refine then_n ?_
        refine wp_block ?_
        refine f_seq ?_
        refine f_region ?_
        refine lv S (rn_move (S.tm rfl)) rfl ?_; clear S; intro a S
        refine lv S (rn_fld fa_75_0 (S.tm rfl)) rfl ?_; clear S; intro a S
        refine lv S (rn_load Tryd.isAgg3 (S.tm rfl) (S.cell (i := 0) rfl rfl)) rfl ?_; clear S; intro a S
        refine l_enter S (fun _ => run_call (vs := [.int .i64 x3]) ⟨(S.tm rfl), trivial⟩ Tryd.call64) (swimmer_yearLong_ok _ x3 _ rfl) rfl ?_; clear S; intro v3 a w11 hv3 hk7 hn3 S
        subst hv3
        refine lv S (rn_sub (S.tm rfl) (S.tm rfl)) rfl ?_; clear S; intro a S
        refine lv S (rn_assign (S.tm rfl)) rfl ?_; clear S; intro a S
        refine l_done ?_
        replace S := S.nf (L' := [.blk b2 [.int .i64 x3, .int .i64 1, .int .i64 0] 75, .blk b1 [.int .i64 0, .int .i64 0, .int .i64 0] 75]) (K' := [(0, .int .i64 (W (x4 - (swimmer_yearLong x3)))), (2, .pointer (some ⟨b1, 0, none⟩)), (3, .pointer (some ⟨b2, 0, none⟩))]) [true, true] rfl ⟨rfl, rfl, rfl, trivial⟩
        refine then_n ?_
        refine f_region ?_
        refine lv S (rn_fld fa_75_0 (S.tm rfl)) rfl ?_; clear S; intro a S
        refine lv S (rn_load Tryd.isAgg3 (S.tm rfl) (S.cell (i := 0) rfl rfl)) rfl ?_; clear S; intro a S
        refine lv S (rn_add (S.tm rfl) rfl) rfl ?_; clear S; intro a S
        refine lv S (rn_fld fa_75_0 (S.tm rfl)) rfl ?_; clear S; intro a S
        refine l_store S (S.tm rfl) (S.tm rfl) (i := 0) (off := 0) rfl Tryd.sizeOf3 (vs := [.int .i64 (W (x3 + 1))]) rfl rfl rfl rfl ?_; clear S; intro w12 hk8 S
        refine l_done ?_
        replace S := S.nf (L' := [.blk b2 [.int .i64 (W (x3 + 1)), .int .i64 1, .int .i64 0] 75, .blk b1 [.int .i64 0, .int .i64 0, .int .i64 0] 75]) (K' := [(0, .int .i64 (W (x4 - (swimmer_yearLong x3)))), (2, .pointer (some ⟨b1, 0, none⟩)), (3, .pointer (some ⟨b2, 0, none⟩))]) [true, true] rfl ⟨rfl, rfl, rfl, trivial⟩
        refine blk_n ?_
        refine then_n ?_
        exact ⟨m2, ⟨W (x3 + 1), W (x4 - (swimmer_yearLong x3)), h, S.nf [true, true] rfl ⟨rfl, rfl, rfl, trivial⟩⟩, Nat.lt_succ_self _⟩
      · replace h := iteF h hb2
        refine wp_exit ?_
        refine then_x ?_
        refine then_x ?_
        refine x_same ?_
        refine then_n ?_
        exact ⟨x3, x4, h, S.nf [true, true] rfl ⟨rfl, rfl, rfl, trivial⟩⟩
  clear S h; rintro a w9 ⟨x3, x4, h, S⟩; rw [hj2] at h; clear hj2 j2
  refine then_n ?_
  refine f_seq ?_
  obtain ⟨j3, hj3, h⟩ := joinE h
  refine f_join (fun a w' => ∃ x5 : Int, ∃ x6 : Int, j3 x5 x6 = some r ∧ Sx w [] nov [.blk b2 [.int .i64 x3, .int .i64 x5, .int .i64 0] 75, .blk b1 [.int .i64 0, .int .i64 0, .int .i64 0] 75] [(0, .int .i64 x6), (2, .pointer (some ⟨b1, 0, none⟩)), (3, .pointer (some ⟨b2, 0, none⟩))] 52 a w') ?_ ?_
  · refine wp_block ?_
    refine f_loop (fun (m3 : Nat) a w' => ∃ x5 : Int, ∃ x6 : Int, swimmer_dateOf_l3 x3 j3 m3 x5 x6 = some r ∧ Sx w [] nov [.blk b2 [.int .i64 x3, .int .i64 x5, .int .i64 0] 75, .blk b1 [.int .i64 0, .int .i64 0, .int .i64 0] 75] [(0, .int .i64 x6), (2, .pointer (some ⟨b1, 0, none⟩)), (3, .pointer (some ⟨b2, 0, none⟩))] 52 a w') id ((x4 - (swimmer_long x3 1)).toNat + 2) ⟨1, x4, h, S.nf [true, true] rfl ⟨rfl, rfl, rfl, trivial⟩⟩ ?_
    clear S h; rintro m3 a w13 ⟨x5, x6, h, S⟩
    cases m3 with
    | zero => rw [swimmer_dateOf_l3.eq_1] at h; cases h
    | succ m3 =>
      rw [swimmer_dateOf_l3.eq_2] at h
      refine f_seq ?_
      refine f_seq ?_
      refine f_region ?_
      refine lv S (rn_move (S.tm rfl)) rfl ?_; clear S; intro a S
      refine lv S (rn_fld fa_75_0 (S.tm rfl)) rfl ?_; clear S; intro a S
      refine lv S (rn_load Tryd.isAgg3 (S.tm rfl) (S.cell (i := 0) rfl rfl)) rfl ?_; clear S; intro a S
      refine lv S (rn_fld fa_75_1 (S.tm rfl)) rfl ?_; clear S; intro a S
      refine lv S (rn_load Tryd.isAgg3 (S.tm rfl) (S.cell (i := 0) rfl rfl)) rfl ?_; clear S; intro a S
      refine l_enter S (fun _ => run_call (vs := [.int .i64 x3, .int .i64 x5]) ⟨(S.tm rfl), (S.tm rfl), trivial⟩ Tryd.call63) (swimmer_long_ok _ x3 x5 _ rfl) rfl ?_; clear S; intro v4 a w15 hv4 hk9 hn4 S
      subst hv4
      refine lv S (rn_geq (S.tm rfl) (S.tm rfl)) rfl ?_; clear S; intro a S
      refine l_done ?_
      replace S := S.nf (L' := [.blk b2 [.int .i64 x3, .int .i64 x5, .int .i64 0] 75, .blk b1 [.int .i64 0, .int .i64 0, .int .i64 0] 75]) (K' := [(0, .int .i64 x6), (2, .pointer (some ⟨b1, 0, none⟩)), (3, .pointer (some ⟨b2, 0, none⟩)), (36, .bool (decide ((swimmer_long x3 x5) ≤ x6)))]) [true, true] rfl ⟨rfl, rfl, rfl, rfl, trivial⟩
      refine then_n ?_
      refine f_cond (S.tm rfl) (fun hb3 => ?_) (fun hb3 => ?_)
      · replace h := iteT h hb3
        refine wp_skip ?_
        refine then_n ?_
        refine wp_block ?_
        refine f_seq ?_
        refine f_region ?_
        refine lv S (rn_move (S.tm rfl)) rfl ?_; clear S; intro a S
        refine lv S (rn_fld fa_75_0 (S.tm rfl)) rfl ?_; clear S; intro a S
        refine lv S (rn_load Tryd.isAgg3 (S.tm rfl) (S.cell (i := 0) rfl rfl)) rfl ?_; clear S; intro a S
        refine lv S (rn_fld fa_75_1 (S.tm rfl)) rfl ?_; clear S; intro a S
        refine lv S (rn_load Tryd.isAgg3 (S.tm rfl) (S.cell (i := 0) rfl rfl)) rfl ?_; clear S; intro a S
        refine l_enter S (fun _ => run_call (vs := [.int .i64 x3, .int .i64 x5]) ⟨(S.tm rfl), (S.tm rfl), trivial⟩ Tryd.call63) (swimmer_long_ok _ x3 x5 _ rfl) rfl ?_; clear S; intro v5 a w16 hv5 hk10 hn5 S
        subst hv5
        refine lv S (rn_sub (S.tm rfl) (S.tm rfl)) rfl ?_; clear S; intro a S
        refine lv S (rn_assign (S.tm rfl)) rfl ?_; clear S; intro a S
        refine l_done ?_
        replace S := S.nf (L' := [.blk b2 [.int .i64 x3, .int .i64 x5, .int .i64 0] 75, .blk b1 [.int .i64 0, .int .i64 0, .int .i64 0] 75]) (K' := [(0, .int .i64 (W (x6 - (swimmer_long x3 x5)))), (2, .pointer (some ⟨b1, 0, none⟩)), (3, .pointer (some ⟨b2, 0, none⟩))]) [true, true] rfl ⟨rfl, rfl, rfl, trivial⟩
        refine then_n ?_
        refine f_region ?_
        refine lv S (rn_fld fa_75_1 (S.tm rfl)) rfl ?_; clear S; intro a S
        refine lv S (rn_load Tryd.isAgg3 (S.tm rfl) (S.cell (i := 0) rfl rfl)) rfl ?_; clear S; intro a S
        refine lv S (rn_add (S.tm rfl) rfl) rfl ?_; clear S; intro a S
        refine lv S (rn_fld fa_75_1 (S.tm rfl)) rfl ?_; clear S; intro a S
        refine l_store S (S.tm rfl) (S.tm rfl) (i := 0) (off := 1) rfl Tryd.sizeOf3 (vs := [.int .i64 (W (x5 + 1))]) rfl rfl rfl rfl ?_; clear S; intro w17 hk11 S
        refine l_done ?_
        replace S := S.nf (L' := [.blk b2 [.int .i64 x3, .int .i64 (W (x5 + 1)), .int .i64 0] 75, .blk b1 [.int .i64 0, .int .i64 0, .int .i64 0] 75]) (K' := [(0, .int .i64 (W (x6 - (swimmer_long x3 x5)))), (2, .pointer (some ⟨b1, 0, none⟩)), (3, .pointer (some ⟨b2, 0, none⟩))]) [true, true] rfl ⟨rfl, rfl, rfl, trivial⟩
        refine blk_n ?_
        refine then_n ?_
        exact ⟨m3, ⟨W (x5 + 1), W (x6 - (swimmer_long x3 x5)), h, S.nf [true, true] rfl ⟨rfl, rfl, rfl, trivial⟩⟩, Nat.lt_succ_self _⟩
      · replace h := iteF h hb3
        refine wp_exit ?_
        refine then_x ?_
        refine then_x ?_
        refine x_same ?_
        refine then_n ?_
        exact ⟨x5, x6, h, S.nf [true, true] rfl ⟨rfl, rfl, rfl, trivial⟩⟩
  clear S h; rintro a w14 ⟨x5, x6, h, S⟩; rw [hj3] at h; clear hj3 j3
  refine then_n ?_
  refine f_seq ?_
  refine f_region ?_
  refine lv S (rn_move (S.tm rfl)) rfl ?_; clear S; intro a S
  refine lv S (rn_add (S.tm rfl) rfl) rfl ?_; clear S; intro a S
  refine lv S (rn_fld fa_75_2 (S.tm rfl)) rfl ?_; clear S; intro a S
  refine l_store S (S.tm rfl) (S.tm rfl) (i := 0) (off := 2) rfl Tryd.sizeOf3 (vs := [.int .i64 (W (x6 + 1))]) rfl rfl rfl rfl ?_; clear S; intro w18 hk12 S
  refine l_done ?_
  replace S := S.nf (L' := [.blk b2 [.int .i64 x3, .int .i64 x5, .int .i64 (W (x6 + 1))] 75, .blk b1 [.int .i64 0, .int .i64 0, .int .i64 0] 75]) (K' := [(2, .pointer (some ⟨b1, 0, none⟩)), (3, .pointer (some ⟨b2, 0, none⟩))]) [true, true] rfl ⟨rfl, rfl, trivial⟩
  refine then_n ?_
  refine f_seq ?_
  refine f_region ?_
  refine lv S (rn_ldA Tryd.isAgg75 Tryd.sizeOf75 (off := 0) (o := 0) (part := [.int .i64 x3, .int .i64 x5, .int .i64 (W (x6 + 1))]) rfl rfl (S.tm rfl) (S.cellsAt (i := 0) rfl)) rfl ?_; clear S; intro a S
  refine l_store S (S.tm rfl) (S.tm rfl) (i := 1) (off := 0) rfl Tryd.sizeOf75 (vs := [.int .i64 x3, .int .i64 x5, .int .i64 (W (x6 + 1))]) rfl rfl rfl rfl ?_; clear S; intro w19 hk13 S
  refine l_done ?_
  replace S := S.nf (L' := [.blk b1 [.int .i64 x3, .int .i64 x5, .int .i64 (W (x6 + 1))] 75]) (K' := [(2, .pointer (some ⟨b1, 0, none⟩))]) [false, true] rfl ⟨rfl, trivial⟩
  refine then_n ?_
  refine wp_ret ?_
  obtain rfl := Option.some.inj h
  exact f_retG S (rs := [.cell 2 75]) (vs := [.agg #[.int .i64 x3, .int .i64 x5, .int .i64 (W (x6 + 1))]]) Tryd.results73 ⟨(res_cell (off := 0) S rfl Tryd.isAgg75 Tryd.sizeOf75 rfl (S.cellsAt (i := 0) rfl)), trivial⟩ rfl rfl
set_option maxRecDepth 20000 in
theorem swimmer_age_ok (w : World) (p_s : GSwimmer) (p_day : Int) (p_way : Int) (r : Int) (h : swimmer_age p_s p_day p_way = some r) :
    Calls Tryd.prog 59 [.agg (GSwimmer.enc p_s).toArray, .int .i64 p_day, .int .i64 p_way].toArray w (Ret w [] fun τ v w' => v = .int .i64 r) := by
  refine f_enter [] [] Tryd.func59 rfl Tryd.ntmps59 rfl (by simp) (by simp [fps]) (by simp [fps]) fun a S => ?_
  unfold swimmer_age at h
  replace S := S.nf (L' := []) (K' := [(0, .agg (GSwimmer.enc p_s).toArray), (1, .int .i64 p_day), (2, .int .i64 p_way)]) [] rfl ⟨rfl, rfl, rfl, trivial⟩
  refine f_seq ?_
  refine f_region ?_
  refine l_box S (S.tm rfl) (cs := [.string p_s.Key, .int .i64 p_s.Sex, .int .i64 p_s.Born]) rfl rfl ?_; clear S; intro a w1 b1 hz1 hk1 S
  refine lv S (rn_assign rfl) rfl ?_; clear S; intro a S
  refine l_done ?_
  replace S := S.nf (L' := [.blk b1 [.string p_s.Key, .int .i64 p_s.Sex, .int .i64 p_s.Born] 49]) (K' := [(1, .int .i64 p_day), (2, .int .i64 p_way), (3, .pointer (some ⟨b1, 0, none⟩))]) [true] rfl ⟨rfl, rfl, rfl, trivial⟩
  refine then_n ?_
  refine f_seq ?_
  refine f_region ?_
  refine lv S (rn_fld fa_49_2 (S.tm rfl)) rfl ?_; clear S; intro a S
  refine lv S (rn_load Tryd.isAgg3 (S.tm rfl) (S.cell (i := 0) rfl rfl)) rfl ?_; clear S; intro a S
  obtain ⟨r1, hr1, h⟩ := bindE h
  refine l_enter S (fun _ => run_call (vs := [.int .i64 p_s.Born]) ⟨(S.tm rfl), trivial⟩ Tryd.call73) (swimmer_dateOf_ok _ p_s.Born _ hr1) rfl ?_; clear S; intro v1 a w2 hv1 hk2 hn1 S
  subst hv1
  refine lv S (rn_move (S.tm rfl)) rfl ?_; clear S; intro a S
  obtain ⟨r2, hr2, h⟩ := bindE h
  refine l_enter S (fun _ => run_call (vs := [.int .i64 p_day]) ⟨(S.tm rfl), trivial⟩ Tryd.call73) (swimmer_dateOf_ok _ p_day _ hr2) rfl ?_; clear S; intro v2 a w3 hv2 hk3 hn2 S
  subst hv2
  refine l_alloc S Tryd.zeroValue75 (cs := [.int .i64 0, .int .i64 0, .int .i64 0]) rfl rfl ?_; clear S; intro a w4 b2 hz2 hk4 S
  refine l_alloc S Tryd.zeroValue75 (cs := [.int .i64 0, .int .i64 0, .int .i64 0]) rfl rfl ?_; clear S; intro a w5 b3 hz3 hk5 S
  refine l_store S (S.tm rfl) (S.tm rfl) (i := 1) (off := 0) rfl Tryd.sizeOf75 (vs := [.int .i64 r1.Year, .int .i64 r1.Month, .int .i64 r1.Day]) rfl rfl rfl rfl ?_; clear S; intro w6 hk6 S
  refine l_store S (S.tm rfl) (S.tm rfl) (i := 0) (off := 0) rfl Tryd.sizeOf75 (vs := [.int .i64 r2.Year, .int .i64 r2.Month, .int .i64 r2.Day]) rfl rfl rfl rfl ?_; clear S; intro w7 hk7 S
  refine l_done ?_
  replace S := S.nf (L' := [.blk b3 [.int .i64 r2.Year, .int .i64 r2.Month, .int .i64 r2.Day] 75, .blk b2 [.int .i64 r1.Year, .int .i64 r1.Month, .int .i64 r1.Day] 75]) (K' := [(2, .int .i64 p_way), (7, .pointer (some ⟨b2, 0, none⟩)), (8, .pointer (some ⟨b3, 0, none⟩))]) [true, true, false] rfl ⟨rfl, rfl, rfl, trivial⟩
  refine then_n ?_
  refine f_seq ?_
  refine f_region ?_
  refine lv S (rn_fld fa_75_0 (S.tm rfl)) rfl ?_; clear S; intro a S
  refine lv S (rn_load Tryd.isAgg3 (S.tm rfl) (S.cell (i := 0) rfl rfl)) rfl ?_; clear S; intro a S
  refine lv S (rn_fld fa_75_0 (S.tm rfl)) rfl ?_; clear S; intro a S
  refine lv S (rn_load Tryd.isAgg3 (S.tm rfl) (S.cell (i := 1) rfl rfl)) rfl ?_; clear S; intro a S
  refine lv S (rn_sub (S.tm rfl) (S.tm rfl)) rfl ?_; clear S; intro a S
  refine lv S (rn_assign (S.tm rfl)) rfl ?_; clear S; intro a S
  refine l_done ?_
  replace S := S.nf (L' := [.blk b3 [.int .i64 r2.Year, .int .i64 r2.Month, .int .i64 r2.Day] 75, .blk b2 [.int .i64 r1.Year, .int .i64 r1.Month, .int .i64 r1.Day] 75]) (K' := [(2, .int .i64 p_way), (7, .pointer (some ⟨b2, 0, none⟩)), (8, .pointer (some ⟨b3, 0, none⟩)), (9, .int .i64 (W (r2.Year - r1.Year)))]) [true, true] rfl ⟨rfl, rfl, rfl, rfl, trivial⟩
  refine then_n ?_
  refine f_seq ?_
  refine f_seq ?_
  obtain ⟨j1, hj1, h⟩ := joinE h
  refine f_join (fun a w' => ∃ x1 : Bool, j1 x1 = some r ∧ Sx w [] nov [] [(9, .int .i64 (W (r2.Year - r1.Year))), (36, .bool x1)] 40 a w') ?_ ?_
  · rcases Bool.eq_false_or_eq_true (decide (p_way = 1)) with hb1 | hb1
    · replace h := iteT h hb1
      refine d_region [] ([]) Tryd.mixed S rfl (by kernel_rfl) ?_; clear S; intro w13 hk12 hsel S
      refine d_quiet 0 S hsel rfl rfl rfl (by kernel_rfl) (by kernel_rfl) rfl (fun _ hw => (rn_move (S.tm rfl))) ?_; clear S; intro a S
      refine d_quiet 1 S hsel rfl rfl rfl (by kernel_rfl) (by kernel_rfl) rfl (fun _ hw => (rn_eql (S.tm rfl) rfl)) ?_; clear S; intro a S
      refine d_quiet 2 S hsel rfl rfl rfl (by kernel_rfl) (by kernel_rfl) rfl (fun _ hw => (rn_move (S.tm rfl))) ?_; clear S; intro a S
      refine d_quiet_g 3 S hsel rfl rfl rfl rfl hb1 rfl rfl (by kernel_rfl) (by kernel_rfl) rfl (fun _ hw => (rn_fld fa_75_1 (S.tm rfl))) ?_; clear S; intro a S
      refine d_quiet_g 4 S hsel rfl rfl rfl rfl hb1 rfl rfl (by kernel_rfl) (by kernel_rfl) rfl (fun _ hw => (rn_ld Tryd.isAgg3 (off := 0) (o := 1) (S.tm rfl) ((S.blk_mem (i := 0) (cells := [.int .i64 r2.Year, .int .i64 r2.Month, .int .i64 r2.Day]) (b := b3) (T := 75) rfl (ne_nil (e' := .blk b3 [.int .i64 r2.Year, .int .i64 r2.Month, .int .i64 r2.Day] 75))).kept hw) rfl)) ?_; clear S; intro a S
      refine d_quiet_g 5 S hsel rfl rfl rfl rfl hb1 rfl rfl (by kernel_rfl) (by kernel_rfl) rfl (fun _ hw => (rn_fld fa_75_1 (S.tm rfl))) ?_; clear S; intro a S
      refine d_quiet_g 6 S hsel rfl rfl rfl rfl hb1 rfl rfl (by kernel_rfl) (by kernel_rfl) rfl (fun _ hw => (rn_ld Tryd.isAgg3 (off := 0) (o := 1) (S.tm rfl) ((S.blk_mem (i := 1) (cells := [.int .i64 r1.Year, .int .i64 r1.Month, .int .i64 r1.Day]) (b := b2) (T := 75) rfl (ne_nil (e' := .blk b2 [.int .i64 r1.Year, .int .i64 r1.Month, .int .i64 r1.Day] 75))).kept hw) rfl)) ?_; clear S; intro a S
      refine d_quiet_g 8 S hsel rfl rfl rfl rfl hb1 rfl rfl (by kernel_rfl) (by kernel_rfl) rfl (fun _ hw => (rn_fld fa_75_2 (S.tm rfl))) ?_; clear S; intro a S
      refine d_quiet_g 9 S hsel rfl rfl rfl rfl hb1 rfl rfl (by kernel_rfl) (by kernel_rfl) rfl (fun _ hw => (rn_ld Tryd.isAgg3 (off := 0) (o := 2) (S.tm rfl) ((S.blk_mem (i := 0) (cells := [.int .i64 r2.Year, .int .i64 r2.Month, .int .i64 r2.Day]) (b := b3) (T := 75) rfl (ne_nil (e' := .blk b3 [.int .i64 r2.Year, .int .i64 r2.Month, .int .i64 r2.Day] 75))).kept hw) rfl)) ?_; clear S; intro a S
      refine d_quiet_g 10 S hsel rfl rfl rfl rfl hb1 rfl rfl (by kernel_rfl) (by kernel_rfl) rfl (fun _ hw => (rn_fld fa_75_2 (S.tm rfl))) ?_; clear S; intro a S
      refine d_quiet_g 11 S hsel rfl rfl rfl rfl hb1 rfl rfl (by kernel_rfl) (by kernel_rfl) rfl (fun _ hw => (rn_ld Tryd.isAgg3 (off := 0) (o := 2) (S.tm rfl) ((S.blk_mem (i := 1) (cells := [.int .i64 r1.Year, .int .i64 r1.Month, .int .i64 r1.Day]) (b := b2) (T := 75) rfl (ne_nil (e' := .blk b2 [.int .i64 r1.Year, .int .i64 r1.Month, .int .i64 r1.Day] 75))).kept hw) rfl)) ?_; clear S; intro a S
      refine d_loud1 7 (by kernel_rfl) rfl ?_
      refine l_want S rfl rfl rfl hb1 ?_
      refine l_enter S (fun _ => run_call (vs := [.int .i64 r2.Month, .int .i64 r1.Month]) ⟨(S.tm rfl), (S.tm rfl), trivial⟩ Tryd.call39) (cmp_Compare_int_ok _ r2.Month r1.Month _ rfl) rfl ?_; clear S; intro v6 a w14 hv6 hk13 hn6 S
      subst hv6
      refine l_done ?_
      refine d_next hk13 ?_
      refine d_loud1 12 (by kernel_rfl) rfl ?_
      refine l_want S rfl rfl rfl hb1 ?_
      refine l_enter S (fun _ => run_call (vs := [.int .i64 r2.Day, .int .i64 r1.Day]) ⟨(S.tm rfl), (S.tm rfl), trivial⟩ Tryd.call39) (cmp_Compare_int_ok _ r2.Day r1.Day _ rfl) rfl ?_; clear S; intro v7 a w15 hv7 hk14 hn7 S
      subst hv7
      refine l_done ?_
      refine d_next hk14 ?_
      refine d_loud1 13 (by kernel_rfl) rfl ?_
      refine l_want S rfl rfl rfl hb1 ?_
      refine l_buildSlice S Tryd.underlying22 Tryd.sizeOf3 Tryd.zeroValue3 rfl rfl (pv := [(0, .int .i64 (cmp_Compare_int r2.Month r1.Month)), (1, .int .i64 (cmp_Compare_int r2.Day r1.Day))]) ⟨rfl, (S.tm rfl), rfl, (S.tm rfl), trivial⟩ (cs := [.int .i64 (cmp_Compare_int r2.Month r1.Month), .int .i64 (cmp_Compare_int r2.Day r1.Day)]) (by kernel_rfl) rfl ?_; clear S; intro a w16 b5 hz5 hk15 S
      refine l_done ?_
      refine d_next hk15 ?_
      refine d_loud1 14 (by kernel_rfl) rfl ?_
      refine l_want S rfl rfl rfl hb1 ?_
      refine l_enter S (fun _ => run_call (vs := [.slice (some ⟨b5, 0, none⟩) 2 2]) ⟨(S.tm rfl), trivial⟩ Tryd.call37) (cmp_Or_int_ok _ (.slice (some ⟨b5, 0, none⟩) 2 2) [(cmp_Compare_int r2.Month r1.Month), (cmp_Compare_int r2.Day r1.Day)] (lit_slcT enc_int S (i := 0) rfl rfl rfl rfl ((ne_nil (e' := .blk b5 [.int .i64 (cmp_Compare_int r2.Month r1.Month), .int .i64 (cmp_Compare_int r2.Day r1.Day)] 3)) _ rfl)) _ rfl) rfl ?_; clear S; intro v8 a w17 hv8 hk16 hn8 S
      subst hv8
      refine l_done ?_
      refine d_next hk16 ?_
      refine d_rest [15, 16] hsel (by kernel_rfl) rfl ?_
      clear hsel
      refine s_want S rfl rfl rfl rfl hb1 ?_
      refine s_lv0 S (rn_lss (S.tm rfl) rfl) rfl ?_; clear S; intro a S
      refine s_lv S rfl (rn_pick_b hb1 (S.tm rfl) (S.tm rfl)) rfl ?_; clear S; intro a S
      refine s_done ?_
      replace S := S.nf (L' := []) (K' := [(9, .int .i64 (W (r2.Year - r1.Year))), (36, .bool (decide ((cmp_Or_int [(cmp_Compare_int r2.Month r1.Month), (cmp_Compare_int r2.Day r1.Day)]) < 0)))]) [false, false, false] rfl ⟨rfl, rfl, trivial⟩
      refine then_n ?_
      exact ⟨decide ((cmp_Or_int [(cmp_Compare_int r2.Month r1.Month), (cmp_Compare_int r2.Day r1.Day)]) < 0), h, S.nf [] rfl ⟨rfl, rfl, trivial⟩⟩
    · replace h := iteF h hb1
      refine d_region [] ([]) Tryd.mixed S rfl (by kernel_rfl) ?_; clear S; intro w18 hk17 hsel S
      refine d_rest [0, 1, 2, 3, 4, 5, 6, 7, 8, 9, 10, 11, 12, 13, 14, 15, 16] hsel (by kernel_rfl) rfl ?_
      clear hsel
      refine s_lv S rfl (rn_move (S.tm rfl)) rfl ?_; clear S; intro a S
      refine s_lv S rfl (rn_eql (S.tm rfl) rfl) rfl ?_; clear S; intro a S
      refine s_lv S rfl (rn_move (S.tm rfl)) rfl ?_; clear S; intro a S
      refine s_skip S rfl rfl rfl rfl (neq_f hb1) rfl ?_ rfl; clear S; intro a S
      refine s_skip S rfl rfl rfl rfl (neq_f hb1) rfl ?_ rfl; clear S; intro a S
      refine s_skip S rfl rfl rfl rfl (neq_f hb1) rfl ?_ rfl; clear S; intro a S
      refine s_skip S rfl rfl rfl rfl (neq_f hb1) rfl ?_ rfl; clear S; intro a S
      refine s_skip S rfl rfl rfl rfl (neq_f hb1) rfl ?_ rfl; clear S; intro a S
      refine s_skip S rfl rfl rfl rfl (neq_f hb1) rfl ?_ rfl; clear S; intro a S
      refine s_skip S rfl rfl rfl rfl (neq_f hb1) rfl ?_ rfl; clear S; intro a S
      refine s_skip S rfl rfl rfl rfl (neq_f hb1) rfl ?_ rfl; clear S; intro a S
      refine s_skip S rfl rfl rfl rfl (neq_f hb1) rfl ?_ rfl; clear S; intro a S
      refine s_skip S rfl rfl rfl rfl (neq_f hb1) rfl ?_ rfl; clear S; intro a S
      refine s_skip S rfl rfl rfl rfl (neq_f hb1) rfl ?_ rfl; clear S; intro a S
      refine s_skip S rfl rfl rfl rfl (neq_f hb1) rfl ?_ rfl; clear S; intro a S
      refine s_skip S rfl rfl rfl rfl (neq_f hb1) rfl ?_ rfl; clear S; intro a S
      refine s_lv S rfl (rn_pick_c hb1 (S.tm rfl) rfl) rfl ?_; clear S; intro a S
      refine s_done ?_
      replace S := S.nf (L' := []) (K' := [(9, .int .i64 (W (r2.Year - r1.Year))), (36, .bool false)]) [false, false] rfl ⟨rfl, rfl, trivial⟩
      refine then_n ?_
      exact ⟨false, h, S.nf [] rfl ⟨rfl, rfl, trivial⟩⟩
  clear S h; rintro a w8 ⟨x1, h, S⟩; rw [hj1] at h; clear hj1 j1
  refine then_n ?_
  obtain ⟨j2, hj2, h⟩ := joinE h
  refine f_join (fun a w' => ∃ x2 : Int, j2 x2 = some r ∧ Sx w [] nov [] [(9, .int .i64 x2)] 40 a w') ?_ ?_
  · refine f_cond (S.tm rfl) (fun hb2 => ?_) (fun hb2 => ?_)
    · replace h := iteT h hb2
      refine f_region ?_
      refine lv S (rn_move (S.tm rfl)) rfl ?_; clear S; intro a S
      refine lv S (rn_sub (S.tm rfl) rfl) rfl ?_; clear S; intro a S
      refine lv S (rn_assign (S.tm rfl)) rfl ?_; clear S; intro a S
      refine l_done ?_
      replace S := S.nf (L' := []) (K' := [(9, .int .i64 (W ((W (r2.Year - r1.Year)) - 1)))]) [] rfl ⟨rfl, trivial⟩
      refine then_n ?_
      exact ⟨W ((W (r2.Year - r1.Year)) - 1), h, S.nf [] rfl ⟨rfl, trivial⟩⟩
    · replace h := iteF h hb2
      refine wp_skip ?_
      refine then_n ?_
      exact ⟨W (r2.Year - r1.Year), h, S.nf [] rfl ⟨rfl, trivial⟩⟩
  clear S h; rintro a w19 ⟨x2, h, S⟩; rw [hj2] at h; clear hj2 j2
  refine then_n ?_
  refine f_seq ?_
  refine f_region ?_
  refine lv S (rn_move (S.tm rfl)) rfl ?_; clear S; intro a S
  refine lv S (rn_assign (S.tm rfl)) rfl ?_; clear S; intro a S
  refine l_done ?_
  replace S := S.nf (L' := []) (K' := [(6, .int .i64 x2)]) [] rfl ⟨rfl, trivial⟩
  refine then_n ?_
  refine wp_ret ?_
  obtain rfl := Option.some.inj h
  exact f_ret S Tryd.results59 rfl rfl
set_option maxRecDepth 20000 in
theorem swimmer_may_ok (w : World) (p_r : GRace) (p_s : GSwimmer) (p_day : Int) (p_way : Int) (r : Bool) (h : swimmer_may p_r p_s p_day p_way = some r) :
    Calls Tryd.prog 42 [.agg (GRace.enc p_r).toArray, .agg (GSwimmer.enc p_s).toArray, .int .i64 p_day, .int .i64 p_way].toArray w (Ret w [] fun τ v w' => v = .bool r) := by
  refine f_enter [] [] Tryd.func42 rfl Tryd.ntmps42 rfl (by simp) (by simp [fps]) (by simp [fps]) fun a S => ?_
  unfold swimmer_may at h
  replace S := S.nf (L' := []) (K' := [(0, .agg (GRace.enc p_r).toArray), (1, .agg (GSwimmer.enc p_s).toArray), (2, .int .i64 p_day), (3, .int .i64 p_way)]) [] rfl ⟨rfl, rfl, rfl, rfl, trivial⟩
  refine f_seq ?_
  refine f_region ?_
  refine l_box S (S.tm rfl) (cs := [.string p_r.Key, .int .i64 p_r.Metres, .int .i64 p_r.Stroke, .int .i64 p_r.Course, .int .i64 p_r.Legs, .int .i64 p_r.Sex, .int .i64 p_r.Young, .int .i64 p_r.Old]) rfl rfl ?_; clear S; intro a w1 b1 hz1 hk1 S
  refine l_box S (S.tm rfl) (cs := [.string p_s.Key, .int .i64 p_s.Sex, .int .i64 p_s.Born]) rfl rfl ?_; clear S; intro a w2 b2 hz2 hk2 S
  refine lv S (rn_assign rfl) rfl ?_; clear S; intro a S
  refine l_done ?_
  replace S := S.nf (L' := [.blk b2 [.string p_s.Key, .int .i64 p_s.Sex, .int .i64 p_s.Born] 49, .blk b1 [.string p_r.Key, .int .i64 p_r.Metres, .int .i64 p_r.Stroke, .int .i64 p_r.Course, .int .i64 p_r.Legs, .int .i64 p_r.Sex, .int .i64 p_r.Young, .int .i64 p_r.Old] 45]) (K' := [(2, .int .i64 p_day), (3, .int .i64 p_way), (4, .pointer (some ⟨b1, 0, none⟩)), (5, .pointer (some ⟨b2, 0, none⟩))]) [true, true] rfl ⟨rfl, rfl, rfl, rfl, trivial⟩
  refine then_n ?_
  refine f_seq ?_
  obtain ⟨j1, hj1, h⟩ := joinE h
  refine f_join (fun a w' => ∃ x1 : Bool, j1 x1 = some r ∧ Sx w [] nov [] [(8, .bool x1)] 30 a w') ?_ ?_
  · rcases Bool.eq_false_or_eq_true (decide (p_r.Sex = 0)) with hb1 | hb1
    · replace h := iteT h hb1
      rcases Bool.eq_false_or_eq_true true with hb2 | hb2
      · replace h := iteT h hb2
        obtain ⟨r1, hr1, h⟩ := bindE h
        refine d_region [] ([]) Tryd.mixed S rfl (by kernel_rfl) ?_; clear S; intro w6 hk5 hsel S
        refine d_quiet 0 S hsel rfl rfl rfl (by kernel_rfl) (by kernel_rfl) rfl (fun _ hw => (rn_fld fa_45_5 (S.tm rfl))) ?_; clear S; intro a S
        refine d_quiet 1 S hsel rfl rfl rfl (by kernel_rfl) (by kernel_rfl) rfl (fun _ hw => (rn_ld Tryd.isAgg3 (off := 0) (o := 5) (S.tm rfl) ((S.blk_mem (i := 1) (cells := [.string p_r.Key, .int .i64 p_r.Metres, .int .i64 p_r.Stroke, .int .i64 p_r.Course, .int .i64 p_r.Legs, .int .i64 p_r.Sex, .int .i64 p_r.Young, .int .i64 p_r.Old]) (b := b1) (T := 45) rfl (ne_nil (e' := .blk b1 [.string p_r.Key, .int .i64 p_r.Metres, .int .i64 p_r.Stroke, .int .i64 p_r.Course, .int .i64 p_r.Legs, .int .i64 p_r.Sex, .int .i64 p_r.Young, .int .i64 p_r.Old] 45))).kept hw) rfl)) ?_; clear S; intro a S
        refine d_quiet 2 S hsel rfl rfl rfl (by kernel_rfl) (by kernel_rfl) rfl (fun _ hw => (rn_eql (S.tm rfl) rfl)) ?_; clear S; intro a S
        refine d_quiet 3 S hsel rfl rfl rfl (by kernel_rfl) (by kernel_rfl) rfl (fun _ hw => (rn_move (S.tm rfl))) ?_; clear S; intro a S
        refine d_skip 4 S hsel rfl rfl rfl rfl (neq_t hb1) rfl (by kernel_rfl) (by kernel_rfl) rfl ?_; clear S; intro a S
        refine d_skip 5 S hsel rfl rfl rfl rfl (neq_t hb1) rfl (by kernel_rfl) (by kernel_rfl) rfl ?_; clear S; intro a S
        refine d_skip 6 S hsel rfl rfl rfl rfl (neq_t hb1) rfl (by kernel_rfl) (by kernel_rfl) rfl ?_; clear S; intro a S
        refine d_skip 7 S hsel rfl rfl rfl rfl (neq_t hb1) rfl (by kernel_rfl) (by kernel_rfl) rfl ?_; clear S; intro a S
        refine d_skip 8 S hsel rfl rfl rfl rfl (neq_t hb1) rfl (by kernel_rfl) (by kernel_rfl) rfl ?_; clear S; intro a S
        refine d_quiet 9 S hsel rfl rfl rfl (by kernel_rfl) (by kernel_rfl) rfl (fun _ hw => (rn_pick_b hb1 (S.tm rfl) rfl)) ?_; clear S; intro a S
        refine d_quiet 10 S hsel rfl rfl rfl (by kernel_rfl) (by kernel_rfl) rfl (fun _ hw => (rn_move (S.tm rfl))) ?_; clear S; intro a S
        refine d_quiet_g 11 S hsel rfl rfl rfl rfl hb2 rfl rfl (by kernel_rfl) (by kernel_rfl) rfl (fun _ hw => (rn_ldA Tryd.isAgg49 Tryd.sizeOf49 (off := 0) (o := 0) (part := [.string p_s.Key, .int .i64 p_s.Sex, .int .i64 p_s.Born]) rfl rfl (S.tm rfl) ((S.blk_mem (i := 0) (cells := [.string p_s.Key, .int .i64 p_s.Sex, .int .i64 p_s.Born]) (b := b2) (T := 49) rfl (ne_nil (e' := .blk b2 [.string p_s.Key, .int .i64 p_s.Sex, .int .i64 p_s.Born] 49))).kept hw))) ?_; clear S; intro a S
        refine d_quiet_g 12 S hsel rfl rfl rfl rfl hb2 rfl rfl (by kernel_rfl) (by kernel_rfl) rfl (fun _ hw => (rn_move (S.tm rfl))) ?_; clear S; intro a S
        refine d_quiet_g 13 S hsel rfl rfl rfl rfl hb2 rfl rfl (by kernel_rfl) (by kernel_rfl) rfl (fun _ hw => (rn_move (S.tm rfl))) ?_; clear S; intro a S
        refine d_quiet_g 15 S hsel rfl rfl rfl rfl hb2 rfl rfl (by kernel_rfl) (by kernel_rfl) rfl (fun _ hw => (rn_fld fa_45_6 (S.tm rfl))) ?_; clear S; intro a S
        refine d_quiet_g 16 S hsel rfl rfl rfl rfl hb2 rfl rfl (by kernel_rfl) (by kernel_rfl) rfl (fun _ hw => (rn_ld Tryd.isAgg3 (off := 0) (o := 6) (S.tm rfl) ((S.blk_mem (i := 1) (cells := [.string p_r.Key, .int .i64 p_r.Metres, .int .i64 p_r.Stroke, .int .i64 p_r.Course, .int .i64 p_r.Legs, .int .i64 p_r.Sex, .int .i64 p_r.Young, .int .i64 p_r.Old]) (b := b1) (T := 45) rfl (ne_nil (e' := .blk b1 [.string p_r.Key, .int .i64 p_r.Metres, .int .i64 p_r.Stroke, .int .i64 p_r.Course, .int .i64 p_r.Legs, .int .i64 p_r.Sex, .int .i64 p_r.Young, .int .i64 p_r.Old] 45))).kept hw) rfl)) ?_; clear S; intro a S
        refine d_quiet_g 17 S hsel rfl rfl rfl rfl hb2 rfl rfl (by kernel_rfl) (by kernel_rfl) rfl (fun _ hw => (rn_fld fa_45_7 (S.tm rfl))) ?_; clear S; intro a S
        refine d_quiet_g 18 S hsel rfl rfl rfl rfl hb2 rfl rfl (by kernel_rfl) (by kernel_rfl) rfl (fun _ hw => (rn_ld Tryd.isAgg3 (off := 0) (o := 7) (S.tm rfl) ((S.blk_mem (i := 1) (cells := [.string p_r.Key, .int .i64 p_r.Metres, .int .i64 p_r.Stroke, .int .i64 p_r.Course, .int .i64 p_r.Legs, .int .i64 p_r.Sex, .int .i64 p_r.Young, .int .i64 p_r.Old]) (b := b1) (T := 45) rfl (ne_nil (e' := .blk b1 [.string p_r.Key, .int .i64 p_r.Metres, .int .i64 p_r.Stroke, .int .i64 p_r.Course, .int .i64 p_r.Legs, .int .i64 p_r.Sex, .int .i64 p_r.Young, .int .i64 p_r.Old] 45))).kept hw) rfl)) ?_; clear S; intro a S
        refine d_loud1 14 (by kernel_rfl) rfl ?_
        refine l_want S rfl rfl rfl hb2 ?_
        refine l_enter S (fun _ => run_call (vs := [.agg (GSwimmer.enc p_s).toArray, .int .i64 p_day, .int .i64 p_way]) ⟨(S.tm rfl), (S.tm rfl), (S.tm rfl), trivial⟩ Tryd.call59) (swimmer_age_ok _ p_s p_day p_way _ hr1) rfl ?_; clear S; intro v3 a w7 hv3 hk6 hn3 S
        subst hv3
        refine l_done ?_
        refine d_next hk6 ?_
        refine d_loud1 19 (by kernel_rfl) rfl ?_
        refine l_want S rfl rfl rfl hb2 ?_
        refine l_enter S (fun _ => run_call (vs := [.int .i64 r1, .int .i64 p_r.Young, .int .i64 p_r.Old]) ⟨(S.tm rfl), (S.tm rfl), (S.tm rfl), trivial⟩ Tryd.call54) (words_Within_ok _ r1 p_r.Young p_r.Old _ rfl) rfl ?_; clear S; intro v4 a w8 hv4 hk7 hn4 S
        subst hv4
        refine l_done ?_
        refine d_next hk7 ?_
        refine d_rest [20, 21] hsel (by kernel_rfl) rfl ?_
        clear hsel
        refine s_lv S rfl (rn_pick_b hb2 (S.tm rfl) (S.tm rfl)) rfl ?_; clear S; intro a S
        refine s_lv S rfl (rn_assign (S.tm rfl)) rfl ?_; clear S; intro a S
        refine s_done ?_
        replace S := S.nf (L' := []) (K' := [(8, .bool (words_Within r1 p_r.Young p_r.Old))]) [false, false] rfl ⟨rfl, trivial⟩
        refine then_n ?_
        exact ⟨(words_Within r1 p_r.Young p_r.Old), h, S.nf [] rfl ⟨rfl, trivial⟩⟩
      · replace h := iteF h hb2
        refine d_region [] ([]) Tryd.mixed S rfl (by kernel_rfl) ?_; clear S; intro w9 hk8 hsel S
        refine d_rest [0, 1, 2, 3, 4, 5, 6, 7, 8, 9, 10, 11, 12, 13, 14, 15, 16, 17, 18, 19, 20, 21] hsel (by kernel_rfl) rfl ?_
        clear hsel
        refine s_lv S rfl (rn_fld fa_45_5 (S.tm rfl)) rfl ?_; clear S; intro a S
        refine s_lv S rfl (rn_load Tryd.isAgg3 (S.tm rfl) (S.cell (i := 1) rfl rfl)) rfl ?_; clear S; intro a S
        refine s_lv S rfl (rn_eql (S.tm rfl) rfl) rfl ?_; clear S; intro a S
        refine s_lv S rfl (rn_move (S.tm rfl)) rfl ?_; clear S; intro a S
        refine s_skip S rfl rfl rfl rfl (neq_t hb1) rfl ?_ rfl; clear S; intro a S
        refine s_skip S rfl rfl rfl rfl (neq_t hb1) rfl ?_ rfl; clear S; intro a S
        refine s_skip S rfl rfl rfl rfl (neq_t hb1) rfl ?_ rfl; clear S; intro a S
        refine s_skip S rfl rfl rfl rfl (neq_t hb1) rfl ?_ rfl; clear S; intro a S
        refine s_skip S rfl rfl rfl rfl (neq_t hb1) rfl ?_ rfl; clear S; intro a S
        refine s_lv S rfl (rn_pick_b hb1 (S.tm rfl) rfl) rfl ?_; clear S; intro a S
        refine s_lv S rfl (rn_move (S.tm rfl)) rfl ?_; clear S; intro a S
        refine s_skip S rfl rfl rfl rfl (neq_f hb2) rfl ?_ rfl; clear S; intro a S
        refine s_skip S rfl rfl rfl rfl (neq_f hb2) rfl ?_ rfl; clear S; intro a S
        refine s_skip S rfl rfl rfl rfl (neq_f hb2) rfl ?_ rfl; clear S; intro a S
        refine s_skip S rfl rfl rfl rfl (neq_f hb2) rfl ?_ rfl; clear S; intro a S
        refine s_skip S rfl rfl rfl rfl (neq_f hb2) rfl ?_ rfl; clear S; intro a S
        refine s_skip S rfl rfl rfl rfl (neq_f hb2) rfl ?_ rfl; clear S; intro a S
        refine s_skip S rfl rfl rfl rfl (neq_f hb2) rfl ?_ rfl; clear S; intro a S
        refine s_skip S rfl rfl rfl rfl (neq_f hb2) rfl ?_ rfl; clear S; intro a S
        refine s_skip S rfl rfl rfl rfl (neq_f hb2) rfl ?_ rfl; clear S; intro a S
        refine s_lv S rfl (rn_pick_c hb2 (S.tm rfl) rfl) rfl ?_; clear S; intro a S
        refine s_lv S rfl (rn_assign (S.tm rfl)) rfl ?_; clear S; intro a S
        refine s_done ?_
        replace S := S.nf (L' := []) (K' := [(8, .bool false)]) [false, false] rfl ⟨rfl, trivial⟩
        refine then_n ?_
        exact ⟨false, h, S.nf [] rfl ⟨rfl, trivial⟩⟩
    · replace h := iteF h hb1
      rcases Bool.eq_false_or_eq_true (decide (p_r.Sex = p_s.Sex)) with hb3 | hb3
      · replace h := iteT h hb3
        obtain ⟨r2, hr2, h⟩ := bindE h
        refine d_region [] ([]) Tryd.mixed S rfl (by kernel_rfl) ?_; clear S; intro w12 hk11 hsel S
        refine d_quiet 0 S hsel rfl rfl rfl (by kernel_rfl) (by kernel_rfl) rfl (fun _ hw => (rn_fld fa_45_5 (S.tm rfl))) ?_; clear S; intro a S
        refine d_quiet 1 S hsel rfl rfl rfl (by kernel_rfl) (by kernel_rfl) rfl (fun _ hw => (rn_ld Tryd.isAgg3 (off := 0) (o := 5) (S.tm rfl) ((S.blk_mem (i := 1) (cells := [.string p_r.Key, .int .i64 p_r.Metres, .int .i64 p_r.Stroke, .int .i64 p_r.Course, .int .i64 p_r.Legs, .int .i64 p_r.Sex, .int .i64 p_r.Young, .int .i64 p_r.Old]) (b := b1) (T := 45) rfl (ne_nil (e' := .blk b1 [.string p_r.Key, .int .i64 p_r.Metres, .int .i64 p_r.Stroke, .int .i64 p_r.Course, .int .i64 p_r.Legs, .int .i64 p_r.Sex, .int .i64 p_r.Young, .int .i64 p_r.Old] 45))).kept hw) rfl)) ?_; clear S; intro a S
        refine d_quiet 2 S hsel rfl rfl rfl (by kernel_rfl) (by kernel_rfl) rfl (fun _ hw => (rn_eql (S.tm rfl) rfl)) ?_; clear S; intro a S
        refine d_quiet 3 S hsel rfl rfl rfl (by kernel_rfl) (by kernel_rfl) rfl (fun _ hw => (rn_move (S.tm rfl))) ?_; clear S; intro a S
        refine d_quiet_g 4 S hsel rfl rfl rfl rfl hb1 rfl rfl (by kernel_rfl) (by kernel_rfl) rfl (fun _ hw => (rn_fld fa_45_5 (S.tm rfl))) ?_; clear S; intro a S
        refine d_quiet_g 5 S hsel rfl rfl rfl rfl hb1 rfl rfl (by kernel_rfl) (by kernel_rfl) rfl (fun _ hw => (rn_ld Tryd.isAgg3 (off := 0) (o := 5) (S.tm rfl) ((S.blk_mem (i := 1) (cells := [.string p_r.Key, .int .i64 p_r.Metres, .int .i64 p_r.Stroke, .int .i64 p_r.Course, .int .i64 p_r.Legs, .int .i64 p_r.Sex, .int .i64 p_r.Young, .int .i64 p_r.Old]) (b := b1) (T := 45) rfl (ne_nil (e' := .blk b1 [.string p_r.Key, .int .i64 p_r.Metres, .int .i64 p_r.Stroke, .int .i64 p_r.Course, .int .i64 p_r.Legs, .int .i64 p_r.Sex, .int .i64 p_r.Young, .int .i64 p_r.Old] 45))).kept hw) rfl)) ?_; clear S; intro a S
        refine d_quiet_g 6 S hsel rfl rfl rfl rfl hb1 rfl rfl (by kernel_rfl) (by kernel_rfl) rfl (fun _ hw => (rn_fld fa_49_1 (S.tm rfl))) ?_; clear S; intro a S
        refine d_quiet_g 7 S hsel rfl rfl rfl rfl hb1 rfl rfl (by kernel_rfl) (by kernel_rfl) rfl (fun _ hw => (rn_ld Tryd.isAgg3 (off := 0) (o := 1) (S.tm rfl) ((S.blk_mem (i := 0) (cells := [.string p_s.Key, .int .i64 p_s.Sex, .int .i64 p_s.Born]) (b := b2) (T := 49) rfl (ne_nil (e' := .blk b2 [.string p_s.Key, .int .i64 p_s.Sex, .int .i64 p_s.Born] 49))).kept hw) rfl)) ?_; clear S; intro a S
        refine d_quiet_g 8 S hsel rfl rfl rfl rfl hb1 rfl rfl (by kernel_rfl) (by kernel_rfl) rfl (fun _ hw => (rn_eql (S.tm rfl) (S.tm rfl))) ?_; clear S; intro a S
        refine d_quiet 9 S hsel rfl rfl rfl (by kernel_rfl) (by kernel_rfl) rfl (fun _ hw => (rn_pick_c hb1 (S.tm rfl) (S.tm rfl))) ?_; clear S; intro a S
        refine d_quiet 10 S hsel rfl rfl rfl (by kernel_rfl) (by kernel_rfl) rfl (fun _ hw => (rn_move (S.tm rfl))) ?_; clear S; intro a S
        refine d_quiet_g 11 S hsel rfl rfl rfl rfl hb3 rfl rfl (by kernel_rfl) (by kernel_rfl) rfl (fun _ hw => (rn_ldA Tryd.isAgg49 Tryd.sizeOf49 (off := 0) (o := 0) (part := [.string p_s.Key, .int .i64 p_s.Sex, .int .i64 p_s.Born]) rfl rfl (S.tm rfl) ((S.blk_mem (i := 0) (cells := [.string p_s.Key, .int .i64 p_s.Sex, .int .i64 p_s.Born]) (b := b2) (T := 49) rfl (ne_nil (e' := .blk b2 [.string p_s.Key, .int .i64 p_s.Sex, .int .i64 p_s.Born] 49))).kept hw))) ?_; clear S; intro a S
        refine d_quiet_g 12 S hsel rfl rfl rfl rfl hb3 rfl rfl (by kernel_rfl) (by kernel_rfl) rfl (fun _ hw => (rn_move (S.tm rfl))) ?_; clear S; intro a S
        refine d_quiet_g 13 S hsel rfl rfl rfl rfl hb3 rfl rfl (by kernel_rfl) (by kernel_rfl) rfl (fun _ hw => (rn_move (S.tm rfl))) ?_; clear S; intro a S
        refine d_quiet_g 15 S hsel rfl rfl rfl rfl hb3 rfl rfl (by kernel_rfl) (by kernel_rfl) rfl (fun _ hw => (rn_fld fa_45_6 (S.tm rfl))) ?_; clear S; intro a S
        refine d_quiet_g 16 S hsel rfl rfl rfl rfl hb3 rfl rfl (by kernel_rfl) (by kernel_rfl) rfl (fun _ hw => (rn_ld Tryd.isAgg3 (off := 0) (o := 6) (S.tm rfl) ((S.blk_mem (i := 1) (cells := [.string p_r.Key, .int .i64 p_r.Metres, .int .i64 p_r.Stroke, .int .i64 p_r.Course, .int .i64 p_r.Legs, .int .i64 p_r.Sex, .int .i64 p_r.Young, .int .i64 p_r.Old]) (b := b1) (T := 45) rfl (ne_nil (e' := .blk b1 [.string p_r.Key, .int .i64 p_r.Metres, .int .i64 p_r.Stroke, .int .i64 p_r.Course, .int .i64 p_r.Legs, .int .i64 p_r.Sex, .int .i64 p_r.Young, .int .i64 p_r.Old] 45))).kept hw) rfl)) ?_; clear S; intro a S
        refine d_quiet_g 17 S hsel rfl rfl rfl rfl hb3 rfl rfl (by kernel_rfl) (by kernel_rfl) rfl (fun _ hw => (rn_fld fa_45_7 (S.tm rfl))) ?_; clear S; intro a S
        refine d_quiet_g 18 S hsel rfl rfl rfl rfl hb3 rfl rfl (by kernel_rfl) (by kernel_rfl) rfl (fun _ hw => (rn_ld Tryd.isAgg3 (off := 0) (o := 7) (S.tm rfl) ((S.blk_mem (i := 1) (cells := [.string p_r.Key, .int .i64 p_r.Metres, .int .i64 p_r.Stroke, .int .i64 p_r.Course, .int .i64 p_r.Legs, .int .i64 p_r.Sex, .int .i64 p_r.Young, .int .i64 p_r.Old]) (b := b1) (T := 45) rfl (ne_nil (e' := .blk b1 [.string p_r.Key, .int .i64 p_r.Metres, .int .i64 p_r.Stroke, .int .i64 p_r.Course, .int .i64 p_r.Legs, .int .i64 p_r.Sex, .int .i64 p_r.Young, .int .i64 p_r.Old] 45))).kept hw) rfl)) ?_; clear S; intro a S
        refine d_loud1 14 (by kernel_rfl) rfl ?_
        refine l_want S rfl rfl rfl hb3 ?_
        refine l_enter S (fun _ => run_call (vs := [.agg (GSwimmer.enc p_s).toArray, .int .i64 p_day, .int .i64 p_way]) ⟨(S.tm rfl), (S.tm rfl), (S.tm rfl), trivial⟩ Tryd.call59) (swimmer_age_ok _ p_s p_day p_way _ hr2) rfl ?_; clear S; intro v7 a w13 hv7 hk12 hn7 S
        subst hv7
        refine l_done ?_
        refine d_next hk12 ?_
        refine d_loud1 19 (by kernel_rfl) rfl ?_
        refine l_want S rfl rfl rfl hb3 ?_
        refine l_enter S (fun _ => run_call (vs := [.int .i64 r2, .int .i64 p_r.Young, .int .i64 p_r.Old]) ⟨(S.tm rfl), (S.tm rfl), (S.tm rfl), trivial⟩ Tryd.call54) (words_Within_ok _ r2 p_r.Young p_r.Old _ rfl) rfl ?_; clear S; intro v8 a w14 hv8 hk13 hn8 S
        subst hv8
        refine l_done ?_
        refine d_next hk13 ?_
        refine d_rest [20, 21] hsel (by kernel_rfl) rfl ?_
        clear hsel
        refine s_lv S rfl (rn_pick_b hb3 (S.tm rfl) (S.tm rfl)) rfl ?_; clear S; intro a S
        refine s_lv S rfl (rn_assign (S.tm rfl)) rfl ?_; clear S; intro a S
        refine s_done ?_
        replace S := S.nf (L' := []) (K' := [(8, .bool (words_Within r2 p_r.Young p_r.Old))]) [false, false] rfl ⟨rfl, trivial⟩
        refine then_n ?_
        exact ⟨(words_Within r2 p_r.Young p_r.Old), h, S.nf [] rfl ⟨rfl, trivial⟩⟩
      · replace h := iteF h hb3
        refine d_region [] ([]) Tryd.mixed S rfl (by kernel_rfl) ?_; clear S; intro w15 hk14 hsel S
        refine d_rest [0, 1, 2, 3, 4, 5, 6, 7, 8, 9, 10, 11, 12, 13, 14, 15, 16, 17, 18, 19, 20, 21] hsel (by kernel_rfl) rfl ?_
        clear hsel
        refine s_lv S rfl (rn_fld fa_45_5 (S.tm rfl)) rfl ?_; clear S; intro a S
        refine s_lv S rfl (rn_load Tryd.isAgg3 (S.tm rfl) (S.cell (i := 1) rfl rfl)) rfl ?_; clear S; intro a S
        refine s_lv S rfl (rn_eql (S.tm rfl) rfl) rfl ?_; clear S; intro a S
        refine s_lv S rfl (rn_move (S.tm rfl)) rfl ?_; clear S; intro a S
        refine s_want S rfl rfl rfl rfl hb1 ?_
        refine s_lv0 S (rn_fld fa_45_5 (S.tm rfl)) rfl ?_; clear S; intro a S
        refine s_want S rfl rfl rfl rfl hb1 ?_
        refine s_lv0 S (rn_load Tryd.isAgg3 (S.tm rfl) (S.cell (i := 1) rfl rfl)) rfl ?_; clear S; intro a S
        refine s_want S rfl rfl rfl rfl hb1 ?_
        refine s_lv0 S (rn_fld fa_49_1 (S.tm rfl)) rfl ?_; clear S; intro a S
        refine s_want S rfl rfl rfl rfl hb1 ?_
        refine s_lv0 S (rn_load Tryd.isAgg3 (S.tm rfl) (S.cell (i := 0) rfl rfl)) rfl ?_; clear S; intro a S
        refine s_want S rfl rfl rfl rfl hb1 ?_
        refine s_lv0 S (rn_eql (S.tm rfl) (S.tm rfl)) rfl ?_; clear S; intro a S
        refine s_lv S rfl (rn_pick_c hb1 (S.tm rfl) (S.tm rfl)) rfl ?_; clear S; intro a S
        refine s_lv S rfl (rn_move (S.tm rfl)) rfl ?_; clear S; intro a S
        refine s_skip S rfl rfl rfl rfl (neq_f hb3) rfl ?_ rfl; clear S; intro a S
        refine s_skip S rfl rfl rfl rfl (neq_f hb3) rfl ?_ rfl; clear S; intro a S
        refine s_skip S rfl rfl rfl rfl (neq_f hb3) rfl ?_ rfl; clear S; intro a S
        refine s_skip S rfl rfl rfl rfl (neq_f hb3) rfl ?_ rfl; clear S; intro a S
        refine s_skip S rfl rfl rfl rfl (neq_f hb3) rfl ?_ rfl; clear S; intro a S
        refine s_skip S rfl rfl rfl rfl (neq_f hb3) rfl ?_ rfl; clear S; intro a S
        refine s_skip S rfl rfl rfl rfl (neq_f hb3) rfl ?_ rfl; clear S; intro a S
        refine s_skip S rfl rfl rfl rfl (neq_f hb3) rfl ?_ rfl; clear S; intro a S
        refine s_skip S rfl rfl rfl rfl (neq_f hb3) rfl ?_ rfl; clear S; intro a S
        refine s_lv S rfl (rn_pick_c hb3 (S.tm rfl) rfl) rfl ?_; clear S; intro a S
        refine s_lv S rfl (rn_assign (S.tm rfl)) rfl ?_; clear S; intro a S
        refine s_done ?_
        replace S := S.nf (L' := []) (K' := [(8, .bool false)]) [false, false] rfl ⟨rfl, trivial⟩
        refine then_n ?_
        exact ⟨false, h, S.nf [] rfl ⟨rfl, trivial⟩⟩
  clear S h; rintro a w3 ⟨x1, h, S⟩; rw [hj1] at h; clear hj1 j1
  refine then_n ?_
  refine wp_ret ?_
  obtain rfl := Option.some.inj h
  exact f_ret S Tryd.results42 rfl rfl
theorem swimmer_May_ok (w : World) (p_r : GRace) (p_s : GSwimmer) (p_day : Int) (p_way : Int) (r : Bool × Int) (h : swimmer_May p_r p_s p_day p_way = some r) :
    Calls Tryd.prog 21 [.agg (GRace.enc p_r).toArray, .agg (GSwimmer.enc p_s).toArray, .int .i64 p_day, .int .i64 p_way].toArray w (Ret w [] fun τ v w' => v = .tuple #[.bool r.1, .int .i64 r.2]) := by
  refine f_enter [] [] Tryd.func21 rfl Tryd.ntmps21 rfl (by simp) (by simp [fps]) (by simp [fps]) fun a S => ?_
  unfold swimmer_May at h
  replace S := S.nf (L' := []) (K' := [(0, .agg (GRace.enc p_r).toArray), (1, .agg (GSwimmer.enc p_s).toArray), (2, .int .i64 p_day), (3, .int .i64 p_way)]) [] rfl ⟨rfl, rfl, rfl, rfl, trivial⟩
  refine f_seq ?_
  refine f_region ?_
  refine l_box S (S.tm rfl) (cs := [.string p_r.Key, .int .i64 p_r.Metres, .int .i64 p_r.Stroke, .int .i64 p_r.Course, .int .i64 p_r.Legs, .int .i64 p_r.Sex, .int .i64 p_r.Young, .int .i64 p_r.Old]) rfl rfl ?_; clear S; intro a w1 b1 hz1 hk1 S
  refine l_box S (S.tm rfl) (cs := [.string p_s.Key, .int .i64 p_s.Sex, .int .i64 p_s.Born]) rfl rfl ?_; clear S; intro a w2 b2 hz2 hk2 S
  refine lv S (rn_assign rfl) rfl ?_; clear S; intro a S
  refine lv S (rn_assign rfl) rfl ?_; clear S; intro a S
  refine l_done ?_
  replace S := S.nf (L' := [.blk b2 [.string p_s.Key, .int .i64 p_s.Sex, .int .i64 p_s.Born] 49, .blk b1 [.string p_r.Key, .int .i64 p_r.Metres, .int .i64 p_r.Stroke, .int .i64 p_r.Course, .int .i64 p_r.Legs, .int .i64 p_r.Sex, .int .i64 p_r.Young, .int .i64 p_r.Old] 45]) (K' := [(2, .int .i64 p_day), (3, .int .i64 p_way), (4, .pointer (some ⟨b1, 0, none⟩)), (5, .pointer (some ⟨b2, 0, none⟩))]) [true, true] rfl ⟨rfl, rfl, rfl, rfl, trivial⟩
  refine then_n ?_
  refine f_seq ?_
  refine f_seq ?_
  refine f_region ?_
  refine lv S (rn_ldA Tryd.isAgg45 Tryd.sizeOf45 (off := 0) (o := 0) (part := [.string p_r.Key, .int .i64 p_r.Metres, .int .i64 p_r.Stroke, .int .i64 p_r.Course, .int .i64 p_r.Legs, .int .i64 p_r.Sex, .int .i64 p_r.Young, .int .i64 p_r.Old]) rfl rfl (S.tm rfl) (S.cellsAt (i := 1) rfl)) rfl ?_; clear S; intro a S
  obtain ⟨r1, hr1, h⟩ := bindE h
  refine l_enter S (fun _ => run_call (vs := [.agg (GRace.enc p_r).toArray]) ⟨(S.tm rfl), trivial⟩ Tryd.call40) (timing_CheckRace_ok _ p_r _ hr1) rfl ?_; clear S; intro v1 a w3 hv1 hk3 hn1 S
  subst hv1
  refine lv S (rn_assign (S.tm rfl)) rfl ?_; clear S; intro a S
  refine l_done ?_
  replace S := S.nf (L' := [.blk b2 [.string p_s.Key, .int .i64 p_s.Sex, .int .i64 p_s.Born] 49, .blk b1 [.string p_r.Key, .int .i64 p_r.Metres, .int .i64 p_r.Stroke, .int .i64 p_r.Course, .int .i64 p_r.Legs, .int .i64 p_r.Sex, .int .i64 p_r.Young, .int .i64 p_r.Old] 45]) (K' := [(2, .int .i64 p_day), (3, .int .i64 p_way), (4, .pointer (some ⟨b1, 0, none⟩)), (5, .pointer (some ⟨b2, 0, none⟩)), (10, .int .i64 r1)]) [true, true] rfl ⟨rfl, rfl, rfl, rfl, rfl, trivial⟩
  refine then_n ?_
  refine f_seq ?_
  refine f_region ?_
  refine lv S (rn_move (S.tm rfl)) rfl ?_; clear S; intro a S
  refine lv S (rn_neq (S.tm rfl) rfl) rfl ?_; clear S; intro a S
  refine l_done ?_
  replace S := S.nf (L' := [.blk b2 [.string p_s.Key, .int .i64 p_s.Sex, .int .i64 p_s.Born] 49, .blk b1 [.string p_r.Key, .int .i64 p_r.Metres, .int .i64 p_r.Stroke, .int .i64 p_r.Course, .int .i64 p_r.Legs, .int .i64 p_r.Sex, .int .i64 p_r.Young, .int .i64 p_r.Old] 45]) (K' := [(2, .int .i64 p_day), (3, .int .i64 p_way), (4, .pointer (some ⟨b1, 0, none⟩)), (5, .pointer (some ⟨b2, 0, none⟩)), (10, .int .i64 r1), (15, .bool (!decide (r1 = 0)))]) [true, true] rfl ⟨rfl, rfl, rfl, rfl, rfl, rfl, trivial⟩
  refine then_n ?_
  refine f_cond (S.tm rfl) (fun hb1 => ?_) (fun hb1 => ?_)
  · replace h := iteT h hb1
    refine f_seq ?_
    refine f_region ?_
    refine lv S (rn_move (S.tm rfl)) rfl ?_; clear S; intro a S
    refine lv S (rn_assign rfl) rfl ?_; clear S; intro a S
    refine lv S (rn_assign (S.tm rfl)) rfl ?_; clear S; intro a S
    refine l_done ?_
    replace S := S.nf (L' := []) (K' := [(8, .bool false), (9, .int .i64 r1)]) [false, false] rfl ⟨rfl, rfl, trivial⟩
    refine then_n ?_
    refine wp_ret ?_
    refine then_r ?_
    obtain rfl := Option.some.inj h
    exact f_ret2 S Tryd.results21 rfl rfl rfl
  · replace h := iteF h hb1
    refine wp_skip ?_
    refine then_n ?_
    refine f_seq ?_
    refine f_seq ?_
    refine f_region ?_
    refine lv S (rn_ldA Tryd.isAgg49 Tryd.sizeOf49 (off := 0) (o := 0) (part := [.string p_s.Key, .int .i64 p_s.Sex, .int .i64 p_s.Born]) rfl rfl (S.tm rfl) (S.cellsAt (i := 0) rfl)) rfl ?_; clear S; intro a S
    refine lv S (rn_move (S.tm rfl)) rfl ?_; clear S; intro a S
    refine lv S (rn_move (S.tm rfl)) rfl ?_; clear S; intro a S
    obtain ⟨r2, hr2, h⟩ := bindE h
    refine l_enter S (fun _ => run_call (vs := [.agg (GSwimmer.enc p_s).toArray, .int .i64 p_day, .int .i64 p_way]) ⟨(S.tm rfl), (S.tm rfl), (S.tm rfl), trivial⟩ Tryd.call41) (swimmer_checkAge_ok _ p_s p_day p_way _ hr2) rfl ?_; clear S; intro v2 a w4 hv2 hk4 hn2 S
    subst hv2
    refine lv S (rn_assign (S.tm rfl)) rfl ?_; clear S; intro a S
    refine l_done ?_
    replace S := S.nf (L' := [.blk b2 [.string p_s.Key, .int .i64 p_s.Sex, .int .i64 p_s.Born] 49, .blk b1 [.string p_r.Key, .int .i64 p_r.Metres, .int .i64 p_r.Stroke, .int .i64 p_r.Course, .int .i64 p_r.Legs, .int .i64 p_r.Sex, .int .i64 p_r.Young, .int .i64 p_r.Old] 45]) (K' := [(2, .int .i64 p_day), (3, .int .i64 p_way), (4, .pointer (some ⟨b1, 0, none⟩)), (5, .pointer (some ⟨b2, 0, none⟩)), (11, .int .i64 r2)]) [true, true] rfl ⟨rfl, rfl, rfl, rfl, rfl, trivial⟩
    refine then_n ?_
    refine f_seq ?_
    refine f_region ?_
    refine lv S (rn_move (S.tm rfl)) rfl ?_; clear S; intro a S
    refine lv S (rn_neq (S.tm rfl) rfl) rfl ?_; clear S; intro a S
    refine l_done ?_
    replace S := S.nf (L' := [.blk b2 [.string p_s.Key, .int .i64 p_s.Sex, .int .i64 p_s.Born] 49, .blk b1 [.string p_r.Key, .int .i64 p_r.Metres, .int .i64 p_r.Stroke, .int .i64 p_r.Course, .int .i64 p_r.Legs, .int .i64 p_r.Sex, .int .i64 p_r.Young, .int .i64 p_r.Old] 45]) (K' := [(2, .int .i64 p_day), (3, .int .i64 p_way), (4, .pointer (some ⟨b1, 0, none⟩)), (5, .pointer (some ⟨b2, 0, none⟩)), (11, .int .i64 r2), (22, .bool (!decide (r2 = 0)))]) [true, true] rfl ⟨rfl, rfl, rfl, rfl, rfl, rfl, trivial⟩
    refine then_n ?_
    refine f_cond (S.tm rfl) (fun hb2 => ?_) (fun hb2 => ?_)
    · replace h := iteT h hb2
      refine f_seq ?_
      refine f_region ?_
      refine lv S (rn_move (S.tm rfl)) rfl ?_; clear S; intro a S
      refine lv S (rn_assign rfl) rfl ?_; clear S; intro a S
      refine lv S (rn_assign (S.tm rfl)) rfl ?_; clear S; intro a S
      refine l_done ?_
      replace S := S.nf (L' := []) (K' := [(8, .bool false), (9, .int .i64 r2)]) [false, false] rfl ⟨rfl, rfl, trivial⟩
      refine then_n ?_
      refine wp_ret ?_
      refine then_r ?_
      obtain rfl := Option.some.inj h
      exact f_ret2 S Tryd.results21 rfl rfl rfl
    · replace h := iteF h hb2
      refine wp_skip ?_
      refine then_n ?_
      refine f_seq ?_
      refine f_region ?_
      refine lv S (rn_ldA Tryd.isAgg45 Tryd.sizeOf45 (off := 0) (o := 0) (part := [.string p_r.Key, .int .i64 p_r.Metres, .int .i64 p_r.Stroke, .int .i64 p_r.Course, .int .i64 p_r.Legs, .int .i64 p_r.Sex, .int .i64 p_r.Young, .int .i64 p_r.Old]) rfl rfl (S.tm rfl) (S.cellsAt (i := 1) rfl)) rfl ?_; clear S; intro a S
      refine lv S (rn_ldA Tryd.isAgg49 Tryd.sizeOf49 (off := 0) (o := 0) (part := [.string p_s.Key, .int .i64 p_s.Sex, .int .i64 p_s.Born]) rfl rfl (S.tm rfl) (S.cellsAt (i := 0) rfl)) rfl ?_; clear S; intro a S
      refine lv S (rn_move (S.tm rfl)) rfl ?_; clear S; intro a S
      refine lv S (rn_move (S.tm rfl)) rfl ?_; clear S; intro a S
      obtain ⟨r3, hr3, h⟩ := bindE h
      refine l_enter S (fun _ => run_call (vs := [.agg (GRace.enc p_r).toArray, .agg (GSwimmer.enc p_s).toArray, .int .i64 p_day, .int .i64 p_way]) ⟨(S.tm rfl), (S.tm rfl), (S.tm rfl), (S.tm rfl), trivial⟩ Tryd.call42) (swimmer_may_ok _ p_r p_s p_day p_way _ hr3) rfl ?_; clear S; intro v3 a w5 hv3 hk5 hn3 S
      subst hv3
      refine lv S (rn_assign (S.tm rfl)) rfl ?_; clear S; intro a S
      refine lv S (rn_assign rfl) rfl ?_; clear S; intro a S
      refine l_done ?_
      replace S := S.nf (L' := []) (K' := [(8, .bool r3), (9, .int .i64 0)]) [false, false] rfl ⟨rfl, rfl, trivial⟩
      refine then_n ?_
      refine wp_ret ?_
      obtain rfl := Option.some.inj h
      exact f_ret2 S Tryd.results21 rfl rfl rfl
theorem tumbref1_in_ok (w : World) (p_n : Int) (p_low : Int) (p_high : Int) (r : Bool) (h : tumbref1_in p_n p_low p_high = r) :
    Calls Tryd.prog 44 [.int .i64 p_n, .int .i64 p_low, .int .i64 p_high].toArray w (Ret w [] fun τ v w' => v = .bool r) := by
  refine f_enter [] [] Tryd.func44 rfl Tryd.ntmps44 rfl (by simp) (by simp [fps]) (by simp [fps]) fun a S => ?_
  unfold tumbref1_in at h
  replace S := S.nf (L' := []) (K' := [(0, .int .i64 p_n), (1, .int .i64 p_low), (2, .int .i64 p_high)]) [] rfl ⟨rfl, rfl, rfl, trivial⟩
  refine f_seq ?_
  refine f_region ?_
  refine lv S (rn_assign rfl) rfl ?_; clear S; intro a S
  refine l_done ?_
  replace S := S.nf (L' := []) (K' := [(0, .int .i64 p_n), (1, .int .i64 p_low), (2, .int .i64 p_high)]) [] rfl ⟨rfl, rfl, rfl, trivial⟩
  refine then_n ?_
  refine f_seq ?_
  refine f_region ?_
  refine lv S (rn_move (S.tm rfl)) rfl ?_; clear S; intro a S
  refine lv S (rn_move (S.tm rfl)) rfl ?_; clear S; intro a S
  refine lv S (rn_leq (S.tm rfl) (S.tm rfl)) rfl ?_; clear S; intro a S
  refine lv S (rn_move (S.tm rfl)) rfl ?_; clear S; intro a S
  refine f_cutm 4 (fun a w' => Keep [] w w' ∧ Sx w [] nov [] [(14, .bool ((decide (p_low ≤ p_n)) && (decide (p_n ≤ p_high))))] 15 a w') ?_ ?_
  · rcases Bool.eq_false_or_eq_true (decide (p_low ≤ p_n)) with hb1 | hb1
    · refine l_want S rfl rfl rfl hb1 ?_
      refine lv S (rn_move (S.tm rfl)) rfl ?_; clear S; intro a S
      refine l_want S rfl rfl rfl hb1 ?_
      refine lv S (rn_move (S.tm rfl)) rfl ?_; clear S; intro a S
      refine l_want S rfl rfl rfl hb1 ?_
      refine lv S (rn_leq (S.tm rfl) (S.tm rfl)) rfl ?_; clear S; intro a S
      refine lv S (rn_and_t hb1 (S.tm rfl) (S.tm rfl)) rfl ?_; clear S; intro a S
      refine l_done ?_
      refine then_n ?_
      exact ⟨Keep.refl _ _, S.nf [] rfl ⟨rfl, trivial⟩⟩
    · refine l_skip S rfl rfl rfl (neq_f hb1) rfl ?_ rfl; clear S; intro a S
      refine l_skip S rfl rfl rfl (neq_f hb1) rfl ?_ rfl; clear S; intro a S
      refine l_skip S rfl rfl rfl (neq_f hb1) rfl ?_ rfl; clear S; intro a S
      refine lv S (rn_and_f (decide (p_n ≤ p_high)) hb1 (S.tm rfl) rfl) rfl ?_; clear S; intro a S
      refine l_done ?_
      refine then_n ?_
      exact ⟨Keep.refl _ _, S.nf [] rfl ⟨rfl, trivial⟩⟩
  clear S; rintro a w1 ⟨hk1, S⟩
  refine lv S (rn_assign (S.tm rfl)) rfl ?_; clear S; intro a S
  refine l_done ?_
  replace S := S.nf (L' := []) (K' := [(6, .bool ((decide (p_low ≤ p_n)) && (decide (p_n ≤ p_high))))]) [] rfl ⟨rfl, trivial⟩
  refine then_n ?_
  refine wp_ret ?_
  subst h
  exact f_ret S Tryd.results44 rfl rfl
theorem tumbref1_Key_ok (w : World) (p_s : ByteArray) (r : Bool) (h : tumbref1_Key p_s = some r) :
    Calls Tryd.prog 43 [.string p_s].toArray w (Ret w [] fun τ v w' => v = .bool r) := by
  refine f_enter [] [] Tryd.func43 rfl Tryd.ntmps43 rfl (by simp) (by simp [fps]) (by simp [fps]) fun a S => ?_
  unfold tumbref1_Key at h
  replace S := S.nf (L' := []) (K' := [(0, .string p_s)]) [] rfl ⟨rfl, trivial⟩
  refine f_seq ?_
  refine f_region ?_
  refine lv S (rn_assign rfl) rfl ?_; clear S; intro a S
  refine l_done ?_
  replace S := S.nf (L' := []) (K' := [(0, .string p_s)]) [] rfl ⟨rfl, trivial⟩
  refine then_n ?_
  refine f_seq ?_
  refine f_region ?_
  refine lv S (rn_move (S.tm rfl)) rfl ?_; clear S; intro a S
  refine lv S (rn_len_str Tryd.underlying9 (S.tm rfl)) rfl ?_; clear S; intro a S
  refine l_enter S (fun _ => run_call (vs := [.int .i64 (p_s.size : Int), .int .i64 1, .int .i64 40]) ⟨(S.tm rfl), rfl, rfl, trivial⟩ Tryd.call44) (tumbref1_in_ok _ (p_s.size : Int) 1 40 _ rfl) rfl ?_; clear S; intro v1 a w1 hv1 hk1 hn1 S
  subst hv1
  refine lv S (rn_move (S.tm rfl)) rfl ?_; clear S; intro a S
  obtain ⟨j1, hj1, h⟩ := joinE h
  refine f_cutm 4 (fun a w' => ∃ c1, j1 c1 = some r ∧ Keep [] w1 w' ∧ Sx w [] nov [] [(0, .string p_s), (10, .bool c1)] 17 a w') ?_ ?_
  · rcases Bool.eq_false_or_eq_true (tumbref1_in (p_s.size : Int) 1 40) with hb1 | hb1
    · replace h := iteT h hb1
      refine l_want S rfl rfl rfl hb1 ?_
      refine lv S (rn_move (S.tm rfl)) rfl ?_; clear S; intro a S
      refine l_want S rfl rfl rfl hb1 ?_
      obtain ⟨r1, hr1, h⟩ := bindE h
      refine l_enter S (fun _ => run_call (vs := [.string p_s, .string k_abcdefghijkl_h0e2e2c]) ⟨(S.tm rfl), rfl, trivial⟩ Tryd.call53) (strings_Trim_ok _ p_s k_abcdefghijkl_h0e2e2c _ hr1) rfl ?_; clear S; intro v2 a w3 hv2 hk2 hn2 S
      subst hv2
      refine l_want S rfl rfl rfl hb1 ?_
      refine lv S (rn_seql (S.tm rfl) rfl) rfl ?_; clear S; intro a S
      refine lv S (rn_and_t hb1 (S.tm rfl) (S.tm rfl)) rfl ?_; clear S; intro a S
      refine l_done ?_
      refine then_n ?_
      exact ⟨_, h, hk2, S.nf [] rfl ⟨rfl, rfl, trivial⟩⟩
    · replace h := iteF h hb1
      refine l_skip S rfl rfl rfl (neq_f hb1) rfl ?_ rfl; clear S; intro a S
      refine l_skip S rfl rfl rfl (neq_f hb1) rfl ?_ rfl; clear S; intro a S
      refine l_skip S rfl rfl rfl (neq_f hb1) rfl ?_ rfl; clear S; intro a S
      refine lv S (rn_and_f true hb1 (S.tm rfl) rfl) rfl ?_; clear S; intro a S
      refine l_done ?_
      refine then_n ?_
      exact ⟨_, h, Keep.refl _ _, S.nf [] rfl ⟨rfl, rfl, trivial⟩⟩
  clear S h; rintro a w2 ⟨c1, h, hk3, S⟩; rw [hj1] at h; clear hj1 j1
  refine lv S (rn_move (S.tm rfl)) rfl ?_; clear S; intro a S
  obtain ⟨j2, hj2, h⟩ := joinE h
  refine f_cutm 5 (fun a w' => ∃ c2, j2 c2 = some r ∧ Keep [] w2 w' ∧ Sx w [] nov [] [(16, .bool c2)] 17 a w') ?_ ?_
  · rcases Bool.eq_false_or_eq_true c1 with hb2 | hb2
    · replace h := iteT h hb2
      refine l_want S rfl rfl rfl hb2 ?_
      refine lv S (rn_move (S.tm rfl)) rfl ?_; clear S; intro a S
      refine l_want S rfl rfl rfl hb2 ?_
      obtain ⟨hc1, h⟩ := chkE h
      refine lv S (rn_sindexT Tryd.underlying9 (S.tm rfl) rfl hc1) rfl ?_; clear S; intro a S
      refine l_want S rfl rfl rfl hb2 ?_
      refine l_enter S (fun _ => run_call (vs := [.string k_abcdefghijklmnopqrstuvwxyz, .int .u8 (sbyte p_s 0)]) ⟨rfl, (S.tm rfl), trivial⟩ Tryd.call60) (strings_IndexByte_ok _ k_abcdefghijklmnopqrstuvwxyz (sbyte p_s 0) _ rfl) rfl ?_; clear S; intro v3 a w5 hv3 hk4 hn3 S
      subst hv3
      refine l_want S rfl rfl rfl hb2 ?_
      refine lv S (rn_geq (S.tm rfl) rfl) rfl ?_; clear S; intro a S
      refine lv S (rn_and_t hb2 (S.tm rfl) (S.tm rfl)) rfl ?_; clear S; intro a S
      refine l_done ?_
      refine then_n ?_
      exact ⟨_, h, hk4, S.nf [] rfl ⟨rfl, trivial⟩⟩
    · replace h := iteF h hb2
      refine l_skip S rfl rfl rfl (neq_f hb2) rfl ?_ rfl; clear S; intro a S
      refine l_skip S rfl rfl rfl (neq_f hb2) rfl ?_ rfl; clear S; intro a S
      refine l_skip S rfl rfl rfl (neq_f hb2) rfl ?_ rfl; clear S; intro a S
      refine l_skip S rfl rfl rfl (neq_f hb2) rfl ?_ rfl; clear S; intro a S
      refine lv S (rn_and_f true hb2 (S.tm rfl) rfl) rfl ?_; clear S; intro a S
      refine l_done ?_
      refine then_n ?_
      exact ⟨_, h, Keep.refl _ _, S.nf [] rfl ⟨rfl, trivial⟩⟩
  clear S h; rintro a w4 ⟨c2, h, hk5, S⟩; rw [hj2] at h; clear hj2 j2
  refine lv S (rn_assign (S.tm rfl)) rfl ?_; clear S; intro a S
  refine l_done ?_
  replace S := S.nf (L' := []) (K' := [(2, .bool c2)]) [] rfl ⟨rfl, trivial⟩
  refine then_n ?_
  refine wp_ret ?_
  obtain rfl := Option.some.inj h
  exact f_ret S Tryd.results43 rfl rfl
theorem tumbref1_RaceFault_ok (w : World) (p_r : GRace) (r : Int) (h : tumbref1_RaceFault p_r = some r) :
    Calls Tryd.prog 22 [.agg (GRace.enc p_r).toArray].toArray w (Ret w [] fun τ v w' => v = .int .i64 r) := by
  refine f_enter [] [] Tryd.func22 rfl Tryd.ntmps22 rfl (by simp) (by simp [fps]) (by simp [fps]) fun a S => ?_
  unfold tumbref1_RaceFault at h
  replace S := S.nf (L' := []) (K' := [(0, .agg (GRace.enc p_r).toArray)]) [] rfl ⟨rfl, trivial⟩
  refine f_seq ?_
  refine f_region ?_
  refine l_box S (S.tm rfl) (cs := [.string p_r.Key, .int .i64 p_r.Metres, .int .i64 p_r.Stroke, .int .i64 p_r.Course, .int .i64 p_r.Legs, .int .i64 p_r.Sex, .int .i64 p_r.Young, .int .i64 p_r.Old]) rfl rfl ?_; clear S; intro a w1 b1 hz1 hk1 S
  refine lv S (rn_assign rfl) rfl ?_; clear S; intro a S
  refine l_done ?_
  replace S := S.nf (L' := [.blk b1 [.string p_r.Key, .int .i64 p_r.Metres, .int .i64 p_r.Stroke, .int .i64 p_r.Course, .int .i64 p_r.Legs, .int .i64 p_r.Sex, .int .i64 p_r.Young, .int .i64 p_r.Old] 45]) (K' := [(1, .pointer (some ⟨b1, 0, none⟩))]) [true] rfl ⟨rfl, trivial⟩
  refine then_n ?_
  refine f_seq ?_
  refine wp_block ?_
  refine f_seq ?_
  refine f_region ?_
  refine lv S (rn_fld fa_45_0 (S.tm rfl)) rfl ?_; clear S; intro a S
  refine lv S (rn_load Tryd.isAgg9 (S.tm rfl) (S.cell (i := 0) rfl rfl)) rfl ?_; clear S; intro a S
  obtain ⟨r1, hr1, h⟩ := bindE h
  refine l_enter S (fun _ => run_call (vs := [.string p_r.Key]) ⟨(S.tm rfl), trivial⟩ Tryd.call43) (tumbref1_Key_ok _ p_r.Key _ hr1) rfl ?_; clear S; intro v1 a w2 hv1 hk2 hn1 S
  subst hv1
  refine lv S (rn_not (S.tm rfl)) rfl ?_; clear S; intro a S
  refine lv S (rn_assign (S.tm rfl)) rfl ?_; clear S; intro a S
  refine l_done ?_
  replace S := S.nf (L' := [.blk b1 [.string p_r.Key, .int .i64 p_r.Metres, .int .i64 p_r.Stroke, .int .i64 p_r.Course, .int .i64 p_r.Legs, .int .i64 p_r.Sex, .int .i64 p_r.Young, .int .i64 p_r.Old] 45]) (K' := [(1, .pointer (some ⟨b1, 0, none⟩)), (3, .bool (!r1))]) [true] rfl ⟨rfl, rfl, trivial⟩
  refine then_n ?_
  refine f_cond (S.tm rfl) (fun hb1 => ?_) (fun hb1 => ?_)
  · replace h := iteT h hb1
    refine f_seq ?_
    refine f_region ?_
    refine lv S (rn_assign rfl) rfl ?_; clear S; intro a S
    refine l_done ?_
    replace S := S.nf (L' := []) (K' := [(2, .int .i64 5)]) [false] rfl ⟨rfl, trivial⟩
    refine then_n ?_
    refine wp_ret ?_
    refine blk_r ?_
    refine then_r ?_
    obtain rfl := Option.some.inj h
    exact f_ret S Tryd.results22 rfl rfl
  · replace h := iteF h hb1
    refine f_seq ?_
    refine f_region ?_
    refine lv S (rn_fld fa_45_2 (S.tm rfl)) rfl ?_; clear S; intro a S
    refine lv S (rn_load Tryd.isAgg3 (S.tm rfl) (S.cell (i := 0) rfl rfl)) rfl ?_; clear S; intro a S
    refine l_enter S (fun _ => run_call (vs := [.int .i64 p_r.Stroke, .int .i64 1, .int .i64 5]) ⟨(S.tm rfl), rfl, rfl, trivial⟩ Tryd.call44) (tumbref1_in_ok _ p_r.Stroke 1 5 _ rfl) rfl ?_; clear S; intro v2 a w3 hv2 hk3 hn2 S
    subst hv2
    refine lv S (rn_not (S.tm rfl)) rfl ?_; clear S; intro a S
    refine lv S (rn_move (S.tm rfl)) rfl ?_; clear S; intro a S
    refine f_cutm 5 (fun a w' => Keep [] w3 w' ∧ Sx w [] nov [.blk b1 [.string p_r.Key, .int .i64 p_r.Metres, .int .i64 p_r.Stroke, .int .i64 p_r.Course, .int .i64 p_r.Legs, .int .i64 p_r.Sex, .int .i64 p_r.Young, .int .i64 p_r.Old] 45] [(1, .pointer (some ⟨b1, 0, none⟩)), (18, .bool ((!(tumbref1_in p_r.Stroke 1 5)) || (!(tumbref1_in p_r.Sex 0 2))))] 79 a w') ?_ ?_
    · rcases Bool.eq_false_or_eq_true (!(tumbref1_in p_r.Stroke 1 5)) with hb2 | hb2
      · refine l_skip S rfl rfl rfl (neq_t hb2) rfl ?_ rfl; clear S; intro a S
        refine l_skip S rfl rfl rfl (neq_t hb2) rfl ?_ rfl; clear S; intro a S
        refine l_skip S rfl rfl rfl (neq_t hb2) rfl ?_ rfl; clear S; intro a S
        refine l_skip S rfl rfl rfl (neq_t hb2) rfl ?_ rfl; clear S; intro a S
        refine lv S (rn_or_t (!(tumbref1_in p_r.Sex 0 2)) hb2 (S.tm rfl) rfl) rfl ?_; clear S; intro a S
        refine l_done ?_
        refine then_n ?_
        exact ⟨Keep.refl _ _, S.nf [true] rfl ⟨rfl, rfl, trivial⟩⟩
      · refine l_want S rfl rfl rfl hb2 ?_
        refine lv S (rn_fld fa_45_5 (S.tm rfl)) rfl ?_; clear S; intro a S
        refine l_want S rfl rfl rfl hb2 ?_
        refine lv S (rn_load Tryd.isAgg3 (S.tm rfl) (S.cell (i := 0) rfl rfl)) rfl ?_; clear S; intro a S
        refine l_want S rfl rfl rfl hb2 ?_
        refine l_enter S (fun _ => run_call (vs := [.int .i64 p_r.Sex, .int .i64 0, .int .i64 2]) ⟨(S.tm rfl), rfl, rfl, trivial⟩ Tryd.call44) (tumbref1_in_ok _ p_r.Sex 0 2 _ rfl) rfl ?_; clear S; intro v3 a w5 hv3 hk4 hn3 S
        subst hv3
        refine l_want S rfl rfl rfl hb2 ?_
        refine lv S (rn_not (S.tm rfl)) rfl ?_; clear S; intro a S
        refine lv S (rn_or_f hb2 (S.tm rfl) (S.tm rfl)) rfl ?_; clear S; intro a S
        refine l_done ?_
        refine then_n ?_
        exact ⟨hk4, S.nf [true] rfl ⟨rfl, rfl, trivial⟩⟩
    clear S; rintro a w4 ⟨hk5, S⟩
    refine lv S (rn_assign (S.tm rfl)) rfl ?_; clear S; intro a S
    refine l_done ?_
    replace S := S.nf (L' := [.blk b1 [.string p_r.Key, .int .i64 p_r.Metres, .int .i64 p_r.Stroke, .int .i64 p_r.Course, .int .i64 p_r.Legs, .int .i64 p_r.Sex, .int .i64 p_r.Young, .int .i64 p_r.Old] 45]) (K' := [(1, .pointer (some ⟨b1, 0, none⟩)), (8, .bool ((!(tumbref1_in p_r.Stroke 1 5)) || (!(tumbref1_in p_r.Sex 0 2))))]) [true] rfl ⟨rfl, rfl, trivial⟩
    refine then_n ?_
    refine f_cond (S.tm rfl) (fun hb3 => ?_) (fun hb3 => ?_)
    · replace h := iteT h hb3
      refine f_seq ?_
      refine f_region ?_
      refine lv S (rn_assign rfl) rfl ?_; clear S; intro a S
      refine l_done ?_
      replace S := S.nf (L' := []) (K' := [(2, .int .i64 4)]) [false] rfl ⟨rfl, trivial⟩
      refine then_n ?_
      refine wp_ret ?_
      refine blk_r ?_
      refine then_r ?_
      obtain rfl := Option.some.inj h
      exact f_ret S Tryd.results22 rfl rfl
    · replace h := iteF h hb3
      refine f_seq ?_
      refine f_seq ?_
      refine f_region ?_
      refine lv S (rn_fld fa_45_3 (S.tm rfl)) rfl ?_; clear S; intro a S
      refine lv S (rn_load Tryd.isAgg3 (S.tm rfl) (S.cell (i := 0) rfl rfl)) rfl ?_; clear S; intro a S
      refine lv S (rn_neq (S.tm rfl) rfl) rfl ?_; clear S; intro a S
      refine lv S (rn_move (S.tm rfl)) rfl ?_; clear S; intro a S
      refine f_cutm 4 (fun a w' => Keep [] w4 w' ∧ Sx w [] nov [.blk b1 [.string p_r.Key, .int .i64 p_r.Metres, .int .i64 p_r.Stroke, .int .i64 p_r.Course, .int .i64 p_r.Legs, .int .i64 p_r.Sex, .int .i64 p_r.Young, .int .i64 p_r.Old] 45] [(1, .pointer (some ⟨b1, 0, none⟩)), (27, .bool ((!decide (p_r.Course = 25)) && (!decide (p_r.Course = 50))))] 79 a w') ?_ ?_
      · rcases Bool.eq_false_or_eq_true (!decide (p_r.Course = 25)) with hb4 | hb4
        · refine l_want S rfl rfl rfl hb4 ?_
          refine lv S (rn_fld fa_45_3 (S.tm rfl)) rfl ?_; clear S; intro a S
          refine l_want S rfl rfl rfl hb4 ?_
          refine lv S (rn_load Tryd.isAgg3 (S.tm rfl) (S.cell (i := 0) rfl rfl)) rfl ?_; clear S; intro a S
          refine l_want S rfl rfl rfl hb4 ?_
          refine lv S (rn_neq (S.tm rfl) rfl) rfl ?_; clear S; intro a S
          refine lv S (rn_and_t hb4 (S.tm rfl) (S.tm rfl)) rfl ?_; clear S; intro a S
          refine l_done ?_
          refine then_n ?_
          exact ⟨Keep.refl _ _, S.nf [true] rfl ⟨rfl, rfl, trivial⟩⟩
        · refine l_skip S rfl rfl rfl (neq_f hb4) rfl ?_ rfl; clear S; intro a S
          refine l_skip S rfl rfl rfl (neq_f hb4) rfl ?_ rfl; clear S; intro a S
          refine l_skip S rfl rfl rfl (neq_f hb4) rfl ?_ rfl; clear S; intro a S
          refine lv S (rn_and_f (!decide (p_r.Course = 50)) hb4 (S.tm rfl) rfl) rfl ?_; clear S; intro a S
          refine l_done ?_
          refine then_n ?_
          exact ⟨Keep.refl _ _, S.nf [true] rfl ⟨rfl, rfl, trivial⟩⟩
      clear S; rintro a w6 ⟨hk6, S⟩
      refine lv S (rn_assign (S.tm rfl)) rfl ?_; clear S; intro a S
      refine l_done ?_
      replace S := S.nf (L' := [.blk b1 [.string p_r.Key, .int .i64 p_r.Metres, .int .i64 p_r.Stroke, .int .i64 p_r.Course, .int .i64 p_r.Legs, .int .i64 p_r.Sex, .int .i64 p_r.Young, .int .i64 p_r.Old] 45]) (K' := [(1, .pointer (some ⟨b1, 0, none⟩)), (19, .bool ((!decide (p_r.Course = 25)) && (!decide (p_r.Course = 50))))]) [true] rfl ⟨rfl, rfl, trivial⟩
      refine then_n ?_
      obtain ⟨j1, hj1, h⟩ := joinE h
      refine f_join (fun a w' => ∃ x1 : Bool, j1 x1 = some r ∧ Sx w [] nov [.blk b1 [.string p_r.Key, .int .i64 p_r.Metres, .int .i64 p_r.Stroke, .int .i64 p_r.Course, .int .i64 p_r.Legs, .int .i64 p_r.Sex, .int .i64 p_r.Young, .int .i64 p_r.Old] 45] [(1, .pointer (some ⟨b1, 0, none⟩)), (19, .bool x1)] 79 a w') ?_ ?_
      · refine f_cond (S.tm rfl) (fun hb5 => ?_) (fun hb5 => ?_)
        · replace h := iteT h hb5
          refine wp_skip ?_
          refine then_n ?_
          exact ⟨((!decide (p_r.Course = 25)) && (!decide (p_r.Course = 50))), h, S.nf [true] rfl ⟨rfl, rfl, trivial⟩⟩
        · replace h := iteF h hb5
          refine f_seq ?_
          refine f_region ?_
          refine lv S (rn_fld fa_45_4 (S.tm rfl)) rfl ?_; clear S; intro a S
          refine lv S (rn_load Tryd.isAgg3 (S.tm rfl) (S.cell (i := 0) rfl rfl)) rfl ?_; clear S; intro a S
          refine l_enter S (fun _ => run_call (vs := [.int .i64 p_r.Legs, .int .i64 1, .int .i64 4]) ⟨(S.tm rfl), rfl, rfl, trivial⟩ Tryd.call44) (tumbref1_in_ok _ p_r.Legs 1 4 _ rfl) rfl ?_; clear S; intro v4 a w8 hv4 hk7 hn4 S
          subst hv4
          refine lv S (rn_not (S.tm rfl)) rfl ?_; clear S; intro a S
          refine lv S (rn_assign (S.tm rfl)) rfl ?_; clear S; intro a S
          refine l_done ?_
          replace S := S.nf (L' := [.blk b1 [.string p_r.Key, .int .i64 p_r.Metres, .int .i64 p_r.Stroke, .int .i64 p_r.Course, .int .i64 p_r.Legs, .int .i64 p_r.Sex, .int .i64 p_r.Young, .int .i64 p_r.Old] 45]) (K' := [(1, .pointer (some ⟨b1, 0, none⟩)), (19, .bool (!(tumbref1_in p_r.Legs 1 4)))]) [true] rfl ⟨rfl, rfl, trivial⟩
          refine then_n ?_
          obtain ⟨j2, hj2, h⟩ := joinE h
          refine f_join (fun a w' => ∃ x2 : Bool, j2 x2 = some r ∧ Sx w [] nov [.blk b1 [.string p_r.Key, .int .i64 p_r.Metres, .int .i64 p_r.Stroke, .int .i64 p_r.Course, .int .i64 p_r.Legs, .int .i64 p_r.Sex, .int .i64 p_r.Young, .int .i64 p_r.Old] 45] [(1, .pointer (some ⟨b1, 0, none⟩)), (19, .bool x2)] 79 a w') ?_ ?_
          · refine f_cond (S.tm rfl) (fun hb6 => ?_) (fun hb6 => ?_)
            · replace h := iteT h hb6
              refine wp_skip ?_
              refine then_n ?_
              exact ⟨!(tumbref1_in p_r.Legs 1 4), h, S.nf [true] rfl ⟨rfl, rfl, trivial⟩⟩
            · replace h := iteF h hb6
              refine f_seq ?_
              refine f_region ?_
              refine lv S (rn_fld fa_45_1 (S.tm rfl)) rfl ?_; clear S; intro a S
              refine lv S (rn_load Tryd.isAgg3 (S.tm rfl) (S.cell (i := 0) rfl rfl)) rfl ?_; clear S; intro a S
              refine l_enter S (fun _ => run_call (vs := [.int .i64 p_r.Metres, .int .i64 25, .int .i64 1500]) ⟨(S.tm rfl), rfl, rfl, trivial⟩ Tryd.call44) (tumbref1_in_ok _ p_r.Metres 25 1500 _ rfl) rfl ?_; clear S; intro v5 a w10 hv5 hk8 hn5 S
              subst hv5
              refine lv S (rn_not (S.tm rfl)) rfl ?_; clear S; intro a S
              refine lv S (rn_assign (S.tm rfl)) rfl ?_; clear S; intro a S
              refine l_done ?_
              replace S := S.nf (L' := [.blk b1 [.string p_r.Key, .int .i64 p_r.Metres, .int .i64 p_r.Stroke, .int .i64 p_r.Course, .int .i64 p_r.Legs, .int .i64 p_r.Sex, .int .i64 p_r.Young, .int .i64 p_r.Old] 45]) (K' := [(1, .pointer (some ⟨b1, 0, none⟩)), (19, .bool (!(tumbref1_in p_r.Metres 25 1500)))]) [true] rfl ⟨rfl, rfl, trivial⟩
              refine then_n ?_
              obtain ⟨j3, hj3, h⟩ := joinE h
              refine f_join (fun a w' => ∃ x3 : Bool, j3 x3 = some r ∧ Sx w [] nov [.blk b1 [.string p_r.Key, .int .i64 p_r.Metres, .int .i64 p_r.Stroke, .int .i64 p_r.Course, .int .i64 p_r.Legs, .int .i64 p_r.Sex, .int .i64 p_r.Young, .int .i64 p_r.Old] 45] [(1, .pointer (some ⟨b1, 0, none⟩)), (19, .bool x3)] 79 a w') ?_ ?_
              · refine f_cond (S.tm rfl) (fun hb7 => ?_) (fun hb7 => ?_)
                · replace h := iteT h hb7
                  refine wp_skip ?_
                  refine then_n ?_
                  exact ⟨!(tumbref1_in p_r.Metres 25 1500), h, S.nf [true] rfl ⟨rfl, rfl, trivial⟩⟩
                · replace h := iteF h hb7
                  refine f_seq ?_
                  refine f_region ?_
                  refine lv S (rn_fld fa_45_6 (S.tm rfl)) rfl ?_; clear S; intro a S
                  refine lv S (rn_load Tryd.isAgg3 (S.tm rfl) (S.cell (i := 0) rfl rfl)) rfl ?_; clear S; intro a S
                  refine lv S (rn_fld fa_45_7 (S.tm rfl)) rfl ?_; clear S; intro a S
                  refine lv S (rn_load Tryd.isAgg3 (S.tm rfl) (S.cell (i := 0) rfl rfl)) rfl ?_; clear S; intro a S
                  refine l_enter S (fun _ => run_call (vs := [.int .i64 p_r.Young, .int .i64 0, .int .i64 p_r.Old]) ⟨(S.tm rfl), rfl, (S.tm rfl), trivial⟩ Tryd.call44) (tumbref1_in_ok _ p_r.Young 0 p_r.Old _ rfl) rfl ?_; clear S; intro v6 a w12 hv6 hk9 hn6 S
                  subst hv6
                  refine lv S (rn_not (S.tm rfl)) rfl ?_; clear S; intro a S
                  refine lv S (rn_assign (S.tm rfl)) rfl ?_; clear S; intro a S
                  refine l_done ?_
                  replace S := S.nf (L' := [.blk b1 [.string p_r.Key, .int .i64 p_r.Metres, .int .i64 p_r.Stroke, .int .i64 p_r.Course, .int .i64 p_r.Legs, .int .i64 p_r.Sex, .int .i64 p_r.Young, .int .i64 p_r.Old] 45]) (K' := [(1, .pointer (some ⟨b1, 0, none⟩)), (19, .bool (!(tumbref1_in p_r.Young 0 p_r.Old)))]) [true] rfl ⟨rfl, rfl, trivial⟩
                  refine then_n ?_
                  obtain ⟨j4, hj4, h⟩ := joinE h
                  refine f_join (fun a w' => ∃ x4 : Bool, j4 x4 = some r ∧ Sx w [] nov [.blk b1 [.string p_r.Key, .int .i64 p_r.Metres, .int .i64 p_r.Stroke, .int .i64 p_r.Course, .int .i64 p_r.Legs, .int .i64 p_r.Sex, .int .i64 p_r.Young, .int .i64 p_r.Old] 45] [(1, .pointer (some ⟨b1, 0, none⟩)), (19, .bool x4)] 79 a w') ?_ ?_
                  · refine f_cond (S.tm rfl) (fun hb8 => ?_) (fun hb8 => ?_)
                    · replace h := iteT h hb8
                      refine wp_skip ?_
                      refine then_n ?_
                      exact ⟨!(tumbref1_in p_r.Young 0 p_r.Old), h, S.nf [true] rfl ⟨rfl, rfl, trivial⟩⟩
                    · replace h := iteF h hb8
                      refine f_region ?_
                      refine lv S (rn_fld fa_45_7 (S.tm rfl)) rfl ?_; clear S; intro a S
                      refine lv S (rn_load Tryd.isAgg3 (S.tm rfl) (S.cell (i := 0) rfl rfl)) rfl ?_; clear S; intro a S
                      refine lv S (rn_gtr (S.tm rfl) rfl) rfl ?_; clear S; intro a S
                      refine lv S (rn_assign (S.tm rfl)) rfl ?_; clear S; intro a S
                      refine l_done ?_
                      replace S := S.nf (L' := [.blk b1 [.string p_r.Key, .int .i64 p_r.Metres, .int .i64 p_r.Stroke, .int .i64 p_r.Course, .int .i64 p_r.Legs, .int .i64 p_r.Sex, .int .i64 p_r.Young, .int .i64 p_r.Old] 45]) (K' := [(1, .pointer (some ⟨b1, 0, none⟩)), (19, .bool (decide (120 < p_r.Old)))]) [true] rfl ⟨rfl, rfl, trivial⟩
                      refine then_n ?_
                      exact ⟨decide (120 < p_r.Old), h, S.nf [true] rfl ⟨rfl, rfl, trivial⟩⟩
                  clear S h; rintro a w13 ⟨x4, h, S⟩; rw [hj4] at h; clear hj4 j4
                  refine then_n ?_
                  exact ⟨x4, h, S.nf [true] rfl ⟨rfl, rfl, trivial⟩⟩
              clear S h; rintro a w11 ⟨x3, h, S⟩; rw [hj3] at h; clear hj3 j3
              refine then_n ?_
              exact ⟨x3, h, S.nf [true] rfl ⟨rfl, rfl, trivial⟩⟩
          clear S h; rintro a w9 ⟨x2, h, S⟩; rw [hj2] at h; clear hj2 j2
          refine then_n ?_
          exact ⟨x2, h, S.nf [true] rfl ⟨rfl, rfl, trivial⟩⟩
      clear S h; rintro a w7 ⟨x1, h, S⟩; rw [hj1] at h; clear hj1 j1
      refine then_n ?_
      refine f_cond (S.tm rfl) (fun hb9 => ?_) (fun hb9 => ?_)
      · replace h := iteT h hb9
        refine f_seq ?_
        refine f_region ?_
        refine lv S (rn_assign rfl) rfl ?_; clear S; intro a S
        refine l_done ?_
        replace S := S.nf (L' := []) (K' := [(2, .int .i64 1)]) [false] rfl ⟨rfl, trivial⟩
        refine then_n ?_
        refine wp_ret ?_
        refine blk_r ?_
        refine then_r ?_
        obtain rfl := Option.some.inj h
        exact f_ret S Tryd.results22 rfl rfl
      · replace h := iteF h hb9
        refine f_seq ?_
        refine f_region ?_
        refine lv S (rn_fld fa_45_1 (S.tm rfl)) rfl ?_; clear S; intro a S
        refine lv S (rn_load Tryd.isAgg3 (S.tm rfl) (S.cell (i := 0) rfl rfl)) rfl ?_; clear S; intro a S
        refine lv S (rn_fld fa_45_3 (S.tm rfl)) rfl ?_; clear S; intro a S
        refine lv S (rn_load Tryd.isAgg3 (S.tm rfl) (S.cell (i := 0) rfl rfl)) rfl ?_; clear S; intro a S
        obtain ⟨hc1, h⟩ := chkE h
        refine lv S (rn_rem (S.tm rfl) (S.tm rfl) (by simpa using hc1)) rfl ?_; clear S; intro a S
        refine lv S (rn_neq (S.tm rfl) rfl) rfl ?_; clear S; intro a S
        refine lv S (rn_assign (S.tm rfl)) rfl ?_; clear S; intro a S
        refine l_done ?_
        replace S := S.nf (L' := [.blk b1 [.string p_r.Key, .int .i64 p_r.Metres, .int .i64 p_r.Stroke, .int .i64 p_r.Course, .int .i64 p_r.Legs, .int .i64 p_r.Sex, .int .i64 p_r.Young, .int .i64 p_r.Old] 45]) (K' := [(1, .pointer (some ⟨b1, 0, none⟩)), (45, .bool (!decide ((Int.tmod p_r.Metres p_r.Course) = 0)))]) [true] rfl ⟨rfl, rfl, trivial⟩
        refine then_n ?_
        refine f_cond (S.tm rfl) (fun hb10 => ?_) (fun hb10 => ?_)
        · replace h := iteT h hb10
          refine f_seq ?_
          refine f_region ?_
          refine lv S (rn_assign rfl) rfl ?_; clear S; intro a S
          refine l_done ?_
          replace S := S.nf (L' := []) (K' := [(2, .int .i64 3)]) [false] rfl ⟨rfl, trivial⟩
          refine then_n ?_
          refine wp_ret ?_
          refine blk_r ?_
          refine then_r ?_
          obtain rfl := Option.some.inj h
          exact f_ret S Tryd.results22 rfl rfl
        · replace h := iteF h hb10
          refine wp_skip ?_
          refine blk_n ?_
          refine then_n ?_
          refine f_seq ?_
          refine f_seq ?_
          refine f_region ?_
          refine lv S (rn_fld fa_45_2 (S.tm rfl)) rfl ?_; clear S; intro a S
          refine lv S (rn_load Tryd.isAgg3 (S.tm rfl) (S.cell (i := 0) rfl rfl)) rfl ?_; clear S; intro a S
          refine lv S (rn_eql (S.tm rfl) rfl) rfl ?_; clear S; intro a S
          refine lv S (rn_move (S.tm rfl)) rfl ?_; clear S; intro a S
          obtain ⟨j5, hj5, h⟩ := joinE h
          refine f_cutm 23 (fun a w' => ∃ c1, j5 c1 = some r ∧ Keep [] w7 w' ∧ Sx w [] nov [.blk b1 [.string p_r.Key, .int .i64 p_r.Metres, .int .i64 p_r.Stroke, .int .i64 p_r.Course, .int .i64 p_r.Legs, .int .i64 p_r.Sex, .int .i64 p_r.Young, .int .i64 p_r.Old] 45] [(78, .bool c1)] 79 a w') ?_ ?_
          · rcases Bool.eq_false_or_eq_true (decide (p_r.Stroke = 5)) with hb11 | hb11
            · replace h := iteT h hb11
              refine l_want S rfl rfl rfl hb11 ?_
              refine lv S (rn_fld fa_45_4 (S.tm rfl)) rfl ?_; clear S; intro a S
              refine l_want S rfl rfl rfl hb11 ?_
              refine lv S (rn_load Tryd.isAgg3 (S.tm rfl) (S.cell (i := 0) rfl rfl)) rfl ?_; clear S; intro a S
              refine l_want S rfl rfl rfl hb11 ?_
              refine lv S (rn_eql (S.tm rfl) rfl) rfl ?_; clear S; intro a S
              refine l_want S rfl rfl rfl hb11 ?_
              refine lv S (rn_move (S.tm rfl)) rfl ?_; clear S; intro a S
              obtain ⟨j6, hj6, h⟩ := joinE h
              refine f_cutm 8 (fun a w' => ∃ c2, j6 c2 = some r ∧ Keep [] w7 w' ∧ Sx w [] nov [.blk b1 [.string p_r.Key, .int .i64 p_r.Metres, .int .i64 p_r.Stroke, .int .i64 p_r.Course, .int .i64 p_r.Legs, .int .i64 p_r.Sex, .int .i64 p_r.Young, .int .i64 p_r.Old] 45] [(1, .pointer (some ⟨b1, 0, none⟩)), (55, .bool (decide (p_r.Stroke = 5))), (67, .bool c2)] 79 a w') ?_ ?_
              · rcases Bool.eq_false_or_eq_true (decide (p_r.Legs = 1)) with hb12 | hb12
                · replace h := iteT h hb12
                  refine l_want S rfl rfl rfl hb12 ?_
                  refine lv S (rn_fld fa_45_1 (S.tm rfl)) rfl ?_; clear S; intro a S
                  refine l_want S rfl rfl rfl hb12 ?_
                  refine lv S (rn_load Tryd.isAgg3 (S.tm rfl) (S.cell (i := 0) rfl rfl)) rfl ?_; clear S; intro a S
                  refine l_want S rfl rfl rfl hb12 ?_
                  refine lv S (rn_fld fa_45_3 (S.tm rfl)) rfl ?_; clear S; intro a S
                  refine l_want S rfl rfl rfl hb12 ?_
                  refine lv S (rn_load Tryd.isAgg3 (S.tm rfl) (S.cell (i := 0) rfl rfl)) rfl ?_; clear S; intro a S
                  refine l_want S rfl rfl rfl hb12 ?_
                  refine lv S (rn_mul rfl (S.tm rfl)) rfl ?_; clear S; intro a S
                  refine l_want S rfl rfl rfl hb12 ?_
                  obtain ⟨hc2, h⟩ := chkE h
                  refine lv S (rn_rem (S.tm rfl) (S.tm rfl) (by simpa using hc2)) rfl ?_; clear S; intro a S
                  refine l_want S rfl rfl rfl hb12 ?_
                  refine lv S (rn_neq (S.tm rfl) rfl) rfl ?_; clear S; intro a S
                  refine l_want S rfl rfl rfl hb11 ?_
                  refine lv S (rn_and_t hb12 (S.tm rfl) (S.tm rfl)) rfl ?_; clear S; intro a S
                  refine l_done ?_
                  refine then_n ?_
                  exact ⟨_, h, Keep.refl _ _, S.nf [true] rfl ⟨rfl, rfl, rfl, trivial⟩⟩
                · replace h := iteF h hb12
                  refine l_skip S rfl rfl rfl (neq_f hb12) rfl ?_ rfl; clear S; intro a S
                  refine l_skip S rfl rfl rfl (neq_f hb12) rfl ?_ rfl; clear S; intro a S
                  refine l_skip S rfl rfl rfl (neq_f hb12) rfl ?_ rfl; clear S; intro a S
                  refine l_skip S rfl rfl rfl (neq_f hb12) rfl ?_ rfl; clear S; intro a S
                  refine l_skip S rfl rfl rfl (neq_f hb12) rfl ?_ rfl; clear S; intro a S
                  refine l_skip S rfl rfl rfl (neq_f hb12) rfl ?_ rfl; clear S; intro a S
                  refine l_skip S rfl rfl rfl (neq_f hb12) rfl ?_ rfl; clear S; intro a S
                  refine l_want S rfl rfl rfl hb11 ?_
                  refine lv S (rn_and_f true hb12 (S.tm rfl) rfl) rfl ?_; clear S; intro a S
                  refine l_done ?_
                  refine then_n ?_
                  exact ⟨_, h, Keep.refl _ _, S.nf [true] rfl ⟨rfl, rfl, rfl, trivial⟩⟩
              clear S h; rintro a w15 ⟨c2, h, hk10, S⟩; rw [hj6] at h; clear hj6 j6
              refine l_want S rfl rfl rfl hb11 ?_
              refine lv S (rn_move (S.tm rfl)) rfl ?_; clear S; intro a S
              refine f_cutm 9 (fun a w' => Keep [] w15 w' ∧ Sx w [] nov [.blk b1 [.string p_r.Key, .int .i64 p_r.Metres, .int .i64 p_r.Stroke, .int .i64 p_r.Course, .int .i64 p_r.Legs, .int .i64 p_r.Sex, .int .i64 p_r.Young, .int .i64 p_r.Old] 45] [(55, .bool (decide (p_r.Stroke = 5))), (77, .bool (c2 || ((decide (1 < p_r.Legs)) && (!decide (p_r.Legs = 4)))))] 79 a w') ?_ ?_
              · rcases Bool.eq_false_or_eq_true c2 with hb13 | hb13
                · refine l_skip S rfl rfl rfl (neq_t hb13) rfl ?_ rfl; clear S; intro a S
                  refine l_skip S rfl rfl rfl (neq_t hb13) rfl ?_ rfl; clear S; intro a S
                  refine l_skip S rfl rfl rfl (neq_t hb13) rfl ?_ rfl; clear S; intro a S
                  refine l_skip S rfl rfl rfl (neq_t hb13) rfl ?_ rfl; clear S; intro a S
                  refine l_skipU S rfl rfl rfl rfl ?_; clear S; intro a S
                  refine l_skipU S rfl rfl rfl rfl ?_; clear S; intro a S
                  refine l_skipU S rfl rfl rfl rfl ?_; clear S; intro a S
                  refine l_skip S rfl rfl rfl (neq_t hb13) rfl ?_ rfl; clear S; intro a S
                  refine l_want S rfl rfl rfl hb11 ?_
                  refine lv S (rn_or_t ((decide (1 < p_r.Legs)) && (!decide (p_r.Legs = 4))) hb13 (S.tm rfl) rfl) rfl ?_; clear S; intro a S
                  refine l_done ?_
                  refine then_n ?_
                  exact ⟨Keep.refl _ _, S.nf [true] rfl ⟨rfl, rfl, trivial⟩⟩
                · refine l_want S rfl rfl rfl hb13 ?_
                  refine lv S (rn_fld fa_45_4 (S.tm rfl)) rfl ?_; clear S; intro a S
                  refine l_want S rfl rfl rfl hb13 ?_
                  refine lv S (rn_load Tryd.isAgg3 (S.tm rfl) (S.cell (i := 0) rfl rfl)) rfl ?_; clear S; intro a S
                  refine l_want S rfl rfl rfl hb13 ?_
                  refine lv S (rn_gtr (S.tm rfl) rfl) rfl ?_; clear S; intro a S
                  refine l_want S rfl rfl rfl hb13 ?_
                  refine lv S (rn_move (S.tm rfl)) rfl ?_; clear S; intro a S
                  refine f_cutm 4 (fun a w' => Keep [] w15 w' ∧ Sx w [] nov [.blk b1 [.string p_r.Key, .int .i64 p_r.Metres, .int .i64 p_r.Stroke, .int .i64 p_r.Course, .int .i64 p_r.Legs, .int .i64 p_r.Sex, .int .i64 p_r.Young, .int .i64 p_r.Old] 45] [(55, .bool (decide (p_r.Stroke = 5))), (68, .bool c2), (76, .bool ((decide (1 < p_r.Legs)) && (!decide (p_r.Legs = 4))))] 79 a w') ?_ ?_
                  · rcases Bool.eq_false_or_eq_true (decide (1 < p_r.Legs)) with hb14 | hb14
                    · refine l_want S rfl rfl rfl hb14 ?_
                      refine lv S (rn_fld fa_45_4 (S.tm rfl)) rfl ?_; clear S; intro a S
                      refine l_want S rfl rfl rfl hb14 ?_
                      refine lv S (rn_load Tryd.isAgg3 (S.tm rfl) (S.cell (i := 0) rfl rfl)) rfl ?_; clear S; intro a S
                      refine l_want S rfl rfl rfl hb14 ?_
                      refine lv S (rn_neq (S.tm rfl) rfl) rfl ?_; clear S; intro a S
                      refine l_want S rfl rfl rfl hb13 ?_
                      refine lv S (rn_and_t hb14 (S.tm rfl) (S.tm rfl)) rfl ?_; clear S; intro a S
                      refine l_done ?_
                      refine then_n ?_
                      exact ⟨Keep.refl _ _, S.nf [true] rfl ⟨rfl, rfl, rfl, trivial⟩⟩
                    · refine l_skip S rfl rfl rfl (neq_f hb14) rfl ?_ rfl; clear S; intro a S
                      refine l_skip S rfl rfl rfl (neq_f hb14) rfl ?_ rfl; clear S; intro a S
                      refine l_skip S rfl rfl rfl (neq_f hb14) rfl ?_ rfl; clear S; intro a S
                      refine l_want S rfl rfl rfl hb13 ?_
                      refine lv S (rn_and_f (!decide (p_r.Legs = 4)) hb14 (S.tm rfl) rfl) rfl ?_; clear S; intro a S
                      refine l_done ?_
                      refine then_n ?_
                      exact ⟨Keep.refl _ _, S.nf [true] rfl ⟨rfl, rfl, rfl, trivial⟩⟩
                  clear S; rintro a w17 ⟨hk11, S⟩
                  refine l_want S rfl rfl rfl hb11 ?_
                  refine lv S (rn_or_f hb13 (S.tm rfl) (S.tm rfl)) rfl ?_; clear S; intro a S
                  refine l_done ?_
                  refine then_n ?_
                  exact ⟨hk11, S.nf [true] rfl ⟨rfl, rfl, trivial⟩⟩
              clear S; rintro a w16 ⟨hk12, S⟩
              refine lv S (rn_and_t hb11 (S.tm rfl) (S.tm rfl)) rfl ?_; clear S; intro a S
              refine l_done ?_
              refine then_n ?_
              exact ⟨_, h, (hk10).trans hk12, S.nf [true] rfl ⟨rfl, trivial⟩⟩
            · replace h := iteF h hb11
              refine l_skip S rfl rfl rfl (neq_f hb11) rfl ?_ rfl; clear S; intro a S
              refine l_skip S rfl rfl rfl (neq_f hb11) rfl ?_ rfl; clear S; intro a S
              refine l_skip S rfl rfl rfl (neq_f hb11) rfl ?_ rfl; clear S; intro a S
              refine l_skip S rfl rfl rfl (neq_f hb11) rfl ?_ rfl; clear S; intro a S
              refine l_skipU S rfl rfl rfl rfl ?_; clear S; intro a S
              refine l_skipU S rfl rfl rfl rfl ?_; clear S; intro a S
              refine l_skipU S rfl rfl rfl rfl ?_; clear S; intro a S
              refine l_skipU S rfl rfl rfl rfl ?_; clear S; intro a S
              refine l_skipU S rfl rfl rfl rfl ?_; clear S; intro a S
              refine l_skipU S rfl rfl rfl rfl ?_; clear S; intro a S
              refine l_skipU S rfl rfl rfl rfl ?_; clear S; intro a S
              refine l_skip S rfl rfl rfl (neq_f hb11) rfl ?_ rfl; clear S; intro a S
              refine l_skip S rfl rfl rfl (neq_f hb11) rfl ?_ rfl; clear S; intro a S
              refine l_skipU S rfl rfl rfl rfl ?_; clear S; intro a S
              refine l_skipU S rfl rfl rfl rfl ?_; clear S; intro a S
              refine l_skipU S rfl rfl rfl rfl ?_; clear S; intro a S
              refine l_skipU S rfl rfl rfl rfl ?_; clear S; intro a S
              refine l_skipU S rfl rfl rfl rfl ?_; clear S; intro a S
              refine l_skipU S rfl rfl rfl rfl ?_; clear S; intro a S
              refine l_skipU S rfl rfl rfl rfl ?_; clear S; intro a S
              refine l_skipU S rfl rfl rfl rfl ?_; clear S; intro a S
              refine l_skip S rfl rfl rfl (neq_f hb11) rfl ?_ rfl; clear S; intro a S
              refine lv S (rn_and_f true hb11 (S.tm rfl) rfl) rfl ?_; clear S; intro a S
              refine l_done ?_
              refine then_n ?_
              exact ⟨_, h, Keep.refl _ _, S.nf [true] rfl ⟨rfl, trivial⟩⟩
          clear S h; rintro a w14 ⟨c1, h, hk13, S⟩; rw [hj5] at h; clear hj5 j5
          refine l_done ?_
          replace S := S.nf (L' := []) (K' := [(78, .bool c1)]) [false] rfl ⟨rfl, trivial⟩
          refine then_n ?_
          refine f_cond (S.tm rfl) (fun hb15 => ?_) (fun hb15 => ?_)
          · replace h := iteT h hb15
            refine f_seq ?_
            refine f_region ?_
            refine lv S (rn_assign rfl) rfl ?_; clear S; intro a S
            refine l_done ?_
            replace S := S.nf (L' := []) (K' := [(2, .int .i64 16)]) [] rfl ⟨rfl, trivial⟩
            refine then_n ?_
            refine wp_ret ?_
            refine then_r ?_
            obtain rfl := Option.some.inj h
            exact f_ret S Tryd.results22 rfl rfl
          · replace h := iteF h hb15
            refine wp_skip ?_
            refine then_n ?_
            refine f_seq ?_
            refine f_region ?_
            refine lv S (rn_assign rfl) rfl ?_; clear S; intro a S
            refine l_done ?_
            replace S := S.nf (L' := []) (K' := [(2, .int .i64 0)]) [] rfl ⟨rfl, trivial⟩
            refine then_n ?_
            refine wp_ret ?_
            obtain rfl := Option.some.inj h
            exact f_ret S Tryd.results22 rfl rfl
end Go.Proofs.YtoojifenkcnjdaaDoor
