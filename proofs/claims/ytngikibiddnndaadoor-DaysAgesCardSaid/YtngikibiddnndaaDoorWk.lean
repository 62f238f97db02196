/- Each Go function computes its plain twin, by program. -/
import Derived.Test.YtngikibiddnndaaDoorWk1
namespace Go.Proofs.YtngikibiddnndaaDoor
open Go
set_option maxRecDepth 20000 in
theorem swimmer_CheckSwimmers_ok (w : World) (v_p_l : Value) (p_l : List GSwimmer) (hs_p_l : Slc (view w []) 3 v_p_l (p_l.map GSwimmer.enc)) (r : Int) (h : swimmer_CheckSwimmers p_l = some r) :
    Calls Tryd.prog 13 [v_p_l].toArray w (Ret w [] fun τ v w' => v = .int .i64 r) := by
  refine f_enter [] [] Tryd.func13 rfl Tryd.ntmps13 rfl (by simp) (by simp [fps]) (by simp [fps]) fun a S => ?_
  unfold swimmer_CheckSwimmers at h
  replace S := S.nf (L' := []) (K' := [(0, v_p_l)]) [] rfl ⟨rfl, trivial⟩
  refine f_seq ?_
  refine f_region ?_
  refine lv S (rn_assign rfl) rfl ?_; clear S; intro a S
  refine l_done ?_
  replace S := S.nf (L' := []) (K' := [(0, v_p_l)]) [] rfl ⟨rfl, trivial⟩
  refine then_n ?_
  refine f_seq ?_
  refine f_seq ?_
  refine f_region ?_
  refine lv S (rn_move (S.tm rfl)) rfl ?_; clear S; intro a S
  refine lv S (rn_lenT sl_30 (S.tm rfl) (slc_len hs_p_l)) rfl ?_; clear S; intro a S
  refine lv S (rn_gtr (S.tm rfl) rfl) rfl ?_; clear S; intro a S
  refine l_done ?_
  replace S := S.nf (L' := []) (K' := [(0, v_p_l), (7, .bool (decide (500 < (p_l.length : Int))))]) [] rfl ⟨rfl, rfl, trivial⟩
  refine then_n ?_
  refine f_cond (S.tm rfl) (fun hb1 => ?_) (fun hb1 => ?_)
  · replace h := iteT h hb1
    refine f_seq ?_
    refine f_region ?_
    refine lv S (rn_assign rfl) rfl ?_; clear S; intro a S
    refine l_done ?_
    replace S := S.nf (L' := []) (K' := [(2, .int .i64 2)]) [] rfl ⟨rfl, trivial⟩
    refine then_n ?_
    refine wp_ret ?_
    refine then_r ?_
    obtain rfl := Option.some.inj h
    exact f_ret S Tryd.results13 rfl rfl
  · replace h := iteF h hb1
    refine wp_skip ?_
    refine then_n ?_
    refine f_seq ?_
    refine f_seq ?_
    refine f_region ?_
    refine lv S (rn_move (S.tm rfl)) rfl ?_; clear S; intro a S
    refine lv S (rn_lenT sl_30 (S.tm rfl) (slc_len hs_p_l)) rfl ?_; clear S; intro a S
    refine lv S (rn_move rfl) rfl ?_; clear S; intro a S
    refine l_done ?_
    replace S := S.nf (L' := []) (K' := [(0, v_p_l), (8, v_p_l), (9, .int .i64 (p_l.length : Int)), (10, .int .i64 0)]) [] rfl ⟨rfl, rfl, rfl, rfl, trivial⟩
    refine then_n ?_
    obtain ⟨j1, hj1, h⟩ := joinE h
    refine f_join (fun a w' => j1 = some r ∧ Sx w [] nov [] [] 50 a w') ?_ ?_
    · refine wp_block ?_
      refine f_loop (fun (ys1 : List GSwimmer) a w' => ∃ i1 : Nat, (∃ dn, p_l = dn ++ ys1 ∧ dn.length = i1) ∧ swimmer_CheckSwimmers_l1 p_l j1 ys1 i1 = some r ∧ Sx w [] nov [] [(0, v_p_l), (8, v_p_l), (9, .int .i64 (p_l.length : Int)), (10, .int .i64 (i1 : Int))] 50 a w') List.length p_l ⟨0, ⟨[], rfl, rfl⟩, h, S.nf [] rfl ⟨rfl, rfl, rfl, rfl, trivial⟩⟩ ?_
      clear S h; rintro ys1 a w1 ⟨i1, ⟨dn, hd1, hi1⟩, h, S⟩
      cases ys1 with
      | nil =>
        rw [swimmer_CheckSwimmers_l1.eq_1] at h
        refine f_seq ?_
        refine f_region ?_
        refine lv S (rn_lss (S.tm rfl) (S.tm rfl)) rfl ?_; clear S; intro a S
        refine l_done ?_
        replace S := S.nf (L' := []) (K' := [(0, v_p_l), (8, v_p_l), (9, .int .i64 (p_l.length : Int)), (10, .int .i64 (i1 : Int)), (11, .bool (decide ((i1 : Int) < (p_l.length : Int))))]) [] rfl ⟨rfl, rfl, rfl, rfl, rfl, trivial⟩
        refine then_n ?_
        refine f_seq ?_
        refine wp_cond_false ((S.tm rfl).trans (congrArg Value.bool (rng_nil hd1 hi1))) ?_
        refine wp_exit ?_
        refine then_x ?_
        refine then_x ?_
        refine x_same ?_
        refine then_n ?_
        exact ⟨h, S.nf [] rfl trivial⟩
      | cons y1 ys1 =>
        rw [swimmer_CheckSwimmers_l1.eq_2] at h
        refine f_seq ?_
        refine f_region ?_
        refine lv S (rn_lss (S.tm rfl) (S.tm rfl)) rfl ?_; clear S; intro a S
        refine l_done ?_
        replace S := S.nf (L' := []) (K' := [(0, v_p_l), (8, v_p_l), (9, .int .i64 (p_l.length : Int)), (10, .int .i64 (i1 : Int)), (11, .bool (decide ((i1 : Int) < (p_l.length : Int))))]) [] rfl ⟨rfl, rfl, rfl, rfl, rfl, trivial⟩
        refine then_n ?_
        refine f_seq ?_
        refine wp_cond_true ((S.tm rfl).trans (congrArg Value.bool (rng_cons hd1 hi1))) ?_
        refine wp_skip ?_
        refine then_n ?_
        refine f_seq ?_
        refine wp_block ?_
        refine f_seq ?_
        refine f_region ?_
        refine lv S (rn_move (S.tm rfl)) rfl ?_; clear S; intro a S
        obtain ⟨b1, o1, hm1, hr1⟩ := rn_indexT (a := a) (x := .tmp 8) (y := .tmp 10) (ty := 0) sl_30 hs_p_l (get_mid hd1 hi1) rfl (S.tm rfl) (S.tm rfl)
        refine lv S (hr1 _) rfl ?_; clear S; intro a S
        clear hr1
        refine lv S (rn_ldA Tryd.isAgg43 Tryd.sizeOf43 (off := o1) (o := 0) (part := [.string y1.Key, .int .i64 y1.Sex, .int .i64 y1.Born]) rfl rfl (S.tm rfl) (hm1.at S.emb0)) rfl ?_; clear S; intro a S
        refine l_alloc S Tryd.zeroValue43 (cs := [.string k_empty, .int .i64 0, .int .i64 0]) rfl rfl ?_; clear S; intro a w3 b2 hz1 hk1 S
        refine lv S (rn_assign (S.tm rfl)) rfl ?_; clear S; intro a S
        refine l_store S (S.tm rfl) (S.tm rfl) (i := 0) (off := 0) rfl Tryd.sizeOf43 (vs := [.string y1.Key, .int .i64 y1.Sex, .int .i64 y1.Born]) rfl rfl rfl rfl ?_; clear S; intro w4 hk2 S
        refine l_done ?_
        replace S := S.nf (L' := [.blk b2 [.string y1.Key, .int .i64 y1.Sex, .int .i64 y1.Born] 43]) (K' := [(0, v_p_l), (3, .int .i64 (i1 : Int)), (4, .pointer (some ⟨b2, 0, none⟩)), (8, v_p_l), (9, .int .i64 (p_l.length : Int)), (10, .int .i64 (i1 : Int))]) [true] rfl ⟨rfl, rfl, rfl, rfl, rfl, rfl, trivial⟩
        refine then_n ?_
        refine wp_block ?_
        refine f_seq ?_
        refine f_region ?_
        refine lv S (rn_fld fa_43_0 (S.tm rfl)) rfl ?_; clear S; intro a S
        refine lv S (rn_load Tryd.isAgg9 (S.tm rfl) (S.cell (i := 0) rfl rfl)) rfl ?_; clear S; intro a S
        obtain ⟨r1, hr2, h⟩ := bindE h
        refine l_enter S (fun _ => run_call (vs := [.string y1.Key]) ⟨(S.tm rfl), trivial⟩ Tryd.call34) (words_IsKey_ok _ y1.Key _ hr2) rfl ?_; clear S; intro v1 a w5 hv1 hk3 hn1 S
        subst hv1
        refine lv S (rn_not (S.tm rfl)) rfl ?_; clear S; intro a S
        refine lv S (rn_assign (S.tm rfl)) rfl ?_; clear S; intro a S
        refine l_done ?_
        replace S := S.nf (L' := [.blk b2 [.string y1.Key, .int .i64 y1.Sex, .int .i64 y1.Born] 43]) (K' := [(0, v_p_l), (3, .int .i64 (i1 : Int)), (4, .pointer (some ⟨b2, 0, none⟩)), (8, v_p_l), (9, .int .i64 (p_l.length : Int)), (10, .int .i64 (i1 : Int)), (15, .bool (!r1))]) [true] rfl ⟨rfl, rfl, rfl, rfl, rfl, rfl, rfl, trivial⟩
        refine then_n ?_
        refine f_cond (S.tm rfl) (fun hb2 => ?_) (fun hb2 => ?_)
        · replace h := iteT h hb2
          refine f_seq ?_
          refine f_region ?_
          refine lv S (rn_assign rfl) rfl ?_; clear S; intro a S
          refine l_done ?_
          replace S := S.nf (L' := []) (K' := [(2, .int .i64 5)]) [false] rfl ⟨rfl, trivial⟩
          refine then_n ?_
          refine wp_ret ?_
          refine blk_r ?_
          refine blk_r ?_
          refine then_r ?_
          refine then_r ?_
          refine blk_r ?_
          refine then_r ?_
          refine then_r ?_
          obtain rfl := Option.some.inj h
          exact f_ret S Tryd.results13 rfl rfl
        · replace h := iteF h hb2
          refine f_seq ?_
          refine d_region [] ([]) Tryd.mixed S rfl (by kernel_rfl) ?_; clear S; intro w6 hk4 hsel S
          refine d_rest [0, 1, 2, 3, 4, 5, 6, 7, 8, 9, 10, 11, 12, 13] hsel (by kernel_rfl) rfl ?_
          clear hsel
          refine s_lv S rfl (rn_move (S.tm rfl)) rfl ?_; clear S; intro a S
          refine s_lv S rfl (rn_gtr (S.tm rfl) rfl) rfl ?_; clear S; intro a S
          refine s_lv S rfl (rn_move (S.tm rfl)) rfl ?_; clear S; intro a S
          obtain ⟨j2, hj2, h⟩ := joinE h
          refine s_cutm 10 (fun a w' => ∃ c1, j2 c1 = some r ∧ Keep [] w6 w' ∧ Sx w [] nov [.blk b2 [.string y1.Key, .int .i64 y1.Sex, .int .i64 y1.Born] 43] [(0, v_p_l), (4, .pointer (some ⟨b2, 0, none⟩)), (8, v_p_l), (9, .int .i64 (p_l.length : Int)), (10, .int .i64 (i1 : Int)), (33, .bool c1)] 50 a w') ?_ ?_
          · rcases Bool.eq_false_or_eq_true (decide (0 < (i1 : Int))) with hb3 | hb3
            · replace h := iteT h hb3
              refine s_want S rfl rfl rfl rfl hb3 ?_
              refine s_lv0 S (rn_fld fa_43_0 (S.tm rfl)) rfl ?_; clear S; intro a S
              refine s_want S rfl rfl rfl rfl hb3 ?_
              refine s_lv0 S (rn_load Tryd.isAgg9 (S.tm rfl) (S.cell (i := 0) rfl rfl)) rfl ?_; clear S; intro a S
              refine s_want S rfl rfl rfl rfl hb3 ?_
              refine s_lv0 S (rn_move (S.tm rfl)) rfl ?_; clear S; intro a S
              refine s_want S rfl rfl rfl rfl hb3 ?_
              refine s_lv0 S (rn_move (S.tm rfl)) rfl ?_; clear S; intro a S
              refine s_want S rfl rfl rfl rfl hb3 ?_
              refine s_lv0 S (rn_sub (S.tm rfl) rfl) rfl ?_; clear S; intro a S
              refine s_want S rfl rfl rfl rfl hb3 ?_
              obtain ⟨hc1, h⟩ := chkE h
              obtain ⟨b3, o2, hm2, hr3⟩ := rn_indexT (a := a) (x := .tmp 26) (y := .tmp 28) (ty := 0) sl_30 hs_p_l (inB_get hc1).1 (inB_get hc1).2 (S.tm rfl) (S.tm rfl)
              refine s_lv0 S (hr3 _) rfl ?_; clear S; intro a S
              clear hr3
              refine s_want S rfl rfl rfl rfl hb3 ?_
              refine s_lv0 S (rn_fld fa_43_0 (S.tm rfl)) rfl ?_; clear S; intro a S
              refine s_want S rfl rfl rfl rfl hb3 ?_
              refine s_lv0 S (rn_ld Tryd.isAgg9 (off := o2) (o := 0) (S.tm rfl) (hm2.at S.emb0) rfl) rfl ?_; clear S; intro a S
              refine s_want S rfl rfl rfl rfl hb3 ?_
              refine s_lv0 S (rn_sleq (S.tm rfl) (S.tm rfl)) rfl ?_; clear S; intro a S
              refine s_lv S rfl (rn_and_t hb3 (S.tm rfl) (S.tm rfl)) rfl ?_; clear S; intro a S
              refine s_done ?_
              exact ⟨_, h, Keep.refl _ _, S.nf [true] rfl ⟨rfl, rfl, rfl, rfl, rfl, rfl, trivial⟩⟩
            · replace h := iteF h hb3
              refine s_skip S rfl rfl rfl rfl (by rw [hb3]; rfl) rfl ?_ rfl; clear S; intro a S
              refine s_skip S rfl rfl rfl rfl (by rw [hb3]; rfl) rfl ?_ rfl; clear S; intro a S
              refine s_skip S rfl rfl rfl rfl (by rw [hb3]; rfl) rfl ?_ rfl; clear S; intro a S
              refine s_skip S rfl rfl rfl rfl (by rw [hb3]; rfl) rfl ?_ rfl; clear S; intro a S
              refine s_skip S rfl rfl rfl rfl (by rw [hb3]; rfl) rfl ?_ rfl; clear S; intro a S
              refine s_skip S rfl rfl rfl rfl (by rw [hb3]; rfl) rfl ?_ rfl; clear S; intro a S
              refine s_skip S rfl rfl rfl rfl (by rw [hb3]; rfl) rfl ?_ rfl; clear S; intro a S
              refine s_skip S rfl rfl rfl rfl (by rw [hb3]; rfl) rfl ?_ rfl; clear S; intro a S
              refine s_skip S rfl rfl rfl rfl (by rw [hb3]; rfl) rfl ?_ rfl; clear S; intro a S
              refine s_lv S rfl (rn_and_f true hb3 (S.tm rfl) rfl) rfl ?_; clear S; intro a S
              refine s_done ?_
              exact ⟨_, h, Keep.refl _ _, S.nf [true] rfl ⟨rfl, rfl, rfl, rfl, rfl, rfl, trivial⟩⟩
          clear S h; rintro a w7 ⟨c1, h, hk5, S⟩; rw [hj2] at h; clear hj2 j2
          refine s_lv S rfl (rn_assign (S.tm rfl)) rfl ?_; clear S; intro a S
          refine s_done ?_
          replace S := S.nf (L' := [.blk b2 [.string y1.Key, .int .i64 y1.Sex, .int .i64 y1.Born] 43]) (K' := [(0, v_p_l), (4, .pointer (some ⟨b2, 0, none⟩)), (8, v_p_l), (9, .int .i64 (p_l.length : Int)), (10, .int .i64 (i1 : Int)), (20, .bool c1)]) [true] rfl ⟨rfl, rfl, rfl, rfl, rfl, rfl, trivial⟩
          refine then_n ?_
          refine f_cond (S.tm rfl) (fun hb4 => ?_) (fun hb4 => ?_)
          · replace h := iteT h hb4
            refine f_seq ?_
            refine f_region ?_
            refine lv S (rn_assign rfl) rfl ?_; clear S; intro a S
            refine l_done ?_
            replace S := S.nf (L' := []) (K' := [(2, .int .i64 7)]) [false] rfl ⟨rfl, trivial⟩
            refine then_n ?_
            refine wp_ret ?_
            refine blk_r ?_
            refine blk_r ?_
            refine then_r ?_
            refine then_r ?_
            refine blk_r ?_
            refine then_r ?_
            refine then_r ?_
            obtain rfl := Option.some.inj h
            exact f_ret S Tryd.results13 rfl rfl
          · replace h := iteF h hb4
            refine f_seq ?_
            refine f_region ?_
            refine lv S (rn_fld fa_43_1 (S.tm rfl)) rfl ?_; clear S; intro a S
            refine lv S (rn_load Tryd.isAgg3 (S.tm rfl) (S.cell (i := 0) rfl rfl)) rfl ?_; clear S; intro a S
            refine lv S (rn_neq (S.tm rfl) rfl) rfl ?_; clear S; intro a S
            refine lv S (rn_move (S.tm rfl)) rfl ?_; clear S; intro a S
            refine f_cutm 4 (fun a w' => Keep [] w7 w' ∧ Sx w [] nov [.blk b2 [.string y1.Key, .int .i64 y1.Sex, .int .i64 y1.Born] 43] [(0, v_p_l), (4, .pointer (some ⟨b2, 0, none⟩)), (8, v_p_l), (9, .int .i64 (p_l.length : Int)), (10, .int .i64 (i1 : Int)), (42, .bool ((!decide (y1.Sex = 1)) && (!decide (y1.Sex = 2))))] 50 a w') ?_ ?_
            · rcases Bool.eq_false_or_eq_true (!decide (y1.Sex = 1)) with hb5 | hb5
              · refine l_want S rfl rfl rfl hb5 ?_
                refine lv S (rn_fld fa_43_1 (S.tm rfl)) rfl ?_; clear S; intro a S
                refine l_want S rfl rfl rfl hb5 ?_
                refine lv S (rn_load Tryd.isAgg3 (S.tm rfl) (S.cell (i := 0) rfl rfl)) rfl ?_; clear S; intro a S
                refine l_want S rfl rfl rfl hb5 ?_
                refine lv S (rn_neq (S.tm rfl) rfl) rfl ?_; clear S; intro a S
                refine lv S (rn_and_t hb5 (S.tm rfl) (S.tm rfl)) rfl ?_; clear S; intro a S
                refine l_done ?_
                refine then_n ?_
                exact ⟨Keep.refl _ _, S.nf [true] rfl ⟨rfl, rfl, rfl, rfl, rfl, rfl, trivial⟩⟩
              · refine l_skip S rfl rfl rfl (by rw [hb5]; rfl) rfl ?_ rfl; clear S; intro a S
                refine l_skip S rfl rfl rfl (by rw [hb5]; rfl) rfl ?_ rfl; clear S; intro a S
                refine l_skip S rfl rfl rfl (by rw [hb5]; rfl) rfl ?_ rfl; clear S; intro a S
                refine lv S (rn_and_f (!decide (y1.Sex = 2)) hb5 (S.tm rfl) rfl) rfl ?_; clear S; intro a S
                refine l_done ?_
                refine then_n ?_
                exact ⟨Keep.refl _ _, S.nf [true] rfl ⟨rfl, rfl, rfl, rfl, rfl, rfl, trivial⟩⟩
            clear S; rintro a w8 ⟨hk6, S⟩
            refine lv S (rn_move (S.tm rfl)) rfl ?_; clear S; intro a S
            refine f_cutm 5 (fun a w' => Keep [] w8 w' ∧ Sx w [] nov [.blk b2 [.string y1.Key, .int .i64 y1.Sex, .int .i64 y1.Born] 43] [(0, v_p_l), (8, v_p_l), (9, .int .i64 (p_l.length : Int)), (10, .int .i64 (i1 : Int)), (48, .bool (((!decide (y1.Sex = 1)) && (!decide (y1.Sex = 2))) || (!(swimmer_isDay y1.Born))))] 50 a w') ?_ ?_
            · rcases Bool.eq_false_or_eq_true ((!decide (y1.Sex = 1)) && (!decide (y1.Sex = 2))) with hb6 | hb6
              · refine l_skip S rfl rfl rfl (by rw [hb6]; rfl) rfl ?_ rfl; clear S; intro a S
                refine l_skip S rfl rfl rfl (by rw [hb6]; rfl) rfl ?_ rfl; clear S; intro a S
                refine l_skip S rfl rfl rfl (by rw [hb6]; rfl) rfl ?_ rfl; clear S; intro a S
                refine l_skip S rfl rfl rfl (by rw [hb6]; rfl) rfl ?_ rfl; clear S; intro a S
                refine lv S (rn_or_t (!(swimmer_isDay y1.Born)) hb6 (S.tm rfl) rfl) rfl ?_; clear S; intro a S
                refine l_done ?_
                refine then_n ?_
                exact ⟨Keep.refl _ _, S.nf [true] rfl ⟨rfl, rfl, rfl, rfl, rfl, trivial⟩⟩
              · refine l_want S rfl rfl rfl hb6 ?_
                refine lv S (rn_fld fa_43_2 (S.tm rfl)) rfl ?_; clear S; intro a S
                refine l_want S rfl rfl rfl hb6 ?_
                refine lv S (rn_load Tryd.isAgg3 (S.tm rfl) (S.cell (i := 0) rfl rfl)) rfl ?_; clear S; intro a S
                refine l_want S rfl rfl rfl hb6 ?_
                refine l_enter S (fun _ => run_call (vs := [.int .i64 y1.Born]) ⟨(S.tm rfl), trivial⟩ Tryd.call26) (swimmer_isDay_ok _ y1.Born _ rfl) rfl ?_; clear S; intro v2 a w10 hv2 hk7 hn2 S
                subst hv2
                refine l_want S rfl rfl rfl hb6 ?_
                refine lv S (rn_not (S.tm rfl)) rfl ?_; clear S; intro a S
                refine lv S (rn_or_f hb6 (S.tm rfl) (S.tm rfl)) rfl ?_; clear S; intro a S
                refine l_done ?_
                refine then_n ?_
                exact ⟨hk7, S.nf [true] rfl ⟨rfl, rfl, rfl, rfl, rfl, trivial⟩⟩
            clear S; rintro a w9 ⟨hk8, S⟩
            refine lv S (rn_assign (S.tm rfl)) rfl ?_; clear S; intro a S
            refine l_done ?_
            replace S := S.nf (L' := []) (K' := [(0, v_p_l), (8, v_p_l), (9, .int .i64 (p_l.length : Int)), (10, .int .i64 (i1 : Int)), (34, .bool (((!decide (y1.Sex = 1)) && (!decide (y1.Sex = 2))) || (!(swimmer_isDay y1.Born))))]) [false] rfl ⟨rfl, rfl, rfl, rfl, rfl, trivial⟩
            refine then_n ?_
            refine f_cond (S.tm rfl) (fun hb7 => ?_) (fun hb7 => ?_)
            · replace h := iteT h hb7
              refine f_seq ?_
              refine f_region ?_
              refine lv S (rn_assign rfl) rfl ?_; clear S; intro a S
              refine l_done ?_
              replace S := S.nf (L' := []) (K' := [(2, .int .i64 1)]) [] rfl ⟨rfl, trivial⟩
              refine then_n ?_
              refine wp_ret ?_
              refine blk_r ?_
              refine blk_r ?_
              refine then_r ?_
              refine then_r ?_
              refine blk_r ?_
              refine then_r ?_
              refine then_r ?_
              obtain rfl := Option.some.inj h
              exact f_ret S Tryd.results13 rfl rfl
            · replace h := iteF h hb7
              refine wp_skip ?_
              refine blk_n ?_
              refine blk_n ?_
              refine then_n ?_
              refine f_region ?_
              refine lv S (rn_add (S.tm rfl) rfl) rfl ?_; clear S; intro a S
              refine lv S (rn_move (S.tm rfl)) rfl ?_; clear S; intro a S
              refine l_done ?_
              replace S := S.nf (L' := []) (K' := [(0, v_p_l), (8, v_p_l), (9, .int .i64 (p_l.length : Int)), (10, .int .i64 (W ((i1 : Int) + 1)))]) [] rfl ⟨rfl, rfl, rfl, rfl, trivial⟩
              refine then_n ?_
              exact ⟨ys1, ⟨i1 + 1, ⟨_, (hd1).trans (List.append_cons _ _ _), by simp [hi1]⟩, h, S.nf [] rfl ⟨rfl, rfl, rfl, (congrArg (fun z => some (Value.int .i64 z)) (rng_next hd1 hi1 (slc_max hs_p_l))), trivial⟩⟩, Nat.lt_succ_self _⟩
    clear S h; rintro a w2 ⟨h, S⟩; rw [hj1] at h; clear hj1 j1
    refine then_n ?_
    refine f_seq ?_
    refine f_region ?_
    refine lv S (rn_assign rfl) rfl ?_; clear S; intro a S
    refine l_done ?_
    replace S := S.nf (L' := []) (K' := [(2, .int .i64 0)]) [] rfl ⟨rfl, trivial⟩
    refine then_n ?_
    refine wp_ret ?_
    obtain rfl := Option.some.inj h
    exact f_ret S Tryd.results13 rfl rfl
theorem strings_IndexByte_ok (w : World) (s : ByteArray) (c : Int) (r : Int) (h : strings_IndexByte s c = r) : Calls Tryd.prog 55 [.string s, .int .u8 c].toArray w (Ret w [] fun _ v _ => v = .int .i64 r) := by
  subst h
  exact ret_of_same (Any.strings_IndexByte Tryd.lays137 s c w)
theorem tumbref2_only_ok (w : World) (p_s : ByteArray) (p_some : ByteArray) (r : Bool) (h : tumbref2_only p_s p_some = some r) :
    Calls Tryd.prog 44 [.string p_s, .string p_some].toArray w (Ret w [] fun τ v w' => v = .bool r) := by
  refine f_enter [] [] Tryd.func44 rfl Tryd.ntmps44 rfl (by simp) (by simp [fps]) (by simp [fps]) fun a S => ?_
  unfold tumbref2_only at h
  replace S := S.nf (L' := []) (K' := [(0, .string p_s), (1, .string p_some)]) [] rfl ⟨rfl, rfl, trivial⟩
  refine f_seq ?_
  refine f_region ?_
  refine lv S (rn_assign rfl) rfl ?_; clear S; intro a S
  refine l_done ?_
  replace S := S.nf (L' := []) (K' := [(0, .string p_s), (1, .string p_some)]) [] rfl ⟨rfl, rfl, trivial⟩
  refine then_n ?_
  refine f_seq ?_
  refine f_seq ?_
  refine f_region ?_
  refine lv S (rn_move (S.tm rfl)) rfl ?_; clear S; intro a S
  refine lv S (rn_len_str Tryd.underlying9 (S.tm rfl)) rfl ?_; clear S; intro a S
  refine lv S (rn_move rfl) rfl ?_; clear S; intro a S
  refine l_done ?_
  replace S := S.nf (L' := []) (K' := [(0, .string p_s), (1, .string p_some), (7, .int .i64 (p_s.size : Int)), (8, .int .i64 0)]) [] rfl ⟨rfl, rfl, rfl, rfl, trivial⟩
  refine then_n ?_
  obtain ⟨j1, hj1, h⟩ := joinE h
  refine f_join (fun a w' => j1 = some r ∧ Sx w [] nov [] [] 18 a w') ?_ ?_
  · refine wp_block ?_
    refine f_loop (fun (m1 : Nat) a w' => ∃ x1 : Int, tumbref2_only_l1 p_s p_some j1 m1 x1 = some r ∧ Sx w [] nov [] [(0, .string p_s), (1, .string p_some), (7, .int .i64 (p_s.size : Int)), (8, .int .i64 x1)] 18 a w') id (((p_s.size : Int) - 0).toNat + 2) ⟨0, h, S.nf [] rfl ⟨rfl, rfl, rfl, rfl, trivial⟩⟩ ?_
    clear S h; rintro m1 a w1 ⟨x1, h, S⟩
    cases m1 with
    | zero => rw [tumbref2_only_l1.eq_1] at h; cases h
    | succ m1 =>
      rw [tumbref2_only_l1.eq_2] at h
      refine f_seq ?_
      refine f_region ?_
      refine lv S (rn_lss (S.tm rfl) (S.tm rfl)) rfl ?_; clear S; intro a S
      refine l_done ?_
      replace S := S.nf (L' := []) (K' := [(0, .string p_s), (1, .string p_some), (7, .int .i64 (p_s.size : Int)), (8, .int .i64 x1), (9, .bool (decide (x1 < (p_s.size : Int))))]) [] rfl ⟨rfl, rfl, rfl, rfl, rfl, trivial⟩
      refine then_n ?_
      refine f_seq ?_
      refine f_cond (S.tm rfl) (fun hb1 => ?_) (fun hb1 => ?_)
      · replace h := iteT h hb1
        refine wp_skip ?_
        refine then_n ?_
        refine f_seq ?_
        refine wp_block ?_
        refine f_seq ?_
        refine f_region ?_
        refine lv S (rn_move (S.tm rfl)) rfl ?_; clear S; intro a S
        refine lv S (rn_assign (S.tm rfl)) rfl ?_; clear S; intro a S
        refine l_done ?_
        replace S := S.nf (L' := []) (K' := [(0, .string p_s), (1, .string p_some), (5, .int .i64 x1), (7, .int .i64 (p_s.size : Int)), (8, .int .i64 x1)]) [] rfl ⟨rfl, rfl, rfl, rfl, rfl, trivial⟩
        refine then_n ?_
        refine f_seq ?_
        refine f_region ?_
        refine lv S (rn_move (S.tm rfl)) rfl ?_; clear S; intro a S
        refine lv S (rn_move (S.tm rfl)) rfl ?_; clear S; intro a S
        refine lv S (rn_move (S.tm rfl)) rfl ?_; clear S; intro a S
        obtain ⟨hc1, h⟩ := chkE h
        refine lv S (rn_sindexT Tryd.underlying9 (S.tm rfl) (S.tm rfl) hc1) rfl ?_; clear S; intro a S
        refine l_enter S (fun _ => run_call (vs := [.string p_some, .int .u8 (sbyte p_s x1)]) ⟨(S.tm rfl), (S.tm rfl), trivial⟩ Tryd.call55) (strings_IndexByte_ok _ p_some (sbyte p_s x1) _ rfl) rfl ?_; clear S; intro v1 a w3 hv1 hk1 hn1 S
        subst hv1
        refine lv S (rn_lss (S.tm rfl) rfl) rfl ?_; clear S; intro a S
        refine l_done ?_
        replace S := S.nf (L' := []) (K' := [(0, .string p_s), (1, .string p_some), (7, .int .i64 (p_s.size : Int)), (8, .int .i64 x1), (16, .bool (decide ((strings_IndexByte p_some (sbyte p_s x1)) < 0)))]) [] rfl ⟨rfl, rfl, rfl, rfl, rfl, trivial⟩
        refine then_n ?_
        refine f_cond (S.tm rfl) (fun hb2 => ?_) (fun hb2 => ?_)
        · replace h := iteT h hb2
          refine f_seq ?_
          refine f_region ?_
          refine lv S (rn_assign rfl) rfl ?_; clear S; intro a S
          refine l_done ?_
          replace S := S.nf (L' := []) (K' := [(4, .bool false)]) [] rfl ⟨rfl, trivial⟩
          refine then_n ?_
          refine wp_ret ?_
          refine blk_r ?_
          refine then_r ?_
          refine then_r ?_
          refine blk_r ?_
          refine then_r ?_
          refine then_r ?_
          obtain rfl := Option.some.inj h
          exact f_ret S Tryd.results44 rfl rfl
        · replace h := iteF h hb2
          refine wp_skip ?_
          refine blk_n ?_
          refine then_n ?_
          refine f_region ?_
          refine lv S (rn_add (S.tm rfl) rfl) rfl ?_; clear S; intro a S
          refine lv S (rn_move (S.tm rfl)) rfl ?_; clear S; intro a S
          refine l_done ?_
          replace S := S.nf (L' := []) (K' := [(0, .string p_s), (1, .string p_some), (7, .int .i64 (p_s.size : Int)), (8, .int .i64 (W (x1 + 1)))]) [] rfl ⟨rfl, rfl, rfl, rfl, trivial⟩
          refine then_n ?_
          exact ⟨m1, ⟨W (x1 + 1), h, S.nf [] rfl ⟨rfl, rfl, rfl, rfl, trivial⟩⟩, Nat.lt_succ_self _⟩
      · replace h := iteF h hb1
        refine wp_exit ?_
        refine then_x ?_
        refine then_x ?_
        refine x_same ?_
        refine then_n ?_
        exact ⟨h, S.nf [] rfl trivial⟩
  clear S h; rintro a w2 ⟨h, S⟩; rw [hj1] at h; clear hj1 j1
  refine then_n ?_
  refine f_seq ?_
  refine f_region ?_
  refine lv S (rn_assign rfl) rfl ?_; clear S; intro a S
  refine l_done ?_
  replace S := S.nf (L' := []) (K' := [(4, .bool true)]) [] rfl ⟨rfl, trivial⟩
  refine then_n ?_
  refine wp_ret ?_
  obtain rfl := Option.some.inj h
  exact f_ret S Tryd.results44 rfl rfl
theorem tumbref2_Key_ok (w : World) (p_s : ByteArray) (r : Bool) (h : tumbref2_Key p_s = some r) :
    Calls Tryd.prog 35 [.string p_s].toArray w (Ret w [] fun τ v w' => v = .bool r) := by
  refine f_enter [] [] Tryd.func35 rfl Tryd.ntmps35 rfl (by simp) (by simp [fps]) (by simp [fps]) fun a S => ?_
  unfold tumbref2_Key at h
  replace S := S.nf (L' := []) (K' := [(0, .string p_s)]) [] rfl ⟨rfl, trivial⟩
  refine f_seq ?_
  refine f_region ?_
  refine lv S (rn_assign rfl) rfl ?_; clear S; intro a S
  refine l_done ?_
  replace S := S.nf (L' := []) (K' := [(0, .string p_s)]) [] rfl ⟨rfl, trivial⟩
  refine then_n ?_
  refine f_seq ?_
  refine f_region ?_
  refine lv S (rn_move (S.tm rfl)) rfl ?_; clear S; intro a S
  refine lv S (rn_len_str Tryd.underlying9 (S.tm rfl)) rfl ?_; clear S; intro a S
  refine l_enter S (fun _ => run_call (vs := [.int .i64 (p_s.size : Int), .int .i64 1, .int .i64 40]) ⟨(S.tm rfl), rfl, rfl, trivial⟩ Tryd.call31) (tumbref2_in_ok _ (p_s.size : Int) 1 40 _ rfl) rfl ?_; clear S; intro v1 a w1 hv1 hk1 hn1 S
  subst hv1
  refine lv S (rn_move (S.tm rfl)) rfl ?_; clear S; intro a S
  obtain ⟨j1, hj1, h⟩ := joinE h
  refine f_cutm 4 (fun a w' => ∃ c1, j1 c1 = some r ∧ Keep [] w1 w' ∧ Sx w [] nov [] [(0, .string p_s), (10, .bool c1)] 15 a w') ?_ ?_
  · rcases Bool.eq_false_or_eq_true (tumbref2_in (p_s.size : Int) 1 40) with hb1 | hb1
    · replace h := iteT h hb1
      refine l_want S rfl rfl rfl hb1 ?_
      refine lv S (rn_move (S.tm rfl)) rfl ?_; clear S; intro a S
      refine l_want S rfl rfl rfl hb1 ?_
      obtain ⟨hc1, h⟩ := chkE h
      refine lv S (rn_scutTh Tryd.underlying9 (S.tm rfl) rfl hc1) rfl ?_; clear S; intro a S
      refine l_want S rfl rfl rfl hb1 ?_
      obtain ⟨r1, hr1, h⟩ := bindE h
      refine l_enter S (fun _ => run_call (vs := [.string (scut p_s 0 1), .string k_abcdefghijklmnopqrstuvwxyz]) ⟨(S.tm rfl), rfl, trivial⟩ Tryd.call44) (tumbref2_only_ok _ (scut p_s 0 1) k_abcdefghijklmnopqrstuvwxyz _ hr1) rfl ?_; clear S; intro v2 a w3 hv2 hk2 hn2 S
      subst hv2
      refine lv S (rn_and_t hb1 (S.tm rfl) (S.tm rfl)) rfl ?_; clear S; intro a S
      refine l_done ?_
      refine then_n ?_
      exact ⟨_, h, hk2, S.nf [] rfl ⟨rfl, rfl, trivial⟩⟩
    · replace h := iteF h hb1
      refine l_skip S rfl rfl rfl (by rw [hb1]; rfl) rfl ?_ rfl; clear S; intro a S
      refine l_skip S rfl rfl rfl (by rw [hb1]; rfl) rfl ?_ rfl; clear S; intro a S
      refine l_skip S rfl rfl rfl (by rw [hb1]; rfl) rfl ?_ rfl; clear S; intro a S
      refine lv S (rn_and_f true hb1 (S.tm rfl) rfl) rfl ?_; clear S; intro a S
      refine l_done ?_
      refine then_n ?_
      exact ⟨_, h, Keep.refl _ _, S.nf [] rfl ⟨rfl, rfl, trivial⟩⟩
  clear S h; rintro a w2 ⟨c1, h, hk3, S⟩; rw [hj1] at h; clear hj1 j1
  refine lv S (rn_move (S.tm rfl)) rfl ?_; clear S; intro a S
  obtain ⟨j2, hj2, h⟩ := joinE h
  refine f_cutm 3 (fun a w' => ∃ c2, j2 c2 = some r ∧ Keep [] w2 w' ∧ Sx w [] nov [] [(14, .bool c2)] 15 a w') ?_ ?_
  · rcases Bool.eq_false_or_eq_true c1 with hb2 | hb2
    · replace h := iteT h hb2
      refine l_want S rfl rfl rfl hb2 ?_
      refine lv S (rn_move (S.tm rfl)) rfl ?_; clear S; intro a S
      refine l_want S rfl rfl rfl hb2 ?_
      obtain ⟨r2, hr2, h⟩ := bindE h
      refine l_enter S (fun _ => run_call (vs := [.string p_s, .string k_abcdefghijkl_h0e2e2c]) ⟨(S.tm rfl), rfl, trivial⟩ Tryd.call44) (tumbref2_only_ok _ p_s k_abcdefghijkl_h0e2e2c _ hr2) rfl ?_; clear S; intro v3 a w5 hv3 hk4 hn3 S
      subst hv3
      refine lv S (rn_and_t hb2 (S.tm rfl) (S.tm rfl)) rfl ?_; clear S; intro a S
      refine l_done ?_
      refine then_n ?_
      exact ⟨_, h, hk4, S.nf [] rfl ⟨rfl, trivial⟩⟩
    · replace h := iteF h hb2
      refine l_skip S rfl rfl rfl (by rw [hb2]; rfl) rfl ?_ rfl; clear S; intro a S
      refine l_skip S rfl rfl rfl (by rw [hb2]; rfl) rfl ?_ rfl; clear S; intro a S
      refine lv S (rn_and_f true hb2 (S.tm rfl) rfl) rfl ?_; clear S; intro a S
      refine l_done ?_
      refine then_n ?_
      exact ⟨_, h, Keep.refl _ _, S.nf [] rfl ⟨rfl, trivial⟩⟩
  clear S h; rintro a w4 ⟨c2, h, hk5, S⟩; rw [hj2] at h; clear hj2 j2
  refine lv S (rn_assign (S.tm rfl)) rfl ?_; clear S; intro a S
  refine l_done ?_
  replace S := S.nf (L' := []) (K' := [(2, .bool c2)]) [] rfl ⟨rfl, trivial⟩
  refine then_n ?_
  refine wp_ret ?_
  obtain rfl := Option.some.inj h
  exact f_ret S Tryd.results35 rfl rfl
theorem tumbref2_SwimmersFault_ok (w : World) (v_p_l : Value) (p_l : List GSwimmer) (hs_p_l : Slc (view w []) 3 v_p_l (p_l.map GSwimmer.enc)) (r : Int) (h : tumbref2_SwimmersFault p_l = some r) :
    Calls Tryd.prog 14 [v_p_l].toArray w (Ret w [] fun τ v w' => v = .int .i64 r) := by
  refine f_enter [] [] Tryd.func14 rfl Tryd.ntmps14 rfl (by simp) (by simp [fps]) (by simp [fps]) fun a S => ?_
  unfold tumbref2_SwimmersFault at h
  replace S := S.nf (L' := []) (K' := [(0, v_p_l)]) [] rfl ⟨rfl, trivial⟩
  refine f_seq ?_
  refine f_region ?_
  refine lv S (rn_assign rfl) rfl ?_; clear S; intro a S
  refine l_done ?_
  replace S := S.nf (L' := []) (K' := [(0, v_p_l)]) [] rfl ⟨rfl, trivial⟩
  refine then_n ?_
  refine f_seq ?_
  refine f_seq ?_
  refine f_region ?_
  refine lv S (rn_move (S.tm rfl)) rfl ?_; clear S; intro a S
  refine lv S (rn_lenT sl_30 (S.tm rfl) (slc_len hs_p_l)) rfl ?_; clear S; intro a S
  refine lv S (rn_gtr (S.tm rfl) rfl) rfl ?_; clear S; intro a S
  refine l_done ?_
  replace S := S.nf (L' := []) (K' := [(0, v_p_l), (8, .bool (decide (500 < (p_l.length : Int))))]) [] rfl ⟨rfl, rfl, trivial⟩
  refine then_n ?_
  refine f_cond (S.tm rfl) (fun hb1 => ?_) (fun hb1 => ?_)
  · replace h := iteT h hb1
    refine f_seq ?_
    refine f_region ?_
    refine lv S (rn_assign rfl) rfl ?_; clear S; intro a S
    refine l_done ?_
    replace S := S.nf (L' := []) (K' := [(2, .int .i64 2)]) [] rfl ⟨rfl, trivial⟩
    refine then_n ?_
    refine wp_ret ?_
    refine then_r ?_
    obtain rfl := Option.some.inj h
    exact f_ret S Tryd.results14 rfl rfl
  · replace h := iteF h hb1
    refine wp_skip ?_
    refine then_n ?_
    refine f_seq ?_
    refine f_region ?_
    refine lv S (rn_assign rfl) rfl ?_; clear S; intro a S
    refine l_done ?_
    replace S := S.nf (L' := []) (K' := [(0, v_p_l), (3, .string k_empty)]) [] rfl ⟨rfl, rfl, trivial⟩
    refine then_n ?_
    refine f_seq ?_
    refine f_seq ?_
    refine f_region ?_
    refine lv S (rn_move (S.tm rfl)) rfl ?_; clear S; intro a S
    refine lv S (rn_lenT sl_30 (S.tm rfl) (slc_len hs_p_l)) rfl ?_; clear S; intro a S
    refine lv S (rn_move rfl) rfl ?_; clear S; intro a S
    refine l_done ?_
    replace S := S.nf (L' := []) (K' := [(3, .string k_empty), (9, v_p_l), (10, .int .i64 (p_l.length : Int)), (11, .int .i64 0)]) [] rfl ⟨rfl, rfl, rfl, rfl, trivial⟩
    refine then_n ?_
    obtain ⟨j1, hj1, h⟩ := joinE h
    refine f_join (fun a w' => j1 = some r ∧ Sx w [] nov [] [] 39 a w') ?_ ?_
    · refine wp_block ?_
      refine f_loop (fun (ys1 : List GSwimmer) a w' => ∃ i1 : Nat, ∃ x1 : ByteArray, (∃ dn, p_l = dn ++ ys1 ∧ dn.length = i1) ∧ tumbref2_SwimmersFault_l1 j1 ys1 i1 x1 = some r ∧ Sx w [] nov [] [(3, .string x1), (9, v_p_l), (10, .int .i64 (p_l.length : Int)), (11, .int .i64 (i1 : Int))] 39 a w') List.length p_l ⟨0, k_empty, ⟨[], rfl, rfl⟩, h, S.nf [] rfl ⟨rfl, rfl, rfl, rfl, trivial⟩⟩ ?_
      clear S h; rintro ys1 a w1 ⟨i1, x1, ⟨dn, hd1, hi1⟩, h, S⟩
      cases ys1 with
      | nil =>
        rw [tumbref2_SwimmersFault_l1.eq_1] at h
        refine f_seq ?_
        refine f_region ?_
        refine lv S (rn_lss (S.tm rfl) (S.tm rfl)) rfl ?_; clear S; intro a S
        refine l_done ?_
        replace S := S.nf (L' := []) (K' := [(3, .string x1), (9, v_p_l), (10, .int .i64 (p_l.length : Int)), (11, .int .i64 (i1 : Int)), (12, .bool (decide ((i1 : Int) < (p_l.length : Int))))]) [] rfl ⟨rfl, rfl, rfl, rfl, rfl, trivial⟩
        refine then_n ?_
        refine f_seq ?_
        refine wp_cond_false ((S.tm rfl).trans (congrArg Value.bool (rng_nil hd1 hi1))) ?_
        refine wp_exit ?_
        refine then_x ?_
        refine then_x ?_
        refine x_same ?_
        refine then_n ?_
        exact ⟨h, S.nf [] rfl trivial⟩
      | cons y1 ys1 =>
        rw [tumbref2_SwimmersFault_l1.eq_2] at h
        refine f_seq ?_
        refine f_region ?_
        refine lv S (rn_lss (S.tm rfl) (S.tm rfl)) rfl ?_; clear S; intro a S
        refine l_done ?_
        replace S := S.nf (L' := []) (K' := [(3, .string x1), (9, v_p_l), (10, .int .i64 (p_l.length : Int)), (11, .int .i64 (i1 : Int)), (12, .bool (decide ((i1 : Int) < (p_l.length : Int))))]) [] rfl ⟨rfl, rfl, rfl, rfl, rfl, trivial⟩
        refine then_n ?_
        refine f_seq ?_
        refine wp_cond_true ((S.tm rfl).trans (congrArg Value.bool (rng_cons hd1 hi1))) ?_
        refine wp_skip ?_
        refine then_n ?_
        refine f_seq ?_
        refine wp_block ?_
        refine f_seq ?_
        refine f_region ?_
        obtain ⟨b1, o1, hm1, hr1⟩ := rn_indexT (a := a) (x := .tmp 9) (y := .tmp 11) (ty := 0) sl_30 hs_p_l (get_mid hd1 hi1) rfl (S.tm rfl) (S.tm rfl)
        refine lv S (hr1 _) rfl ?_; clear S; intro a S
        clear hr1
        refine lv S (rn_ldA Tryd.isAgg43 Tryd.sizeOf43 (off := o1) (o := 0) (part := [.string y1.Key, .int .i64 y1.Sex, .int .i64 y1.Born]) rfl rfl (S.tm rfl) (hm1.at S.emb0)) rfl ?_; clear S; intro a S
        refine l_alloc S Tryd.zeroValue43 (cs := [.string k_empty, .int .i64 0, .int .i64 0]) rfl rfl ?_; clear S; intro a w3 b2 hz1 hk1 S
        refine l_store S (S.tm rfl) (S.tm rfl) (i := 0) (off := 0) rfl Tryd.sizeOf43 (vs := [.string y1.Key, .int .i64 y1.Sex, .int .i64 y1.Born]) rfl rfl rfl rfl ?_; clear S; intro w4 hk2 S
        refine l_done ?_
        replace S := S.nf (L' := [.blk b2 [.string y1.Key, .int .i64 y1.Sex, .int .i64 y1.Born] 43]) (K' := [(3, .string x1), (5, .pointer (some ⟨b2, 0, none⟩)), (9, v_p_l), (10, .int .i64 (p_l.length : Int)), (11, .int .i64 (i1 : Int))]) [true] rfl ⟨rfl, rfl, rfl, rfl, rfl, trivial⟩
        refine then_n ?_
        refine f_seq ?_
        refine wp_block ?_
        refine f_seq ?_
        refine f_region ?_
        refine lv S (rn_fld fa_43_0 (S.tm rfl)) rfl ?_; clear S; intro a S
        refine lv S (rn_load Tryd.isAgg9 (S.tm rfl) (S.cell (i := 0) rfl rfl)) rfl ?_; clear S; intro a S
        obtain ⟨r1, hr2, h⟩ := bindE h
        refine l_enter S (fun _ => run_call (vs := [.string y1.Key]) ⟨(S.tm rfl), trivial⟩ Tryd.call35) (tumbref2_Key_ok _ y1.Key _ hr2) rfl ?_; clear S; intro v1 a w5 hv1 hk3 hn1 S
        subst hv1
        refine lv S (rn_not (S.tm rfl)) rfl ?_; clear S; intro a S
        refine lv S (rn_assign (S.tm rfl)) rfl ?_; clear S; intro a S
        refine l_done ?_
        replace S := S.nf (L' := [.blk b2 [.string y1.Key, .int .i64 y1.Sex, .int .i64 y1.Born] 43]) (K' := [(3, .string x1), (5, .pointer (some ⟨b2, 0, none⟩)), (9, v_p_l), (10, .int .i64 (p_l.length : Int)), (11, .int .i64 (i1 : Int)), (15, .bool (!r1))]) [true] rfl ⟨rfl, rfl, rfl, rfl, rfl, rfl, trivial⟩
        refine then_n ?_
        refine f_cond (S.tm rfl) (fun hb2 => ?_) (fun hb2 => ?_)
        · replace h := iteT h hb2
          refine f_seq ?_
          refine f_region ?_
          refine lv S (rn_assign rfl) rfl ?_; clear S; intro a S
          refine l_done ?_
          replace S := S.nf (L' := []) (K' := [(2, .int .i64 5)]) [false] rfl ⟨rfl, trivial⟩
          refine then_n ?_
          refine wp_ret ?_
          refine blk_r ?_
          refine then_r ?_
          refine blk_r ?_
          refine then_r ?_
          refine then_r ?_
          refine blk_r ?_
          refine then_r ?_
          refine then_r ?_
          obtain rfl := Option.some.inj h
          exact f_ret S Tryd.results14 rfl rfl
        · replace h := iteF h hb2
          refine f_seq ?_
          refine f_region ?_
          refine lv S (rn_fld fa_43_0 (S.tm rfl)) rfl ?_; clear S; intro a S
          refine lv S (rn_load Tryd.isAgg9 (S.tm rfl) (S.cell (i := 0) rfl rfl)) rfl ?_; clear S; intro a S
          refine lv S (rn_move (S.tm rfl)) rfl ?_; clear S; intro a S
          refine lv S (rn_sleq (S.tm rfl) (S.tm rfl)) rfl ?_; clear S; intro a S
          refine lv S (rn_assign (S.tm rfl)) rfl ?_; clear S; intro a S
          refine l_done ?_
          replace S := S.nf (L' := [.blk b2 [.string y1.Key, .int .i64 y1.Sex, .int .i64 y1.Born] 43]) (K' := [(5, .pointer (some ⟨b2, 0, none⟩)), (9, v_p_l), (10, .int .i64 (p_l.length : Int)), (11, .int .i64 (i1 : Int)), (20, .bool (Sless y1.Key x1 || decide (y1.Key = x1)))]) [true] rfl ⟨rfl, rfl, rfl, rfl, rfl, trivial⟩
          refine then_n ?_
          refine f_cond (S.tm rfl) (fun hb3 => ?_) (fun hb3 => ?_)
          · replace h := iteT h hb3
            refine f_seq ?_
            refine f_region ?_
            refine lv S (rn_assign rfl) rfl ?_; clear S; intro a S
            refine l_done ?_
            replace S := S.nf (L' := []) (K' := [(2, .int .i64 7)]) [false] rfl ⟨rfl, trivial⟩
            refine then_n ?_
            refine wp_ret ?_
            refine blk_r ?_
            refine then_r ?_
            refine blk_r ?_
            refine then_r ?_
            refine then_r ?_
            refine blk_r ?_
            refine then_r ?_
            refine then_r ?_
            obtain rfl := Option.some.inj h
            exact f_ret S Tryd.results14 rfl rfl
          · replace h := iteF h hb3
            refine f_seq ?_
            refine f_region ?_
            refine lv S (rn_fld fa_43_1 (S.tm rfl)) rfl ?_; clear S; intro a S
            refine lv S (rn_load Tryd.isAgg3 (S.tm rfl) (S.cell (i := 0) rfl rfl)) rfl ?_; clear S; intro a S
            refine l_enter S (fun _ => run_call (vs := [.int .i64 y1.Sex, .int .i64 1, .int .i64 2]) ⟨(S.tm rfl), rfl, rfl, trivial⟩ Tryd.call31) (tumbref2_in_ok _ y1.Sex 1 2 _ rfl) rfl ?_; clear S; intro v2 a w6 hv2 hk4 hn2 S
            subst hv2
            refine lv S (rn_not (S.tm rfl)) rfl ?_; clear S; intro a S
            refine lv S (rn_move (S.tm rfl)) rfl ?_; clear S; intro a S
            refine f_cutm 5 (fun a w' => Keep [] w6 w' ∧ Sx w [] nov [.blk b2 [.string y1.Key, .int .i64 y1.Sex, .int .i64 y1.Born] 43] [(5, .pointer (some ⟨b2, 0, none⟩)), (9, v_p_l), (10, .int .i64 (p_l.length : Int)), (11, .int .i64 (i1 : Int)), (35, .bool ((!(tumbref2_in y1.Sex 1 2)) || (!(tumbref2_Day y1.Born))))] 39 a w') ?_ ?_
            · rcases Bool.eq_false_or_eq_true (!(tumbref2_in y1.Sex 1 2)) with hb4 | hb4
              · refine l_skip S rfl rfl rfl (by rw [hb4]; rfl) rfl ?_ rfl; clear S; intro a S
                refine l_skip S rfl rfl rfl (by rw [hb4]; rfl) rfl ?_ rfl; clear S; intro a S
                refine l_skip S rfl rfl rfl (by rw [hb4]; rfl) rfl ?_ rfl; clear S; intro a S
                refine l_skip S rfl rfl rfl (by rw [hb4]; rfl) rfl ?_ rfl; clear S; intro a S
                refine lv S (rn_or_t (!(tumbref2_Day y1.Born)) hb4 (S.tm rfl) rfl) rfl ?_; clear S; intro a S
                refine l_done ?_
                refine then_n ?_
                exact ⟨Keep.refl _ _, S.nf [true] rfl ⟨rfl, rfl, rfl, rfl, rfl, trivial⟩⟩
              · refine l_want S rfl rfl rfl hb4 ?_
                refine lv S (rn_fld fa_43_2 (S.tm rfl)) rfl ?_; clear S; intro a S
                refine l_want S rfl rfl rfl hb4 ?_
                refine lv S (rn_load Tryd.isAgg3 (S.tm rfl) (S.cell (i := 0) rfl rfl)) rfl ?_; clear S; intro a S
                refine l_want S rfl rfl rfl hb4 ?_
                refine l_enter S (fun _ => run_call (vs := [.int .i64 y1.Born]) ⟨(S.tm rfl), trivial⟩ Tryd.call12) (tumbref2_Day_ok _ y1.Born _ rfl) rfl ?_; clear S; intro v3 a w8 hv3 hk5 hn3 S
                subst hv3
                refine l_want S rfl rfl rfl hb4 ?_
                refine lv S (rn_not (S.tm rfl)) rfl ?_; clear S; intro a S
                refine lv S (rn_or_f hb4 (S.tm rfl) (S.tm rfl)) rfl ?_; clear S; intro a S
                refine l_done ?_
                refine then_n ?_
                exact ⟨hk5, S.nf [true] rfl ⟨rfl, rfl, rfl, rfl, rfl, trivial⟩⟩
            clear S; rintro a w7 ⟨hk6, S⟩
            refine lv S (rn_assign (S.tm rfl)) rfl ?_; clear S; intro a S
            refine l_done ?_
            replace S := S.nf (L' := [.blk b2 [.string y1.Key, .int .i64 y1.Sex, .int .i64 y1.Born] 43]) (K' := [(5, .pointer (some ⟨b2, 0, none⟩)), (9, v_p_l), (10, .int .i64 (p_l.length : Int)), (11, .int .i64 (i1 : Int)), (25, .bool ((!(tumbref2_in y1.Sex 1 2)) || (!(tumbref2_Day y1.Born))))]) [true] rfl ⟨rfl, rfl, rfl, rfl, rfl, trivial⟩
            refine then_n ?_
            refine f_cond (S.tm rfl) (fun hb5 => ?_) (fun hb5 => ?_)
            · replace h := iteT h hb5
              refine f_seq ?_
              refine f_region ?_
              refine lv S (rn_assign rfl) rfl ?_; clear S; intro a S
              refine l_done ?_
              replace S := S.nf (L' := []) (K' := [(2, .int .i64 1)]) [false] rfl ⟨rfl, trivial⟩
              refine then_n ?_
              refine wp_ret ?_
              refine blk_r ?_
              refine then_r ?_
              refine blk_r ?_
              refine then_r ?_
              refine then_r ?_
              refine blk_r ?_
              refine then_r ?_
              refine then_r ?_
              obtain rfl := Option.some.inj h
              exact f_ret S Tryd.results14 rfl rfl
            · replace h := iteF h hb5
              refine wp_skip ?_
              refine blk_n ?_
              refine then_n ?_
              refine f_region ?_
              refine lv S (rn_fld fa_43_0 (S.tm rfl)) rfl ?_; clear S; intro a S
              refine lv S (rn_load Tryd.isAgg9 (S.tm rfl) (S.cell (i := 0) rfl rfl)) rfl ?_; clear S; intro a S
              refine lv S (rn_assign (S.tm rfl)) rfl ?_; clear S; intro a S
              refine l_done ?_
              replace S := S.nf (L' := []) (K' := [(3, .string y1.Key), (9, v_p_l), (10, .int .i64 (p_l.length : Int)), (11, .int .i64 (i1 : Int))]) [false] rfl ⟨rfl, rfl, rfl, rfl, trivial⟩
              refine blk_n ?_
              refine then_n ?_
              refine f_region ?_
              refine lv S (rn_add (S.tm rfl) rfl) rfl ?_; clear S; intro a S
              refine lv S (rn_move (S.tm rfl)) rfl ?_; clear S; intro a S
              refine l_done ?_
              replace S := S.nf (L' := []) (K' := [(3, .string y1.Key), (9, v_p_l), (10, .int .i64 (p_l.length : Int)), (11, .int .i64 (W ((i1 : Int) + 1)))]) [] rfl ⟨rfl, rfl, rfl, rfl, trivial⟩
              refine then_n ?_
              exact ⟨ys1, ⟨i1 + 1, y1.Key, ⟨_, (hd1).trans (List.append_cons _ _ _), by simp [hi1]⟩, h, S.nf [] rfl ⟨rfl, rfl, rfl, (congrArg (fun z => some (Value.int .i64 z)) (rng_next hd1 hi1 (slc_max hs_p_l))), trivial⟩⟩, Nat.lt_succ_self _⟩
    clear S h; rintro a w2 ⟨h, S⟩; rw [hj1] at h; clear hj1 j1
    refine then_n ?_
    refine f_seq ?_
    refine f_region ?_
    refine lv S (rn_assign rfl) rfl ?_; clear S; intro a S
    refine l_done ?_
    replace S := S.nf (L' := []) (K' := [(2, .int .i64 0)]) [] rfl ⟨rfl, trivial⟩
    refine then_n ?_
    refine wp_ret ?_
    obtain rfl := Option.some.inj h
    exact f_ret S Tryd.results14 rfl rfl
theorem Stream_MeetDay_ok (w : World) (b_p_s : Nat) (v_p_s_L : Value) (p_s_L : List Int) (hs_p_s_L : Slc (view w [b_p_s]) 1 v_p_s_L (p_s_L.map eInt)) (p_s_at : Int) (hb_b_p_s : (LEnt.blk b_p_s [v_p_s_L, .int .i64 p_s_at] 25).holds w) (r : Int × Int) (h : Stream_MeetDay p_s_L p_s_at = some r) :
    Calls Tryd.prog 17 [.pointer (some ⟨b_p_s, 0, none⟩)].toArray w (Ret w [b_p_s] fun τ v w' => (LEnt.blk b_p_s [v_p_s_L, .int .i64 r.2] 25).holds w' ∧ v = .int .i64 r.1) := by
  refine f_enter [b_p_s] [.blk b_p_s [v_p_s_L, .int .i64 p_s_at] 25] Tryd.func17 rfl Tryd.ntmps17 rfl (fun e he => by simp only [List.mem_singleton] at he; subst he; exact hb_b_p_s) (by simp [fps, LEnt.fp]) (by simp [fps, LEnt.fp]) fun a S => ?_
  unfold Stream_MeetDay at h
  replace S := S.nf (L' := [.blk b_p_s [v_p_s_L, .int .i64 p_s_at] 25]) (K' := [(0, .pointer (some ⟨b_p_s, 0, none⟩))]) [true] rfl ⟨rfl, trivial⟩
  refine f_seq ?_
  refine f_region ?_
  refine lv S (rn_assign rfl) rfl ?_; clear S; intro a S
  refine l_done ?_
  replace S := S.nf (L' := [.blk b_p_s [v_p_s_L, .int .i64 p_s_at] 25]) (K' := [(0, .pointer (some ⟨b_p_s, 0, none⟩))]) [true] rfl ⟨rfl, trivial⟩
  refine then_n ?_
  refine f_seq ?_
  refine f_seq ?_
  refine f_region ?_
  refine lv S (rn_move (S.tm rfl)) rfl ?_; clear S; intro a S
  obtain ⟨r1, hr1, h⟩ := bindE h
  refine l_enter1 0 S (b := b_p_s) rfl rfl (fun _ => .blk b_p_s [v_p_s_L, .int .i64 r1.2] 25) (fun _ => run_call (vs := [.pointer (some ⟨b_p_s, 0, none⟩), .int .i64 15]) ⟨(S.tm rfl), rfl, trivial⟩ Tryd.call23) (Stream_Flip_ok _ b_p_s v_p_s_L p_s_L (hs_p_s_L.mono (S.le_arg (fp_sub (i := 0) (e := .blk b_p_s [v_p_s_L, .int .i64 p_s_at] 25) rfl))) p_s_at (S.holds _ (List.mem_of_getElem? (i := 0) rfl)) 15 _ hr1) rfl (fun _ _ _ h => ⟨h.1, fun _ hc => by cases hc; rfl⟩) ?_; clear S; intro v1 a w1 hv1 hk1 hn1 S
  replace hv1 := hv1.2
  subst hv1
  refine l_done ?_
  replace S := S.nf (L' := [.blk b_p_s [v_p_s_L, .int .i64 r1.2] 25]) (K' := [(0, .pointer (some ⟨b_p_s, 0, none⟩)), (4, .bool r1.1)]) [true] rfl ⟨rfl, rfl, trivial⟩
  refine then_n ?_
  refine f_cond (S.tm rfl) (fun hb1 => ?_) (fun hb1 => ?_)
  · replace h := iteT h hb1
    refine f_seq ?_
    refine f_region ?_
    refine lv S (rn_move (S.tm rfl)) rfl ?_; clear S; intro a S
    obtain ⟨r2, hr2, h⟩ := bindE h
    refine l_enter1 0 S (b := b_p_s) rfl rfl (fun _ => .blk b_p_s [v_p_s_L, .int .i64 r2.2] 25) (fun _ => run_call (vs := [.pointer (some ⟨b_p_s, 0, none⟩), .int .i64 (-40000), .int .i64 4000]) ⟨(S.tm rfl), rfl, rfl, trivial⟩ Tryd.call25) (Stream_Odd_ok _ b_p_s v_p_s_L p_s_L (hs_p_s_L.mono (S.le_arg (fp_sub (i := 0) (e := .blk b_p_s [v_p_s_L, .int .i64 r1.2] 25) rfl))) r1.2 (S.holds _ (List.mem_of_getElem? (i := 0) rfl)) (-40000) 4000 _ hr2) rfl (fun _ _ _ h => ⟨h.1, fun _ hc => by cases hc; rfl⟩) ?_; clear S; intro v2 a w2 hv2 hk2 hn2 S
    replace hv2 := hv2.2
    subst hv2
    refine lv S (rn_assign (S.tm rfl)) rfl ?_; clear S; intro a S
    refine l_done ?_
    replace S := S.nf (L' := [.blk b_p_s [v_p_s_L, .int .i64 r2.2] 25]) (K' := [(2, .int .i64 r2.1)]) [true] rfl ⟨rfl, trivial⟩
    refine then_n ?_
    refine wp_ret ?_
    refine then_r ?_
    obtain rfl := Option.some.inj h
    exact f_ret S Tryd.results17 rfl ⟨(S.holds _ (List.mem_of_getElem? (i := 0) rfl)), rfl⟩
  · replace h := iteF h hb1
    refine wp_skip ?_
    refine then_n ?_
    refine f_seq ?_
    refine f_region ?_
    refine lv S (rn_move (S.tm rfl)) rfl ?_; clear S; intro a S
    refine l_buildSlice S Tryd.underlying22 Tryd.sizeOf3 Tryd.zeroValue3 rfl rfl (pv := [(0, .int .i64 0), (1, .int .i64 58), (2, .int .i64 59), (3, .int .i64 60), (4, .int .i64 365), (5, .int .i64 366), (6, .int .i64 424), (7, .int .i64 425), (8, .int .i64 789), (9, .int .i64 1519), (10, .int .i64 1520), (11, .int .i64 1521), (12, .int .i64 3000), (13, .int .i64 4000)]) ⟨rfl, rfl, rfl, rfl, rfl, rfl, rfl, rfl, rfl, rfl, rfl, rfl, rfl, rfl, rfl, rfl, rfl, rfl, rfl, rfl, rfl, rfl, rfl, rfl, rfl, rfl, rfl, rfl, trivial⟩ (cs := [.int .i64 0, .int .i64 58, .int .i64 59, .int .i64 60, .int .i64 365, .int .i64 366, .int .i64 424, .int .i64 425, .int .i64 789, .int .i64 1519, .int .i64 1520, .int .i64 1521, .int .i64 3000, .int .i64 4000]) (by kernel_rfl) rfl ?_; clear S; intro a w3 b1 hz1 hk3 S
    obtain ⟨r3, hr3, h⟩ := bindE h
    refine l_enter1 1 S (b := b_p_s) rfl rfl (fun _ => .blk b_p_s [v_p_s_L, .int .i64 r3.2] 25) (fun _ => run_call (vs := [.pointer (some ⟨b_p_s, 0, none⟩), .slice (some ⟨b1, 0, none⟩) 14 14]) ⟨(S.tm rfl), (S.tm rfl), trivial⟩ Tryd.call7) (Stream_Pick_ok _ b_p_s v_p_s_L p_s_L (hs_p_s_L.mono (S.le_arg (fp_sub (i := 1) (e := .blk b_p_s [v_p_s_L, .int .i64 r1.2] 25) rfl))) r1.2 (S.holds _ (List.mem_of_getElem? (i := 1) rfl)) (.slice (some ⟨b1, 0, none⟩) 14 14) [0, 58, 59, 60, 365, 366, 424, 425, 789, 1519, 1520, 1521, 3000, 4000] (lit_slcT enc_int S (i := 0) rfl rfl rfl rfl ((ne_fp (i := 1) (j := 0) (e := .blk b_p_s [v_p_s_L, .int .i64 r1.2] 25) (e' := .blk b1 [.int .i64 0, .int .i64 58, .int .i64 59, .int .i64 60, .int .i64 365, .int .i64 366, .int .i64 424, .int .i64 425, .int .i64 789, .int .i64 1519, .int .i64 1520, .int .i64 1521, .int .i64 3000, .int .i64 4000] 3) S rfl rfl rfl) _ rfl)) _ hr3) rfl (fun _ _ _ h => ⟨h.1, fun _ hc => by cases hc; rfl⟩) ?_; clear S; intro v3 a w4 hv3 hk4 hn3 S
    replace hv3 := hv3.2
    subst hv3
    refine lv S (rn_move (S.tm rfl)) rfl ?_; clear S; intro a S
    refine l_buildSlice S Tryd.underlying22 Tryd.sizeOf3 Tryd.zeroValue3 rfl rfl (pv := [(0, .int .i64 (-1)), (1, .int .i64 0), (2, .int .i64 0), (3, .int .i64 1)]) ⟨rfl, rfl, rfl, rfl, rfl, rfl, rfl, rfl, trivial⟩ (cs := [.int .i64 (-1), .int .i64 0, .int .i64 0, .int .i64 1]) (by kernel_rfl) rfl ?_; clear S; intro a w5 b2 hz2 hk5 S
    obtain ⟨r4, hr4, h⟩ := bindE h
    refine l_enter1 2 S (b := b_p_s) rfl rfl (fun _ => .blk b_p_s [v_p_s_L, .int .i64 r4.2] 25) (fun _ => run_call (vs := [.pointer (some ⟨b_p_s, 0, none⟩), .slice (some ⟨b2, 0, none⟩) 4 4]) ⟨(S.tm rfl), (S.tm rfl), trivial⟩ Tryd.call7) (Stream_Pick_ok _ b_p_s v_p_s_L p_s_L (hs_p_s_L.mono (S.le_arg (fp_sub (i := 2) (e := .blk b_p_s [v_p_s_L, .int .i64 r3.2] 25) rfl))) r3.2 (S.holds _ (List.mem_of_getElem? (i := 2) rfl)) (.slice (some ⟨b2, 0, none⟩) 4 4) [(-1), 0, 0, 1] (lit_slcT enc_int S (i := 0) rfl rfl rfl rfl ((ne_fp (i := 2) (j := 0) (e := .blk b_p_s [v_p_s_L, .int .i64 r3.2] 25) (e' := .blk b2 [.int .i64 (-1), .int .i64 0, .int .i64 0, .int .i64 1] 3) S rfl rfl rfl) _ rfl)) _ hr4) rfl (fun _ _ _ h => ⟨h.1, fun _ hc => by cases hc; rfl⟩) ?_; clear S; intro v4 a w6 hv4 hk6 hn4 S
    replace hv4 := hv4.2
    subst hv4
    refine lv S (rn_add (S.tm rfl) (S.tm rfl)) rfl ?_; clear S; intro a S
    refine lv S (rn_assign (S.tm rfl)) rfl ?_; clear S; intro a S
    refine l_done ?_
    replace S := S.nf (L' := [.blk b_p_s [v_p_s_L, .int .i64 r4.2] 25]) (K' := [(2, .int .i64 (W (r3.1 + r4.1)))]) [false, false, true] rfl ⟨rfl, trivial⟩
    refine then_n ?_
    refine wp_ret ?_
    obtain rfl := Option.some.inj h
    exact f_ret S Tryd.results17 rfl ⟨(S.holds _ (List.mem_of_getElem? (i := 0) rfl)), rfl⟩
theorem swimmer_isWay_ok (w : World) (p_n : Int) (r : Bool) (h : swimmer_isWay p_n = r) :
    Calls Tryd.prog 45 [.int .i64 p_n].toArray w (Ret w [] fun τ v w' => v = .bool r) := by
  refine f_enter [] [] Tryd.func45 rfl Tryd.ntmps45 rfl (by simp) (by simp [fps]) (by simp [fps]) fun a S => ?_
  unfold swimmer_isWay at h
  replace S := S.nf (L' := []) (K' := [(0, .int .i64 p_n)]) [] rfl ⟨rfl, trivial⟩
  refine f_seq ?_
  refine f_region ?_
  refine lv S (rn_assign rfl) rfl ?_; clear S; intro a S
  refine l_done ?_
  replace S := S.nf (L' := []) (K' := [(0, .int .i64 p_n)]) [] rfl ⟨rfl, trivial⟩
  refine then_n ?_
  refine f_seq ?_
  refine f_region ?_
  refine lv S (rn_move (S.tm rfl)) rfl ?_; clear S; intro a S
  refine lv S (rn_eql (S.tm rfl) rfl) rfl ?_; clear S; intro a S
  refine lv S (rn_move (S.tm rfl)) rfl ?_; clear S; intro a S
  refine f_cutm 3 (fun a w' => Keep [] w w' ∧ Sx w [] nov [] [(8, .bool ((decide (p_n = 1)) || (decide (p_n = 2))))] 9 a w') ?_ ?_
  · rcases Bool.eq_false_or_eq_true (decide (p_n = 1)) with hb1 | hb1
    · refine l_skip S rfl rfl rfl (by rw [hb1]; rfl) rfl ?_ rfl; clear S; intro a S
      refine l_skip S rfl rfl rfl (by rw [hb1]; rfl) rfl ?_ rfl; clear S; intro a S
      refine lv S (rn_or_t (decide (p_n = 2)) hb1 (S.tm rfl) rfl) rfl ?_; clear S; intro a S
      refine l_done ?_
      refine then_n ?_
      exact ⟨Keep.refl _ _, S.nf [] rfl ⟨rfl, trivial⟩⟩
    · refine l_want S rfl rfl rfl hb1 ?_
      refine lv S (rn_move (S.tm rfl)) rfl ?_; clear S; intro a S
      refine l_want S rfl rfl rfl hb1 ?_
      refine lv S (rn_eql (S.tm rfl) rfl) rfl ?_; clear S; intro a S
      refine lv S (rn_or_f hb1 (S.tm rfl) (S.tm rfl)) rfl ?_; clear S; intro a S
      refine l_done ?_
      refine then_n ?_
      exact ⟨Keep.refl _ _, S.nf [] rfl ⟨rfl, trivial⟩⟩
  clear S; rintro a w1 ⟨hk1, S⟩
  refine lv S (rn_assign (S.tm rfl)) rfl ?_; clear S; intro a S
  refine l_done ?_
  replace S := S.nf (L' := []) (K' := [(2, .bool ((decide (p_n = 1)) || (decide (p_n = 2))))]) [] rfl ⟨rfl, trivial⟩
  refine then_n ?_
  refine wp_ret ?_
  subst h
  exact f_ret S Tryd.results45 rfl rfl
theorem swimmer_checkAge_ok (w : World) (p_s : GSwimmer) (p_day : Int) (p_way : Int) (r : Int) (h : swimmer_checkAge p_s p_day p_way = some r) :
    Calls Tryd.prog 39 [.agg (GSwimmer.enc p_s).toArray, .int .i64 p_day, .int .i64 p_way].toArray w (Ret w [] fun τ v w' => v = .int .i64 r) := by
  refine f_enter [] [] Tryd.func39 rfl Tryd.ntmps39 rfl (by simp) (by simp [fps]) (by simp [fps]) fun a S => ?_
  unfold swimmer_checkAge at h
  replace S := S.nf (L' := []) (K' := [(0, .agg (GSwimmer.enc p_s).toArray), (1, .int .i64 p_day), (2, .int .i64 p_way)]) [] rfl ⟨rfl, rfl, rfl, trivial⟩
  refine f_seq ?_
  refine f_region ?_
  refine l_box S (S.tm rfl) (cs := [.string p_s.Key, .int .i64 p_s.Sex, .int .i64 p_s.Born]) rfl rfl ?_; clear S; intro a w1 b1 hz1 hk1 S
  refine lv S (rn_assign rfl) rfl ?_; clear S; intro a S
  refine l_done ?_
  replace S := S.nf (L' := [.blk b1 [.string p_s.Key, .int .i64 p_s.Sex, .int .i64 p_s.Born] 43]) (K' := [(1, .int .i64 p_day), (2, .int .i64 p_way), (3, .pointer (some ⟨b1, 0, none⟩))]) [true] rfl ⟨rfl, rfl, rfl, trivial⟩
  refine then_n ?_
  refine f_seq ?_
  refine f_seq ?_
  refine f_region ?_
  refine lv S (rn_ldA Tryd.isAgg43 Tryd.sizeOf43 (off := 0) (o := 0) (part := [.string p_s.Key, .int .i64 p_s.Sex, .int .i64 p_s.Born]) rfl rfl (S.tm rfl) (S.cellsAt (i := 0) rfl)) rfl ?_; clear S; intro a S
  refine l_buildSlice S Tryd.underlying30 Tryd.sizeOf43 Tryd.zeroValue43 rfl rfl (pv := [(0, .agg #[.string p_s.Key, .int .i64 p_s.Sex, .int .i64 p_s.Born])]) ⟨rfl, (S.tm rfl), trivial⟩ (cs := [.string p_s.Key, .int .i64 p_s.Sex, .int .i64 p_s.Born]) (by kernel_rfl) rfl ?_; clear S; intro a w2 b2 hz2 hk2 S
  obtain ⟨r1, hr1, h⟩ := bindE h
  refine l_enter S (fun _ => run_call (vs := [.slice (some ⟨b2, 0, none⟩) 1 1]) ⟨(S.tm rfl), trivial⟩ Tryd.call13) (swimmer_CheckSwimmers_ok _ (.slice (some ⟨b2, 0, none⟩) 1 1) [p_s] (lit_slcT GSwimmer.enc_ok S (i := 0) rfl rfl rfl rfl ((ne_nil (e' := .blk b2 [.string p_s.Key, .int .i64 p_s.Sex, .int .i64 p_s.Born] 43)) _ rfl)) _ hr1) rfl ?_; clear S; intro v1 a w3 hv1 hk3 hn1 S
  subst hv1
  refine lv S (rn_assign (S.tm rfl)) rfl ?_; clear S; intro a S
  refine l_done ?_
  replace S := S.nf (L' := [.blk b1 [.string p_s.Key, .int .i64 p_s.Sex, .int .i64 p_s.Born] 43]) (K' := [(1, .int .i64 p_day), (2, .int .i64 p_way), (3, .pointer (some ⟨b1, 0, none⟩)), (7, .int .i64 r1)]) [false, true] rfl ⟨rfl, rfl, rfl, rfl, trivial⟩
  refine then_n ?_
  refine f_seq ?_
  refine f_region ?_
  refine lv S (rn_move (S.tm rfl)) rfl ?_; clear S; intro a S
  refine lv S (rn_neq (S.tm rfl) rfl) rfl ?_; clear S; intro a S
  refine l_done ?_
  replace S := S.nf (L' := [.blk b1 [.string p_s.Key, .int .i64 p_s.Sex, .int .i64 p_s.Born] 43]) (K' := [(1, .int .i64 p_day), (2, .int .i64 p_way), (3, .pointer (some ⟨b1, 0, none⟩)), (7, .int .i64 r1), (12, .bool (!decide (r1 = 0)))]) [true] rfl ⟨rfl, rfl, rfl, rfl, rfl, trivial⟩
  refine then_n ?_
  refine f_cond (S.tm rfl) (fun hb1 => ?_) (fun hb1 => ?_)
  · replace h := iteT h hb1
    refine f_seq ?_
    refine f_region ?_
    refine lv S (rn_move (S.tm rfl)) rfl ?_; clear S; intro a S
    refine lv S (rn_assign (S.tm rfl)) rfl ?_; clear S; intro a S
    refine l_done ?_
    replace S := S.nf (L' := []) (K' := [(6, .int .i64 r1)]) [false] rfl ⟨rfl, trivial⟩
    refine then_n ?_
    refine wp_ret ?_
    refine then_r ?_
    obtain rfl := Option.some.inj h
    exact f_ret S Tryd.results39 rfl rfl
  · replace h := iteF h hb1
    refine wp_skip ?_
    refine then_n ?_
    refine f_seq ?_
    refine f_seq ?_
    refine f_region ?_
    refine lv S (rn_move (S.tm rfl)) rfl ?_; clear S; intro a S
    refine lv S (rn_fld fa_43_2 (S.tm rfl)) rfl ?_; clear S; intro a S
    refine lv S (rn_load Tryd.isAgg3 (S.tm rfl) (S.cell (i := 0) rfl rfl)) rfl ?_; clear S; intro a S
    refine l_enter S (fun _ => run_call (vs := [.int .i64 p_day, .int .i64 p_s.Born, .int .i64 4000]) ⟨(S.tm rfl), (S.tm rfl), rfl, trivial⟩ Tryd.call28) (words_Within_ok _ p_day p_s.Born 4000 _ rfl) rfl ?_; clear S; intro v2 a w4 hv2 hk4 hn2 S
    subst hv2
    refine lv S (rn_not (S.tm rfl)) rfl ?_; clear S; intro a S
    refine l_done ?_
    replace S := S.nf (L' := []) (K' := [(2, .int .i64 p_way), (18, .bool (!(words_Within p_day p_s.Born 4000)))]) [false] rfl ⟨rfl, rfl, trivial⟩
    refine then_n ?_
    refine f_cond (S.tm rfl) (fun hb2 => ?_) (fun hb2 => ?_)
    · replace h := iteT h hb2
      refine f_seq ?_
      refine f_region ?_
      refine lv S (rn_assign rfl) rfl ?_; clear S; intro a S
      refine l_done ?_
      replace S := S.nf (L' := []) (K' := [(6, .int .i64 1)]) [] rfl ⟨rfl, trivial⟩
      refine then_n ?_
      refine wp_ret ?_
      refine then_r ?_
      obtain rfl := Option.some.inj h
      exact f_ret S Tryd.results39 rfl rfl
    · replace h := iteF h hb2
      refine wp_skip ?_
      refine then_n ?_
      refine f_seq ?_
      refine f_seq ?_
      refine f_region ?_
      refine lv S (rn_move (S.tm rfl)) rfl ?_; clear S; intro a S
      refine l_enter S (fun _ => run_call (vs := [.int .i64 p_way]) ⟨(S.tm rfl), trivial⟩ Tryd.call45) (swimmer_isWay_ok _ p_way _ rfl) rfl ?_; clear S; intro v3 a w5 hv3 hk5 hn3 S
      subst hv3
      refine lv S (rn_not (S.tm rfl)) rfl ?_; clear S; intro a S
      refine l_done ?_
      replace S := S.nf (L' := []) (K' := [(21, .bool (!(swimmer_isWay p_way)))]) [] rfl ⟨rfl, trivial⟩
      refine then_n ?_
      refine f_cond (S.tm rfl) (fun hb3 => ?_) (fun hb3 => ?_)
      · replace h := iteT h hb3
        refine f_seq ?_
        refine f_region ?_
        refine lv S (rn_assign rfl) rfl ?_; clear S; intro a S
        refine l_done ?_
        replace S := S.nf (L' := []) (K' := [(6, .int .i64 4)]) [] rfl ⟨rfl, trivial⟩
        refine then_n ?_
        refine wp_ret ?_
        refine then_r ?_
        obtain rfl := Option.some.inj h
        exact f_ret S Tryd.results39 rfl rfl
      · replace h := iteF h hb3
        refine wp_skip ?_
        refine then_n ?_
        refine f_seq ?_
        refine f_region ?_
        refine lv S (rn_assign rfl) rfl ?_; clear S; intro a S
        refine l_done ?_
        replace S := S.nf (L' := []) (K' := [(6, .int .i64 0)]) [] rfl ⟨rfl, trivial⟩
        refine then_n ?_
        refine wp_ret ?_
        obtain rfl := Option.some.inj h
        exact f_ret S Tryd.results39 rfl rfl
theorem cmp_Or_int_ok (w : World) (v_p_vals : Value) (p_vals : List Int) (hs_p_vals : Slc (view w []) 1 v_p_vals (p_vals.map eInt)) (r : Int) (h : cmp_Or_int p_vals = r) :
    Calls Tryd.prog 46 [v_p_vals].toArray w (Ret w [] fun τ v w' => v = .int .i64 r) := by
  refine f_enter [] [] Tryd.func46 rfl Tryd.ntmps46 rfl (by simp) (by simp [fps]) (by simp [fps]) fun a S => ?_
  unfold cmp_Or_int at h
  replace S := S.nf (L' := []) (K' := [(0, v_p_vals)]) [] rfl ⟨rfl, trivial⟩
  refine f_seq ?_
  refine f_region ?_
  refine lv S (rn_assign rfl) rfl ?_; clear S; intro a S
  refine l_done ?_
  replace S := S.nf (L' := []) (K' := [(0, v_p_vals)]) [] rfl ⟨rfl, trivial⟩
  refine then_n ?_
  refine f_seq ?_
  refine f_region ?_
  refine lv S (rn_assign rfl) rfl ?_; clear S; intro a S
  refine l_done ?_
  replace S := S.nf (L' := []) (K' := [(0, v_p_vals), (3, .int .i64 0)]) [] rfl ⟨rfl, rfl, trivial⟩
  refine then_n ?_
  refine f_seq ?_
  refine f_seq ?_
  refine f_region ?_
  refine lv S (rn_move (S.tm rfl)) rfl ?_; clear S; intro a S
  refine lv S (rn_lenT sl_22 (S.tm rfl) (slc_len hs_p_vals)) rfl ?_; clear S; intro a S
  refine lv S (rn_move rfl) rfl ?_; clear S; intro a S
  refine l_done ?_
  replace S := S.nf (L' := []) (K' := [(3, .int .i64 0), (6, v_p_vals), (7, .int .i64 (p_vals.length : Int)), (8, .int .i64 0)]) [] rfl ⟨rfl, rfl, rfl, rfl, trivial⟩
  refine then_n ?_
  obtain ⟨j1, hj1, h⟩ := joinE h
  refine f_join (fun a w' => j1 = r ∧ Sx w [] nov [] [(3, .int .i64 0)] 18 a w') ?_ ?_
  · refine wp_block ?_
    refine f_loop (fun (ys1 : List Int) a w' => ∃ i1 : Nat, (∃ dn, p_vals = dn ++ ys1 ∧ dn.length = i1) ∧ cmp_Or_int_l1 j1 ys1 i1 = r ∧ Sx w [] nov [] [(3, .int .i64 0), (6, v_p_vals), (7, .int .i64 (p_vals.length : Int)), (8, .int .i64 (i1 : Int))] 18 a w') List.length p_vals ⟨0, ⟨[], rfl, rfl⟩, h, S.nf [] rfl ⟨rfl, rfl, rfl, rfl, trivial⟩⟩ ?_
    clear S h; rintro ys1 a w1 ⟨i1, ⟨dn, hd1, hi1⟩, h, S⟩
    cases ys1 with
    | nil =>
      rw [cmp_Or_int_l1.eq_1] at h
      refine f_seq ?_
      refine f_region ?_
      refine lv S (rn_lss (S.tm rfl) (S.tm rfl)) rfl ?_; clear S; intro a S
      refine l_done ?_
      replace S := S.nf (L' := []) (K' := [(3, .int .i64 0), (6, v_p_vals), (7, .int .i64 (p_vals.length : Int)), (8, .int .i64 (i1 : Int)), (9, .bool (decide ((i1 : Int) < (p_vals.length : Int))))]) [] rfl ⟨rfl, rfl, rfl, rfl, rfl, trivial⟩
      refine then_n ?_
      refine f_seq ?_
      refine wp_cond_false ((S.tm rfl).trans (congrArg Value.bool (rng_nil hd1 hi1))) ?_
      refine wp_exit ?_
      refine then_x ?_
      refine then_x ?_
      refine x_same ?_
      refine then_n ?_
      exact ⟨h, S.nf [] rfl ⟨rfl, trivial⟩⟩
    | cons y1 ys1 =>
      rw [cmp_Or_int_l1.eq_2] at h
      refine f_seq ?_
      refine f_region ?_
      refine lv S (rn_lss (S.tm rfl) (S.tm rfl)) rfl ?_; clear S; intro a S
      refine l_done ?_
      replace S := S.nf (L' := []) (K' := [(3, .int .i64 0), (6, v_p_vals), (7, .int .i64 (p_vals.length : Int)), (8, .int .i64 (i1 : Int)), (9, .bool (decide ((i1 : Int) < (p_vals.length : Int))))]) [] rfl ⟨rfl, rfl, rfl, rfl, rfl, trivial⟩
      refine then_n ?_
      refine f_seq ?_
      refine wp_cond_true ((S.tm rfl).trans (congrArg Value.bool (rng_cons hd1 hi1))) ?_
      refine wp_skip ?_
      refine then_n ?_
      refine f_seq ?_
      refine wp_block ?_
      refine f_seq ?_
      refine f_region ?_
      obtain ⟨b1, o1, hm1, hr1⟩ := rn_indexT (a := a) (x := .tmp 6) (y := .tmp 8) (ty := 0) sl_22 hs_p_vals (get_mid hd1 hi1) rfl (S.tm rfl) (S.tm rfl)
      refine lv S (hr1 _) rfl ?_; clear S; intro a S
      clear hr1
      refine lv S (rn_ld Tryd.isAgg3 (off := o1) (o := 0) (S.tm rfl) (hm1.at S.emb0) rfl) rfl ?_; clear S; intro a S
      refine lv S (rn_assign (S.tm rfl)) rfl ?_; clear S; intro a S
      refine l_done ?_
      replace S := S.nf (L' := []) (K' := [(3, .int .i64 0), (5, .int .i64 y1), (6, v_p_vals), (7, .int .i64 (p_vals.length : Int)), (8, .int .i64 (i1 : Int))]) [] rfl ⟨rfl, rfl, rfl, rfl, rfl, trivial⟩
      refine then_n ?_
      refine f_seq ?_
      refine f_region ?_
      refine lv S (rn_move (S.tm rfl)) rfl ?_; clear S; intro a S
      refine lv S (rn_move (S.tm rfl)) rfl ?_; clear S; intro a S
      refine lv S (rn_neq (S.tm rfl) (S.tm rfl)) rfl ?_; clear S; intro a S
      refine l_done ?_
      replace S := S.nf (L' := []) (K' := [(3, .int .i64 0), (5, .int .i64 y1), (6, v_p_vals), (7, .int .i64 (p_vals.length : Int)), (8, .int .i64 (i1 : Int)), (14, .bool (!decide (y1 = 0)))]) [] rfl ⟨rfl, rfl, rfl, rfl, rfl, rfl, trivial⟩
      refine then_n ?_
      refine f_cond (S.tm rfl) (fun hb1 => ?_) (fun hb1 => ?_)
      · replace h := iteT h hb1
        refine f_seq ?_
        refine f_region ?_
        refine lv S (rn_move (S.tm rfl)) rfl ?_; clear S; intro a S
        refine lv S (rn_assign (S.tm rfl)) rfl ?_; clear S; intro a S
        refine l_done ?_
        replace S := S.nf (L' := []) (K' := [(2, .int .i64 y1)]) [] rfl ⟨rfl, trivial⟩
        refine then_n ?_
        refine wp_ret ?_
        refine blk_r ?_
        refine then_r ?_
        refine then_r ?_
        refine blk_r ?_
        refine then_r ?_
        refine then_r ?_
        subst h
        exact f_ret S Tryd.results46 rfl rfl
      · replace h := iteF h hb1
        refine wp_skip ?_
        refine blk_n ?_
        refine then_n ?_
        refine f_region ?_
        refine lv S (rn_add (S.tm rfl) rfl) rfl ?_; clear S; intro a S
        refine lv S (rn_move (S.tm rfl)) rfl ?_; clear S; intro a S
        refine l_done ?_
        replace S := S.nf (L' := []) (K' := [(3, .int .i64 0), (6, v_p_vals), (7, .int .i64 (p_vals.length : Int)), (8, .int .i64 (W ((i1 : Int) + 1)))]) [] rfl ⟨rfl, rfl, rfl, rfl, trivial⟩
        refine then_n ?_
        exact ⟨ys1, ⟨i1 + 1, ⟨_, (hd1).trans (List.append_cons _ _ _), by simp [hi1]⟩, h, S.nf [] rfl ⟨rfl, rfl, rfl, (congrArg (fun z => some (Value.int .i64 z)) (rng_next hd1 hi1 (slc_max hs_p_vals))), trivial⟩⟩, Nat.lt_succ_self _⟩
  clear S h; rintro a w2 ⟨h, S⟩; rw [hj1] at h; clear hj1 j1
  refine then_n ?_
  refine f_seq ?_
  refine f_region ?_
  refine lv S (rn_move (S.tm rfl)) rfl ?_; clear S; intro a S
  refine lv S (rn_assign (S.tm rfl)) rfl ?_; clear S; intro a S
  refine l_done ?_
  replace S := S.nf (L' := []) (K' := [(2, .int .i64 0)]) [] rfl ⟨rfl, trivial⟩
  refine then_n ?_
  refine wp_ret ?_
  subst h
  exact f_ret S Tryd.results46 rfl rfl
set_option maxRecDepth 20000 in
theorem swimmer_age_ok (w : World) (p_s : GSwimmer) (p_day : Int) (p_way : Int) (r : Int) (h : swimmer_age p_s p_day p_way = some r) :
    Calls Tryd.prog 40 [.agg (GSwimmer.enc p_s).toArray, .int .i64 p_day, .int .i64 p_way].toArray w (Ret w [] fun τ v w' => v = .int .i64 r) := by
  refine f_enter [] [] Tryd.func40 rfl Tryd.ntmps40 rfl (by simp) (by simp [fps]) (by simp [fps]) fun a S => ?_
  unfold swimmer_age at h
  replace S := S.nf (L' := []) (K' := [(0, .agg (GSwimmer.enc p_s).toArray), (1, .int .i64 p_day), (2, .int .i64 p_way)]) [] rfl ⟨rfl, rfl, rfl, trivial⟩
  refine f_seq ?_
  refine f_region ?_
  refine l_box S (S.tm rfl) (cs := [.string p_s.Key, .int .i64 p_s.Sex, .int .i64 p_s.Born]) rfl rfl ?_; clear S; intro a w1 b1 hz1 hk1 S
  refine lv S (rn_assign rfl) rfl ?_; clear S; intro a S
  refine l_done ?_
  replace S := S.nf (L' := [.blk b1 [.string p_s.Key, .int .i64 p_s.Sex, .int .i64 p_s.Born] 43]) (K' := [(1, .int .i64 p_day), (2, .int .i64 p_way), (3, .pointer (some ⟨b1, 0, none⟩))]) [true] rfl ⟨rfl, rfl, rfl, trivial⟩
  refine then_n ?_
  refine f_seq ?_
  refine f_region ?_
  refine lv S (rn_fld fa_43_2 (S.tm rfl)) rfl ?_; clear S; intro a S
  refine lv S (rn_load Tryd.isAgg3 (S.tm rfl) (S.cell (i := 0) rfl rfl)) rfl ?_; clear S; intro a S
  obtain ⟨r1, hr1, h⟩ := bindE h
  refine l_enter S (fun _ => run_call (vs := [.int .i64 p_s.Born]) ⟨(S.tm rfl), trivial⟩ Tryd.call27) (swimmer_dateOf_ok _ p_s.Born _ hr1) rfl ?_; clear S; intro v1 a w2 hv1 hk2 hn1 S
  subst hv1
  refine lv S (rn_move (S.tm rfl)) rfl ?_; clear S; intro a S
  obtain ⟨r2, hr2, h⟩ := bindE h
  refine l_enter S (fun _ => run_call (vs := [.int .i64 p_day]) ⟨(S.tm rfl), trivial⟩ Tryd.call27) (swimmer_dateOf_ok _ p_day _ hr2) rfl ?_; clear S; intro v2 a w3 hv2 hk3 hn2 S
  subst hv2
  refine l_alloc S Tryd.zeroValue28 (cs := [.int .i64 0, .int .i64 0, .int .i64 0]) rfl rfl ?_; clear S; intro a w4 b2 hz2 hk4 S
  refine l_alloc S Tryd.zeroValue28 (cs := [.int .i64 0, .int .i64 0, .int .i64 0]) rfl rfl ?_; clear S; intro a w5 b3 hz3 hk5 S
  refine l_store S (S.tm rfl) (S.tm rfl) (i := 1) (off := 0) rfl Tryd.sizeOf28 (vs := [.int .i64 r1.Year, .int .i64 r1.Month, .int .i64 r1.Day]) rfl rfl rfl rfl ?_; clear S; intro w6 hk6 S
  refine l_store S (S.tm rfl) (S.tm rfl) (i := 0) (off := 0) rfl Tryd.sizeOf28 (vs := [.int .i64 r2.Year, .int .i64 r2.Month, .int .i64 r2.Day]) rfl rfl rfl rfl ?_; clear S; intro w7 hk7 S
  refine l_done ?_
  replace S := S.nf (L' := [.blk b3 [.int .i64 r2.Year, .int .i64 r2.Month, .int .i64 r2.Day] 28, .blk b2 [.int .i64 r1.Year, .int .i64 r1.Month, .int .i64 r1.Day] 28]) (K' := [(2, .int .i64 p_way), (7, .pointer (some ⟨b2, 0, none⟩)), (8, .pointer (some ⟨b3, 0, none⟩))]) [true, true, false] rfl ⟨rfl, rfl, rfl, trivial⟩
  refine then_n ?_
  refine f_seq ?_
  refine f_region ?_
  refine lv S (rn_fld fa_28_0 (S.tm rfl)) rfl ?_; clear S; intro a S
  refine lv S (rn_load Tryd.isAgg3 (S.tm rfl) (S.cell (i := 0) rfl rfl)) rfl ?_; clear S; intro a S
  refine lv S (rn_fld fa_28_0 (S.tm rfl)) rfl ?_; clear S; intro a S
  refine lv S (rn_load Tryd.isAgg3 (S.tm rfl) (S.cell (i := 1) rfl rfl)) rfl ?_; clear S; intro a S
  refine lv S (rn_sub (S.tm rfl) (S.tm rfl)) rfl ?_; clear S; intro a S
  refine lv S (rn_assign (S.tm rfl)) rfl ?_; clear S; intro a S
  refine l_done ?_
  replace S := S.nf (L' := [.blk b3 [.int .i64 r2.Year, .int .i64 r2.Month, .int .i64 r2.Day] 28, .blk b2 [.int .i64 r1.Year, .int .i64 r1.Month, .int .i64 r1.Day] 28]) (K' := [(2, .int .i64 p_way), (7, .pointer (some ⟨b2, 0, none⟩)), (8, .pointer (some ⟨b3, 0, none⟩)), (9, .int .i64 (W (r2.Year - r1.Year)))]) [true, true] rfl ⟨rfl, rfl, rfl, rfl, trivial⟩
  refine then_n ?_
  refine f_seq ?_
  refine f_seq ?_
  obtain ⟨j1, hj1, h⟩ := joinE h
  refine f_join (fun a w' => ∃ x1 : Bool, j1 x1 = some r ∧ Sx w [] nov [] [(9, .int .i64 (W (r2.Year - r1.Year))), (36, .bool x1)] 40 a w') ?_ ?_
  · rcases Bool.eq_false_or_eq_true (decide (p_way = 1)) with hb1 | hb1
    · replace h := iteT h hb1
      refine d_region [] ([]) Tryd.mixed S rfl (by kernel_rfl) ?_; clear S; intro w13 hk12 hsel S
      refine d_quiet 0 S hsel rfl rfl rfl (by kernel_rfl) (by kernel_rfl) rfl (fun _ hw => (rn_move (S.tm rfl))) ?_; clear S; intro a S
      refine d_quiet 1 S hsel rfl rfl rfl (by kernel_rfl) (by kernel_rfl) rfl (fun _ hw => (rn_eql (S.tm rfl) rfl)) ?_; clear S; intro a S
      refine d_quiet 2 S hsel rfl rfl rfl (by kernel_rfl) (by kernel_rfl) rfl (fun _ hw => (rn_move (S.tm rfl))) ?_; clear S; intro a S
      refine d_quiet_g 3 S hsel rfl rfl rfl rfl hb1 rfl rfl (by kernel_rfl) (by kernel_rfl) rfl (fun _ hw => (rn_fld fa_28_1 (S.tm rfl))) ?_; clear S; intro a S
      refine d_quiet_g 4 S hsel rfl rfl rfl rfl hb1 rfl rfl (by kernel_rfl) (by kernel_rfl) rfl (fun _ hw => (rn_ld Tryd.isAgg3 (off := 0) (o := 1) (S.tm rfl) ((S.blk_mem (i := 0) (cells := [.int .i64 r2.Year, .int .i64 r2.Month, .int .i64 r2.Day]) (b := b3) (T := 28) rfl (ne_nil (e' := .blk b3 [.int .i64 r2.Year, .int .i64 r2.Month, .int .i64 r2.Day] 28))).kept hw) rfl)) ?_; clear S; intro a S
      refine d_quiet_g 5 S hsel rfl rfl rfl rfl hb1 rfl rfl (by kernel_rfl) (by kernel_rfl) rfl (fun _ hw => (rn_fld fa_28_1 (S.tm rfl))) ?_; clear S; intro a S
      refine d_quiet_g 6 S hsel rfl rfl rfl rfl hb1 rfl rfl (by kernel_rfl) (by kernel_rfl) rfl (fun _ hw => (rn_ld Tryd.isAgg3 (off := 0) (o := 1) (S.tm rfl) ((S.blk_mem (i := 1) (cells := [.int .i64 r1.Year, .int .i64 r1.Month, .int .i64 r1.Day]) (b := b2) (T := 28) rfl (ne_nil (e' := .blk b2 [.int .i64 r1.Year, .int .i64 r1.Month, .int .i64 r1.Day] 28))).kept hw) rfl)) ?_; clear S; intro a S
      refine d_quiet_g 8 S hsel rfl rfl rfl rfl hb1 rfl rfl (by kernel_rfl) (by kernel_rfl) rfl (fun _ hw => (rn_fld fa_28_2 (S.tm rfl))) ?_; clear S; intro a S
      refine d_quiet_g 9 S hsel rfl rfl rfl rfl hb1 rfl rfl (by kernel_rfl) (by kernel_rfl) rfl (fun _ hw => (rn_ld Tryd.isAgg3 (off := 0) (o := 2) (S.tm rfl) ((S.blk_mem (i := 0) (cells := [.int .i64 r2.Year, .int .i64 r2.Month, .int .i64 r2.Day]) (b := b3) (T := 28) rfl (ne_nil (e' := .blk b3 [.int .i64 r2.Year, .int .i64 r2.Month, .int .i64 r2.Day] 28))).kept hw) rfl)) ?_; clear S; intro a S
      refine d_quiet_g 10 S hsel rfl rfl rfl rfl hb1 rfl rfl (by kernel_rfl) (by kernel_rfl) rfl (fun _ hw => (rn_fld fa_28_2 (S.tm rfl))) ?_; clear S; intro a S
      refine d_quiet_g 11 S hsel rfl rfl rfl rfl hb1 rfl rfl (by kernel_rfl) (by kernel_rfl) rfl (fun _ hw => (rn_ld Tryd.isAgg3 (off := 0) (o := 2) (S.tm rfl) ((S.blk_mem (i := 1) (cells := [.int .i64 r1.Year, .int .i64 r1.Month, .int .i64 r1.Day]) (b := b2) (T := 28) rfl (ne_nil (e' := .blk b2 [.int .i64 r1.Year, .int .i64 r1.Month, .int .i64 r1.Day] 28))).kept hw) rfl)) ?_; clear S; intro a S
      refine d_loud1 7 (by kernel_rfl) rfl ?_
      refine l_want S rfl rfl rfl hb1 ?_
      refine l_enter S (fun _ => run_call (vs := [.int .i64 r2.Month, .int .i64 r1.Month]) ⟨(S.tm rfl), (S.tm rfl), trivial⟩ Tryd.call47) (cmp_Compare_int_ok _ r2.Month r1.Month _ rfl) rfl ?_; clear S; intro v6 a w14 hv6 hk13 hn6 S
      subst hv6
      refine l_done ?_
      refine d_next hk13 ?_
      refine d_loud1 12 (by kernel_rfl) rfl ?_
      refine l_want S rfl rfl rfl hb1 ?_
      refine l_enter S (fun _ => run_call (vs := [.int .i64 r2.Day, .int .i64 r1.Day]) ⟨(S.tm rfl), (S.tm rfl), trivial⟩ Tryd.call47) (cmp_Compare_int_ok _ r2.Day r1.Day _ rfl) rfl ?_; clear S; intro v7 a w15 hv7 hk14 hn7 S
      subst hv7
      refine l_done ?_
      refine d_next hk14 ?_
      refine d_loud1 13 (by kernel_rfl) rfl ?_
      refine l_want S rfl rfl rfl hb1 ?_
      refine l_buildSlice S Tryd.underlying22 Tryd.sizeOf3 Tryd.zeroValue3 rfl rfl (pv := [(0, .int .i64 (cmp_Compare_int r2.Month r1.Month)), (1, .int .i64 (cmp_Compare_int r2.Day r1.Day))]) ⟨rfl, (S.tm rfl), rfl, (S.tm rfl), trivial⟩ (cs := [.int .i64 (cmp_Compare_int r2.Month r1.Month), .int .i64 (cmp_Compare_int r2.Day r1.Day)]) (by kernel_rfl) rfl ?_; clear S; intro a w16 b5 hz5 hk15 S
      refine l_done ?_
      refine d_next hk15 ?_
      refine d_loud1 14 (by kernel_rfl) rfl ?_
      refine l_want S rfl rfl rfl hb1 ?_
      refine l_enter S (fun _ => run_call (vs := [.slice (some ⟨b5, 0, none⟩) 2 2]) ⟨(S.tm rfl), trivial⟩ Tryd.call46) (cmp_Or_int_ok _ (.slice (some ⟨b5, 0, none⟩) 2 2) [(cmp_Compare_int r2.Month r1.Month), (cmp_Compare_int r2.Day r1.Day)] (lit_slcT enc_int S (i := 0) rfl rfl rfl rfl ((ne_nil (e' := .blk b5 [.int .i64 (cmp_Compare_int r2.Month r1.Month), .int .i64 (cmp_Compare_int r2.Day r1.Day)] 3)) _ rfl)) _ rfl) rfl ?_; clear S; intro v8 a w17 hv8 hk16 hn8 S
      subst hv8
      refine l_done ?_
      refine d_next hk16 ?_
      refine d_rest [15, 16] hsel (by kernel_rfl) rfl ?_
      clear hsel
      refine s_want S rfl rfl rfl rfl hb1 ?_
      refine s_lv0 S (rn_lss (S.tm rfl) rfl) rfl ?_; clear S; intro a S
      refine s_lv S rfl (rn_pick_b hb1 (S.tm rfl) (S.tm rfl)) rfl ?_; clear S; intro a S
      refine s_done ?_
      replace S := S.nf (L' := []) (K' := [(9, .int .i64 (W (r2.Year - r1.Year))), (36, .bool (decide ((cmp_Or_int [(cmp_Compare_int r2.Month r1.Month), (cmp_Compare_int r2.Day r1.Day)]) < 0)))]) [false, false, false] rfl ⟨rfl, rfl, trivial⟩
      refine then_n ?_
      exact ⟨decide ((cmp_Or_int [(cmp_Compare_int r2.Month r1.Month), (cmp_Compare_int r2.Day r1.Day)]) < 0), h, S.nf [] rfl ⟨rfl, rfl, trivial⟩⟩
    · replace h := iteF h hb1
      refine d_region [] ([]) Tryd.mixed S rfl (by kernel_rfl) ?_; clear S; intro w18 hk17 hsel S
      refine d_rest [0, 1, 2, 3, 4, 5, 6, 7, 8, 9, 10, 11, 12, 13, 14, 15, 16] hsel (by kernel_rfl) rfl ?_
      clear hsel
      refine s_lv S rfl (rn_move (S.tm rfl)) rfl ?_; clear S; intro a S
      refine s_lv S rfl (rn_eql (S.tm rfl) rfl) rfl ?_; clear S; intro a S
      refine s_lv S rfl (rn_move (S.tm rfl)) rfl ?_; clear S; intro a S
      refine s_skip S rfl rfl rfl rfl (by rw [hb1]; rfl) rfl ?_ rfl; clear S; intro a S
      refine s_skip S rfl rfl rfl rfl (by rw [hb1]; rfl) rfl ?_ rfl; clear S; intro a S
      refine s_skip S rfl rfl rfl rfl (by rw [hb1]; rfl) rfl ?_ rfl; clear S; intro a S
      refine s_skip S rfl rfl rfl rfl (by rw [hb1]; rfl) rfl ?_ rfl; clear S; intro a S
      refine s_skip S rfl rfl rfl rfl (by rw [hb1]; rfl) rfl ?_ rfl; clear S; intro a S
      refine s_skip S rfl rfl rfl rfl (by rw [hb1]; rfl) rfl ?_ rfl; clear S; intro a S
      refine s_skip S rfl rfl rfl rfl (by rw [hb1]; rfl) rfl ?_ rfl; clear S; intro a S
      refine s_skip S rfl rfl rfl rfl (by rw [hb1]; rfl) rfl ?_ rfl; clear S; intro a S
      refine s_skip S rfl rfl rfl rfl (by rw [hb1]; rfl) rfl ?_ rfl; clear S; intro a S
      refine s_skip S rfl rfl rfl rfl (by rw [hb1]; rfl) rfl ?_ rfl; clear S; intro a S
      refine s_skip S rfl rfl rfl rfl (by rw [hb1]; rfl) rfl ?_ rfl; clear S; intro a S
      refine s_skip S rfl rfl rfl rfl (by rw [hb1]; rfl) rfl ?_ rfl; clear S; intro a S
      refine s_skip S rfl rfl rfl rfl (by rw [hb1]; rfl) rfl ?_ rfl; clear S; intro a S
      refine s_lv S rfl (rn_pick_c hb1 (S.tm rfl) rfl) rfl ?_; clear S; intro a S
      refine s_done ?_
      replace S := S.nf (L' := []) (K' := [(9, .int .i64 (W (r2.Year - r1.Year))), (36, .bool false)]) [false, false] rfl ⟨rfl, rfl, trivial⟩
      refine then_n ?_
      exact ⟨false, h, S.nf [] rfl ⟨rfl, rfl, trivial⟩⟩
  clear S h; rintro a w8 ⟨x1, h, S⟩; rw [hj1] at h; clear hj1 j1
  refine then_n ?_
  obtain ⟨j2, hj2, h⟩ := joinE h
  refine f_join (fun a w' => ∃ x2 : Int, j2 x2 = some r ∧ Sx w [] nov [] [(9, .int .i64 x2)] 40 a w') ?_ ?_
  · refine f_cond (S.tm rfl) (fun hb2 => ?_) (fun hb2 => ?_)
    · replace h := iteT h hb2
      refine f_region ?_
      refine lv S (rn_move (S.tm rfl)) rfl ?_; clear S; intro a S
      refine lv S (rn_sub (S.tm rfl) rfl) rfl ?_; clear S; intro a S
      refine lv S (rn_assign (S.tm rfl)) rfl ?_; clear S; intro a S
      refine l_done ?_
      replace S := S.nf (L' := []) (K' := [(9, .int .i64 (W ((W (r2.Year - r1.Year)) - 1)))]) [] rfl ⟨rfl, trivial⟩
      refine then_n ?_
      exact ⟨W ((W (r2.Year - r1.Year)) - 1), h, S.nf [] rfl ⟨rfl, trivial⟩⟩
    · replace h := iteF h hb2
      refine wp_skip ?_
      refine then_n ?_
      exact ⟨W (r2.Year - r1.Year), h, S.nf [] rfl ⟨rfl, trivial⟩⟩
  clear S h; rintro a w19 ⟨x2, h, S⟩; rw [hj2] at h; clear hj2 j2
  refine then_n ?_
  refine f_seq ?_
  refine f_region ?_
  refine lv S (rn_move (S.tm rfl)) rfl ?_; clear S; intro a S
  refine lv S (rn_assign (S.tm rfl)) rfl ?_; clear S; intro a S
  refine l_done ?_
  replace S := S.nf (L' := []) (K' := [(6, .int .i64 x2)]) [] rfl ⟨rfl, trivial⟩
  refine then_n ?_
  refine wp_ret ?_
  obtain rfl := Option.some.inj h
  exact f_ret S Tryd.results40 rfl rfl
theorem swimmer_Age_ok (w : World) (p_s : GSwimmer) (p_day : Int) (p_way : Int) (r : Int × Int) (h : swimmer_Age p_s p_day p_way = some r) :
    Calls Tryd.prog 18 [.agg (GSwimmer.enc p_s).toArray, .int .i64 p_day, .int .i64 p_way].toArray w (Ret w [] fun τ v w' => v = .tuple #[.int .i64 r.1, .int .i64 r.2]) := by
  refine f_enter [] [] Tryd.func18 rfl Tryd.ntmps18 rfl (by simp) (by simp [fps]) (by simp [fps]) fun a S => ?_
  unfold swimmer_Age at h
  replace S := S.nf (L' := []) (K' := [(0, .agg (GSwimmer.enc p_s).toArray), (1, .int .i64 p_day), (2, .int .i64 p_way)]) [] rfl ⟨rfl, rfl, rfl, trivial⟩
  refine f_seq ?_
  refine f_region ?_
  refine l_box S (S.tm rfl) (cs := [.string p_s.Key, .int .i64 p_s.Sex, .int .i64 p_s.Born]) rfl rfl ?_; clear S; intro a w1 b1 hz1 hk1 S
  refine lv S (rn_assign rfl) rfl ?_; clear S; intro a S
  refine lv S (rn_assign rfl) rfl ?_; clear S; intro a S
  refine l_done ?_
  replace S := S.nf (L' := [.blk b1 [.string p_s.Key, .int .i64 p_s.Sex, .int .i64 p_s.Born] 43]) (K' := [(1, .int .i64 p_day), (2, .int .i64 p_way), (3, .pointer (some ⟨b1, 0, none⟩))]) [true] rfl ⟨rfl, rfl, rfl, trivial⟩
  refine then_n ?_
  refine f_seq ?_
  refine f_seq ?_
  refine f_region ?_
  refine lv S (rn_ldA Tryd.isAgg43 Tryd.sizeOf43 (off := 0) (o := 0) (part := [.string p_s.Key, .int .i64 p_s.Sex, .int .i64 p_s.Born]) rfl rfl (S.tm rfl) (S.cellsAt (i := 0) rfl)) rfl ?_; clear S; intro a S
  refine lv S (rn_move (S.tm rfl)) rfl ?_; clear S; intro a S
  refine lv S (rn_move (S.tm rfl)) rfl ?_; clear S; intro a S
  obtain ⟨r1, hr1, h⟩ := bindE h
  refine l_enter S (fun _ => run_call (vs := [.agg (GSwimmer.enc p_s).toArray, .int .i64 p_day, .int .i64 p_way]) ⟨(S.tm rfl), (S.tm rfl), (S.tm rfl), trivial⟩ Tryd.call39) (swimmer_checkAge_ok _ p_s p_day p_way _ hr1) rfl ?_; clear S; intro v1 a w2 hv1 hk2 hn1 S
  subst hv1
  refine lv S (rn_assign (S.tm rfl)) rfl ?_; clear S; intro a S
  refine l_done ?_
  replace S := S.nf (L' := [.blk b1 [.string p_s.Key, .int .i64 p_s.Sex, .int .i64 p_s.Born] 43]) (K' := [(1, .int .i64 p_day), (2, .int .i64 p_way), (3, .pointer (some ⟨b1, 0, none⟩)), (8, .int .i64 r1)]) [true] rfl ⟨rfl, rfl, rfl, rfl, trivial⟩
  refine then_n ?_
  refine f_seq ?_
  refine f_region ?_
  refine lv S (rn_move (S.tm rfl)) rfl ?_; clear S; intro a S
  refine lv S (rn_neq (S.tm rfl) rfl) rfl ?_; clear S; intro a S
  refine l_done ?_
  replace S := S.nf (L' := [.blk b1 [.string p_s.Key, .int .i64 p_s.Sex, .int .i64 p_s.Born] 43]) (K' := [(1, .int .i64 p_day), (2, .int .i64 p_way), (3, .pointer (some ⟨b1, 0, none⟩)), (8, .int .i64 r1), (14, .bool (!decide (r1 = 0)))]) [true] rfl ⟨rfl, rfl, rfl, rfl, rfl, trivial⟩
  refine then_n ?_
  refine f_cond (S.tm rfl) (fun hb1 => ?_) (fun hb1 => ?_)
  · replace h := iteT h hb1
    refine f_seq ?_
    refine f_region ?_
    refine lv S (rn_move (S.tm rfl)) rfl ?_; clear S; intro a S
    refine lv S (rn_assign rfl) rfl ?_; clear S; intro a S
    refine lv S (rn_assign (S.tm rfl)) rfl ?_; clear S; intro a S
    refine l_done ?_
    replace S := S.nf (L' := []) (K' := [(6, .int .i64 0), (7, .int .i64 r1)]) [false] rfl ⟨rfl, rfl, trivial⟩
    refine then_n ?_
    refine wp_ret ?_
    refine then_r ?_
    obtain rfl := Option.some.inj h
    exact f_ret2 S Tryd.results18 rfl rfl rfl
  · replace h := iteF h hb1
    refine wp_skip ?_
    refine then_n ?_
    refine f_seq ?_
    refine f_region ?_
    refine lv S (rn_ldA Tryd.isAgg43 Tryd.sizeOf43 (off := 0) (o := 0) (part := [.string p_s.Key, .int .i64 p_s.Sex, .int .i64 p_s.Born]) rfl rfl (S.tm rfl) (S.cellsAt (i := 0) rfl)) rfl ?_; clear S; intro a S
    refine lv S (rn_move (S.tm rfl)) rfl ?_; clear S; intro a S
    refine lv S (rn_move (S.tm rfl)) rfl ?_; clear S; intro a S
    obtain ⟨r2, hr2, h⟩ := bindE h
    refine l_enter S (fun _ => run_call (vs := [.agg (GSwimmer.enc p_s).toArray, .int .i64 p_day, .int .i64 p_way]) ⟨(S.tm rfl), (S.tm rfl), (S.tm rfl), trivial⟩ Tryd.call40) (swimmer_age_ok _ p_s p_day p_way _ hr2) rfl ?_; clear S; intro v2 a w3 hv2 hk3 hn2 S
    subst hv2
    refine lv S (rn_assign (S.tm rfl)) rfl ?_; clear S; intro a S
    refine lv S (rn_assign rfl) rfl ?_; clear S; intro a S
    refine l_done ?_
    replace S := S.nf (L' := []) (K' := [(6, .int .i64 r2), (7, .int .i64 0)]) [false] rfl ⟨rfl, rfl, trivial⟩
    refine then_n ?_
    refine wp_ret ?_
    obtain rfl := Option.some.inj h
    exact f_ret2 S Tryd.results18 rfl rfl rfl
theorem tumbref2_AgeFault_ok (w : World) (p_s : GSwimmer) (p_day : Int) (p_way : Int) (r : Int) (h : tumbref2_AgeFault p_s p_day p_way = some r) :
    Calls Tryd.prog 19 [.agg (GSwimmer.enc p_s).toArray, .int .i64 p_day, .int .i64 p_way].toArray w (Ret w [] fun τ v w' => v = .int .i64 r) := by
  refine f_enter [] [] Tryd.func19 rfl Tryd.ntmps19 rfl (by simp) (by simp [fps]) (by simp [fps]) fun a S => ?_
  unfold tumbref2_AgeFault at h
  replace S := S.nf (L' := []) (K' := [(0, .agg (GSwimmer.enc p_s).toArray), (1, .int .i64 p_day), (2, .int .i64 p_way)]) [] rfl ⟨rfl, rfl, rfl, trivial⟩
  refine f_seq ?_
  refine f_region ?_
  refine l_box S (S.tm rfl) (cs := [.string p_s.Key, .int .i64 p_s.Sex, .int .i64 p_s.Born]) rfl rfl ?_; clear S; intro a w1 b1 hz1 hk1 S
  refine lv S (rn_assign rfl) rfl ?_; clear S; intro a S
  refine l_done ?_
  replace S := S.nf (L' := [.blk b1 [.string p_s.Key, .int .i64 p_s.Sex, .int .i64 p_s.Born] 43]) (K' := [(1, .int .i64 p_day), (2, .int .i64 p_way), (3, .pointer (some ⟨b1, 0, none⟩))]) [true] rfl ⟨rfl, rfl, rfl, trivial⟩
  refine then_n ?_
  refine f_seq ?_
  refine f_seq ?_
  refine f_region ?_
  refine lv S (rn_ldA Tryd.isAgg43 Tryd.sizeOf43 (off := 0) (o := 0) (part := [.string p_s.Key, .int .i64 p_s.Sex, .int .i64 p_s.Born]) rfl rfl (S.tm rfl) (S.cellsAt (i := 0) rfl)) rfl ?_; clear S; intro a S
  refine l_buildSlice S Tryd.underlying30 Tryd.sizeOf43 Tryd.zeroValue43 rfl rfl (pv := [(0, .agg #[.string p_s.Key, .int .i64 p_s.Sex, .int .i64 p_s.Born])]) ⟨rfl, (S.tm rfl), trivial⟩ (cs := [.string p_s.Key, .int .i64 p_s.Sex, .int .i64 p_s.Born]) (by kernel_rfl) rfl ?_; clear S; intro a w2 b2 hz2 hk2 S
  obtain ⟨r1, hr1, h⟩ := bindE h
  refine l_enter S (fun _ => run_call (vs := [.slice (some ⟨b2, 0, none⟩) 1 1]) ⟨(S.tm rfl), trivial⟩ Tryd.call14) (tumbref2_SwimmersFault_ok _ (.slice (some ⟨b2, 0, none⟩) 1 1) [p_s] (lit_slcT GSwimmer.enc_ok S (i := 0) rfl rfl rfl rfl ((ne_nil (e' := .blk b2 [.string p_s.Key, .int .i64 p_s.Sex, .int .i64 p_s.Born] 43)) _ rfl)) _ hr1) rfl ?_; clear S; intro v1 a w3 hv1 hk3 hn1 S
  subst hv1
  refine lv S (rn_assign (S.tm rfl)) rfl ?_; clear S; intro a S
  refine l_done ?_
  replace S := S.nf (L' := [.blk b1 [.string p_s.Key, .int .i64 p_s.Sex, .int .i64 p_s.Born] 43]) (K' := [(1, .int .i64 p_day), (2, .int .i64 p_way), (3, .pointer (some ⟨b1, 0, none⟩)), (7, .int .i64 r1)]) [false, true] rfl ⟨rfl, rfl, rfl, rfl, trivial⟩
  refine then_n ?_
  refine f_seq ?_
  refine f_region ?_
  refine lv S (rn_move (S.tm rfl)) rfl ?_; clear S; intro a S
  refine lv S (rn_neq (S.tm rfl) rfl) rfl ?_; clear S; intro a S
  refine l_done ?_
  replace S := S.nf (L' := [.blk b1 [.string p_s.Key, .int .i64 p_s.Sex, .int .i64 p_s.Born] 43]) (K' := [(1, .int .i64 p_day), (2, .int .i64 p_way), (3, .pointer (some ⟨b1, 0, none⟩)), (7, .int .i64 r1), (12, .bool (!decide (r1 = 0)))]) [true] rfl ⟨rfl, rfl, rfl, rfl, rfl, trivial⟩
  refine then_n ?_
  refine f_cond (S.tm rfl) (fun hb1 => ?_) (fun hb1 => ?_)
  · replace h := iteT h hb1
    refine f_seq ?_
    refine f_region ?_
    refine lv S (rn_move (S.tm rfl)) rfl ?_; clear S; intro a S
    refine lv S (rn_assign (S.tm rfl)) rfl ?_; clear S; intro a S
    refine l_done ?_
    replace S := S.nf (L' := []) (K' := [(6, .int .i64 r1)]) [false] rfl ⟨rfl, trivial⟩
    refine then_n ?_
    refine wp_ret ?_
    refine then_r ?_
    obtain rfl := Option.some.inj h
    exact f_ret S Tryd.results19 rfl rfl
  · replace h := iteF h hb1
    refine wp_skip ?_
    refine then_n ?_
    refine f_seq ?_
    refine wp_block ?_
    refine f_seq ?_
    refine f_region ?_
    refine lv S (rn_move (S.tm rfl)) rfl ?_; clear S; intro a S
    refine lv S (rn_fld fa_43_2 (S.tm rfl)) rfl ?_; clear S; intro a S
    refine lv S (rn_load Tryd.isAgg3 (S.tm rfl) (S.cell (i := 0) rfl rfl)) rfl ?_; clear S; intro a S
    refine l_enter S (fun _ => run_call (vs := [.int .i64 p_day, .int .i64 p_s.Born, .int .i64 4000]) ⟨(S.tm rfl), (S.tm rfl), rfl, trivial⟩ Tryd.call31) (tumbref2_in_ok _ p_day p_s.Born 4000 _ rfl) rfl ?_; clear S; intro v2 a w4 hv2 hk4 hn2 S
    subst hv2
    refine lv S (rn_not (S.tm rfl)) rfl ?_; clear S; intro a S
    refine lv S (rn_assign (S.tm rfl)) rfl ?_; clear S; intro a S
    refine l_done ?_
    replace S := S.nf (L' := []) (K' := [(2, .int .i64 p_way), (14, .bool (!(tumbref2_in p_day p_s.Born 4000)))]) [false] rfl ⟨rfl, rfl, trivial⟩
    refine then_n ?_
    refine f_cond (S.tm rfl) (fun hb2 => ?_) (fun hb2 => ?_)
    · replace h := iteT h hb2
      refine f_seq ?_
      refine f_region ?_
      refine lv S (rn_assign rfl) rfl ?_; clear S; intro a S
      refine l_done ?_
      replace S := S.nf (L' := []) (K' := [(6, .int .i64 1)]) [] rfl ⟨rfl, trivial⟩
      refine then_n ?_
      refine wp_ret ?_
      refine blk_r ?_
      refine then_r ?_
      obtain rfl := Option.some.inj h
      exact f_ret S Tryd.results19 rfl rfl
    · replace h := iteF h hb2
      refine f_seq ?_
      refine f_region ?_
      refine lv S (rn_move (S.tm rfl)) rfl ?_; clear S; intro a S
      refine l_enter S (fun _ => run_call (vs := [.int .i64 p_way, .int .i64 1, .int .i64 2]) ⟨(S.tm rfl), rfl, rfl, trivial⟩ Tryd.call31) (tumbref2_in_ok _ p_way 1 2 _ rfl) rfl ?_; clear S; intro v3 a w5 hv3 hk5 hn3 S
      subst hv3
      refine lv S (rn_not (S.tm rfl)) rfl ?_; clear S; intro a S
      refine lv S (rn_assign (S.tm rfl)) rfl ?_; clear S; intro a S
      refine l_done ?_
      replace S := S.nf (L' := []) (K' := [(20, .bool (!(tumbref2_in p_way 1 2)))]) [] rfl ⟨rfl, trivial⟩
      refine then_n ?_
      refine f_cond (S.tm rfl) (fun hb3 => ?_) (fun hb3 => ?_)
      · replace h := iteT h hb3
        refine f_seq ?_
        refine f_region ?_
        refine lv S (rn_assign rfl) rfl ?_; clear S; intro a S
        refine l_done ?_
        replace S := S.nf (L' := []) (K' := [(6, .int .i64 4)]) [] rfl ⟨rfl, trivial⟩
        refine then_n ?_
        refine wp_ret ?_
        refine blk_r ?_
        refine then_r ?_
        obtain rfl := Option.some.inj h
        exact f_ret S Tryd.results19 rfl rfl
      · replace h := iteF h hb3
        refine wp_skip ?_
        refine blk_n ?_
        refine then_n ?_
        refine f_seq ?_
        refine f_region ?_
        refine lv S (rn_assign rfl) rfl ?_; clear S; intro a S
        refine l_done ?_
        replace S := S.nf (L' := []) (K' := [(6, .int .i64 0)]) [] rfl ⟨rfl, trivial⟩
        refine then_n ?_
        refine wp_ret ?_
        obtain rfl := Option.some.inj h
        exact f_ret S Tryd.results19 rfl rfl
theorem tumbref2_AgeFor_ok (w : World) (p_s : GSwimmer) (p_day : Int) (p_way : Int) (r : Int) (h : tumbref2_AgeFor p_s p_day p_way = some r) :
    Calls Tryd.prog 20 [.agg (GSwimmer.enc p_s).toArray, .int .i64 p_day, .int .i64 p_way].toArray w (Ret w [] fun τ v w' => v = .int .i64 r) := by
  refine f_enter [] [] Tryd.func20 rfl Tryd.ntmps20 rfl (by simp) (by simp [fps]) (by simp [fps]) fun a S => ?_
  unfold tumbref2_AgeFor at h
  replace S := S.nf (L' := []) (K' := [(0, .agg (GSwimmer.enc p_s).toArray), (1, .int .i64 p_day), (2, .int .i64 p_way)]) [] rfl ⟨rfl, rfl, rfl, trivial⟩
  refine f_seq ?_
  refine f_region ?_
  refine l_box S (S.tm rfl) (cs := [.string p_s.Key, .int .i64 p_s.Sex, .int .i64 p_s.Born]) rfl rfl ?_; clear S; intro a w1 b1 hz1 hk1 S
  refine lv S (rn_assign rfl) rfl ?_; clear S; intro a S
  refine l_done ?_
  replace S := S.nf (L' := [.blk b1 [.string p_s.Key, .int .i64 p_s.Sex, .int .i64 p_s.Born] 43]) (K' := [(1, .int .i64 p_day), (2, .int .i64 p_way), (3, .pointer (some ⟨b1, 0, none⟩))]) [true] rfl ⟨rfl, rfl, rfl, trivial⟩
  refine then_n ?_
  refine f_seq ?_
  refine f_region ?_
  refine lv S (rn_fld fa_43_2 (S.tm rfl)) rfl ?_; clear S; intro a S
  refine lv S (rn_load Tryd.isAgg3 (S.tm rfl) (S.cell (i := 0) rfl rfl)) rfl ?_; clear S; intro a S
  obtain ⟨r1, hr1, h⟩ := bindE h
  refine l_enter S (fun _ => run_call (vs := [.int .i64 p_s.Born]) ⟨(S.tm rfl), trivial⟩ Tryd.call15) (tumbref2_DateFor_ok _ p_s.Born _ hr1) rfl ?_; clear S; intro v1 a w2 hv1 hk2 hn1 S
  subst hv1
  refine lv S (rn_move (S.tm rfl)) rfl ?_; clear S; intro a S
  obtain ⟨r2, hr2, h⟩ := bindE h
  refine l_enter S (fun _ => run_call (vs := [.int .i64 p_day]) ⟨(S.tm rfl), trivial⟩ Tryd.call15) (tumbref2_DateFor_ok _ p_day _ hr2) rfl ?_; clear S; intro v2 a w3 hv2 hk3 hn2 S
  subst hv2
  refine l_alloc S Tryd.zeroValue28 (cs := [.int .i64 0, .int .i64 0, .int .i64 0]) rfl rfl ?_; clear S; intro a w4 b2 hz2 hk4 S
  refine l_alloc S Tryd.zeroValue28 (cs := [.int .i64 0, .int .i64 0, .int .i64 0]) rfl rfl ?_; clear S; intro a w5 b3 hz3 hk5 S
  refine l_store S (S.tm rfl) (S.tm rfl) (i := 1) (off := 0) rfl Tryd.sizeOf28 (vs := [.int .i64 r1.Year, .int .i64 r1.Month, .int .i64 r1.Day]) rfl rfl rfl rfl ?_; clear S; intro w6 hk6 S
  refine l_store S (S.tm rfl) (S.tm rfl) (i := 0) (off := 0) rfl Tryd.sizeOf28 (vs := [.int .i64 r2.Year, .int .i64 r2.Month, .int .i64 r2.Day]) rfl rfl rfl rfl ?_; clear S; intro w7 hk7 S
  refine l_done ?_
  replace S := S.nf (L' := [.blk b3 [.int .i64 r2.Year, .int .i64 r2.Month, .int .i64 r2.Day] 28, .blk b2 [.int .i64 r1.Year, .int .i64 r1.Month, .int .i64 r1.Day] 28]) (K' := [(2, .int .i64 p_way), (7, .pointer (some ⟨b2, 0, none⟩)), (8, .pointer (some ⟨b3, 0, none⟩))]) [true, true, false] rfl ⟨rfl, rfl, rfl, trivial⟩
  refine then_n ?_
  refine f_seq ?_
  refine f_seq ?_
  refine f_region ?_
  refine lv S (rn_move (S.tm rfl)) rfl ?_; clear S; intro a S
  refine lv S (rn_eql (S.tm rfl) rfl) rfl ?_; clear S; intro a S
  refine l_done ?_
  replace S := S.nf (L' := [.blk b3 [.int .i64 r2.Year, .int .i64 r2.Month, .int .i64 r2.Day] 28, .blk b2 [.int .i64 r1.Year, .int .i64 r1.Month, .int .i64 r1.Day] 28]) (K' := [(7, .pointer (some ⟨b2, 0, none⟩)), (8, .pointer (some ⟨b3, 0, none⟩)), (17, .bool (decide (p_way = 2)))]) [true, true] rfl ⟨rfl, rfl, rfl, trivial⟩
  refine then_n ?_
  refine f_cond (S.tm rfl) (fun hb1 => ?_) (fun hb1 => ?_)
  · replace h := iteT h hb1
    refine f_seq ?_
    refine f_region ?_
    refine lv S (rn_fld fa_28_0 (S.tm rfl)) rfl ?_; clear S; intro a S
    refine lv S (rn_load Tryd.isAgg3 (S.tm rfl) (S.cell (i := 0) rfl rfl)) rfl ?_; clear S; intro a S
    refine lv S (rn_fld fa_28_0 (S.tm rfl)) rfl ?_; clear S; intro a S
    refine lv S (rn_load Tryd.isAgg3 (S.tm rfl) (S.cell (i := 1) rfl rfl)) rfl ?_; clear S; intro a S
    refine lv S (rn_sub (S.tm rfl) (S.tm rfl)) rfl ?_; clear S; intro a S
    refine lv S (rn_assign (S.tm rfl)) rfl ?_; clear S; intro a S
    refine l_done ?_
    replace S := S.nf (L' := []) (K' := [(6, .int .i64 (W (r2.Year - r1.Year)))]) [false, false] rfl ⟨rfl, trivial⟩
    refine then_n ?_
    refine wp_ret ?_
    refine then_r ?_
    obtain rfl := Option.some.inj h
    exact f_ret S Tryd.results20 rfl rfl
  · replace h := iteF h hb1
    refine wp_skip ?_
    refine then_n ?_
    refine f_seq ?_
    refine f_region ?_
    refine lv S (rn_assign rfl) rfl ?_; clear S; intro a S
    refine l_done ?_
    replace S := S.nf (L' := [.blk b3 [.int .i64 r2.Year, .int .i64 r2.Month, .int .i64 r2.Day] 28, .blk b2 [.int .i64 r1.Year, .int .i64 r1.Month, .int .i64 r1.Day] 28]) (K' := [(7, .pointer (some ⟨b2, 0, none⟩)), (8, .pointer (some ⟨b3, 0, none⟩)), (9, .int .i64 0)]) [true, true] rfl ⟨rfl, rfl, rfl, trivial⟩
    refine then_n ?_
    refine f_seq ?_
    refine f_seq ?_
    refine f_region ?_
    refine lv S (rn_fld fa_28_0 (S.tm rfl)) rfl ?_; clear S; intro a S
    refine lv S (rn_load Tryd.isAgg3 (S.tm rfl) (S.cell (i := 1) rfl rfl)) rfl ?_; clear S; intro a S
    refine lv S (rn_add (S.tm rfl) rfl) rfl ?_; clear S; intro a S
    refine lv S (rn_assign (S.tm rfl)) rfl ?_; clear S; intro a S
    refine l_done ?_
    replace S := S.nf (L' := [.blk b3 [.int .i64 r2.Year, .int .i64 r2.Month, .int .i64 r2.Day] 28, .blk b2 [.int .i64 r1.Year, .int .i64 r1.Month, .int .i64 r1.Day] 28]) (K' := [(7, .pointer (some ⟨b2, 0, none⟩)), (8, .pointer (some ⟨b3, 0, none⟩)), (9, .int .i64 0), (10, .int .i64 (W (r1.Year + 1)))]) [true, true] rfl ⟨rfl, rfl, rfl, rfl, trivial⟩
    refine then_n ?_
    obtain ⟨j1, hj1, h⟩ := joinE h
    refine f_join (fun a w' => ∃ x1 : Int, j1 x1 = some r ∧ Sx w [] nov [.blk b3 [.int .i64 r2.Year, .int .i64 r2.Month, .int .i64 r2.Day] 28, .blk b2 [.int .i64 r1.Year, .int .i64 r1.Month, .int .i64 r1.Day] 28] [(9, .int .i64 x1)] 40 a w') ?_ ?_
    · refine wp_block ?_
      refine f_loop (fun (m1 : Nat) a w' => ∃ x1 : Int, ∃ x2 : Int, tumbref2_AgeFor_l1 r1 r2 j1 m1 x1 x2 = some r ∧ Sx w [] nov [.blk b3 [.int .i64 r2.Year, .int .i64 r2.Month, .int .i64 r2.Day] 28, .blk b2 [.int .i64 r1.Year, .int .i64 r1.Month, .int .i64 r1.Day] 28] [(7, .pointer (some ⟨b2, 0, none⟩)), (8, .pointer (some ⟨b3, 0, none⟩)), (9, .int .i64 x1), (10, .int .i64 x2)] 40 a w') id 4611686018427387904 ⟨0, W (r1.Year + 1), h, S.nf [true, true] rfl ⟨rfl, rfl, rfl, rfl, trivial⟩⟩ ?_
      clear S h; rintro m1 a w8 ⟨x1, x2, h, S⟩
      cases m1 with
      | zero => rw [tumbref2_AgeFor_l1.eq_1] at h; cases h
      | succ m1 =>
        rw [tumbref2_AgeFor_l1.eq_2] at h
        refine f_seq ?_
        refine f_seq ?_
        refine f_region ?_
        refine lv S (rn_move (S.tm rfl)) rfl ?_; clear S; intro a S
        refine lv S (rn_fld fa_28_1 (S.tm rfl)) rfl ?_; clear S; intro a S
        refine lv S (rn_load Tryd.isAgg3 (S.tm rfl) (S.cell (i := 1) rfl rfl)) rfl ?_; clear S; intro a S
        refine lv S (rn_fld fa_28_2 (S.tm rfl)) rfl ?_; clear S; intro a S
        refine lv S (rn_load Tryd.isAgg3 (S.tm rfl) (S.cell (i := 1) rfl rfl)) rfl ?_; clear S; intro a S
        refine lv S (rn_bld bt_28 (pv := [(0, .int .i64 x2), (1, .int .i64 r1.Month), (2, .int .i64 r1.Day)]) ⟨rfl, (S.tm rfl), rfl, (S.tm rfl), rfl, (S.tm rfl), trivial⟩ (cs := [.int .i64 x2, .int .i64 r1.Month, .int .i64 r1.Day]) (by kernel_rfl)) rfl ?_; clear S; intro a S
        refine lv S (rn_ldA Tryd.isAgg28 Tryd.sizeOf28 (off := 0) (o := 0) (part := [.int .i64 r2.Year, .int .i64 r2.Month, .int .i64 r2.Day]) rfl rfl (S.tm rfl) (S.cellsAt (i := 0) rfl)) rfl ?_; clear S; intro a S
        obtain ⟨r3, hr3, h⟩ := bindE h
        refine l_enter S (fun _ => run_call (vs := [.agg (GDate.enc (GDate.mk x2 r1.Month r1.Day)).toArray, .agg (GDate.enc r2).toArray]) ⟨(S.tm rfl), (S.tm rfl), trivial⟩ Tryd.call33) (tumbref2_dateOrder_ok _ (GDate.mk x2 r1.Month r1.Day) r2 _ hr3) rfl ?_; clear S; intro v3 a w10 hv3 hk8 hn3 S
        subst hv3
        refine lv S (rn_leq (S.tm rfl) rfl) rfl ?_; clear S; intro a S
        refine l_done ?_
        replace S := S.nf (L' := [.blk b3 [.int .i64 r2.Year, .int .i64 r2.Month, .int .i64 r2.Day] 28, .blk b2 [.int .i64 r1.Year, .int .i64 r1.Month, .int .i64 r1.Day] 28]) (K' := [(7, .pointer (some ⟨b2, 0, none⟩)), (8, .pointer (some ⟨b3, 0, none⟩)), (9, .int .i64 x1), (10, .int .i64 x2), (34, .bool (decide (r3 ≤ 0)))]) [true, true] rfl ⟨rfl, rfl, rfl, rfl, rfl, trivial⟩
        refine then_n ?_
        refine f_cond (S.tm rfl) (fun hb2 => ?_) (fun hb2 => ?_)
        · replace h := iteT h hb2
          refine wp_skip ?_
          refine then_n ?_
          refine f_seq ?_
          refine wp_block ?_
          refine f_region ?_
          refine lv S (rn_move (S.tm rfl)) rfl ?_; clear S; intro a S
          refine lv S (rn_add (S.tm rfl) rfl) rfl ?_; clear S; intro a S
          refine lv S (rn_assign (S.tm rfl)) rfl ?_; clear S; intro a S
          refine l_done ?_
          replace S := S.nf (L' := [.blk b3 [.int .i64 r2.Year, .int .i64 r2.Month, .int .i64 r2.Day] 28, .blk b2 [.int .i64 r1.Year, .int .i64 r1.Month, .int .i64 r1.Day] 28]) (K' := [(7, .pointer (some ⟨b2, 0, none⟩)), (8, .pointer (some ⟨b3, 0, none⟩)), (9, .int .i64 (W (x1 + 1))), (10, .int .i64 x2)]) [true, true] rfl ⟨rfl, rfl, rfl, rfl, trivial⟩
          refine blk_n ?_
          refine then_n ?_
          refine f_region ?_
          refine lv S (rn_move (S.tm rfl)) rfl ?_; clear S; intro a S
          refine lv S (rn_add (S.tm rfl) rfl) rfl ?_; clear S; intro a S
          refine lv S (rn_assign (S.tm rfl)) rfl ?_; clear S; intro a S
          refine l_done ?_
          replace S := S.nf (L' := [.blk b3 [.int .i64 r2.Year, .int .i64 r2.Month, .int .i64 r2.Day] 28, .blk b2 [.int .i64 r1.Year, .int .i64 r1.Month, .int .i64 r1.Day] 28]) (K' := [(7, .pointer (some ⟨b2, 0, none⟩)), (8, .pointer (some ⟨b3, 0, none⟩)), (9, .int .i64 (W (x1 + 1))), (10, .int .i64 (W (x2 + 1)))]) [true, true] rfl ⟨rfl, rfl, rfl, rfl, trivial⟩
          refine then_n ?_
          exact ⟨m1, ⟨W (x1 + 1), W (x2 + 1), h, S.nf [true, true] rfl ⟨rfl, rfl, rfl, rfl, trivial⟩⟩, Nat.lt_succ_self _⟩
        · replace h := iteF h hb2
          refine wp_exit ?_
          refine then_x ?_
          refine then_x ?_
          refine x_same ?_
          refine then_n ?_
          exact ⟨x1, h, S.nf [true, true] rfl ⟨rfl, trivial⟩⟩
    clear S h; rintro a w9 ⟨x1, h, S⟩; rw [hj1] at h; clear hj1 j1
    refine then_n ?_
    refine f_seq ?_
    refine f_region ?_
    refine lv S (rn_move (S.tm rfl)) rfl ?_; clear S; intro a S
    refine lv S (rn_assign (S.tm rfl)) rfl ?_; clear S; intro a S
    refine l_done ?_
    replace S := S.nf (L' := []) (K' := [(6, .int .i64 x1)]) [false, false] rfl ⟨rfl, trivial⟩
    refine then_n ?_
    refine wp_ret ?_
    obtain rfl := Option.some.inj h
    exact f_ret S Tryd.results20 rfl rfl
theorem tumblaw2_dated_ok (w : World) (r : Bool) (h : tumblaw2_dated = some r) :
    Calls Tryd.prog 21 [].toArray w (Ret w [] fun τ v w' => v = .bool r) := by
  refine f_enter [] [] Tryd.func21 rfl Tryd.ntmps21 rfl (by simp) (by simp [fps]) (by simp [fps]) fun a S => ?_
  unfold tumblaw2_dated at h
  replace S := S.nf (L' := []) (K' := []) [] rfl trivial
  refine f_seq ?_
  refine f_region ?_
  refine lv S (rn_assign rfl) rfl ?_; clear S; intro a S
  refine l_done ?_
  replace S := S.nf (L' := []) (K' := []) [] rfl trivial
  refine then_n ?_
  refine f_seq ?_
  refine f_region ?_
  refine lv S (rn_bld bt_28 (pv := [(0, .int .i64 2024), (1, .int .i64 3), (2, .int .i64 1)]) ⟨rfl, rfl, rfl, rfl, rfl, rfl, trivial⟩ (cs := [.int .i64 2024, .int .i64 3, .int .i64 1]) (by kernel_rfl)) rfl ?_; clear S; intro a S
  obtain ⟨r1, hr1, h⟩ := bindE h
  refine l_enter S (fun _ => run_call (vs := [.agg (GDate.enc (GDate.mk 2024 3 1)).toArray]) ⟨(S.tm rfl), trivial⟩ Tryd.call9) (swimmer_DayOf_ok _ (GDate.mk 2024 3 1) _ hr1) rfl ?_; clear S; intro v1 a w1 hv1 hk1 hn1 S
  subst hv1
  refine lv S (rn_move (S.tm rfl)) rfl ?_; clear S; intro a S
  refine lv S (rn_extract (S.tm rfl) rfl) rfl ?_; clear S; intro a S
  refine lv S (rn_extract (S.tm rfl) rfl) rfl ?_; clear S; intro a S
  refine lv S (rn_assign (S.tm rfl)) rfl ?_; clear S; intro a S
  refine lv S (rn_assign (S.tm rfl)) rfl ?_; clear S; intro a S
  refine l_done ?_
  replace S := S.nf (L' := []) (K' := [(1, .int .i64 r1.1), (2, .int .i64 r1.2)]) [] rfl ⟨rfl, rfl, trivial⟩
  refine then_n ?_
  refine f_seq ?_
  refine f_region ?_
  refine lv S (rn_move (S.tm rfl)) rfl ?_; clear S; intro a S
  refine lv S (rn_eql (S.tm rfl) rfl) rfl ?_; clear S; intro a S
  refine lv S (rn_move (S.tm rfl)) rfl ?_; clear S; intro a S
  refine f_cutm 3 (fun a w' => Keep [] w1 w' ∧ Sx w [] nov [] [(13, .bool ((decide (r1.2 = 0)) && (decide (r1.1 = 60))))] 14 a w') ?_ ?_
  · rcases Bool.eq_false_or_eq_true (decide (r1.2 = 0)) with hb1 | hb1
    · refine l_want S rfl rfl rfl hb1 ?_
      refine lv S (rn_move (S.tm rfl)) rfl ?_; clear S; intro a S
      refine l_want S rfl rfl rfl hb1 ?_
      refine lv S (rn_eql (S.tm rfl) rfl) rfl ?_; clear S; intro a S
      refine lv S (rn_and_t hb1 (S.tm rfl) (S.tm rfl)) rfl ?_; clear S; intro a S
      refine l_done ?_
      refine then_n ?_
      exact ⟨Keep.refl _ _, S.nf [] rfl ⟨rfl, trivial⟩⟩
    · refine l_skip S rfl rfl rfl (by rw [hb1]; rfl) rfl ?_ rfl; clear S; intro a S
      refine l_skip S rfl rfl rfl (by rw [hb1]; rfl) rfl ?_ rfl; clear S; intro a S
      refine lv S (rn_and_f (decide (r1.1 = 60)) hb1 (S.tm rfl) rfl) rfl ?_; clear S; intro a S
      refine l_done ?_
      refine then_n ?_
      exact ⟨Keep.refl _ _, S.nf [] rfl ⟨rfl, trivial⟩⟩
  clear S; rintro a w2 ⟨hk2, S⟩
  refine lv S (rn_assign (S.tm rfl)) rfl ?_; clear S; intro a S
  refine l_done ?_
  replace S := S.nf (L' := []) (K' := [(0, .bool ((decide (r1.2 = 0)) && (decide (r1.1 = 60))))]) [] rfl ⟨rfl, trivial⟩
  refine then_n ?_
  refine wp_ret ?_
  obtain rfl := Option.some.inj h
  exact f_ret S Tryd.results21 rfl rfl
set_option maxHeartbeats 8000000 in
set_option maxRecDepth 20000 in
theorem tumblaw2_DaysAges_ok (w : World) (v_p_l : Value) (p_l : List Int) (hs_p_l : Slc (view w []) 1 v_p_l (p_l.map eInt)) (r : Bool) (h : tumblaw2_DaysAges p_l = some r) :
    Calls Tryd.prog 3 [v_p_l].toArray w (Ret w [] fun τ v w' => v = .bool r) := by
  refine f_enter [] [] Tryd.func3 rfl Tryd.ntmps3 rfl (by simp) (by simp [fps]) (by simp [fps]) fun a S => ?_
  unfold tumblaw2_DaysAges at h
  replace S := S.nf (L' := []) (K' := [(0, v_p_l)]) [] rfl ⟨rfl, trivial⟩
  refine f_seq ?_
  refine f_region ?_
  refine lv S (rn_assign rfl) rfl ?_; clear S; intro a S
  refine l_done ?_
  replace S := S.nf (L' := []) (K' := [(0, v_p_l)]) [] rfl ⟨rfl, trivial⟩
  refine then_n ?_
  refine f_seq ?_
  refine f_region ?_
  refine lv S (rn_move (S.tm rfl)) rfl ?_; clear S; intro a S
  refine lv S (rn_bld bt_25 (pv := [(0, v_p_l)]) ⟨rfl, (S.tm rfl), trivial⟩ (cs := [v_p_l, .int .i64 0]) (by obtain ⟨_, _, hv⟩ := (slc_len hs_p_l); rw [hv]; clear hv; kernel_rfl)) rfl ?_; clear S; intro a S
  refine l_box S (S.tm rfl) (cs := [v_p_l, .int .i64 0]) rfl rfl ?_; clear S; intro a w1 b1 hz1 hk1 S
  refine lv S (rn_assign (S.tm rfl)) rfl ?_; clear S; intro a S
  refine l_done ?_
  replace S := S.nf (L' := [.blk b1 [v_p_l, .int .i64 0] 25]) (K' := [(3, .pointer (some ⟨b1, 0, none⟩))]) [true] rfl ⟨rfl, trivial⟩
  refine then_n ?_
  refine f_seq ?_
  refine f_region ?_
  refine lv S (rn_move (S.tm rfl)) rfl ?_; clear S; intro a S
  obtain ⟨r1, hr1, h⟩ := bindE h
  refine l_enter1 0 S (b := b1) rfl rfl (fun _ => .blk b1 [v_p_l, .int .i64 r1.2] 25) (fun _ => run_call (vs := [.pointer (some ⟨b1, 0, none⟩), .int .i64 (-40001), .int .i64 4001]) ⟨(S.tm rfl), rfl, rfl, trivial⟩ Tryd.call4) (Stream_Range_ok _ b1 v_p_l p_l (hs_p_l.mono (S.le_arg (fp_sub (i := 0) (e := .blk b1 [v_p_l, .int .i64 0] 25) rfl))) 0 (S.holds _ (List.mem_of_getElem? (i := 0) rfl)) (-40001) 4001 _ hr1) rfl (fun _ _ _ h => ⟨h.1, fun _ hc => by cases hc; rfl⟩) ?_; clear S; intro v1 a w2 hv1 hk2 hn1 S
  replace hv1 := hv1.2
  subst hv1
  refine lv S (rn_move (S.tm rfl)) rfl ?_; clear S; intro a S
  obtain ⟨r2, hr2, h⟩ := bindE h
  refine l_enter1 0 S (b := b1) rfl rfl (fun _ => .blk b1 [v_p_l, .int .i64 r2.2] 25) (fun _ => run_call (vs := [.pointer (some ⟨b1, 0, none⟩)]) ⟨(S.tm rfl), trivial⟩ Tryd.call5) (Stream_Day_ok _ b1 v_p_l p_l (hs_p_l.mono (S.le_arg (fp_sub (i := 0) (e := .blk b1 [v_p_l, .int .i64 r1.2] 25) rfl))) r1.2 (S.holds _ (List.mem_of_getElem? (i := 0) rfl)) _ hr2) rfl (fun _ _ _ h => ⟨h.1, fun _ hc => by cases hc; rfl⟩) ?_; clear S; intro v2 a w3 hv2 hk3 hn2 S
  replace hv2 := hv2.2
  subst hv2
  refine lv S (rn_move (S.tm rfl)) rfl ?_; clear S; intro a S
  obtain ⟨r3, hr3, h⟩ := bindE h
  have hz2 := S.keep.size
  refine l_enter1 0 S (b := b1) rfl rfl (fun _ => .blk b1 [v_p_l, .int .i64 r3.2] 25) (fun _ => run_call (vs := [.pointer (some ⟨b1, 0, none⟩)]) ⟨(S.tm rfl), trivial⟩ Tryd.call6) (Stream_Swimmers_ok _ b1 v_p_l p_l (hs_p_l.mono (S.le_arg (fp_sub (i := 0) (e := .blk b1 [v_p_l, .int .i64 r2.2] 25) rfl))) r2.2 (S.holds _ (List.mem_of_getElem? (i := 0) rfl)) _ hr3) rfl (fun _ _ _ h => ⟨h.1, fun _ hc => by cases hc; rfl⟩) ?_; clear S; intro v3 a w4 hv3 hk4 hn3 S
  replace hv3 := hv3.2
  obtain ⟨φ1, hl1, hm1, S⟩ := S.see' hn3 hz2
  have hs1 := hv3.mono hm1
  refine lv S (rn_move (S.tm rfl)) rfl ?_; clear S; intro a S
  refine l_buildSlice S Tryd.underlying22 Tryd.sizeOf3 Tryd.zeroValue3 rfl rfl (pv := [(0, .int .i64 1), (1, .int .i64 2), (2, .int .i64 1), (3, .int .i64 2), (4, .int .i64 0), (5, .int .i64 3)]) ⟨rfl, rfl, rfl, rfl, rfl, rfl, rfl, rfl, rfl, rfl, rfl, rfl, trivial⟩ (cs := [.int .i64 1, .int .i64 2, .int .i64 1, .int .i64 2, .int .i64 0, .int .i64 3]) (by kernel_rfl) rfl ?_; clear S; intro a w5 b2 hz3 hk5 S
  obtain ⟨r4, hr4, h⟩ := bindE h
  refine l_enter1 1 S (b := b1) rfl rfl (fun _ => .blk b1 [v_p_l, .int .i64 r4.2] 25) (fun _ => run_call (vs := [.pointer (some ⟨b1, 0, none⟩), .slice (some ⟨b2, 0, none⟩) 6 6]) ⟨(S.tm rfl), (S.tm rfl), trivial⟩ Tryd.call7) (Stream_Pick_ok _ b1 v_p_l p_l (hs_p_l.mono (S.le_arg (fp_sub (i := 1) (e := .blk b1 [v_p_l, .int .i64 r3.2] 25) rfl))) r3.2 (S.holds _ (List.mem_of_getElem? (i := 1) rfl)) (.slice (some ⟨b2, 0, none⟩) 6 6) [1, 2, 1, 2, 0, 3] (lit_slcT enc_int S (i := 0) rfl rfl rfl rfl ((ne_fp (i := 1) (j := 0) (e := .blk b1 [v_p_l, .int .i64 r3.2] 25) (e' := .blk b2 [.int .i64 1, .int .i64 2, .int .i64 1, .int .i64 2, .int .i64 0, .int .i64 3] 3) S rfl rfl rfl) _ rfl)) _ hr4) rfl (fun _ _ _ h => ⟨h.1, fun _ hc => by cases hc; rfl⟩) ?_; clear S; intro v4 a w6 hv4 hk6 hn4 S
  replace hv4 := hv4.2
  subst hv4
  refine l_alloc S Tryd.zeroValue28 (cs := [.int .i64 0, .int .i64 0, .int .i64 0]) rfl rfl ?_; clear S; intro a w7 b3 hz4 hk7 S
  refine lv S (rn_assign (S.tm rfl)) rfl ?_; clear S; intro a S
  refine l_store S (S.tm rfl) (S.tm rfl) (i := 0) (off := 0) rfl Tryd.sizeOf28 (vs := [.int .i64 r2.1.Year, .int .i64 r2.1.Month, .int .i64 r2.1.Day]) rfl rfl rfl rfl ?_; clear S; intro w8 hk8 S
  refine lv S (rn_assign (S.tm rfl)) rfl ?_; clear S; intro a S
  refine lv S (rn_assign (S.tm rfl)) rfl ?_; clear S; intro a S
  refine l_done ?_
  replace S := S.nf (L' := [.blk b3 [.int .i64 r2.1.Year, .int .i64 r2.1.Month, .int .i64 r2.1.Day] 28, .blk b1 [v_p_l, .int .i64 r4.2] 25]) (K' := [(3, .pointer (some ⟨b1, 0, none⟩)), (4, .int .i64 r1.1), (5, .pointer (some ⟨b3, 0, none⟩)), (6, v3), (7, .int .i64 r4.1)]) [true, false, true] rfl ⟨rfl, rfl, rfl, rfl, rfl, trivial⟩
  refine then_n ?_
  refine f_seq ?_
  refine f_region ?_
  refine lv S (rn_move (S.tm rfl)) rfl ?_; clear S; intro a S
  obtain ⟨r5, hr5, h⟩ := bindE h
  refine l_enter S (fun _ => run_call (vs := [.int .i64 r1.1]) ⟨(S.tm rfl), trivial⟩ Tryd.call8) (swimmer_DateOf_ok _ r1.1 _ hr5) rfl ?_; clear S; intro v5 a w9 hv5 hk9 hn5 S
  subst hv5
  refine lv S (rn_move (S.tm rfl)) rfl ?_; clear S; intro a S
  refine lv S (rn_extract (S.tm rfl) rfl) rfl ?_; clear S; intro a S
  refine lv S (rn_extract (S.tm rfl) rfl) rfl ?_; clear S; intro a S
  refine l_alloc S Tryd.zeroValue28 (cs := [.int .i64 0, .int .i64 0, .int .i64 0]) rfl rfl ?_; clear S; intro a w10 b4 hz5 hk10 S
  refine l_store S (S.tm rfl) (S.tm rfl) (i := 0) (off := 0) rfl Tryd.sizeOf28 (vs := [.int .i64 r5.1.Year, .int .i64 r5.1.Month, .int .i64 r5.1.Day]) rfl rfl rfl rfl ?_; clear S; intro w11 hk11 S
  refine lv S (rn_assign (S.tm rfl)) rfl ?_; clear S; intro a S
  refine l_done ?_
  replace S := S.nf (L' := [.blk b4 [.int .i64 r5.1.Year, .int .i64 r5.1.Month, .int .i64 r5.1.Day] 28, .blk b3 [.int .i64 r2.1.Year, .int .i64 r2.1.Month, .int .i64 r2.1.Day] 28, .blk b1 [v_p_l, .int .i64 r4.2] 25]) (K' := [(3, .pointer (some ⟨b1, 0, none⟩)), (4, .int .i64 r1.1), (5, .pointer (some ⟨b3, 0, none⟩)), (6, v3), (7, .int .i64 r4.1), (8, .pointer (some ⟨b4, 0, none⟩)), (9, .int .i64 r5.2)]) [true, true, true] rfl ⟨rfl, rfl, rfl, rfl, rfl, rfl, rfl, trivial⟩
  refine then_n ?_
  refine f_seq ?_
  refine f_region ?_
  refine lv S (rn_ldA Tryd.isAgg28 Tryd.sizeOf28 (off := 0) (o := 0) (part := [.int .i64 r2.1.Year, .int .i64 r2.1.Month, .int .i64 r2.1.Day]) rfl rfl (S.tm rfl) (S.cellsAt (i := 1) rfl)) rfl ?_; clear S; intro a S
  obtain ⟨r6, hr6, h⟩ := bindE h
  refine l_enter S (fun _ => run_call (vs := [.agg (GDate.enc r2.1).toArray]) ⟨(S.tm rfl), trivial⟩ Tryd.call9) (swimmer_DayOf_ok _ r2.1 _ hr6) rfl ?_; clear S; intro v6 a w12 hv6 hk12 hn6 S
  subst hv6
  refine lv S (rn_move (S.tm rfl)) rfl ?_; clear S; intro a S
  refine lv S (rn_extract (S.tm rfl) rfl) rfl ?_; clear S; intro a S
  refine lv S (rn_extract (S.tm rfl) rfl) rfl ?_; clear S; intro a S
  refine lv S (rn_assign (S.tm rfl)) rfl ?_; clear S; intro a S
  refine lv S (rn_assign (S.tm rfl)) rfl ?_; clear S; intro a S
  refine l_done ?_
  replace S := S.nf (L' := [.blk b4 [.int .i64 r5.1.Year, .int .i64 r5.1.Month, .int .i64 r5.1.Day] 28, .blk b3 [.int .i64 r2.1.Year, .int .i64 r2.1.Month, .int .i64 r2.1.Day] 28, .blk b1 [v_p_l, .int .i64 r4.2] 25]) (K' := [(3, .pointer (some ⟨b1, 0, none⟩)), (4, .int .i64 r1.1), (5, .pointer (some ⟨b3, 0, none⟩)), (6, v3), (7, .int .i64 r4.1), (8, .pointer (some ⟨b4, 0, none⟩)), (9, .int .i64 r5.2), (10, .int .i64 r6.1), (11, .int .i64 r6.2)]) [true, true, true] rfl ⟨rfl, rfl, rfl, rfl, rfl, rfl, rfl, rfl, rfl, trivial⟩
  refine then_n ?_
  refine f_seq ?_
  refine f_region ?_
  refine lv S (rn_ldA Tryd.isAgg28 Tryd.sizeOf28 (off := 0) (o := 0) (part := [.int .i64 r2.1.Year, .int .i64 r2.1.Month, .int .i64 r2.1.Day]) rfl rfl (S.tm rfl) (S.cellsAt (i := 1) rfl)) rfl ?_; clear S; intro a S
  obtain ⟨r7, hr7, h⟩ := bindE h
  refine l_enter S (fun _ => run_call (vs := [.agg (GDate.enc r2.1).toArray]) ⟨(S.tm rfl), trivial⟩ Tryd.call10) (tumbref2_DayFor_ok _ r2.1 _ hr7) rfl ?_; clear S; intro v7 a w13 hv7 hk13 hn7 S
  subst hv7
  refine lv S (rn_move (S.tm rfl)) rfl ?_; clear S; intro a S
  refine lv S (rn_extract (S.tm rfl) rfl) rfl ?_; clear S; intro a S
  refine lv S (rn_extract (S.tm rfl) rfl) rfl ?_; clear S; intro a S
  refine lv S (rn_assign (S.tm rfl)) rfl ?_; clear S; intro a S
  refine lv S (rn_assign (S.tm rfl)) rfl ?_; clear S; intro a S
  refine l_done ?_
  replace S := S.nf (L' := [.blk b4 [.int .i64 r5.1.Year, .int .i64 r5.1.Month, .int .i64 r5.1.Day] 28, .blk b1 [v_p_l, .int .i64 r4.2] 25]) (K' := [(3, .pointer (some ⟨b1, 0, none⟩)), (4, .int .i64 r1.1), (6, v3), (7, .int .i64 r4.1), (8, .pointer (some ⟨b4, 0, none⟩)), (9, .int .i64 r5.2), (10, .int .i64 r6.1), (11, .int .i64 r6.2), (12, .int .i64 r7.1), (13, .int .i64 r7.2)]) [true, false, true] rfl ⟨rfl, rfl, rfl, rfl, rfl, rfl, rfl, rfl, rfl, rfl, trivial⟩
  refine then_n ?_
  refine f_seq ?_
  refine f_region ?_
  refine lv S (rn_move (S.tm rfl)) rfl ?_; clear S; intro a S
  refine l_enter S (fun _ => run_call (vs := [.int .i64 r1.1]) ⟨(S.tm rfl), trivial⟩ Tryd.call12) (tumbref2_Day_ok _ r1.1 _ rfl) rfl ?_; clear S; intro v8 a w14 hv8 hk14 hn8 S
  subst hv8
  refine lv S (rn_not (S.tm rfl)) rfl ?_; clear S; intro a S
  refine l_enter S (fun _ => run_call (vs := [.bool (!(tumbref2_Day r1.1)), .int .i64 1]) ⟨(S.tm rfl), rfl, trivial⟩ Tryd.call11) (tumblaw2_when_ok _ (!(tumbref2_Day r1.1)) 1 _ rfl) rfl ?_; clear S; intro v9 a w15 hv9 hk15 hn9 S
  subst hv9
  refine lv S (rn_assign (S.tm rfl)) rfl ?_; clear S; intro a S
  refine l_done ?_
  replace S := S.nf (L' := [.blk b4 [.int .i64 r5.1.Year, .int .i64 r5.1.Month, .int .i64 r5.1.Day] 28, .blk b1 [v_p_l, .int .i64 r4.2] 25]) (K' := [(3, .pointer (some ⟨b1, 0, none⟩)), (4, .int .i64 r1.1), (6, v3), (7, .int .i64 r4.1), (8, .pointer (some ⟨b4, 0, none⟩)), (9, .int .i64 r5.2), (10, .int .i64 r6.1), (11, .int .i64 r6.2), (12, .int .i64 r7.1), (13, .int .i64 r7.2), (14, .int .i64 (tumblaw2_when (!(tumbref2_Day r1.1)) 1))]) [true, true] rfl ⟨rfl, rfl, rfl, rfl, rfl, rfl, rfl, rfl, rfl, rfl, rfl, trivial⟩
  refine then_n ?_
  refine f_seq ?_
  refine f_seq ?_
  obtain ⟨j1, hj1, h⟩ := joinE h
  refine f_join (fun a w' => ∃ x1 : Bool, j1 x1 = some r ∧ Sx w [] φ1 [.blk b1 [v_p_l, .int .i64 r4.2] 25] [(3, .pointer (some ⟨b1, 0, none⟩)), (6, v3), (7, .int .i64 r4.1), (87, .bool x1)] 132 a w') ?_ ?_
  · obtain ⟨r8, hr8, h⟩ := bindE h
    obtain ⟨r9, hr9, h⟩ := bindE h
    rcases Bool.eq_false_or_eq_true (!decide (r8 = r9)) with hb1 | hb1
    · replace h := iteT h hb1
      rcases Bool.eq_false_or_eq_true true with hb2 | hb2
      · replace h := iteT h hb2
        refine d_region [] ([]) Tryd.mixed S rfl (by kernel_rfl) ?_; clear S; intro w23 hk22 hsel S
        refine d_quiet 0 S hsel rfl rfl rfl (by kernel_rfl) (by kernel_rfl) rfl (fun _ hw => (rn_move (S.tm rfl))) ?_; clear S; intro a S
        refine d_quiet 2 S hsel rfl rfl rfl (by kernel_rfl) (by kernel_rfl) rfl (fun _ hw => (rn_move (S.tm rfl))) ?_; clear S; intro a S
        refine d_loud1 1 (by kernel_rfl) rfl ?_
        refine l_enter S (fun _ => run_call (vs := [v3]) ⟨(S.tm rfl), trivial⟩ Tryd.call13) (swimmer_CheckSwimmers_ok _ v3 r3.1 (((ownV_slcT GSwimmer.enc_ok hs1)).mono (S.le_new nil_sub)) _ hr8) rfl ?_; clear S; intro v16 a w24 hv16 hk23 hn16 S
        subst hv16
        refine l_done ?_
        refine d_next hk23 ?_
        refine d_loud1 3 (by kernel_rfl) rfl ?_
        refine l_enter S (fun _ => run_call (vs := [v3]) ⟨(S.tm rfl), trivial⟩ Tryd.call14) (tumbref2_SwimmersFault_ok _ v3 r3.1 (((ownV_slcT GSwimmer.enc_ok hs1)).mono (S.le_new nil_sub)) _ hr9) rfl ?_; clear S; intro v17 a w25 hv17 hk24 hn17 S
        subst hv17
        refine l_done ?_
        refine d_next hk24 ?_
        refine d_quiet 4 S hsel rfl rfl rfl (by kernel_rfl) (by kernel_rfl) rfl (fun _ hw => (rn_neq (S.tm rfl) (S.tm rfl))) ?_; clear S; intro a S
        refine d_quiet 5 S hsel rfl rfl rfl (by kernel_rfl) (by kernel_rfl) rfl (fun _ hw => (rn_move (S.tm rfl))) ?_; clear S; intro a S
        refine d_skip 6 S hsel rfl rfl rfl rfl (by rw [hb1]; rfl) rfl (by kernel_rfl) (by kernel_rfl) rfl ?_; clear S; intro a S
        refine d_skip 7 S hsel rfl rfl rfl rfl (by rw [hb1]; rfl) rfl (by kernel_rfl) (by kernel_rfl) rfl ?_; clear S; intro a S
        refine d_skip 8 S hsel rfl rfl rfl rfl (by rw [hb1]; rfl) rfl (by kernel_rfl) (by kernel_rfl) rfl ?_; clear S; intro a S
        refine d_quiet 9 S hsel rfl rfl rfl (by kernel_rfl) (by kernel_rfl) rfl (fun _ hw => (rn_pick_b hb1 (S.tm rfl) rfl)) ?_; clear S; intro a S
        refine d_quiet 10 S hsel rfl rfl rfl (by kernel_rfl) (by kernel_rfl) rfl (fun _ hw => (rn_move (S.tm rfl))) ?_; clear S; intro a S
        refine d_skip 11 S hsel rfl rfl rfl rfl (by rw [hb2]; rfl) rfl (by kernel_rfl) (by kernel_rfl) rfl ?_; clear S; intro a S
        refine d_skip 12 S hsel rfl rfl rfl rfl (by rw [hb2]; rfl) rfl (by kernel_rfl) (by kernel_rfl) rfl ?_; clear S; intro a S
        refine d_skip 13 S hsel rfl rfl rfl rfl (by rw [hb2]; rfl) rfl (by kernel_rfl) (by kernel_rfl) rfl ?_; clear S; intro a S
        refine d_rest [14, 15, 16, 17, 18, 19, 20, 21, 22, 23, 24, 25, 26, 27, 28, 29, 30, 31, 32, 33, 34, 35, 36, 37, 38] hsel (by kernel_rfl) rfl ?_
        clear hsel
        refine s_skipU S rfl rfl rfl rfl rfl ?_; clear S; intro a S
        refine s_skipU S rfl rfl rfl rfl rfl ?_; clear S; intro a S
        refine s_skipU S rfl rfl rfl rfl rfl ?_; clear S; intro a S
        refine s_skipU S rfl rfl rfl rfl rfl ?_; clear S; intro a S
        refine s_skip S rfl rfl rfl rfl (by rw [hb2]; rfl) rfl ?_ rfl; clear S; intro a S
        refine s_lv S rfl (rn_pick_b hb2 (S.tm rfl) rfl) rfl ?_; clear S; intro a S
        refine s_lv S rfl (rn_move (S.tm rfl)) rfl ?_; clear S; intro a S
        refine s_cutm 8 (fun a w' => Keep [] w25 w' ∧ Sx w [] φ1 [.blk b4 [.int .i64 r5.1.Year, .int .i64 r5.1.Month, .int .i64 r5.1.Day] 28, .blk b1 [v_p_l, .int .i64 r4.2] 25] [(3, .pointer (some ⟨b1, 0, none⟩)), (6, v3), (7, .int .i64 r4.1), (10, .int .i64 r6.1), (11, .int .i64 r6.2), (12, .int .i64 r7.1), (13, .int .i64 r7.2), (77, .bool (true || ((!decide ((tumblaw2_when (!(tumbref2_Day r1.1)) 1) = 0)) && (!decide (r5.1 = (GDate.mk 0 0 0))))))] 132 a w') ?_ ?_
        · rcases Bool.eq_false_or_eq_true true with hb3 | hb3
          · refine s_skip S rfl rfl rfl rfl (by rw [hb3]; rfl) rfl ?_ rfl; clear S; intro a S
            refine s_skip S rfl rfl rfl rfl (by rw [hb3]; rfl) rfl ?_ rfl; clear S; intro a S
            refine s_skip S rfl rfl rfl rfl (by rw [hb3]; rfl) rfl ?_ rfl; clear S; intro a S
            refine s_skipU S rfl rfl rfl rfl rfl ?_; clear S; intro a S
            refine s_skipU S rfl rfl rfl rfl rfl ?_; clear S; intro a S
            refine s_skipU S rfl rfl rfl rfl rfl ?_; clear S; intro a S
            refine s_skip S rfl rfl rfl rfl (by rw [hb3]; rfl) rfl ?_ rfl; clear S; intro a S
            refine s_lv S rfl (rn_or_t ((!decide ((tumblaw2_when (!(tumbref2_Day r1.1)) 1) = 0)) && (!decide (r5.1 = (GDate.mk 0 0 0)))) hb3 (S.tm rfl) rfl) rfl ?_; clear S; intro a S
            refine s_done ?_
            exact ⟨Keep.refl _ _, S.nf [true, true] rfl ⟨rfl, rfl, rfl, rfl, rfl, rfl, rfl, rfl, trivial⟩⟩
          · refine s_want S rfl rfl rfl rfl hb3 ?_
            refine s_lv0 S (rn_move (S.tm rfl)) rfl ?_; clear S; intro a S
            refine s_want S rfl rfl rfl rfl hb3 ?_
            refine s_lv0 S (rn_neq (S.tm rfl) rfl) rfl ?_; clear S; intro a S
            refine s_want S rfl rfl rfl rfl hb3 ?_
            refine s_lv0 S (rn_move (S.tm rfl)) rfl ?_; clear S; intro a S
            refine s_cutm 4 (fun a w' => Keep [] w25 w' ∧ Sx w [] φ1 [.blk b4 [.int .i64 r5.1.Year, .int .i64 r5.1.Month, .int .i64 r5.1.Day] 28, .blk b1 [v_p_l, .int .i64 r4.2] 25] [(3, .pointer (some ⟨b1, 0, none⟩)), (6, v3), (7, .int .i64 r4.1), (10, .int .i64 r6.1), (11, .int .i64 r6.2), (12, .int .i64 r7.1), (13, .int .i64 r7.2), (69, .bool true), (76, .bool ((!decide ((tumblaw2_when (!(tumbref2_Day r1.1)) 1) = 0)) && (!decide (r5.1 = (GDate.mk 0 0 0)))))] 132 a w') ?_ ?_
            · rcases Bool.eq_false_or_eq_true (!decide ((tumblaw2_when (!(tumbref2_Day r1.1)) 1) = 0)) with hb4 | hb4
              · refine s_want S rfl rfl rfl rfl hb4 ?_
                refine s_lv0 S (rn_ldA Tryd.isAgg28 Tryd.sizeOf28 (off := 0) (o := 0) (part := [.int .i64 r5.1.Year, .int .i64 r5.1.Month, .int .i64 r5.1.Day]) rfl rfl (S.tm rfl) (S.cellsAt (i := 0) rfl)) rfl ?_; clear S; intro a S
                refine s_want S rfl rfl rfl rfl hb4 ?_
                refine s_lv0 S (rn_bld bt_28 (pv := []) trivial (cs := [.int .i64 0, .int .i64 0, .int .i64 0]) (by kernel_rfl)) rfl ?_; clear S; intro a S
                refine s_want S rfl rfl rfl rfl hb4 ?_
                refine s_lv0 S (rn_neq_28 (m := r5.1) (n := (GDate.mk 0 0 0)) (S.tm rfl) (S.tm rfl)) rfl ?_; clear S; intro a S
                refine s_want S rfl rfl rfl rfl hb3 ?_
                refine s_lv0 S (rn_and_t hb4 (S.tm rfl) (S.tm rfl)) rfl ?_; clear S; intro a S
                refine s_done ?_
                exact ⟨Keep.refl _ _, S.nf [true, true] rfl ⟨rfl, rfl, rfl, rfl, rfl, rfl, rfl, rfl, rfl, trivial⟩⟩
              · refine s_skip S rfl rfl rfl rfl (by rw [hb4]; rfl) rfl ?_ rfl; clear S; intro a S
                refine s_skip S rfl rfl rfl rfl (by rw [hb4]; rfl) rfl ?_ rfl; clear S; intro a S
                refine s_skip S rfl rfl rfl rfl (by rw [hb4]; rfl) rfl ?_ rfl; clear S; intro a S
                refine s_want S rfl rfl rfl rfl hb3 ?_
                refine s_lv0 S (rn_and_f (!decide (r5.1 = (GDate.mk 0 0 0))) hb4 (S.tm rfl) rfl) rfl ?_; clear S; intro a S
                refine s_done ?_
                exact ⟨Keep.refl _ _, S.nf [true, true] rfl ⟨rfl, rfl, rfl, rfl, rfl, rfl, rfl, rfl, rfl, trivial⟩⟩
            clear S; rintro a w27 ⟨hk25, S⟩
            refine s_lv S rfl (rn_or_f hb3 (S.tm rfl) (S.tm rfl)) rfl ?_; clear S; intro a S
            refine s_done ?_
            exact ⟨hk25, S.nf [true, true] rfl ⟨rfl, rfl, rfl, rfl, rfl, rfl, rfl, rfl, trivial⟩⟩
        clear S; rintro a w26 ⟨hk26, S⟩
        refine s_lv S rfl (rn_move (S.tm rfl)) rfl ?_; clear S; intro a S
        refine s_cutm 4 (fun a w' => Keep [] w26 w' ∧ Sx w [] φ1 [.blk b4 [.int .i64 r5.1.Year, .int .i64 r5.1.Month, .int .i64 r5.1.Day] 28, .blk b1 [v_p_l, .int .i64 r4.2] 25] [(3, .pointer (some ⟨b1, 0, none⟩)), (6, v3), (7, .int .i64 r4.1), (10, .int .i64 r6.1), (12, .int .i64 r7.1), (82, .bool ((true || ((!decide ((tumblaw2_when (!(tumbref2_Day r1.1)) 1) = 0)) && (!decide (r5.1 = (GDate.mk 0 0 0))))) || (!decide (r6.2 = r7.2))))] 132 a w') ?_ ?_
        · rcases Bool.eq_false_or_eq_true (true || ((!decide ((tumblaw2_when (!(tumbref2_Day r1.1)) 1) = 0)) && (!decide (r5.1 = (GDate.mk 0 0 0))))) with hb5 | hb5
          · refine s_skip S rfl rfl rfl rfl (by rw [hb5]; rfl) rfl ?_ rfl; clear S; intro a S
            refine s_skip S rfl rfl rfl rfl (by rw [hb5]; rfl) rfl ?_ rfl; clear S; intro a S
            refine s_skip S rfl rfl rfl rfl (by rw [hb5]; rfl) rfl ?_ rfl; clear S; intro a S
            refine s_lv S rfl (rn_or_t (!decide (r6.2 = r7.2)) hb5 (S.tm rfl) rfl) rfl ?_; clear S; intro a S
            refine s_done ?_
            exact ⟨Keep.refl _ _, S.nf [true, true] rfl ⟨rfl, rfl, rfl, rfl, rfl, rfl, trivial⟩⟩
          · refine s_want S rfl rfl rfl rfl hb5 ?_
            refine s_lv0 S (rn_move (S.tm rfl)) rfl ?_; clear S; intro a S
            refine s_want S rfl rfl rfl rfl hb5 ?_
            refine s_lv0 S (rn_move (S.tm rfl)) rfl ?_; clear S; intro a S
            refine s_want S rfl rfl rfl rfl hb5 ?_
            refine s_lv0 S (rn_neq (S.tm rfl) (S.tm rfl)) rfl ?_; clear S; intro a S
            refine s_lv S rfl (rn_or_f hb5 (S.tm rfl) (S.tm rfl)) rfl ?_; clear S; intro a S
            refine s_done ?_
            exact ⟨Keep.refl _ _, S.nf [true, true] rfl ⟨rfl, rfl, rfl, rfl, rfl, rfl, trivial⟩⟩
        clear S; rintro a w28 ⟨hk27, S⟩
        refine s_lv S rfl (rn_move (S.tm rfl)) rfl ?_; clear S; intro a S
        refine s_cutm 4 (fun a w' => Keep [] w28 w' ∧ Sx w [] φ1 [.blk b4 [.int .i64 r5.1.Year, .int .i64 r5.1.Month, .int .i64 r5.1.Day] 28, .blk b1 [v_p_l, .int .i64 r4.2] 25] [(3, .pointer (some ⟨b1, 0, none⟩)), (6, v3), (7, .int .i64 r4.1), (87, .bool (((true || ((!decide ((tumblaw2_when (!(tumbref2_Day r1.1)) 1) = 0)) && (!decide (r5.1 = (GDate.mk 0 0 0))))) || (!decide (r6.2 = r7.2))) || (!decide (r6.1 = r7.1))))] 132 a w') ?_ ?_
        · rcases Bool.eq_false_or_eq_true ((true || ((!decide ((tumblaw2_when (!(tumbref2_Day r1.1)) 1) = 0)) && (!decide (r5.1 = (GDate.mk 0 0 0))))) || (!decide (r6.2 = r7.2))) with hb6 | hb6
          · refine s_skip S rfl rfl rfl rfl (by rw [hb6]; rfl) rfl ?_ rfl; clear S; intro a S
            refine s_skip S rfl rfl rfl rfl (by rw [hb6]; rfl) rfl ?_ rfl; clear S; intro a S
            refine s_skip S rfl rfl rfl rfl (by rw [hb6]; rfl) rfl ?_ rfl; clear S; intro a S
            refine s_lv S rfl (rn_or_t (!decide (r6.1 = r7.1)) hb6 (S.tm rfl) rfl) rfl ?_; clear S; intro a S
            refine s_done ?_
            exact ⟨Keep.refl _ _, S.nf [true, true] rfl ⟨rfl, rfl, rfl, rfl, trivial⟩⟩
          · refine s_want S rfl rfl rfl rfl hb6 ?_
            refine s_lv0 S (rn_move (S.tm rfl)) rfl ?_; clear S; intro a S
            refine s_want S rfl rfl rfl rfl hb6 ?_
            refine s_lv0 S (rn_move (S.tm rfl)) rfl ?_; clear S; intro a S
            refine s_want S rfl rfl rfl rfl hb6 ?_
            refine s_lv0 S (rn_neq (S.tm rfl) (S.tm rfl)) rfl ?_; clear S; intro a S
            refine s_lv S rfl (rn_or_f hb6 (S.tm rfl) (S.tm rfl)) rfl ?_; clear S; intro a S
            refine s_done ?_
            exact ⟨Keep.refl _ _, S.nf [true, true] rfl ⟨rfl, rfl, rfl, rfl, trivial⟩⟩
        clear S; rintro a w29 ⟨hk28, S⟩
        refine s_done ?_
        replace S := S.nf (L' := [.blk b1 [v_p_l, .int .i64 r4.2] 25]) (K' := [(3, .pointer (some ⟨b1, 0, none⟩)), (6, v3), (7, .int .i64 r4.1), (87, .bool (((true || ((!decide ((tumblaw2_when (!(tumbref2_Day r1.1)) 1) = 0)) && (!decide (r5.1 = (GDate.mk 0 0 0))))) || (!decide (r6.2 = r7.2))) || (!decide (r6.1 = r7.1))))]) [false, true] rfl ⟨rfl, rfl, rfl, rfl, trivial⟩
        refine then_n ?_
        exact ⟨(((true || ((!decide ((tumblaw2_when (!(tumbref2_Day r1.1)) 1) = 0)) && (!decide (r5.1 = (GDate.mk 0 0 0))))) || (!decide (r6.2 = r7.2))) || (!decide (r6.1 = r7.1))), h, S.nf [true] rfl ⟨rfl, rfl, rfl, rfl, trivial⟩⟩
      · replace h := iteF h hb2
        rcases Bool.eq_false_or_eq_true (decide ((tumblaw2_when (!(tumbref2_Day r1.1)) 1) = 0)) with hb7 | hb7
        · replace h := iteT h hb7
          obtain ⟨r10, hr10, h⟩ := bindE h
          refine d_region [] ([]) Tryd.mixed S rfl (by kernel_rfl) ?_; clear S; intro w35 hk34 hsel S
          refine d_quiet 0 S hsel rfl rfl rfl (by kernel_rfl) (by kernel_rfl) rfl (fun _ hw => (rn_move (S.tm rfl))) ?_; clear S; intro a S
          refine d_quiet 2 S hsel rfl rfl rfl (by kernel_rfl) (by kernel_rfl) rfl (fun _ hw => (rn_move (S.tm rfl))) ?_; clear S; intro a S
          refine d_loud1 1 (by kernel_rfl) rfl ?_
          refine l_enter S (fun _ => run_call (vs := [v3]) ⟨(S.tm rfl), trivial⟩ Tryd.call13) (swimmer_CheckSwimmers_ok _ v3 r3.1 (((ownV_slcT GSwimmer.enc_ok hs1)).mono (S.le_new nil_sub)) _ hr8) rfl ?_; clear S; intro v23 a w36 hv23 hk35 hn23 S
          subst hv23
          refine l_done ?_
          refine d_next hk35 ?_
          refine d_loud1 3 (by kernel_rfl) rfl ?_
          refine l_enter S (fun _ => run_call (vs := [v3]) ⟨(S.tm rfl), trivial⟩ Tryd.call14) (tumbref2_SwimmersFault_ok _ v3 r3.1 (((ownV_slcT GSwimmer.enc_ok hs1)).mono (S.le_new nil_sub)) _ hr9) rfl ?_; clear S; intro v24 a w37 hv24 hk36 hn24 S
          subst hv24
          refine l_done ?_
          refine d_next hk36 ?_
          refine d_quiet 4 S hsel rfl rfl rfl (by kernel_rfl) (by kernel_rfl) rfl (fun _ hw => (rn_neq (S.tm rfl) (S.tm rfl))) ?_; clear S; intro a S
          refine d_quiet 5 S hsel rfl rfl rfl (by kernel_rfl) (by kernel_rfl) rfl (fun _ hw => (rn_move (S.tm rfl))) ?_; clear S; intro a S
          refine d_skip 6 S hsel rfl rfl rfl rfl (by rw [hb1]; rfl) rfl (by kernel_rfl) (by kernel_rfl) rfl ?_; clear S; intro a S
          refine d_skip 7 S hsel rfl rfl rfl rfl (by rw [hb1]; rfl) rfl (by kernel_rfl) (by kernel_rfl) rfl ?_; clear S; intro a S
          refine d_skip 8 S hsel rfl rfl rfl rfl (by rw [hb1]; rfl) rfl (by kernel_rfl) (by kernel_rfl) rfl ?_; clear S; intro a S
          refine d_quiet 9 S hsel rfl rfl rfl (by kernel_rfl) (by kernel_rfl) rfl (fun _ hw => (rn_pick_b hb1 (S.tm rfl) rfl)) ?_; clear S; intro a S
          refine d_quiet 10 S hsel rfl rfl rfl (by kernel_rfl) (by kernel_rfl) rfl (fun _ hw => (rn_move (S.tm rfl))) ?_; clear S; intro a S
          refine d_quiet_g 11 S hsel rfl rfl rfl rfl hb2 rfl rfl (by kernel_rfl) (by kernel_rfl) rfl (fun _ hw => (rn_move (S.tm rfl))) ?_; clear S; intro a S
          refine d_quiet_g 12 S hsel rfl rfl rfl rfl hb2 rfl rfl (by kernel_rfl) (by kernel_rfl) rfl (fun _ hw => (rn_eql (S.tm rfl) rfl)) ?_; clear S; intro a S
          refine d_quiet_g 13 S hsel rfl rfl rfl rfl hb2 rfl rfl (by kernel_rfl) (by kernel_rfl) rfl (fun _ hw => (rn_move (S.tm rfl))) ?_; clear S; intro a S
          refine d_quiet_g 14 S hsel rfl rfl rfl rfl hb7 rfl rfl (by kernel_rfl) (by kernel_rfl) rfl (fun _ hw => (rn_ldA Tryd.isAgg28 Tryd.sizeOf28 (off := 0) (o := 0) (part := [.int .i64 r5.1.Year, .int .i64 r5.1.Month, .int .i64 r5.1.Day]) rfl rfl (S.tm rfl) ((S.blk_mem (i := 0) (cells := [.int .i64 r5.1.Year, .int .i64 r5.1.Month, .int .i64 r5.1.Day]) (b := b4) (T := 28) rfl (ne_nil (e' := .blk b4 [.int .i64 r5.1.Year, .int .i64 r5.1.Month, .int .i64 r5.1.Day] 28))).kept hw))) ?_; clear S; intro a S
          refine d_quiet_g 15 S hsel rfl rfl rfl rfl hb7 rfl rfl (by kernel_rfl) (by kernel_rfl) rfl (fun _ hw => (rn_move (S.tm rfl))) ?_; clear S; intro a S
          refine d_loud1 16 (by kernel_rfl) rfl ?_
          refine l_want S rfl rfl rfl hb7 ?_
          refine l_enter S (fun _ => run_call (vs := [.int .i64 r1.1]) ⟨(S.tm rfl), trivial⟩ Tryd.call15) (tumbref2_DateFor_ok _ r1.1 _ hr10) rfl ?_; clear S; intro v25 a w38 hv25 hk37 hn25 S
          subst hv25
          refine l_done ?_
          refine d_next hk37 ?_
          refine d_rest [17, 18, 19, 20, 21, 22, 23, 24, 25, 26, 27, 28, 29, 30, 31, 32, 33, 34, 35, 36, 37, 38] hsel (by kernel_rfl) rfl ?_
          clear hsel
          refine s_want S rfl rfl rfl rfl hb7 ?_
          refine s_lv0 S (rn_neq_28 (m := r5.1) (n := r10) (S.tm rfl) (S.tm rfl)) rfl ?_; clear S; intro a S
          refine s_want S rfl rfl rfl rfl hb2 ?_
          refine s_lv0 S (rn_pick_b hb7 (S.tm rfl) (S.tm rfl)) rfl ?_; clear S; intro a S
          refine s_lv S rfl (rn_pick_c hb2 (S.tm rfl) (S.tm rfl)) rfl ?_; clear S; intro a S
          refine s_lv S rfl (rn_move (S.tm rfl)) rfl ?_; clear S; intro a S
          refine s_cutm 8 (fun a w' => Keep [] w38 w' ∧ Sx w [] φ1 [.blk b4 [.int .i64 r5.1.Year, .int .i64 r5.1.Month, .int .i64 r5.1.Day] 28, .blk b1 [v_p_l, .int .i64 r4.2] 25] [(3, .pointer (some ⟨b1, 0, none⟩)), (6, v3), (7, .int .i64 r4.1), (10, .int .i64 r6.1), (11, .int .i64 r6.2), (12, .int .i64 r7.1), (13, .int .i64 r7.2), (77, .bool ((!decide (r5.1 = r10)) || ((!decide ((tumblaw2_when (!(tumbref2_Day r1.1)) 1) = 0)) && (!decide (r5.1 = (GDate.mk 0 0 0))))))] 132 a w') ?_ ?_
          · rcases Bool.eq_false_or_eq_true (!decide (r5.1 = r10)) with hb8 | hb8
            · refine s_skip S rfl rfl rfl rfl (by rw [hb8]; rfl) rfl ?_ rfl; clear S; intro a S
              refine s_skip S rfl rfl rfl rfl (by rw [hb8]; rfl) rfl ?_ rfl; clear S; intro a S
              refine s_skip S rfl rfl rfl rfl (by rw [hb8]; rfl) rfl ?_ rfl; clear S; intro a S
              refine s_skipU S rfl rfl rfl rfl rfl ?_; clear S; intro a S
              refine s_skipU S rfl rfl rfl rfl rfl ?_; clear S; intro a S
              refine s_skipU S rfl rfl rfl rfl rfl ?_; clear S; intro a S
              refine s_skip S rfl rfl rfl rfl (by rw [hb8]; rfl) rfl ?_ rfl; clear S; intro a S
              refine s_lv S rfl (rn_or_t ((!decide ((tumblaw2_when (!(tumbref2_Day r1.1)) 1) = 0)) && (!decide (r5.1 = (GDate.mk 0 0 0)))) hb8 (S.tm rfl) rfl) rfl ?_; clear S; intro a S
              refine s_done ?_
              exact ⟨Keep.refl _ _, S.nf [true, true] rfl ⟨rfl, rfl, rfl, rfl, rfl, rfl, rfl, rfl, trivial⟩⟩
            · refine s_want S rfl rfl rfl rfl hb8 ?_
              refine s_lv0 S (rn_move (S.tm rfl)) rfl ?_; clear S; intro a S
              refine s_want S rfl rfl rfl rfl hb8 ?_
              refine s_lv0 S (rn_neq (S.tm rfl) rfl) rfl ?_; clear S; intro a S
              refine s_want S rfl rfl rfl rfl hb8 ?_
              refine s_lv0 S (rn_move (S.tm rfl)) rfl ?_; clear S; intro a S
              refine s_cutm 4 (fun a w' => Keep [] w38 w' ∧ Sx w [] φ1 [.blk b4 [.int .i64 r5.1.Year, .int .i64 r5.1.Month, .int .i64 r5.1.Day] 28, .blk b1 [v_p_l, .int .i64 r4.2] 25] [(3, .pointer (some ⟨b1, 0, none⟩)), (6, v3), (7, .int .i64 r4.1), (10, .int .i64 r6.1), (11, .int .i64 r6.2), (12, .int .i64 r7.1), (13, .int .i64 r7.2), (69, .bool (!decide (r5.1 = r10))), (76, .bool ((!decide ((tumblaw2_when (!(tumbref2_Day r1.1)) 1) = 0)) && (!decide (r5.1 = (GDate.mk 0 0 0)))))] 132 a w') ?_ ?_
              · rcases Bool.eq_false_or_eq_true (!decide ((tumblaw2_when (!(tumbref2_Day r1.1)) 1) = 0)) with hb9 | hb9
                · refine s_want S rfl rfl rfl rfl hb9 ?_
                  refine s_lv0 S (rn_ldA Tryd.isAgg28 Tryd.sizeOf28 (off := 0) (o := 0) (part := [.int .i64 r5.1.Year, .int .i64 r5.1.Month, .int .i64 r5.1.Day]) rfl rfl (S.tm rfl) (S.cellsAt (i := 0) rfl)) rfl ?_; clear S; intro a S
                  refine s_want S rfl rfl rfl rfl hb9 ?_
                  refine s_lv0 S (rn_bld bt_28 (pv := []) trivial (cs := [.int .i64 0, .int .i64 0, .int .i64 0]) (by kernel_rfl)) rfl ?_; clear S; intro a S
                  refine s_want S rfl rfl rfl rfl hb9 ?_
                  refine s_lv0 S (rn_neq_28 (m := r5.1) (n := (GDate.mk 0 0 0)) (S.tm rfl) (S.tm rfl)) rfl ?_; clear S; intro a S
                  refine s_want S rfl rfl rfl rfl hb8 ?_
                  refine s_lv0 S (rn_and_t hb9 (S.tm rfl) (S.tm rfl)) rfl ?_; clear S; intro a S
                  refine s_done ?_
                  exact ⟨Keep.refl _ _, S.nf [true, true] rfl ⟨rfl, rfl, rfl, rfl, rfl, rfl, rfl, rfl, rfl, trivial⟩⟩
                · refine s_skip S rfl rfl rfl rfl (by rw [hb9]; rfl) rfl ?_ rfl; clear S; intro a S
                  refine s_skip S rfl rfl rfl rfl (by rw [hb9]; rfl) rfl ?_ rfl; clear S; intro a S
                  refine s_skip S rfl rfl rfl rfl (by rw [hb9]; rfl) rfl ?_ rfl; clear S; intro a S
                  refine s_want S rfl rfl rfl rfl hb8 ?_
                  refine s_lv0 S (rn_and_f (!decide (r5.1 = (GDate.mk 0 0 0))) hb9 (S.tm rfl) rfl) rfl ?_; clear S; intro a S
                  refine s_done ?_
                  exact ⟨Keep.refl _ _, S.nf [true, true] rfl ⟨rfl, rfl, rfl, rfl, rfl, rfl, rfl, rfl, rfl, trivial⟩⟩
              clear S; rintro a w40 ⟨hk38, S⟩
              refine s_lv S rfl (rn_or_f hb8 (S.tm rfl) (S.tm rfl)) rfl ?_; clear S; intro a S
              refine s_done ?_
              exact ⟨hk38, S.nf [true, true] rfl ⟨rfl, rfl, rfl, rfl, rfl, rfl, rfl, rfl, trivial⟩⟩
          clear S; rintro a w39 ⟨hk39, S⟩
          refine s_lv S rfl (rn_move (S.tm rfl)) rfl ?_; clear S; intro a S
          refine s_cutm 4 (fun a w' => Keep [] w39 w' ∧ Sx w [] φ1 [.blk b4 [.int .i64 r5.1.Year, .int .i64 r5.1.Month, .int .i64 r5.1.Day] 28, .blk b1 [v_p_l, .int .i64 r4.2] 25] [(3, .pointer (some ⟨b1, 0, none⟩)), (6, v3), (7, .int .i64 r4.1), (10, .int .i64 r6.1), (12, .int .i64 r7.1), (82, .bool (((!decide (r5.1 = r10)) || ((!decide ((tumblaw2_when (!(tumbref2_Day r1.1)) 1) = 0)) && (!decide (r5.1 = (GDate.mk 0 0 0))))) || (!decide (r6.2 = r7.2))))] 132 a w') ?_ ?_
          · rcases Bool.eq_false_or_eq_true ((!decide (r5.1 = r10)) || ((!decide ((tumblaw2_when (!(tumbref2_Day r1.1)) 1) = 0)) && (!decide (r5.1 = (GDate.mk 0 0 0))))) with hb10 | hb10
            · refine s_skip S rfl rfl rfl rfl (by rw [hb10]; rfl) rfl ?_ rfl; clear S; intro a S
              refine s_skip S rfl rfl rfl rfl (by rw [hb10]; rfl) rfl ?_ rfl; clear S; intro a S
              refine s_skip S rfl rfl rfl rfl (by rw [hb10]; rfl) rfl ?_ rfl; clear S; intro a S
              refine s_lv S rfl (rn_or_t (!decide (r6.2 = r7.2)) hb10 (S.tm rfl) rfl) rfl ?_; clear S; intro a S
              refine s_done ?_
              exact ⟨Keep.refl _ _, S.nf [true, true] rfl ⟨rfl, rfl, rfl, rfl, rfl, rfl, trivial⟩⟩
            · refine s_want S rfl rfl rfl rfl hb10 ?_
              refine s_lv0 S (rn_move (S.tm rfl)) rfl ?_; clear S; intro a S
              refine s_want S rfl rfl rfl rfl hb10 ?_
              refine s_lv0 S (rn_move (S.tm rfl)) rfl ?_; clear S; intro a S
              refine s_want S rfl rfl rfl rfl hb10 ?_
              refine s_lv0 S (rn_neq (S.tm rfl) (S.tm rfl)) rfl ?_; clear S; intro a S
              refine s_lv S rfl (rn_or_f hb10 (S.tm rfl) (S.tm rfl)) rfl ?_; clear S; intro a S
              refine s_done ?_
              exact ⟨Keep.refl _ _, S.nf [true, true] rfl ⟨rfl, rfl, rfl, rfl, rfl, rfl, trivial⟩⟩
          clear S; rintro a w41 ⟨hk40, S⟩
          refine s_lv S rfl (rn_move (S.tm rfl)) rfl ?_; clear S; intro a S
          refine s_cutm 4 (fun a w' => Keep [] w41 w' ∧ Sx w [] φ1 [.blk b4 [.int .i64 r5.1.Year, .int .i64 r5.1.Month, .int .i64 r5.1.Day] 28, .blk b1 [v_p_l, .int .i64 r4.2] 25] [(3, .pointer (some ⟨b1, 0, none⟩)), (6, v3), (7, .int .i64 r4.1), (87, .bool ((((!decide (r5.1 = r10)) || ((!decide ((tumblaw2_when (!(tumbref2_Day r1.1)) 1) = 0)) && (!decide (r5.1 = (GDate.mk 0 0 0))))) || (!decide (r6.2 = r7.2))) || (!decide (r6.1 = r7.1))))] 132 a w') ?_ ?_
          · rcases Bool.eq_false_or_eq_true (((!decide (r5.1 = r10)) || ((!decide ((tumblaw2_when (!(tumbref2_Day r1.1)) 1) = 0)) && (!decide (r5.1 = (GDate.mk 0 0 0))))) || (!decide (r6.2 = r7.2))) with hb11 | hb11
            · refine s_skip S rfl rfl rfl rfl (by rw [hb11]; rfl) rfl ?_ rfl; clear S; intro a S
              refine s_skip S rfl rfl rfl rfl (by rw [hb11]; rfl) rfl ?_ rfl; clear S; intro a S
              refine s_skip S rfl rfl rfl rfl (by rw [hb11]; rfl) rfl ?_ rfl; clear S; intro a S
              refine s_lv S rfl (rn_or_t (!decide (r6.1 = r7.1)) hb11 (S.tm rfl) rfl) rfl ?_; clear S; intro a S
              refine s_done ?_
              exact ⟨Keep.refl _ _, S.nf [true, true] rfl ⟨rfl, rfl, rfl, rfl, trivial⟩⟩
            · refine s_want S rfl rfl rfl rfl hb11 ?_
              refine s_lv0 S (rn_move (S.tm rfl)) rfl ?_; clear S; intro a S
              refine s_want S rfl rfl rfl rfl hb11 ?_
              refine s_lv0 S (rn_move (S.tm rfl)) rfl ?_; clear S; intro a S
              refine s_want S rfl rfl rfl rfl hb11 ?_
              refine s_lv0 S (rn_neq (S.tm rfl) (S.tm rfl)) rfl ?_; clear S; intro a S
              refine s_lv S rfl (rn_or_f hb11 (S.tm rfl) (S.tm rfl)) rfl ?_; clear S; intro a S
              refine s_done ?_
              exact ⟨Keep.refl _ _, S.nf [true, true] rfl ⟨rfl, rfl, rfl, rfl, trivial⟩⟩
          clear S; rintro a w42 ⟨hk41, S⟩
          refine s_done ?_
          replace S := S.nf (L' := [.blk b1 [v_p_l, .int .i64 r4.2] 25]) (K' := [(3, .pointer (some ⟨b1, 0, none⟩)), (6, v3), (7, .int .i64 r4.1), (87, .bool ((((!decide (r5.1 = r10)) || ((!decide ((tumblaw2_when (!(tumbref2_Day r1.1)) 1) = 0)) && (!decide (r5.1 = (GDate.mk 0 0 0))))) || (!decide (r6.2 = r7.2))) || (!decide (r6.1 = r7.1))))]) [false, true] rfl ⟨rfl, rfl, rfl, rfl, trivial⟩
          refine then_n ?_
          exact ⟨((((!decide (r5.1 = r10)) || ((!decide ((tumblaw2_when (!(tumbref2_Day r1.1)) 1) = 0)) && (!decide (r5.1 = (GDate.mk 0 0 0))))) || (!decide (r6.2 = r7.2))) || (!decide (r6.1 = r7.1))), h, S.nf [true] rfl ⟨rfl, rfl, rfl, rfl, trivial⟩⟩
        · replace h := iteF h hb7
          refine d_region [] ([]) Tryd.mixed S rfl (by kernel_rfl) ?_; clear S; intro w45 hk44 hsel S
          refine d_quiet 0 S hsel rfl rfl rfl (by kernel_rfl) (by kernel_rfl) rfl (fun _ hw => (rn_move (S.tm rfl))) ?_; clear S; intro a S
          refine d_quiet 2 S hsel rfl rfl rfl (by kernel_rfl) (by kernel_rfl) rfl (fun _ hw => (rn_move (S.tm rfl))) ?_; clear S; intro a S
          refine d_loud1 1 (by kernel_rfl) rfl ?_
          refine l_enter S (fun _ => run_call (vs := [v3]) ⟨(S.tm rfl), trivial⟩ Tryd.call13) (swimmer_CheckSwimmers_ok _ v3 r3.1 (((ownV_slcT GSwimmer.enc_ok hs1)).mono (S.le_new nil_sub)) _ hr8) rfl ?_; clear S; intro v28 a w46 hv28 hk45 hn28 S
          subst hv28
          refine l_done ?_
          refine d_next hk45 ?_
          refine d_loud1 3 (by kernel_rfl) rfl ?_
          refine l_enter S (fun _ => run_call (vs := [v3]) ⟨(S.tm rfl), trivial⟩ Tryd.call14) (tumbref2_SwimmersFault_ok _ v3 r3.1 (((ownV_slcT GSwimmer.enc_ok hs1)).mono (S.le_new nil_sub)) _ hr9) rfl ?_; clear S; intro v29 a w47 hv29 hk46 hn29 S
          subst hv29
          refine l_done ?_
          refine d_next hk46 ?_
          refine d_rest [4, 5, 6, 7, 8, 9, 10, 11, 12, 13, 14, 15, 16, 17, 18, 19, 20, 21, 22, 23, 24, 25, 26, 27, 28, 29, 30, 31, 32, 33, 34, 35, 36, 37, 38] hsel (by kernel_rfl) rfl ?_
          clear hsel
          refine s_lv S rfl (rn_neq (S.tm rfl) (S.tm rfl)) rfl ?_; clear S; intro a S
          refine s_lv S rfl (rn_move (S.tm rfl)) rfl ?_; clear S; intro a S
          refine s_skip S rfl rfl rfl rfl (by rw [hb1]; rfl) rfl ?_ rfl; clear S; intro a S
          refine s_skip S rfl rfl rfl rfl (by rw [hb1]; rfl) rfl ?_ rfl; clear S; intro a S
          refine s_skip S rfl rfl rfl rfl (by rw [hb1]; rfl) rfl ?_ rfl; clear S; intro a S
          refine s_lv S rfl (rn_pick_b hb1 (S.tm rfl) rfl) rfl ?_; clear S; intro a S
          refine s_lv S rfl (rn_move (S.tm rfl)) rfl ?_; clear S; intro a S
          refine s_want S rfl rfl rfl rfl hb2 ?_
          refine s_lv0 S (rn_move (S.tm rfl)) rfl ?_; clear S; intro a S
          refine s_want S rfl rfl rfl rfl hb2 ?_
          refine s_lv0 S (rn_eql (S.tm rfl) rfl) rfl ?_; clear S; intro a S
          refine s_want S rfl rfl rfl rfl hb2 ?_
          refine s_lv0 S (rn_move (S.tm rfl)) rfl ?_; clear S; intro a S
          refine s_skip S rfl rfl rfl rfl (by rw [hb7]; rfl) rfl ?_ rfl; clear S; intro a S
          refine s_skip S rfl rfl rfl rfl (by rw [hb7]; rfl) rfl ?_ rfl; clear S; intro a S
          refine s_skip S rfl rfl rfl rfl (by rw [hb7]; rfl) rfl ?_ rfl; clear S; intro a S
          refine s_skip S rfl rfl rfl rfl (by rw [hb7]; rfl) rfl ?_ rfl; clear S; intro a S
          refine s_want S rfl rfl rfl rfl hb2 ?_
          refine s_lv0 S (rn_pick_c hb7 (S.tm rfl) rfl) rfl ?_; clear S; intro a S
          refine s_lv S rfl (rn_pick_c hb2 (S.tm rfl) (S.tm rfl)) rfl ?_; clear S; intro a S
          refine s_lv S rfl (rn_move (S.tm rfl)) rfl ?_; clear S; intro a S
          refine s_cutm 8 (fun a w' => Keep [] w47 w' ∧ Sx w [] φ1 [.blk b4 [.int .i64 r5.1.Year, .int .i64 r5.1.Month, .int .i64 r5.1.Day] 28, .blk b1 [v_p_l, .int .i64 r4.2] 25] [(3, .pointer (some ⟨b1, 0, none⟩)), (6, v3), (7, .int .i64 r4.1), (10, .int .i64 r6.1), (11, .int .i64 r6.2), (12, .int .i64 r7.1), (13, .int .i64 r7.2), (77, .bool (false || ((!decide ((tumblaw2_when (!(tumbref2_Day r1.1)) 1) = 0)) && (!decide (r5.1 = (GDate.mk 0 0 0))))))] 132 a w') ?_ ?_
          · rcases Bool.eq_false_or_eq_true false with hb12 | hb12
            · refine s_skip S rfl rfl rfl rfl (by rw [hb12]; rfl) rfl ?_ rfl; clear S; intro a S
              refine s_skip S rfl rfl rfl rfl (by rw [hb12]; rfl) rfl ?_ rfl; clear S; intro a S
              refine s_skip S rfl rfl rfl rfl (by rw [hb12]; rfl) rfl ?_ rfl; clear S; intro a S
              refine s_skipU S rfl rfl rfl rfl rfl ?_; clear S; intro a S
              refine s_skipU S rfl rfl rfl rfl rfl ?_; clear S; intro a S
              refine s_skipU S rfl rfl rfl rfl rfl ?_; clear S; intro a S
              refine s_skip S rfl rfl rfl rfl (by rw [hb12]; rfl) rfl ?_ rfl; clear S; intro a S
              refine s_lv S rfl (rn_or_t ((!decide ((tumblaw2_when (!(tumbref2_Day r1.1)) 1) = 0)) && (!decide (r5.1 = (GDate.mk 0 0 0)))) hb12 (S.tm rfl) rfl) rfl ?_; clear S; intro a S
              refine s_done ?_
              exact ⟨Keep.refl _ _, S.nf [true, true] rfl ⟨rfl, rfl, rfl, rfl, rfl, rfl, rfl, rfl, trivial⟩⟩
            · refine s_want S rfl rfl rfl rfl hb12 ?_
              refine s_lv0 S (rn_move (S.tm rfl)) rfl ?_; clear S; intro a S
              refine s_want S rfl rfl rfl rfl hb12 ?_
              refine s_lv0 S (rn_neq (S.tm rfl) rfl) rfl ?_; clear S; intro a S
              refine s_want S rfl rfl rfl rfl hb12 ?_
              refine s_lv0 S (rn_move (S.tm rfl)) rfl ?_; clear S; intro a S
              refine s_cutm 4 (fun a w' => Keep [] w47 w' ∧ Sx w [] φ1 [.blk b4 [.int .i64 r5.1.Year, .int .i64 r5.1.Month, .int .i64 r5.1.Day] 28, .blk b1 [v_p_l, .int .i64 r4.2] 25] [(3, .pointer (some ⟨b1, 0, none⟩)), (6, v3), (7, .int .i64 r4.1), (10, .int .i64 r6.1), (11, .int .i64 r6.2), (12, .int .i64 r7.1), (13, .int .i64 r7.2), (69, .bool false), (76, .bool ((!decide ((tumblaw2_when (!(tumbref2_Day r1.1)) 1) = 0)) && (!decide (r5.1 = (GDate.mk 0 0 0)))))] 132 a w') ?_ ?_
              · rcases Bool.eq_false_or_eq_true (!decide ((tumblaw2_when (!(tumbref2_Day r1.1)) 1) = 0)) with hb13 | hb13
                · refine s_want S rfl rfl rfl rfl hb13 ?_
                  refine s_lv0 S (rn_ldA Tryd.isAgg28 Tryd.sizeOf28 (off := 0) (o := 0) (part := [.int .i64 r5.1.Year, .int .i64 r5.1.Month, .int .i64 r5.1.Day]) rfl rfl (S.tm rfl) (S.cellsAt (i := 0) rfl)) rfl ?_; clear S; intro a S
                  refine s_want S rfl rfl rfl rfl hb13 ?_
                  refine s_lv0 S (rn_bld bt_28 (pv := []) trivial (cs := [.int .i64 0, .int .i64 0, .int .i64 0]) (by kernel_rfl)) rfl ?_; clear S; intro a S
                  refine s_want S rfl rfl rfl rfl hb13 ?_
                  refine s_lv0 S (rn_neq_28 (m := r5.1) (n := (GDate.mk 0 0 0)) (S.tm rfl) (S.tm rfl)) rfl ?_; clear S; intro a S
                  refine s_want S rfl rfl rfl rfl hb12 ?_
                  refine s_lv0 S (rn_and_t hb13 (S.tm rfl) (S.tm rfl)) rfl ?_; clear S; intro a S
                  refine s_done ?_
                  exact ⟨Keep.refl _ _, S.nf [true, true] rfl ⟨rfl, rfl, rfl, rfl, rfl, rfl, rfl, rfl, rfl, trivial⟩⟩
                · refine s_skip S rfl rfl rfl rfl (by rw [hb13]; rfl) rfl ?_ rfl; clear S; intro a S
                  refine s_skip S rfl rfl rfl rfl (by rw [hb13]; rfl) rfl ?_ rfl; clear S; intro a S
                  refine s_skip S rfl rfl rfl rfl (by rw [hb13]; rfl) rfl ?_ rfl; clear S; intro a S
                  refine s_want S rfl rfl rfl rfl hb12 ?_
                  refine s_lv0 S (rn_and_f (!decide (r5.1 = (GDate.mk 0 0 0))) hb13 (S.tm rfl) rfl) rfl ?_; clear S; intro a S
                  refine s_done ?_
                  exact ⟨Keep.refl _ _, S.nf [true, true] rfl ⟨rfl, rfl, rfl, rfl, rfl, rfl, rfl, rfl, rfl, trivial⟩⟩
              clear S; rintro a w49 ⟨hk47, S⟩
              refine s_lv S rfl (rn_or_f hb12 (S.tm rfl) (S.tm rfl)) rfl ?_; clear S; intro a S
              refine s_done ?_
              exact ⟨hk47, S.nf [true, true] rfl ⟨rfl, rfl, rfl, rfl, rfl, rfl, rfl, rfl, trivial⟩⟩
          clear S; rintro a w48 ⟨hk48, S⟩
          refine s_lv S rfl (rn_move (S.tm rfl)) rfl ?_; clear S; intro a S
          refine s_cutm 4 (fun a w' => Keep [] w48 w' ∧ Sx w [] φ1 [.blk b4 [.int .i64 r5.1.Year, .int .i64 r5.1.Month, .int .i64 r5.1.Day] 28, .blk b1 [v_p_l, .int .i64 r4.2] 25] [(3, .pointer (some ⟨b1, 0, none⟩)), (6, v3), (7, .int .i64 r4.1), (10, .int .i64 r6.1), (12, .int .i64 r7.1), (82, .bool ((false || ((!decide ((tumblaw2_when (!(tumbref2_Day r1.1)) 1) = 0)) && (!decide (r5.1 = (GDate.mk 0 0 0))))) || (!decide (r6.2 = r7.2))))] 132 a w') ?_ ?_
          · rcases Bool.eq_false_or_eq_true (false || ((!decide ((tumblaw2_when (!(tumbref2_Day r1.1)) 1) = 0)) && (!decide (r5.1 = (GDate.mk 0 0 0))))) with hb14 | hb14
            · refine s_skip S rfl rfl rfl rfl (by rw [hb14]; rfl) rfl ?_ rfl; clear S; intro a S
              refine s_skip S rfl rfl rfl rfl (by rw [hb14]; rfl) rfl ?_ rfl; clear S; intro a S
              refine s_skip S rfl rfl rfl rfl (by rw [hb14]; rfl) rfl ?_ rfl; clear S; intro a S
              refine s_lv S rfl (rn_or_t (!decide (r6.2 = r7.2)) hb14 (S.tm rfl) rfl) rfl ?_; clear S; intro a S
              refine s_done ?_
              exact ⟨Keep.refl _ _, S.nf [true, true] rfl ⟨rfl, rfl, rfl, rfl, rfl, rfl, trivial⟩⟩
            · refine s_want S rfl rfl rfl rfl hb14 ?_
              refine s_lv0 S (rn_move (S.tm rfl)) rfl ?_; clear S; intro a S
              refine s_want S rfl rfl rfl rfl hb14 ?_
              refine s_lv0 S (rn_move (S.tm rfl)) rfl ?_; clear S; intro a S
              refine s_want S rfl rfl rfl rfl hb14 ?_
              refine s_lv0 S (rn_neq (S.tm rfl) (S.tm rfl)) rfl ?_; clear S; intro a S
              refine s_lv S rfl (rn_or_f hb14 (S.tm rfl) (S.tm rfl)) rfl ?_; clear S; intro a S
              refine s_done ?_
              exact ⟨Keep.refl _ _, S.nf [true, true] rfl ⟨rfl, rfl, rfl, rfl, rfl, rfl, trivial⟩⟩
          clear S; rintro a w50 ⟨hk49, S⟩
          refine s_lv S rfl (rn_move (S.tm rfl)) rfl ?_; clear S; intro a S
          refine s_cutm 4 (fun a w' => Keep [] w50 w' ∧ Sx w [] φ1 [.blk b4 [.int .i64 r5.1.Year, .int .i64 r5.1.Month, .int .i64 r5.1.Day] 28, .blk b1 [v_p_l, .int .i64 r4.2] 25] [(3, .pointer (some ⟨b1, 0, none⟩)), (6, v3), (7, .int .i64 r4.1), (87, .bool (((false || ((!decide ((tumblaw2_when (!(tumbref2_Day r1.1)) 1) = 0)) && (!decide (r5.1 = (GDate.mk 0 0 0))))) || (!decide (r6.2 = r7.2))) || (!decide (r6.1 = r7.1))))] 132 a w') ?_ ?_
          · rcases Bool.eq_false_or_eq_true ((false || ((!decide ((tumblaw2_when (!(tumbref2_Day r1.1)) 1) = 0)) && (!decide (r5.1 = (GDate.mk 0 0 0))))) || (!decide (r6.2 = r7.2))) with hb15 | hb15
            · refine s_skip S rfl rfl rfl rfl (by rw [hb15]; rfl) rfl ?_ rfl; clear S; intro a S
              refine s_skip S rfl rfl rfl rfl (by rw [hb15]; rfl) rfl ?_ rfl; clear S; intro a S
              refine s_skip S rfl rfl rfl rfl (by rw [hb15]; rfl) rfl ?_ rfl; clear S; intro a S
              refine s_lv S rfl (rn_or_t (!decide (r6.1 = r7.1)) hb15 (S.tm rfl) rfl) rfl ?_; clear S; intro a S
              refine s_done ?_
              exact ⟨Keep.refl _ _, S.nf [true, true] rfl ⟨rfl, rfl, rfl, rfl, trivial⟩⟩
            · refine s_want S rfl rfl rfl rfl hb15 ?_
              refine s_lv0 S (rn_move (S.tm rfl)) rfl ?_; clear S; intro a S
              refine s_want S rfl rfl rfl rfl hb15 ?_
              refine s_lv0 S (rn_move (S.tm rfl)) rfl ?_; clear S; intro a S
              refine s_want S rfl rfl rfl rfl hb15 ?_
              refine s_lv0 S (rn_neq (S.tm rfl) (S.tm rfl)) rfl ?_; clear S; intro a S
              refine s_lv S rfl (rn_or_f hb15 (S.tm rfl) (S.tm rfl)) rfl ?_; clear S; intro a S
              refine s_done ?_
              exact ⟨Keep.refl _ _, S.nf [true, true] rfl ⟨rfl, rfl, rfl, rfl, trivial⟩⟩
          clear S; rintro a w51 ⟨hk50, S⟩
          refine s_done ?_
          replace S := S.nf (L' := [.blk b1 [v_p_l, .int .i64 r4.2] 25]) (K' := [(3, .pointer (some ⟨b1, 0, none⟩)), (6, v3), (7, .int .i64 r4.1), (87, .bool (((false || ((!decide ((tumblaw2_when (!(tumbref2_Day r1.1)) 1) = 0)) && (!decide (r5.1 = (GDate.mk 0 0 0))))) || (!decide (r6.2 = r7.2))) || (!decide (r6.1 = r7.1))))]) [false, true] rfl ⟨rfl, rfl, rfl, rfl, trivial⟩
          refine then_n ?_
          exact ⟨(((false || ((!decide ((tumblaw2_when (!(tumbref2_Day r1.1)) 1) = 0)) && (!decide (r5.1 = (GDate.mk 0 0 0))))) || (!decide (r6.2 = r7.2))) || (!decide (r6.1 = r7.1))), h, S.nf [true] rfl ⟨rfl, rfl, rfl, rfl, trivial⟩⟩
    · replace h := iteF h hb1
      rcases Bool.eq_false_or_eq_true (!decide (r5.2 = (tumblaw2_when (!(tumbref2_Day r1.1)) 1))) with hb16 | hb16
      · replace h := iteT h hb16
        refine d_region [] ([]) Tryd.mixed S rfl (by kernel_rfl) ?_; clear S; intro w56 hk55 hsel S
        refine d_quiet 0 S hsel rfl rfl rfl (by kernel_rfl) (by kernel_rfl) rfl (fun _ hw => (rn_move (S.tm rfl))) ?_; clear S; intro a S
        refine d_quiet 2 S hsel rfl rfl rfl (by kernel_rfl) (by kernel_rfl) rfl (fun _ hw => (rn_move (S.tm rfl))) ?_; clear S; intro a S
        refine d_loud1 1 (by kernel_rfl) rfl ?_
        refine l_enter S (fun _ => run_call (vs := [v3]) ⟨(S.tm rfl), trivial⟩ Tryd.call13) (swimmer_CheckSwimmers_ok _ v3 r3.1 (((ownV_slcT GSwimmer.enc_ok hs1)).mono (S.le_new nil_sub)) _ hr8) rfl ?_; clear S; intro v34 a w57 hv34 hk56 hn34 S
        subst hv34
        refine l_done ?_
        refine d_next hk56 ?_
        refine d_loud1 3 (by kernel_rfl) rfl ?_
        refine l_enter S (fun _ => run_call (vs := [v3]) ⟨(S.tm rfl), trivial⟩ Tryd.call14) (tumbref2_SwimmersFault_ok _ v3 r3.1 (((ownV_slcT GSwimmer.enc_ok hs1)).mono (S.le_new nil_sub)) _ hr9) rfl ?_; clear S; intro v35 a w58 hv35 hk57 hn35 S
        subst hv35
        refine l_done ?_
        refine d_next hk57 ?_
        refine d_quiet 4 S hsel rfl rfl rfl (by kernel_rfl) (by kernel_rfl) rfl (fun _ hw => (rn_neq (S.tm rfl) (S.tm rfl))) ?_; clear S; intro a S
        refine d_quiet 5 S hsel rfl rfl rfl (by kernel_rfl) (by kernel_rfl) rfl (fun _ hw => (rn_move (S.tm rfl))) ?_; clear S; intro a S
        refine d_quiet_g 6 S hsel rfl rfl rfl rfl hb1 rfl rfl (by kernel_rfl) (by kernel_rfl) rfl (fun _ hw => (rn_move (S.tm rfl))) ?_; clear S; intro a S
        refine d_quiet_g 7 S hsel rfl rfl rfl rfl hb1 rfl rfl (by kernel_rfl) (by kernel_rfl) rfl (fun _ hw => (rn_move (S.tm rfl))) ?_; clear S; intro a S
        refine d_quiet_g 8 S hsel rfl rfl rfl rfl hb1 rfl rfl (by kernel_rfl) (by kernel_rfl) rfl (fun _ hw => (rn_neq (S.tm rfl) (S.tm rfl))) ?_; clear S; intro a S
        refine d_quiet 9 S hsel rfl rfl rfl (by kernel_rfl) (by kernel_rfl) rfl (fun _ hw => (rn_pick_c hb1 (S.tm rfl) (S.tm rfl))) ?_; clear S; intro a S
        refine d_quiet 10 S hsel rfl rfl rfl (by kernel_rfl) (by kernel_rfl) rfl (fun _ hw => (rn_move (S.tm rfl))) ?_; clear S; intro a S
        refine d_skip 11 S hsel rfl rfl rfl rfl (by rw [hb16]; rfl) rfl (by kernel_rfl) (by kernel_rfl) rfl ?_; clear S; intro a S
        refine d_skip 12 S hsel rfl rfl rfl rfl (by rw [hb16]; rfl) rfl (by kernel_rfl) (by kernel_rfl) rfl ?_; clear S; intro a S
        refine d_skip 13 S hsel rfl rfl rfl rfl (by rw [hb16]; rfl) rfl (by kernel_rfl) (by kernel_rfl) rfl ?_; clear S; intro a S
        refine d_rest [14, 15, 16, 17, 18, 19, 20, 21, 22, 23, 24, 25, 26, 27, 28, 29, 30, 31, 32, 33, 34, 35, 36, 37, 38] hsel (by kernel_rfl) rfl ?_
        clear hsel
        refine s_skipU S rfl rfl rfl rfl rfl ?_; clear S; intro a S
        refine s_skipU S rfl rfl rfl rfl rfl ?_; clear S; intro a S
        refine s_skipU S rfl rfl rfl rfl rfl ?_; clear S; intro a S
        refine s_skipU S rfl rfl rfl rfl rfl ?_; clear S; intro a S
        refine s_skip S rfl rfl rfl rfl (by rw [hb16]; rfl) rfl ?_ rfl; clear S; intro a S
        refine s_lv S rfl (rn_pick_b hb16 (S.tm rfl) rfl) rfl ?_; clear S; intro a S
        refine s_lv S rfl (rn_move (S.tm rfl)) rfl ?_; clear S; intro a S
        refine s_cutm 8 (fun a w' => Keep [] w58 w' ∧ Sx w [] φ1 [.blk b4 [.int .i64 r5.1.Year, .int .i64 r5.1.Month, .int .i64 r5.1.Day] 28, .blk b1 [v_p_l, .int .i64 r4.2] 25] [(3, .pointer (some ⟨b1, 0, none⟩)), (6, v3), (7, .int .i64 r4.1), (10, .int .i64 r6.1), (11, .int .i64 r6.2), (12, .int .i64 r7.1), (13, .int .i64 r7.2), (77, .bool (true || ((!decide ((tumblaw2_when (!(tumbref2_Day r1.1)) 1) = 0)) && (!decide (r5.1 = (GDate.mk 0 0 0))))))] 132 a w') ?_ ?_
        · rcases Bool.eq_false_or_eq_true true with hb17 | hb17
          · refine s_skip S rfl rfl rfl rfl (by rw [hb17]; rfl) rfl ?_ rfl; clear S; intro a S
            refine s_skip S rfl rfl rfl rfl (by rw [hb17]; rfl) rfl ?_ rfl; clear S; intro a S
            refine s_skip S rfl rfl rfl rfl (by rw [hb17]; rfl) rfl ?_ rfl; clear S; intro a S
            refine s_skipU S rfl rfl rfl rfl rfl ?_; clear S; intro a S
            refine s_skipU S rfl rfl rfl rfl rfl ?_; clear S; intro a S
            refine s_skipU S rfl rfl rfl rfl rfl ?_; clear S; intro a S
            refine s_skip S rfl rfl rfl rfl (by rw [hb17]; rfl) rfl ?_ rfl; clear S; intro a S
            refine s_lv S rfl (rn_or_t ((!decide ((tumblaw2_when (!(tumbref2_Day r1.1)) 1) = 0)) && (!decide (r5.1 = (GDate.mk 0 0 0)))) hb17 (S.tm rfl) rfl) rfl ?_; clear S; intro a S
            refine s_done ?_
            exact ⟨Keep.refl _ _, S.nf [true, true] rfl ⟨rfl, rfl, rfl, rfl, rfl, rfl, rfl, rfl, trivial⟩⟩
          · refine s_want S rfl rfl rfl rfl hb17 ?_
            refine s_lv0 S (rn_move (S.tm rfl)) rfl ?_; clear S; intro a S
            refine s_want S rfl rfl rfl rfl hb17 ?_
            refine s_lv0 S (rn_neq (S.tm rfl) rfl) rfl ?_; clear S; intro a S
            refine s_want S rfl rfl rfl rfl hb17 ?_
            refine s_lv0 S (rn_move (S.tm rfl)) rfl ?_; clear S; intro a S
            refine s_cutm 4 (fun a w' => Keep [] w58 w' ∧ Sx w [] φ1 [.blk b4 [.int .i64 r5.1.Year, .int .i64 r5.1.Month, .int .i64 r5.1.Day] 28, .blk b1 [v_p_l, .int .i64 r4.2] 25] [(3, .pointer (some ⟨b1, 0, none⟩)), (6, v3), (7, .int .i64 r4.1), (10, .int .i64 r6.1), (11, .int .i64 r6.2), (12, .int .i64 r7.1), (13, .int .i64 r7.2), (69, .bool true), (76, .bool ((!decide ((tumblaw2_when (!(tumbref2_Day r1.1)) 1) = 0)) && (!decide (r5.1 = (GDate.mk 0 0 0)))))] 132 a w') ?_ ?_
            · rcases Bool.eq_false_or_eq_true (!decide ((tumblaw2_when (!(tumbref2_Day r1.1)) 1) = 0)) with hb18 | hb18
              · refine s_want S rfl rfl rfl rfl hb18 ?_
                refine s_lv0 S (rn_ldA Tryd.isAgg28 Tryd.sizeOf28 (off := 0) (o := 0) (part := [.int .i64 r5.1.Year, .int .i64 r5.1.Month, .int .i64 r5.1.Day]) rfl rfl (S.tm rfl) (S.cellsAt (i := 0) rfl)) rfl ?_; clear S; intro a S
                refine s_want S rfl rfl rfl rfl hb18 ?_
                refine s_lv0 S (rn_bld bt_28 (pv := []) trivial (cs := [.int .i64 0, .int .i64 0, .int .i64 0]) (by kernel_rfl)) rfl ?_; clear S; intro a S
                refine s_want S rfl rfl rfl rfl hb18 ?_
                refine s_lv0 S (rn_neq_28 (m := r5.1) (n := (GDate.mk 0 0 0)) (S.tm rfl) (S.tm rfl)) rfl ?_; clear S; intro a S
                refine s_want S rfl rfl rfl rfl hb17 ?_
                refine s_lv0 S (rn_and_t hb18 (S.tm rfl) (S.tm rfl)) rfl ?_; clear S; intro a S
                refine s_done ?_
                exact ⟨Keep.refl _ _, S.nf [true, true] rfl ⟨rfl, rfl, rfl, rfl, rfl, rfl, rfl, rfl, rfl, trivial⟩⟩
              · refine s_skip S rfl rfl rfl rfl (by rw [hb18]; rfl) rfl ?_ rfl; clear S; intro a S
                refine s_skip S rfl rfl rfl rfl (by rw [hb18]; rfl) rfl ?_ rfl; clear S; intro a S
                refine s_skip S rfl rfl rfl rfl (by rw [hb18]; rfl) rfl ?_ rfl; clear S; intro a S
                refine s_want S rfl rfl rfl rfl hb17 ?_
                refine s_lv0 S (rn_and_f (!decide (r5.1 = (GDate.mk 0 0 0))) hb18 (S.tm rfl) rfl) rfl ?_; clear S; intro a S
                refine s_done ?_
                exact ⟨Keep.refl _ _, S.nf [true, true] rfl ⟨rfl, rfl, rfl, rfl, rfl, rfl, rfl, rfl, rfl, trivial⟩⟩
            clear S; rintro a w60 ⟨hk58, S⟩
            refine s_lv S rfl (rn_or_f hb17 (S.tm rfl) (S.tm rfl)) rfl ?_; clear S; intro a S
            refine s_done ?_
            exact ⟨hk58, S.nf [true, true] rfl ⟨rfl, rfl, rfl, rfl, rfl, rfl, rfl, rfl, trivial⟩⟩
        clear S; rintro a w59 ⟨hk59, S⟩
        refine s_lv S rfl (rn_move (S.tm rfl)) rfl ?_; clear S; intro a S
        refine s_cutm 4 (fun a w' => Keep [] w59 w' ∧ Sx w [] φ1 [.blk b4 [.int .i64 r5.1.Year, .int .i64 r5.1.Month, .int .i64 r5.1.Day] 28, .blk b1 [v_p_l, .int .i64 r4.2] 25] [(3, .pointer (some ⟨b1, 0, none⟩)), (6, v3), (7, .int .i64 r4.1), (10, .int .i64 r6.1), (12, .int .i64 r7.1), (82, .bool ((true || ((!decide ((tumblaw2_when (!(tumbref2_Day r1.1)) 1) = 0)) && (!decide (r5.1 = (GDate.mk 0 0 0))))) || (!decide (r6.2 = r7.2))))] 132 a w') ?_ ?_
        · rcases Bool.eq_false_or_eq_true (true || ((!decide ((tumblaw2_when (!(tumbref2_Day r1.1)) 1) = 0)) && (!decide (r5.1 = (GDate.mk 0 0 0))))) with hb19 | hb19
          · refine s_skip S rfl rfl rfl rfl (by rw [hb19]; rfl) rfl ?_ rfl; clear S; intro a S
            refine s_skip S rfl rfl rfl rfl (by rw [hb19]; rfl) rfl ?_ rfl; clear S; intro a S
            refine s_skip S rfl rfl rfl rfl (by rw [hb19]; rfl) rfl ?_ rfl; clear S; intro a S
            refine s_lv S rfl (rn_or_t (!decide (r6.2 = r7.2)) hb19 (S.tm rfl) rfl) rfl ?_; clear S; intro a S
            refine s_done ?_
            exact ⟨Keep.refl _ _, S.nf [true, true] rfl ⟨rfl, rfl, rfl, rfl, rfl, rfl, trivial⟩⟩
          · refine s_want S rfl rfl rfl rfl hb19 ?_
            refine s_lv0 S (rn_move (S.tm rfl)) rfl ?_; clear S; intro a S
            refine s_want S rfl rfl rfl rfl hb19 ?_
            refine s_lv0 S (rn_move (S.tm rfl)) rfl ?_; clear S; intro a S
            refine s_want S rfl rfl rfl rfl hb19 ?_
            refine s_lv0 S (rn_neq (S.tm rfl) (S.tm rfl)) rfl ?_; clear S; intro a S
            refine s_lv S rfl (rn_or_f hb19 (S.tm rfl) (S.tm rfl)) rfl ?_; clear S; intro a S
            refine s_done ?_
            exact ⟨Keep.refl _ _, S.nf [true, true] rfl ⟨rfl, rfl, rfl, rfl, rfl, rfl, trivial⟩⟩
        clear S; rintro a w61 ⟨hk60, S⟩
        refine s_lv S rfl (rn_move (S.tm rfl)) rfl ?_; clear S; intro a S
        refine s_cutm 4 (fun a w' => Keep [] w61 w' ∧ Sx w [] φ1 [.blk b4 [.int .i64 r5.1.Year, .int .i64 r5.1.Month, .int .i64 r5.1.Day] 28, .blk b1 [v_p_l, .int .i64 r4.2] 25] [(3, .pointer (some ⟨b1, 0, none⟩)), (6, v3), (7, .int .i64 r4.1), (87, .bool (((true || ((!decide ((tumblaw2_when (!(tumbref2_Day r1.1)) 1) = 0)) && (!decide (r5.1 = (GDate.mk 0 0 0))))) || (!decide (r6.2 = r7.2))) || (!decide (r6.1 = r7.1))))] 132 a w') ?_ ?_
        · rcases Bool.eq_false_or_eq_true ((true || ((!decide ((tumblaw2_when (!(tumbref2_Day r1.1)) 1) = 0)) && (!decide (r5.1 = (GDate.mk 0 0 0))))) || (!decide (r6.2 = r7.2))) with hb20 | hb20
          · refine s_skip S rfl rfl rfl rfl (by rw [hb20]; rfl) rfl ?_ rfl; clear S; intro a S
            refine s_skip S rfl rfl rfl rfl (by rw [hb20]; rfl) rfl ?_ rfl; clear S; intro a S
            refine s_skip S rfl rfl rfl rfl (by rw [hb20]; rfl) rfl ?_ rfl; clear S; intro a S
            refine s_lv S rfl (rn_or_t (!decide (r6.1 = r7.1)) hb20 (S.tm rfl) rfl) rfl ?_; clear S; intro a S
            refine s_done ?_
            exact ⟨Keep.refl _ _, S.nf [true, true] rfl ⟨rfl, rfl, rfl, rfl, trivial⟩⟩
          · refine s_want S rfl rfl rfl rfl hb20 ?_
            refine s_lv0 S (rn_move (S.tm rfl)) rfl ?_; clear S; intro a S
            refine s_want S rfl rfl rfl rfl hb20 ?_
            refine s_lv0 S (rn_move (S.tm rfl)) rfl ?_; clear S; intro a S
            refine s_want S rfl rfl rfl rfl hb20 ?_
            refine s_lv0 S (rn_neq (S.tm rfl) (S.tm rfl)) rfl ?_; clear S; intro a S
            refine s_lv S rfl (rn_or_f hb20 (S.tm rfl) (S.tm rfl)) rfl ?_; clear S; intro a S
            refine s_done ?_
            exact ⟨Keep.refl _ _, S.nf [true, true] rfl ⟨rfl, rfl, rfl, rfl, trivial⟩⟩
        clear S; rintro a w62 ⟨hk61, S⟩
        refine s_done ?_
        replace S := S.nf (L' := [.blk b1 [v_p_l, .int .i64 r4.2] 25]) (K' := [(3, .pointer (some ⟨b1, 0, none⟩)), (6, v3), (7, .int .i64 r4.1), (87, .bool (((true || ((!decide ((tumblaw2_when (!(tumbref2_Day r1.1)) 1) = 0)) && (!decide (r5.1 = (GDate.mk 0 0 0))))) || (!decide (r6.2 = r7.2))) || (!decide (r6.1 = r7.1))))]) [false, true] rfl ⟨rfl, rfl, rfl, rfl, trivial⟩
        refine then_n ?_
        exact ⟨(((true || ((!decide ((tumblaw2_when (!(tumbref2_Day r1.1)) 1) = 0)) && (!decide (r5.1 = (GDate.mk 0 0 0))))) || (!decide (r6.2 = r7.2))) || (!decide (r6.1 = r7.1))), h, S.nf [true] rfl ⟨rfl, rfl, rfl, rfl, trivial⟩⟩
      · replace h := iteF h hb16
        rcases Bool.eq_false_or_eq_true (decide ((tumblaw2_when (!(tumbref2_Day r1.1)) 1) = 0)) with hb21 | hb21
        · replace h := iteT h hb21
          obtain ⟨r11, hr11, h⟩ := bindE h
          refine d_region [] ([]) Tryd.mixed S rfl (by kernel_rfl) ?_; clear S; intro w68 hk67 hsel S
          refine d_quiet 0 S hsel rfl rfl rfl (by kernel_rfl) (by kernel_rfl) rfl (fun _ hw => (rn_move (S.tm rfl))) ?_; clear S; intro a S
          refine d_quiet 2 S hsel rfl rfl rfl (by kernel_rfl) (by kernel_rfl) rfl (fun _ hw => (rn_move (S.tm rfl))) ?_; clear S; intro a S
          refine d_loud1 1 (by kernel_rfl) rfl ?_
          refine l_enter S (fun _ => run_call (vs := [v3]) ⟨(S.tm rfl), trivial⟩ Tryd.call13) (swimmer_CheckSwimmers_ok _ v3 r3.1 (((ownV_slcT GSwimmer.enc_ok hs1)).mono (S.le_new nil_sub)) _ hr8) rfl ?_; clear S; intro v41 a w69 hv41 hk68 hn41 S
          subst hv41
          refine l_done ?_
          refine d_next hk68 ?_
          refine d_loud1 3 (by kernel_rfl) rfl ?_
          refine l_enter S (fun _ => run_call (vs := [v3]) ⟨(S.tm rfl), trivial⟩ Tryd.call14) (tumbref2_SwimmersFault_ok _ v3 r3.1 (((ownV_slcT GSwimmer.enc_ok hs1)).mono (S.le_new nil_sub)) _ hr9) rfl ?_; clear S; intro v42 a w70 hv42 hk69 hn42 S
          subst hv42
          refine l_done ?_
          refine d_next hk69 ?_
          refine d_quiet 4 S hsel rfl rfl rfl (by kernel_rfl) (by kernel_rfl) rfl (fun _ hw => (rn_neq (S.tm rfl) (S.tm rfl))) ?_; clear S; intro a S
          refine d_quiet 5 S hsel rfl rfl rfl (by kernel_rfl) (by kernel_rfl) rfl (fun _ hw => (rn_move (S.tm rfl))) ?_; clear S; intro a S
          refine d_quiet_g 6 S hsel rfl rfl rfl rfl hb1 rfl rfl (by kernel_rfl) (by kernel_rfl) rfl (fun _ hw => (rn_move (S.tm rfl))) ?_; clear S; intro a S
          refine d_quiet_g 7 S hsel rfl rfl rfl rfl hb1 rfl rfl (by kernel_rfl) (by kernel_rfl) rfl (fun _ hw => (rn_move (S.tm rfl))) ?_; clear S; intro a S
          refine d_quiet_g 8 S hsel rfl rfl rfl rfl hb1 rfl rfl (by kernel_rfl) (by kernel_rfl) rfl (fun _ hw => (rn_neq (S.tm rfl) (S.tm rfl))) ?_; clear S; intro a S
          refine d_quiet 9 S hsel rfl rfl rfl (by kernel_rfl) (by kernel_rfl) rfl (fun _ hw => (rn_pick_c hb1 (S.tm rfl) (S.tm rfl))) ?_; clear S; intro a S
          refine d_quiet 10 S hsel rfl rfl rfl (by kernel_rfl) (by kernel_rfl) rfl (fun _ hw => (rn_move (S.tm rfl))) ?_; clear S; intro a S
          refine d_quiet_g 11 S hsel rfl rfl rfl rfl hb16 rfl rfl (by kernel_rfl) (by kernel_rfl) rfl (fun _ hw => (rn_move (S.tm rfl))) ?_; clear S; intro a S
          refine d_quiet_g 12 S hsel rfl rfl rfl rfl hb16 rfl rfl (by kernel_rfl) (by kernel_rfl) rfl (fun _ hw => (rn_eql (S.tm rfl) rfl)) ?_; clear S; intro a S
          refine d_quiet_g 13 S hsel rfl rfl rfl rfl hb16 rfl rfl (by kernel_rfl) (by kernel_rfl) rfl (fun _ hw => (rn_move (S.tm rfl))) ?_; clear S; intro a S
          refine d_quiet_g 14 S hsel rfl rfl rfl rfl hb21 rfl rfl (by kernel_rfl) (by kernel_rfl) rfl (fun _ hw => (rn_ldA Tryd.isAgg28 Tryd.sizeOf28 (off := 0) (o := 0) (part := [.int .i64 r5.1.Year, .int .i64 r5.1.Month, .int .i64 r5.1.Day]) rfl rfl (S.tm rfl) ((S.blk_mem (i := 0) (cells := [.int .i64 r5.1.Year, .int .i64 r5.1.Month, .int .i64 r5.1.Day]) (b := b4) (T := 28) rfl (ne_nil (e' := .blk b4 [.int .i64 r5.1.Year, .int .i64 r5.1.Month, .int .i64 r5.1.Day] 28))).kept hw))) ?_; clear S; intro a S
          refine d_quiet_g 15 S hsel rfl rfl rfl rfl hb21 rfl rfl (by kernel_rfl) (by kernel_rfl) rfl (fun _ hw => (rn_move (S.tm rfl))) ?_; clear S; intro a S
          refine d_loud1 16 (by kernel_rfl) rfl ?_
          refine l_want S rfl rfl rfl hb21 ?_
          refine l_enter S (fun _ => run_call (vs := [.int .i64 r1.1]) ⟨(S.tm rfl), trivial⟩ Tryd.call15) (tumbref2_DateFor_ok _ r1.1 _ hr11) rfl ?_; clear S; intro v43 a w71 hv43 hk70 hn43 S
          subst hv43
          refine l_done ?_
          refine d_next hk70 ?_
          refine d_rest [17, 18, 19, 20, 21, 22, 23, 24, 25, 26, 27, 28, 29, 30, 31, 32, 33, 34, 35, 36, 37, 38] hsel (by kernel_rfl) rfl ?_
          clear hsel
          refine s_want S rfl rfl rfl rfl hb21 ?_
          refine s_lv0 S (rn_neq_28 (m := r5.1) (n := r11) (S.tm rfl) (S.tm rfl)) rfl ?_; clear S; intro a S
          refine s_want S rfl rfl rfl rfl hb16 ?_
          refine s_lv0 S (rn_pick_b hb21 (S.tm rfl) (S.tm rfl)) rfl ?_; clear S; intro a S
          refine s_lv S rfl (rn_pick_c hb16 (S.tm rfl) (S.tm rfl)) rfl ?_; clear S; intro a S
          refine s_lv S rfl (rn_move (S.tm rfl)) rfl ?_; clear S; intro a S
          refine s_cutm 8 (fun a w' => Keep [] w71 w' ∧ Sx w [] φ1 [.blk b4 [.int .i64 r5.1.Year, .int .i64 r5.1.Month, .int .i64 r5.1.Day] 28, .blk b1 [v_p_l, .int .i64 r4.2] 25] [(3, .pointer (some ⟨b1, 0, none⟩)), (6, v3), (7, .int .i64 r4.1), (10, .int .i64 r6.1), (11, .int .i64 r6.2), (12, .int .i64 r7.1), (13, .int .i64 r7.2), (77, .bool ((!decide (r5.1 = r11)) || ((!decide ((tumblaw2_when (!(tumbref2_Day r1.1)) 1) = 0)) && (!decide (r5.1 = (GDate.mk 0 0 0))))))] 132 a w') ?_ ?_
          · rcases Bool.eq_false_or_eq_true (!decide (r5.1 = r11)) with hb22 | hb22
            · refine s_skip S rfl rfl rfl rfl (by rw [hb22]; rfl) rfl ?_ rfl; clear S; intro a S
              refine s_skip S rfl rfl rfl rfl (by rw [hb22]; rfl) rfl ?_ rfl; clear S; intro a S
              refine s_skip S rfl rfl rfl rfl (by rw [hb22]; rfl) rfl ?_ rfl; clear S; intro a S
              refine s_skipU S rfl rfl rfl rfl rfl ?_; clear S; intro a S
              refine s_skipU S rfl rfl rfl rfl rfl ?_; clear S; intro a S
              refine s_skipU S rfl rfl rfl rfl rfl ?_; clear S; intro a S
              refine s_skip S rfl rfl rfl rfl (by rw [hb22]; rfl) rfl ?_ rfl; clear S; intro a S
              refine s_lv S rfl (rn_or_t ((!decide ((tumblaw2_when (!(tumbref2_Day r1.1)) 1) = 0)) && (!decide (r5.1 = (GDate.mk 0 0 0)))) hb22 (S.tm rfl) rfl) rfl ?_; clear S; intro a S
              refine s_done ?_
              exact ⟨Keep.refl _ _, S.nf [true, true] rfl ⟨rfl, rfl, rfl, rfl, rfl, rfl, rfl, rfl, trivial⟩⟩
            · refine s_want S rfl rfl rfl rfl hb22 ?_
              refine s_lv0 S (rn_move (S.tm rfl)) rfl ?_; clear S; intro a S
              refine s_want S rfl rfl rfl rfl hb22 ?_
              refine s_lv0 S (rn_neq (S.tm rfl) rfl) rfl ?_; clear S; intro a S
              refine s_want S rfl rfl rfl rfl hb22 ?_
              refine s_lv0 S (rn_move (S.tm rfl)) rfl ?_; clear S; intro a S
              refine s_cutm 4 (fun a w' => Keep [] w71 w' ∧ Sx w [] φ1 [.blk b4 [.int .i64 r5.1.Year, .int .i64 r5.1.Month, .int .i64 r5.1.Day] 28, .blk b1 [v_p_l, .int .i64 r4.2] 25] [(3, .pointer (some ⟨b1, 0, none⟩)), (6, v3), (7, .int .i64 r4.1), (10, .int .i64 r6.1), (11, .int .i64 r6.2), (12, .int .i64 r7.1), (13, .int .i64 r7.2), (69, .bool (!decide (r5.1 = r11))), (76, .bool ((!decide ((tumblaw2_when (!(tumbref2_Day r1.1)) 1) = 0)) && (!decide (r5.1 = (GDate.mk 0 0 0)))))] 132 a w') ?_ ?_
              · rcases Bool.eq_false_or_eq_true (!decide ((tumblaw2_when (!(tumbref2_Day r1.1)) 1) = 0)) with hb23 | hb23
                · refine s_want S rfl rfl rfl rfl hb23 ?_
                  refine s_lv0 S (rn_ldA Tryd.isAgg28 Tryd.sizeOf28 (off := 0) (o := 0) (part := [.int .i64 r5.1.Year, .int .i64 r5.1.Month, .int .i64 r5.1.Day]) rfl rfl (S.tm rfl) (S.cellsAt (i := 0) rfl)) rfl ?_; clear S; intro a S
                  refine s_want S rfl rfl rfl rfl hb23 ?_
                  refine s_lv0 S (rn_bld bt_28 (pv := []) trivial (cs := [.int .i64 0, .int .i64 0, .int .i64 0]) (by kernel_rfl)) rfl ?_; clear S; intro a S
                  refine s_want S rfl rfl rfl rfl hb23 ?_
                  refine s_lv0 S (rn_neq_28 (m := r5.1) (n := (GDate.mk 0 0 0)) (S.tm rfl) (S.tm rfl)) rfl ?_; clear S; intro a S
                  refine s_want S rfl rfl rfl rfl hb22 ?_
                  refine s_lv0 S (rn_and_t hb23 (S.tm rfl) (S.tm rfl)) rfl ?_; clear S; intro a S
                  refine s_done ?_
                  exact ⟨Keep.refl _ _, S.nf [true, true] rfl ⟨rfl, rfl, rfl, rfl, rfl, rfl, rfl, rfl, rfl, trivial⟩⟩
                · refine s_skip S rfl rfl rfl rfl (by rw [hb23]; rfl) rfl ?_ rfl; clear S; intro a S
                  refine s_skip S rfl rfl rfl rfl (by rw [hb23]; rfl) rfl ?_ rfl; clear S; intro a S
                  refine s_skip S rfl rfl rfl rfl (by rw [hb23]; rfl) rfl ?_ rfl; clear S; intro a S
                  refine s_want S rfl rfl rfl rfl hb22 ?_
                  refine s_lv0 S (rn_and_f (!decide (r5.1 = (GDate.mk 0 0 0))) hb23 (S.tm rfl) rfl) rfl ?_; clear S; intro a S
                  refine s_done ?_
                  exact ⟨Keep.refl _ _, S.nf [true, true] rfl ⟨rfl, rfl, rfl, rfl, rfl, rfl, rfl, rfl, rfl, trivial⟩⟩
              clear S; rintro a w73 ⟨hk71, S⟩
              refine s_lv S rfl (rn_or_f hb22 (S.tm rfl) (S.tm rfl)) rfl ?_; clear S; intro a S
              refine s_done ?_
              exact ⟨hk71, S.nf [true, true] rfl ⟨rfl, rfl, rfl, rfl, rfl, rfl, rfl, rfl, trivial⟩⟩
          clear S; rintro a w72 ⟨hk72, S⟩
          refine s_lv S rfl (rn_move (S.tm rfl)) rfl ?_; clear S; intro a S
          refine s_cutm 4 (fun a w' => Keep [] w72 w' ∧ Sx w [] φ1 [.blk b4 [.int .i64 r5.1.Year, .int .i64 r5.1.Month, .int .i64 r5.1.Day] 28, .blk b1 [v_p_l, .int .i64 r4.2] 25] [(3, .pointer (some ⟨b1, 0, none⟩)), (6, v3), (7, .int .i64 r4.1), (10, .int .i64 r6.1), (12, .int .i64 r7.1), (82, .bool (((!decide (r5.1 = r11)) || ((!decide ((tumblaw2_when (!(tumbref2_Day r1.1)) 1) = 0)) && (!decide (r5.1 = (GDate.mk 0 0 0))))) || (!decide (r6.2 = r7.2))))] 132 a w') ?_ ?_
          · rcases Bool.eq_false_or_eq_true ((!decide (r5.1 = r11)) || ((!decide ((tumblaw2_when (!(tumbref2_Day r1.1)) 1) = 0)) && (!decide (r5.1 = (GDate.mk 0 0 0))))) with hb24 | hb24
            · refine s_skip S rfl rfl rfl rfl (by rw [hb24]; rfl) rfl ?_ rfl; clear S; intro a S
              refine s_skip S rfl rfl rfl rfl (by rw [hb24]; rfl) rfl ?_ rfl; clear S; intro a S
              refine s_skip S rfl rfl rfl rfl (by rw [hb24]; rfl) rfl ?_ rfl; clear S; intro a S
              refine s_lv S rfl (rn_or_t (!decide (r6.2 = r7.2)) hb24 (S.tm rfl) rfl) rfl ?_; clear S; intro a S
              refine s_done ?_
              exact ⟨Keep.refl _ _, S.nf [true, true] rfl ⟨rfl, rfl, rfl, rfl, rfl, rfl, trivial⟩⟩
            · refine s_want S rfl rfl rfl rfl hb24 ?_
              refine s_lv0 S (rn_move (S.tm rfl)) rfl ?_; clear S; intro a S
              refine s_want S rfl rfl rfl rfl hb24 ?_
              refine s_lv0 S (rn_move (S.tm rfl)) rfl ?_; clear S; intro a S
              refine s_want S rfl rfl rfl rfl hb24 ?_
              refine s_lv0 S (rn_neq (S.tm rfl) (S.tm rfl)) rfl ?_; clear S; intro a S
              refine s_lv S rfl (rn_or_f hb24 (S.tm rfl) (S.tm rfl)) rfl ?_; clear S; intro a S
              refine s_done ?_
              exact ⟨Keep.refl _ _, S.nf [true, true] rfl ⟨rfl, rfl, rfl, rfl, rfl, rfl, trivial⟩⟩
          clear S; rintro a w74 ⟨hk73, S⟩
          refine s_lv S rfl (rn_move (S.tm rfl)) rfl ?_; clear S; intro a S
          refine s_cutm 4 (fun a w' => Keep [] w74 w' ∧ Sx w [] φ1 [.blk b4 [.int .i64 r5.1.Year, .int .i64 r5.1.Month, .int .i64 r5.1.Day] 28, .blk b1 [v_p_l, .int .i64 r4.2] 25] [(3, .pointer (some ⟨b1, 0, none⟩)), (6, v3), (7, .int .i64 r4.1), (87, .bool ((((!decide (r5.1 = r11)) || ((!decide ((tumblaw2_when (!(tumbref2_Day r1.1)) 1) = 0)) && (!decide (r5.1 = (GDate.mk 0 0 0))))) || (!decide (r6.2 = r7.2))) || (!decide (r6.1 = r7.1))))] 132 a w') ?_ ?_
          · rcases Bool.eq_false_or_eq_true (((!decide (r5.1 = r11)) || ((!decide ((tumblaw2_when (!(tumbref2_Day r1.1)) 1) = 0)) && (!decide (r5.1 = (GDate.mk 0 0 0))))) || (!decide (r6.2 = r7.2))) with hb25 | hb25
            · refine s_skip S rfl rfl rfl rfl (by rw [hb25]; rfl) rfl ?_ rfl; clear S; intro a S
              refine s_skip S rfl rfl rfl rfl (by rw [hb25]; rfl) rfl ?_ rfl; clear S; intro a S
              refine s_skip S rfl rfl rfl rfl (by rw [hb25]; rfl) rfl ?_ rfl; clear S; intro a S
              refine s_lv S rfl (rn_or_t (!decide (r6.1 = r7.1)) hb25 (S.tm rfl) rfl) rfl ?_; clear S; intro a S
              refine s_done ?_
              exact ⟨Keep.refl _ _, S.nf [true, true] rfl ⟨rfl, rfl, rfl, rfl, trivial⟩⟩
            · refine s_want S rfl rfl rfl rfl hb25 ?_
              refine s_lv0 S (rn_move (S.tm rfl)) rfl ?_; clear S; intro a S
              refine s_want S rfl rfl rfl rfl hb25 ?_
              refine s_lv0 S (rn_move (S.tm rfl)) rfl ?_; clear S; intro a S
              refine s_want S rfl rfl rfl rfl hb25 ?_
              refine s_lv0 S (rn_neq (S.tm rfl) (S.tm rfl)) rfl ?_; clear S; intro a S
              refine s_lv S rfl (rn_or_f hb25 (S.tm rfl) (S.tm rfl)) rfl ?_; clear S; intro a S
              refine s_done ?_
              exact ⟨Keep.refl _ _, S.nf [true, true] rfl ⟨rfl, rfl, rfl, rfl, trivial⟩⟩
          clear S; rintro a w75 ⟨hk74, S⟩
          refine s_done ?_
          replace S := S.nf (L' := [.blk b1 [v_p_l, .int .i64 r4.2] 25]) (K' := [(3, .pointer (some ⟨b1, 0, none⟩)), (6, v3), (7, .int .i64 r4.1), (87, .bool ((((!decide (r5.1 = r11)) || ((!decide ((tumblaw2_when (!(tumbref2_Day r1.1)) 1) = 0)) && (!decide (r5.1 = (GDate.mk 0 0 0))))) || (!decide (r6.2 = r7.2))) || (!decide (r6.1 = r7.1))))]) [false, true] rfl ⟨rfl, rfl, rfl, rfl, trivial⟩
          refine then_n ?_
          exact ⟨((((!decide (r5.1 = r11)) || ((!decide ((tumblaw2_when (!(tumbref2_Day r1.1)) 1) = 0)) && (!decide (r5.1 = (GDate.mk 0 0 0))))) || (!decide (r6.2 = r7.2))) || (!decide (r6.1 = r7.1))), h, S.nf [true] rfl ⟨rfl, rfl, rfl, rfl, trivial⟩⟩
        · replace h := iteF h hb21
          refine d_region [] ([]) Tryd.mixed S rfl (by kernel_rfl) ?_; clear S; intro w78 hk77 hsel S
          refine d_quiet 0 S hsel rfl rfl rfl (by kernel_rfl) (by kernel_rfl) rfl (fun _ hw => (rn_move (S.tm rfl))) ?_; clear S; intro a S
          refine d_quiet 2 S hsel rfl rfl rfl (by kernel_rfl) (by kernel_rfl) rfl (fun _ hw => (rn_move (S.tm rfl))) ?_; clear S; intro a S
          refine d_loud1 1 (by kernel_rfl) rfl ?_
          refine l_enter S (fun _ => run_call (vs := [v3]) ⟨(S.tm rfl), trivial⟩ Tryd.call13) (swimmer_CheckSwimmers_ok _ v3 r3.1 (((ownV_slcT GSwimmer.enc_ok hs1)).mono (S.le_new nil_sub)) _ hr8) rfl ?_; clear S; intro v46 a w79 hv46 hk78 hn46 S
          subst hv46
          refine l_done ?_
          refine d_next hk78 ?_
          refine d_loud1 3 (by kernel_rfl) rfl ?_
          refine l_enter S (fun _ => run_call (vs := [v3]) ⟨(S.tm rfl), trivial⟩ Tryd.call14) (tumbref2_SwimmersFault_ok _ v3 r3.1 (((ownV_slcT GSwimmer.enc_ok hs1)).mono (S.le_new nil_sub)) _ hr9) rfl ?_; clear S; intro v47 a w80 hv47 hk79 hn47 S
          subst hv47
          refine l_done ?_
          refine d_next hk79 ?_
          refine d_rest [4, 5, 6, 7, 8, 9, 10, 11, 12, 13, 14, 15, 16, 17, 18, 19, 20, 21, 22, 23, 24, 25, 26, 27, 28, 29, 30, 31, 32, 33, 34, 35, 36, 37, 38] hsel (by kernel_rfl) rfl ?_
          clear hsel
          refine s_lv S rfl (rn_neq (S.tm rfl) (S.tm rfl)) rfl ?_; clear S; intro a S
          refine s_lv S rfl (rn_move (S.tm rfl)) rfl ?_; clear S; intro a S
          refine s_want S rfl rfl rfl rfl hb1 ?_
          refine s_lv0 S (rn_move (S.tm rfl)) rfl ?_; clear S; intro a S
          refine s_want S rfl rfl rfl rfl hb1 ?_
          refine s_lv0 S (rn_move (S.tm rfl)) rfl ?_; clear S; intro a S
          refine s_want S rfl rfl rfl rfl hb1 ?_
          refine s_lv0 S (rn_neq (S.tm rfl) (S.tm rfl)) rfl ?_; clear S; intro a S
          refine s_lv S rfl (rn_pick_c hb1 (S.tm rfl) (S.tm rfl)) rfl ?_; clear S; intro a S
          refine s_lv S rfl (rn_move (S.tm rfl)) rfl ?_; clear S; intro a S
          refine s_want S rfl rfl rfl rfl hb16 ?_
          refine s_lv0 S (rn_move (S.tm rfl)) rfl ?_; clear S; intro a S
          refine s_want S rfl rfl rfl rfl hb16 ?_
          refine s_lv0 S (rn_eql (S.tm rfl) rfl) rfl ?_; clear S; intro a S
          refine s_want S rfl rfl rfl rfl hb16 ?_
          refine s_lv0 S (rn_move (S.tm rfl)) rfl ?_; clear S; intro a S
          refine s_skip S rfl rfl rfl rfl (by rw [hb21]; rfl) rfl ?_ rfl; clear S; intro a S
          refine s_skip S rfl rfl rfl rfl (by rw [hb21]; rfl) rfl ?_ rfl; clear S; intro a S
          refine s_skip S rfl rfl rfl rfl (by rw [hb21]; rfl) rfl ?_ rfl; clear S; intro a S
          refine s_skip S rfl rfl rfl rfl (by rw [hb21]; rfl) rfl ?_ rfl; clear S; intro a S
          refine s_want S rfl rfl rfl rfl hb16 ?_
          refine s_lv0 S (rn_pick_c hb21 (S.tm rfl) rfl) rfl ?_; clear S; intro a S
          refine s_lv S rfl (rn_pick_c hb16 (S.tm rfl) (S.tm rfl)) rfl ?_; clear S; intro a S
          refine s_lv S rfl (rn_move (S.tm rfl)) rfl ?_; clear S; intro a S
          refine s_cutm 8 (fun a w' => Keep [] w80 w' ∧ Sx w [] φ1 [.blk b4 [.int .i64 r5.1.Year, .int .i64 r5.1.Month, .int .i64 r5.1.Day] 28, .blk b1 [v_p_l, .int .i64 r4.2] 25] [(3, .pointer (some ⟨b1, 0, none⟩)), (6, v3), (7, .int .i64 r4.1), (10, .int .i64 r6.1), (11, .int .i64 r6.2), (12, .int .i64 r7.1), (13, .int .i64 r7.2), (77, .bool (false || ((!decide ((tumblaw2_when (!(tumbref2_Day r1.1)) 1) = 0)) && (!decide (r5.1 = (GDate.mk 0 0 0))))))] 132 a w') ?_ ?_
          · rcases Bool.eq_false_or_eq_true false with hb26 | hb26
            · refine s_skip S rfl rfl rfl rfl (by rw [hb26]; rfl) rfl ?_ rfl; clear S; intro a S
              refine s_skip S rfl rfl rfl rfl (by rw [hb26]; rfl) rfl ?_ rfl; clear S; intro a S
              refine s_skip S rfl rfl rfl rfl (by rw [hb26]; rfl) rfl ?_ rfl; clear S; intro a S
              refine s_skipU S rfl rfl rfl rfl rfl ?_; clear S; intro a S
              refine s_skipU S rfl rfl rfl rfl rfl ?_; clear S; intro a S
              refine s_skipU S rfl rfl rfl rfl rfl ?_; clear S; intro a S
              refine s_skip S rfl rfl rfl rfl (by rw [hb26]; rfl) rfl ?_ rfl; clear S; intro a S
              refine s_lv S rfl (rn_or_t ((!decide ((tumblaw2_when (!(tumbref2_Day r1.1)) 1) = 0)) && (!decide (r5.1 = (GDate.mk 0 0 0)))) hb26 (S.tm rfl) rfl) rfl ?_; clear S; intro a S
              refine s_done ?_
              exact ⟨Keep.refl _ _, S.nf [true, true] rfl ⟨rfl, rfl, rfl, rfl, rfl, rfl, rfl, rfl, trivial⟩⟩
            · refine s_want S rfl rfl rfl rfl hb26 ?_
              refine s_lv0 S (rn_move (S.tm rfl)) rfl ?_; clear S; intro a S
              refine s_want S rfl rfl rfl rfl hb26 ?_
              refine s_lv0 S (rn_neq (S.tm rfl) rfl) rfl ?_; clear S; intro a S
              refine s_want S rfl rfl rfl rfl hb26 ?_
              refine s_lv0 S (rn_move (S.tm rfl)) rfl ?_; clear S; intro a S
              refine s_cutm 4 (fun a w' => Keep [] w80 w' ∧ Sx w [] φ1 [.blk b4 [.int .i64 r5.1.Year, .int .i64 r5.1.Month, .int .i64 r5.1.Day] 28, .blk b1 [v_p_l, .int .i64 r4.2] 25] [(3, .pointer (some ⟨b1, 0, none⟩)), (6, v3), (7, .int .i64 r4.1), (10, .int .i64 r6.1), (11, .int .i64 r6.2), (12, .int .i64 r7.1), (13, .int .i64 r7.2), (69, .bool false), (76, .bool ((!decide ((tumblaw2_when (!(tumbref2_Day r1.1)) 1) = 0)) && (!decide (r5.1 = (GDate.mk 0 0 0)))))] 132 a w') ?_ ?_
              · rcases Bool.eq_false_or_eq_true (!decide ((tumblaw2_when (!(tumbref2_Day r1.1)) 1) = 0)) with hb27 | hb27
                · refine s_want S rfl rfl rfl rfl hb27 ?_
                  refine s_lv0 S (rn_ldA Tryd.isAgg28 Tryd.sizeOf28 (off := 0) (o := 0) (part := [.int .i64 r5.1.Year, .int .i64 r5.1.Month, .int .i64 r5.1.Day]) rfl rfl (S.tm rfl) (S.cellsAt (i := 0) rfl)) rfl ?_; clear S; intro a S
                  refine s_want S rfl rfl rfl rfl hb27 ?_
                  refine s_lv0 S (rn_bld bt_28 (pv := []) trivial (cs := [.int .i64 0, .int .i64 0, .int .i64 0]) (by kernel_rfl)) rfl ?_; clear S; intro a S
                  refine s_want S rfl rfl rfl rfl hb27 ?_
                  refine s_lv0 S (rn_neq_28 (m := r5.1) (n := (GDate.mk 0 0 0)) (S.tm rfl) (S.tm rfl)) rfl ?_; clear S; intro a S
                  refine s_want S rfl rfl rfl rfl hb26 ?_
                  refine s_lv0 S (rn_and_t hb27 (S.tm rfl) (S.tm rfl)) rfl ?_; clear S; intro a S
                  refine s_done ?_
                  exact ⟨Keep.refl _ _, S.nf [true, true] rfl ⟨rfl, rfl, rfl, rfl, rfl, rfl, rfl, rfl, rfl, trivial⟩⟩
                · refine s_skip S rfl rfl rfl rfl (by rw [hb27]; rfl) rfl ?_ rfl; clear S; intro a S
                  refine s_skip S rfl rfl rfl rfl (by rw [hb27]; rfl) rfl ?_ rfl; clear S; intro a S
                  refine s_skip S rfl rfl rfl rfl (by rw [hb27]; rfl) rfl ?_ rfl; clear S; intro a S
                  refine s_want S rfl rfl rfl rfl hb26 ?_
                  refine s_lv0 S (rn_and_f (!decide (r5.1 = (GDate.mk 0 0 0))) hb27 (S.tm rfl) rfl) rfl ?_; clear S; intro a S
                  refine s_done ?_
                  exact ⟨Keep.refl _ _, S.nf [true, true] rfl ⟨rfl, rfl, rfl, rfl, rfl, rfl, rfl, rfl, rfl, trivial⟩⟩
              clear S; rintro a w82 ⟨hk80, S⟩
              refine s_lv S rfl (rn_or_f hb26 (S.tm rfl) (S.tm rfl)) rfl ?_; clear S; intro a S
              refine s_done ?_
              exact ⟨hk80, S.nf [true, true] rfl ⟨rfl, rfl, rfl, rfl, rfl, rfl, rfl, rfl, trivial⟩⟩
          clear S; rintro a w81 ⟨hk81, S⟩
          refine s_lv S rfl (rn_move (S.tm rfl)) rfl ?_; clear S; intro a S
          refine s_cutm 4 (fun a w' => Keep [] w81 w' ∧ Sx w [] φ1 [.blk b4 [.int .i64 r5.1.Year, .int .i64 r5.1.Month, .int .i64 r5.1.Day] 28, .blk b1 [v_p_l, .int .i64 r4.2] 25] [(3, .pointer (some ⟨b1, 0, none⟩)), (6, v3), (7, .int .i64 r4.1), (10, .int .i64 r6.1), (12, .int .i64 r7.1), (82, .bool ((false || ((!decide ((tumblaw2_when (!(tumbref2_Day r1.1)) 1) = 0)) && (!decide (r5.1 = (GDate.mk 0 0 0))))) || (!decide (r6.2 = r7.2))))] 132 a w') ?_ ?_
          · rcases Bool.eq_false_or_eq_true (false || ((!decide ((tumblaw2_when (!(tumbref2_Day r1.1)) 1) = 0)) && (!decide (r5.1 = (GDate.mk 0 0 0))))) with hb28 | hb28
            · refine s_skip S rfl rfl rfl rfl (by rw [hb28]; rfl) rfl ?_ rfl; clear S; intro a S
              refine s_skip S rfl rfl rfl rfl (by rw [hb28]; rfl) rfl ?_ rfl; clear S; intro a S
              refine s_skip S rfl rfl rfl rfl (by rw [hb28]; rfl) rfl ?_ rfl; clear S; intro a S
              refine s_lv S rfl (rn_or_t (!decide (r6.2 = r7.2)) hb28 (S.tm rfl) rfl) rfl ?_; clear S; intro a S
              refine s_done ?_
              exact ⟨Keep.refl _ _, S.nf [true, true] rfl ⟨rfl, rfl, rfl, rfl, rfl, rfl, trivial⟩⟩
            · refine s_want S rfl rfl rfl rfl hb28 ?_
              refine s_lv0 S (rn_move (S.tm rfl)) rfl ?_; clear S; intro a S
              refine s_want S rfl rfl rfl rfl hb28 ?_
              refine s_lv0 S (rn_move (S.tm rfl)) rfl ?_; clear S; intro a S
              refine s_want S rfl rfl rfl rfl hb28 ?_
              refine s_lv0 S (rn_neq (S.tm rfl) (S.tm rfl)) rfl ?_; clear S; intro a S
              refine s_lv S rfl (rn_or_f hb28 (S.tm rfl) (S.tm rfl)) rfl ?_; clear S; intro a S
              refine s_done ?_
              exact ⟨Keep.refl _ _, S.nf [true, true] rfl ⟨rfl, rfl, rfl, rfl, rfl, rfl, trivial⟩⟩
          clear S; rintro a w83 ⟨hk82, S⟩
          refine s_lv S rfl (rn_move (S.tm rfl)) rfl ?_; clear S; intro a S
          refine s_cutm 4 (fun a w' => Keep [] w83 w' ∧ Sx w [] φ1 [.blk b4 [.int .i64 r5.1.Year, .int .i64 r5.1.Month, .int .i64 r5.1.Day] 28, .blk b1 [v_p_l, .int .i64 r4.2] 25] [(3, .pointer (some ⟨b1, 0, none⟩)), (6, v3), (7, .int .i64 r4.1), (87, .bool (((false || ((!decide ((tumblaw2_when (!(tumbref2_Day r1.1)) 1) = 0)) && (!decide (r5.1 = (GDate.mk 0 0 0))))) || (!decide (r6.2 = r7.2))) || (!decide (r6.1 = r7.1))))] 132 a w') ?_ ?_
          · rcases Bool.eq_false_or_eq_true ((false || ((!decide ((tumblaw2_when (!(tumbref2_Day r1.1)) 1) = 0)) && (!decide (r5.1 = (GDate.mk 0 0 0))))) || (!decide (r6.2 = r7.2))) with hb29 | hb29
            · refine s_skip S rfl rfl rfl rfl (by rw [hb29]; rfl) rfl ?_ rfl; clear S; intro a S
              refine s_skip S rfl rfl rfl rfl (by rw [hb29]; rfl) rfl ?_ rfl; clear S; intro a S
              refine s_skip S rfl rfl rfl rfl (by rw [hb29]; rfl) rfl ?_ rfl; clear S; intro a S
              refine s_lv S rfl (rn_or_t (!decide (r6.1 = r7.1)) hb29 (S.tm rfl) rfl) rfl ?_; clear S; intro a S
              refine s_done ?_
              exact ⟨Keep.refl _ _, S.nf [true, true] rfl ⟨rfl, rfl, rfl, rfl, trivial⟩⟩
            · refine s_want S rfl rfl rfl rfl hb29 ?_
              refine s_lv0 S (rn_move (S.tm rfl)) rfl ?_; clear S; intro a S
              refine s_want S rfl rfl rfl rfl hb29 ?_
              refine s_lv0 S (rn_move (S.tm rfl)) rfl ?_; clear S; intro a S
              refine s_want S rfl rfl rfl rfl hb29 ?_
              refine s_lv0 S (rn_neq (S.tm rfl) (S.tm rfl)) rfl ?_; clear S; intro a S
              refine s_lv S rfl (rn_or_f hb29 (S.tm rfl) (S.tm rfl)) rfl ?_; clear S; intro a S
              refine s_done ?_
              exact ⟨Keep.refl _ _, S.nf [true, true] rfl ⟨rfl, rfl, rfl, rfl, trivial⟩⟩
          clear S; rintro a w84 ⟨hk83, S⟩
          refine s_done ?_
          replace S := S.nf (L' := [.blk b1 [v_p_l, .int .i64 r4.2] 25]) (K' := [(3, .pointer (some ⟨b1, 0, none⟩)), (6, v3), (7, .int .i64 r4.1), (87, .bool (((false || ((!decide ((tumblaw2_when (!(tumbref2_Day r1.1)) 1) = 0)) && (!decide (r5.1 = (GDate.mk 0 0 0))))) || (!decide (r6.2 = r7.2))) || (!decide (r6.1 = r7.1))))]) [false, true] rfl ⟨rfl, rfl, rfl, rfl, trivial⟩
          refine then_n ?_
          exact ⟨(((false || ((!decide ((tumblaw2_when (!(tumbref2_Day r1.1)) 1) = 0)) && (!decide (r5.1 = (GDate.mk 0 0 0))))) || (!decide (r6.2 = r7.2))) || (!decide (r6.1 = r7.1))), h, S.nf [true] rfl ⟨rfl, rfl, rfl, rfl, trivial⟩⟩
  clear S h; rintro a w16 ⟨x1, h, S⟩; rw [hj1] at h; clear hj1 j1
  refine then_n ?_
  refine f_cond (S.tm rfl) (fun hb30 => ?_) (fun hb30 => ?_)
  · replace h := iteT h hb30
    refine f_seq ?_
    refine f_region ?_
    refine lv S (rn_assign rfl) rfl ?_; clear S; intro a S
    refine l_done ?_
    replace S := S.nf (L' := []) (K' := [(2, .bool false)]) [false] rfl ⟨rfl, trivial⟩
    refine then_n ?_
    refine wp_ret ?_
    refine then_r ?_
    obtain rfl := Option.some.inj h
    exact f_ret S Tryd.results3 rfl rfl
  · replace h := iteF h hb30
    refine wp_skip ?_
    refine then_n ?_
    refine f_seq ?_
    refine f_region ?_
    refine lv S (rn_move (S.tm rfl)) rfl ?_; clear S; intro a S
    refine l_buildSlice S Tryd.underlying22 Tryd.sizeOf3 Tryd.zeroValue3 rfl rfl (pv := [(0, .int .i64 59), (1, .int .i64 0), (2, .int .i64 (-1)), (3, .int .i64 (-307)), (4, .int .i64 425)]) ⟨rfl, rfl, rfl, rfl, rfl, rfl, rfl, rfl, rfl, rfl, trivial⟩ (cs := [.int .i64 59, .int .i64 0, .int .i64 (-1), .int .i64 (-307), .int .i64 425]) (by kernel_rfl) rfl ?_; clear S; intro a w85 b5 hz6 hk84 S
    obtain ⟨r12, hr12, h⟩ := bindE h
    refine l_enter1 1 S (b := b1) rfl rfl (fun _ => .blk b1 [v_p_l, .int .i64 r12.2] 25) (fun _ => run_call (vs := [.pointer (some ⟨b1, 0, none⟩), .slice (some ⟨b5, 0, none⟩) 5 5]) ⟨(S.tm rfl), (S.tm rfl), trivial⟩ Tryd.call7) (Stream_Pick_ok _ b1 v_p_l p_l (hs_p_l.mono (S.le_arg (fp_sub (i := 1) (e := .blk b1 [v_p_l, .int .i64 r4.2] 25) rfl))) r4.2 (S.holds _ (List.mem_of_getElem? (i := 1) rfl)) (.slice (some ⟨b5, 0, none⟩) 5 5) [59, 0, (-1), (-307), 425] (lit_slcT enc_int S (i := 0) rfl rfl rfl rfl ((ne_fp (i := 1) (j := 0) (e := .blk b1 [v_p_l, .int .i64 r4.2] 25) (e' := .blk b5 [.int .i64 59, .int .i64 0, .int .i64 (-1), .int .i64 (-307), .int .i64 425] 3) S rfl rfl rfl) _ rfl)) _ hr12) rfl (fun _ _ _ h => ⟨h.1, fun _ hc => by cases hc; rfl⟩) ?_; clear S; intro v48 a w86 hv48 hk85 hn48 S
    replace hv48 := hv48.2
    subst hv48
    refine lv S (rn_bld bt_43 (pv := [(0, .string k_ann), (1, .int .i64 1), (2, .int .i64 r12.1)]) ⟨rfl, rfl, rfl, rfl, rfl, (S.tm rfl), trivial⟩ (cs := [.string k_ann, .int .i64 1, .int .i64 r12.1]) (by kernel_rfl)) rfl ?_; clear S; intro a S
    refine l_alloc S Tryd.zeroValue43 (cs := [.string k_empty, .int .i64 0, .int .i64 0]) rfl rfl ?_; clear S; intro a w87 b6 hz7 hk86 S
    refine l_store S (S.tm rfl) (S.tm rfl) (i := 0) (off := 0) rfl Tryd.sizeOf43 (vs := [.string k_ann, .int .i64 1, .int .i64 r12.1]) rfl rfl rfl rfl ?_; clear S; intro w88 hk87 S
    refine l_done ?_
    replace S := S.nf (L' := [.blk b6 [.string k_ann, .int .i64 1, .int .i64 r12.1] 43, .blk b1 [v_p_l, .int .i64 r12.2] 25]) (K' := [(3, .pointer (some ⟨b1, 0, none⟩)), (6, v3), (7, .int .i64 r4.1), (15, .pointer (some ⟨b6, 0, none⟩))]) [true, false, true] rfl ⟨rfl, rfl, rfl, rfl, trivial⟩
    refine then_n ?_
    refine f_seq ?_
    refine f_seq ?_
    refine f_region ?_
    refine lv S (rn_move (S.tm rfl)) rfl ?_; clear S; intro a S
    refine lv S (rn_lenT sl_30 (S.tm rfl) (slc_len (ownV_slcT GSwimmer.enc_ok hs1))) rfl ?_; clear S; intro a S
    refine lv S (rn_gtr (S.tm rfl) rfl) rfl ?_; clear S; intro a S
    refine l_done ?_
    replace S := S.nf (L' := [.blk b6 [.string k_ann, .int .i64 1, .int .i64 r12.1] 43, .blk b1 [v_p_l, .int .i64 r12.2] 25]) (K' := [(3, .pointer (some ⟨b1, 0, none⟩)), (6, v3), (7, .int .i64 r4.1), (15, .pointer (some ⟨b6, 0, none⟩)), (94, .bool (decide (0 < (r3.1.length : Int))))]) [true, true] rfl ⟨rfl, rfl, rfl, rfl, rfl, trivial⟩
    refine then_n ?_
    obtain ⟨j2, hj2, h⟩ := joinE h
    refine f_join (fun a w' => ∃ x2 : ByteArray, ∃ x3 : Int, ∃ x4 : Int, ∃ x5 : Int, j2 x2 x3 x4 x5 = some r ∧ Sx w [] φ1 [.blk b6 [.string x2, .int .i64 x3, .int .i64 x4] 43, .blk b1 [v_p_l, .int .i64 x5] 25] [(3, .pointer (some ⟨b1, 0, none⟩)), (7, .int .i64 r4.1), (15, .pointer (some ⟨b6, 0, none⟩))] 132 a w') ?_ ?_
    · refine f_cond (S.tm rfl) (fun hb31 => ?_) (fun hb31 => ?_)
      · replace h := iteT h hb31
        refine f_region ?_
        refine lv S (rn_move (S.tm rfl)) rfl ?_; clear S; intro a S
        refine lv S (rn_move (S.tm rfl)) rfl ?_; clear S; intro a S
        refine lv S (rn_move (S.tm rfl)) rfl ?_; clear S; intro a S
        refine lv S (rn_lenT sl_30 (S.tm rfl) (slc_len (ownV_slcT GSwimmer.enc_ok hs1))) rfl ?_; clear S; intro a S
        obtain ⟨r13, hr13, h⟩ := bindE h
        refine l_enter1 1 S (b := b1) rfl rfl (fun _ => .blk b1 [v_p_l, .int .i64 r13.2] 25) (fun _ => run_call (vs := [.pointer (some ⟨b1, 0, none⟩), .int .i64 (r3.1.length : Int)]) ⟨(S.tm rfl), (S.tm rfl), trivial⟩ Tryd.call16) (Stream_Next_ok _ b1 v_p_l p_l (hs_p_l.mono (S.le_arg (fp_sub (i := 1) (e := .blk b1 [v_p_l, .int .i64 r12.2] 25) rfl))) r12.2 (S.holds _ (List.mem_of_getElem? (i := 1) rfl)) (r3.1.length : Int) _ hr13) rfl (fun _ _ _ h => ⟨h.1, fun _ hc => by cases hc; rfl⟩) ?_; clear S; intro v49 a w90 hv49 hk88 hn49 S
        replace hv49 := hv49.2
        subst hv49
        obtain ⟨hc1, h⟩ := chkE h
        obtain ⟨b7, o1, hm2, hr14⟩ := rn_indexT (a := a) (x := .tmp 95) (y := .tmp 99) (ty := 0) sl_30 (ownV_slcT GSwimmer.enc_ok hs1) (inB_get hc1).1 (inB_get hc1).2 (S.tm rfl) (S.tm rfl)
        refine lv S (hr14 _) rfl ?_; clear S; intro a S
        clear hr14
        refine lv S (rn_ldA Tryd.isAgg43 Tryd.sizeOf43 (off := o1) (o := 0) (part := [.string ((nth r3.1 r13.1).Key), .int .i64 ((nth r3.1 r13.1).Sex), .int .i64 ((nth r3.1 r13.1).Born)]) rfl rfl (S.tm rfl) (hm2.at S.emb)) rfl ?_; clear S; intro a S
        refine l_store S (S.tm rfl) (S.tm rfl) (i := 0) (off := 0) rfl Tryd.sizeOf43 (vs := [.string ((nth r3.1 r13.1).Key), .int .i64 ((nth r3.1 r13.1).Sex), .int .i64 ((nth r3.1 r13.1).Born)]) rfl rfl rfl rfl ?_; clear S; intro w91 hk89 S
        refine l_done ?_
        replace S := S.nf (L' := [.blk b6 [.string ((nth r3.1 r13.1).Key), .int .i64 ((nth r3.1 r13.1).Sex), .int .i64 ((nth r3.1 r13.1).Born)] 43, .blk b1 [v_p_l, .int .i64 r13.2] 25]) (K' := [(3, .pointer (some ⟨b1, 0, none⟩)), (7, .int .i64 r4.1), (15, .pointer (some ⟨b6, 0, none⟩))]) [true, true] rfl ⟨rfl, rfl, rfl, trivial⟩
        refine then_n ?_
        exact ⟨(nth r3.1 r13.1).Key, (nth r3.1 r13.1).Sex, (nth r3.1 r13.1).Born, r13.2, h, S.nf [true, true] rfl ⟨rfl, rfl, rfl, trivial⟩⟩
      · replace h := iteF h hb31
        refine wp_skip ?_
        refine then_n ?_
        exact ⟨k_ann, 1, r12.1, r12.2, h, S.nf [true, true] rfl ⟨rfl, rfl, rfl, trivial⟩⟩
    clear S h; rintro a w89 ⟨x2, x3, x4, x5, h, S⟩; rw [hj2] at h; clear hj2 j2
    refine then_n ?_
    refine f_seq ?_
    refine f_region ?_
    refine lv S (rn_move (S.tm rfl)) rfl ?_; clear S; intro a S
    obtain ⟨r14, hr15, h⟩ := bindE h
    refine l_enter1 1 S (b := b1) rfl rfl (fun _ => .blk b1 [v_p_l, .int .i64 r14.2] 25) (fun _ => run_call (vs := [.pointer (some ⟨b1, 0, none⟩)]) ⟨(S.tm rfl), trivial⟩ Tryd.call17) (Stream_MeetDay_ok _ b1 v_p_l p_l (hs_p_l.mono (S.le_arg (fp_sub (i := 1) (e := .blk b1 [v_p_l, .int .i64 x5] 25) rfl))) x5 (S.holds _ (List.mem_of_getElem? (i := 1) rfl)) _ hr15) rfl (fun _ _ _ h => ⟨h.1, fun _ hc => by cases hc; rfl⟩) ?_; clear S; intro v50 a w92 hv50 hk90 hn50 S
    replace hv50 := hv50.2
    subst hv50
    refine lv S (rn_assign (S.tm rfl)) rfl ?_; clear S; intro a S
    refine l_done ?_
    replace S := S.nf (L' := [.blk b6 [.string x2, .int .i64 x3, .int .i64 x4] 43]) (K' := [(4, .int .i64 r14.1), (7, .int .i64 r4.1), (15, .pointer (some ⟨b6, 0, none⟩))]) [true, false] rfl ⟨rfl, rfl, rfl, trivial⟩
    refine then_n ?_
    refine f_seq ?_
    refine f_region ?_
    refine lv S (rn_ldA Tryd.isAgg43 Tryd.sizeOf43 (off := 0) (o := 0) (part := [.string x2, .int .i64 x3, .int .i64 x4]) rfl rfl (S.tm rfl) (S.cellsAt (i := 0) rfl)) rfl ?_; clear S; intro a S
    refine lv S (rn_move (S.tm rfl)) rfl ?_; clear S; intro a S
    refine lv S (rn_move (S.tm rfl)) rfl ?_; clear S; intro a S
    obtain ⟨r15, hr16, h⟩ := bindE h
    refine l_enter S (fun _ => run_call (vs := [.agg (GSwimmer.enc (GSwimmer.mk x2 x3 x4)).toArray, .int .i64 r14.1, .int .i64 r4.1]) ⟨(S.tm rfl), (S.tm rfl), (S.tm rfl), trivial⟩ Tryd.call18) (swimmer_Age_ok _ (GSwimmer.mk x2 x3 x4) r14.1 r4.1 _ hr16) rfl ?_; clear S; intro v51 a w93 hv51 hk91 hn51 S
    subst hv51
    refine lv S (rn_move (S.tm rfl)) rfl ?_; clear S; intro a S
    refine lv S (rn_extract (S.tm rfl) rfl) rfl ?_; clear S; intro a S
    refine lv S (rn_extract (S.tm rfl) rfl) rfl ?_; clear S; intro a S
    refine lv S (rn_assign (S.tm rfl)) rfl ?_; clear S; intro a S
    refine lv S (rn_assign (S.tm rfl)) rfl ?_; clear S; intro a S
    refine l_done ?_
    replace S := S.nf (L' := [.blk b6 [.string x2, .int .i64 x3, .int .i64 x4] 43]) (K' := [(4, .int .i64 r14.1), (7, .int .i64 r4.1), (9, .int .i64 r15.2), (10, .int .i64 r15.1), (15, .pointer (some ⟨b6, 0, none⟩))]) [true] rfl ⟨rfl, rfl, rfl, rfl, rfl, trivial⟩
    refine then_n ?_
    refine f_seq ?_
    refine f_region ?_
    refine lv S (rn_ldA Tryd.isAgg43 Tryd.sizeOf43 (off := 0) (o := 0) (part := [.string x2, .int .i64 x3, .int .i64 x4]) rfl rfl (S.tm rfl) (S.cellsAt (i := 0) rfl)) rfl ?_; clear S; intro a S
    refine lv S (rn_move (S.tm rfl)) rfl ?_; clear S; intro a S
    refine lv S (rn_move (S.tm rfl)) rfl ?_; clear S; intro a S
    obtain ⟨r16, hr17, h⟩ := bindE h
    refine l_enter S (fun _ => run_call (vs := [.agg (GSwimmer.enc (GSwimmer.mk x2 x3 x4)).toArray, .int .i64 r14.1, .int .i64 r4.1]) ⟨(S.tm rfl), (S.tm rfl), (S.tm rfl), trivial⟩ Tryd.call19) (tumbref2_AgeFault_ok _ (GSwimmer.mk x2 x3 x4) r14.1 r4.1 _ hr17) rfl ?_; clear S; intro v52 a w94 hv52 hk92 hn52 S
    subst hv52
    refine lv S (rn_assign (S.tm rfl)) rfl ?_; clear S; intro a S
    refine lv S (rn_assign rfl) rfl ?_; clear S; intro a S
    refine l_done ?_
    replace S := S.nf (L' := [.blk b6 [.string x2, .int .i64 x3, .int .i64 x4] 43]) (K' := [(4, .int .i64 r14.1), (7, .int .i64 r4.1), (9, .int .i64 r15.2), (10, .int .i64 r15.1), (15, .pointer (some ⟨b6, 0, none⟩)), (16, .int .i64 r16), (17, .int .i64 0)]) [true] rfl ⟨rfl, rfl, rfl, rfl, rfl, rfl, rfl, trivial⟩
    refine then_n ?_
    refine f_seq ?_
    refine f_seq ?_
    refine f_region ?_
    refine lv S (rn_move (S.tm rfl)) rfl ?_; clear S; intro a S
    refine lv S (rn_eql (S.tm rfl) rfl) rfl ?_; clear S; intro a S
    refine l_done ?_
    replace S := S.nf (L' := [.blk b6 [.string x2, .int .i64 x3, .int .i64 x4] 43]) (K' := [(4, .int .i64 r14.1), (7, .int .i64 r4.1), (9, .int .i64 r15.2), (10, .int .i64 r15.1), (15, .pointer (some ⟨b6, 0, none⟩)), (16, .int .i64 r16), (17, .int .i64 0), (116, .bool (decide (r16 = 0)))]) [true] rfl ⟨rfl, rfl, rfl, rfl, rfl, rfl, rfl, rfl, trivial⟩
    refine then_n ?_
    obtain ⟨j3, hj3, h⟩ := joinE h
    refine f_join (fun a w' => ∃ x6 : Int, j3 x6 = some r ∧ Sx w [] φ1 [] [(9, .int .i64 r15.2), (10, .int .i64 r15.1), (16, .int .i64 r16), (17, .int .i64 x6)] 132 a w') ?_ ?_
    · refine f_cond (S.tm rfl) (fun hb32 => ?_) (fun hb32 => ?_)
      · replace h := iteT h hb32
        refine f_region ?_
        refine lv S (rn_ldA Tryd.isAgg43 Tryd.sizeOf43 (off := 0) (o := 0) (part := [.string x2, .int .i64 x3, .int .i64 x4]) rfl rfl (S.tm rfl) (S.cellsAt (i := 0) rfl)) rfl ?_; clear S; intro a S
        refine lv S (rn_move (S.tm rfl)) rfl ?_; clear S; intro a S
        refine lv S (rn_move (S.tm rfl)) rfl ?_; clear S; intro a S
        obtain ⟨r17, hr18, h⟩ := bindE h
        refine l_enter S (fun _ => run_call (vs := [.agg (GSwimmer.enc (GSwimmer.mk x2 x3 x4)).toArray, .int .i64 r14.1, .int .i64 r4.1]) ⟨(S.tm rfl), (S.tm rfl), (S.tm rfl), trivial⟩ Tryd.call20) (tumbref2_AgeFor_ok _ (GSwimmer.mk x2 x3 x4) r14.1 r4.1 _ hr18) rfl ?_; clear S; intro v53 a w96 hv53 hk93 hn53 S
        subst hv53
        refine lv S (rn_assign (S.tm rfl)) rfl ?_; clear S; intro a S
        refine l_done ?_
        replace S := S.nf (L' := []) (K' := [(9, .int .i64 r15.2), (10, .int .i64 r15.1), (16, .int .i64 r16), (17, .int .i64 r17)]) [false] rfl ⟨rfl, rfl, rfl, rfl, trivial⟩
        refine then_n ?_
        exact ⟨r17, h, S.nf [] rfl ⟨rfl, rfl, rfl, rfl, trivial⟩⟩
      · replace h := iteF h hb32
        refine wp_skip ?_
        refine then_n ?_
        exact ⟨0, h, S.nf [false] rfl ⟨rfl, rfl, rfl, rfl, trivial⟩⟩
    clear S h; rintro a w95 ⟨x6, h, S⟩; rw [hj3] at h; clear hj3 j3
    refine then_n ?_
    refine f_seq ?_
    refine f_region ?_
    refine lv S (rn_move (S.tm rfl)) rfl ?_; clear S; intro a S
    refine lv S (rn_move (S.tm rfl)) rfl ?_; clear S; intro a S
    refine lv S (rn_eql (S.tm rfl) (S.tm rfl)) rfl ?_; clear S; intro a S
    refine lv S (rn_move (S.tm rfl)) rfl ?_; clear S; intro a S
    refine f_cutm 4 (fun a w' => Keep [] w95 w' ∧ Sx w [] φ1 [] [(128, .bool ((decide (r15.2 = r16)) && (decide (r15.1 = x6))))] 132 a w') ?_ ?_
    · rcases Bool.eq_false_or_eq_true (decide (r15.2 = r16)) with hb33 | hb33
      · refine l_want S rfl rfl rfl hb33 ?_
        refine lv S (rn_move (S.tm rfl)) rfl ?_; clear S; intro a S
        refine l_want S rfl rfl rfl hb33 ?_
        refine lv S (rn_move (S.tm rfl)) rfl ?_; clear S; intro a S
        refine l_want S rfl rfl rfl hb33 ?_
        refine lv S (rn_eql (S.tm rfl) (S.tm rfl)) rfl ?_; clear S; intro a S
        refine lv S (rn_and_t hb33 (S.tm rfl) (S.tm rfl)) rfl ?_; clear S; intro a S
        refine l_done ?_
        refine then_n ?_
        exact ⟨Keep.refl _ _, S.nf [] rfl ⟨rfl, trivial⟩⟩
      · refine l_skip S rfl rfl rfl (by rw [hb33]; rfl) rfl ?_ rfl; clear S; intro a S
        refine l_skip S rfl rfl rfl (by rw [hb33]; rfl) rfl ?_ rfl; clear S; intro a S
        refine l_skip S rfl rfl rfl (by rw [hb33]; rfl) rfl ?_ rfl; clear S; intro a S
        refine lv S (rn_and_f (decide (r15.1 = x6)) hb33 (S.tm rfl) rfl) rfl ?_; clear S; intro a S
        refine l_done ?_
        refine then_n ?_
        exact ⟨Keep.refl _ _, S.nf [] rfl ⟨rfl, trivial⟩⟩
    clear S; rintro a w97 ⟨hk94, S⟩
    refine lv S (rn_move (S.tm rfl)) rfl ?_; clear S; intro a S
    obtain ⟨j4, hj4, h⟩ := joinE h
    refine f_cutm 2 (fun a w' => ∃ c1, j4 c1 = some r ∧ Keep [] w97 w' ∧ Sx w [] φ1 [] [(131, .bool c1)] 132 a w') ?_ ?_
    · rcases Bool.eq_false_or_eq_true ((decide (r15.2 = r16)) && (decide (r15.1 = x6))) with hb34 | hb34
      · replace h := iteT h hb34
        refine l_want S rfl rfl rfl hb34 ?_
        obtain ⟨r18, hr19, h⟩ := bindE h
        refine l_enter S (fun _ => run_call (vs := []) trivial Tryd.call21) (tumblaw2_dated_ok _ _ hr19) rfl ?_; clear S; intro v54 a w99 hv54 hk95 hn54 S
        subst hv54
        refine lv S (rn_and_t hb34 (S.tm rfl) (S.tm rfl)) rfl ?_; clear S; intro a S
        refine l_done ?_
        refine then_n ?_
        exact ⟨_, h, hk95, S.nf [] rfl ⟨rfl, trivial⟩⟩
      · replace h := iteF h hb34
        refine l_skip S rfl rfl rfl (by rw [hb34]; rfl) rfl ?_ rfl; clear S; intro a S
        refine lv S (rn_and_f true hb34 (S.tm rfl) rfl) rfl ?_; clear S; intro a S
        refine l_done ?_
        refine then_n ?_
        exact ⟨_, h, Keep.refl _ _, S.nf [] rfl ⟨rfl, trivial⟩⟩
    clear S h; rintro a w98 ⟨c1, h, hk96, S⟩; rw [hj4] at h; clear hj4 j4
    refine lv S (rn_assign (S.tm rfl)) rfl ?_; clear S; intro a S
    refine l_done ?_
    replace S := S.nf (L' := []) (K' := [(2, .bool c1)]) [] rfl ⟨rfl, trivial⟩
    refine then_n ?_
    refine wp_ret ?_
    obtain rfl := Option.some.inj h
    exact f_ret S Tryd.results3 rfl rfl
end Go.Proofs.YtngikibiddnndaaDoor
