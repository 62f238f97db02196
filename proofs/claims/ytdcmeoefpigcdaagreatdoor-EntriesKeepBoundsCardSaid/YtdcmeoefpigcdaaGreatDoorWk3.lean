/- Each Go function computes its plain twin, by program. -/
import Derived.Test.YtdcmeoefpigcdaaGreatDoorWk2
namespace Go.Proofs.YtdcmeoefpigcdaaGreatDoor
open Go
set_option maxRecDepth 20000 in
theorem swimmer_checkRaces_ok (w : World) (v_p_r : Value) (p_r : List GRace) (hs_p_r : Slc (view w []) 8 v_p_r (p_r.map GRace.enc)) (r : Int) (h : swimmer_checkRaces p_r = some r) :
    Calls Tryz.prog 53 [v_p_r].toArray w (Ret w [] fun _ v _ => v = .int .i64 r) := by
 refine f_enter [] [] Tryz.func53 rfl Tryz.ntmps53 rfl (by simp) (by simp [fps]) (by simp [fps]) fun a S => ?_
 unfold swimmer_checkRaces at h
 replace S := S.nk [] [(0, v_p_r)] [] rfl ⟨rfl, trivial⟩
 refine f_seq ?_
 refine f_region ?_
 refine lv S (rn_assign rfl) rfl ?_; clear S; intro a S
 refine l_done ?_
 replace S := S.nk [] [(0, v_p_r)] [] rfl ⟨rfl, trivial⟩
 refine then_n ?_
 refine f_seq ?_
 refine f_seq ?_
 refine f_region ?_
 refine lv S (rn_move (S.tm rfl)) rfl ?_; clear S; intro a S
 refine lv S (rn_lenT sl_26 (S.tm rfl) (slc_len hs_p_r)) rfl ?_; clear S; intro a S
 refine lv S (rn_gtr (S.tm rfl) rfl) rfl ?_; clear S; intro a S
 refine l_done ?_
 replace S := S.nk [] [(0, v_p_r), (8, .bool (decide (100 < (p_r.length : Int))))] [] rfl ⟨rfl, rfl, trivial⟩
 refine then_n ?_
 refine f_cond (S.tm rfl) (fun hb1 => ?_) (fun hb1 => ?_)
 ·replace h := iteT h hb1
  refine f_seq ?_
  refine f_region ?_
  refine lv S (rn_assign rfl) rfl ?_; clear S; intro a S
  refine l_done ?_
  replace S := S.nk [] [(2, .int .i64 2)] [] rfl ⟨rfl, trivial⟩
  refine then_n ?_
  refine wp_ret ?_
  refine then_r ?_
  obtain rfl := Option.some.inj h
  exact f_ret S Tryz.results53 rfl rfl
 ·replace h := iteF h hb1
  refine wp_skip ?_
  refine then_n ?_
  refine f_seq ?_
  refine f_seq ?_
  refine f_region ?_
  refine lv S (rn_move (S.tm rfl)) rfl ?_; clear S; intro a S
  refine lv S (rn_lenT sl_26 (S.tm rfl) (slc_len hs_p_r)) rfl ?_; clear S; intro a S
  refine lv S (rn_move rfl) rfl ?_; clear S; intro a S
  refine l_done ?_
  replace S := S.nk [] [(0, v_p_r), (9, v_p_r), (10, .int .i64 (p_r.length : Int)), (11, .int .i64 0)] [] rfl ⟨rfl, rfl, rfl, rfl, trivial⟩
  refine then_n ?_
  obtain ⟨j1, hj1, h⟩ := joinE h
  refine f_join (fun a w' => j1 = some r ∧ Sx w [] nov [] [] 35 a w') ?_ ?_
  ·refine wp_block ?_
   refine f_loop (fun (ys1 : List GRace) a w' => ∃ i1 : Nat, (∃ dn, p_r = dn ++ ys1 ∧ dn.length = i1) ∧ swimmer_checkRaces_l1 p_r j1 ys1 i1 = some r ∧ Sx w [] nov [] [(0, v_p_r), (9, v_p_r), (10, .int .i64 (p_r.length : Int)), (11, .int .i64 (i1 : Int))] 35 a w') List.length p_r ⟨0, ⟨[], rfl, rfl⟩, h, S.nf [] rfl ⟨rfl, rfl, rfl, rfl, trivial⟩⟩ ?_
   clear S h; rintro ys1 a w1 ⟨i1, ⟨dn, hd1, hi1⟩, h, S⟩
   cases ys1 with
   | nil =>
    rw [swimmer_checkRaces_l1.eq_1] at h
    refine f_seq ?_
    refine f_region ?_
    refine lv S (rn_lss (S.tm rfl) (S.tm rfl)) rfl ?_; clear S; intro a S
    refine l_done ?_
    replace S := S.nk [] [(0, v_p_r), (9, v_p_r), (10, .int .i64 (p_r.length : Int)), (11, .int .i64 (i1 : Int)), (12, .bool (decide ((i1 : Int) < (p_r.length : Int))))] [] rfl ⟨rfl, rfl, rfl, rfl, rfl, trivial⟩
    refine then_n ?_
    refine f_seq ?_
    refine wp_cond_false ((S.tm rfl).trans (congrArg Value.bool (rng_nil hd1 hi1))) ?_
    refine wp_exit ?_
    refine then_x ?_
    refine then_x ?_
    refine x_same ?_
    refine then_n ?_
    exact ⟨h, S.nf [] rfl trivial⟩
   | cons y1 ys1 =>
    rw [swimmer_checkRaces_l1.eq_2] at h
    refine f_seq ?_
    refine f_region ?_
    refine lv S (rn_lss (S.tm rfl) (S.tm rfl)) rfl ?_; clear S; intro a S
    refine l_done ?_
    replace S := S.nk [] [(0, v_p_r), (9, v_p_r), (10, .int .i64 (p_r.length : Int)), (11, .int .i64 (i1 : Int)), (12, .bool (decide ((i1 : Int) < (p_r.length : Int))))] [] rfl ⟨rfl, rfl, rfl, rfl, rfl, trivial⟩
    refine then_n ?_
    refine f_seq ?_
    refine wp_cond_true ((S.tm rfl).trans (congrArg Value.bool (rng_cons hd1 hi1))) ?_
    refine wp_skip ?_
    refine then_n ?_
    refine f_seq ?_
    refine wp_block ?_
    refine f_seq ?_
    refine f_region ?_
    refine lv S (rn_move (S.tm rfl)) rfl ?_; clear S; intro a S
    obtain ⟨b1, o1, hm1, hr1⟩ := rn_indexT (a := a) (x := .tmp 9) (y := .tmp 11) (ty := 0) sl_26 hs_p_r (get_mid hd1 hi1) rfl (S.tm rfl) (S.tm rfl)
    refine lv S (hr1 _) rfl ?_; clear S; intro a S
    clear hr1
    refine lv S (rn_ldA Tryz.isAgg52 Tryz.sizeOf52 (off := o1) (o := 0) (part := [.string y1.Key, .int .i64 y1.Metres, .int .i64 y1.Stroke, .int .i64 y1.Course, .int .i64 y1.Legs, .int .i64 y1.Sex, .int .i64 y1.Young, .int .i64 y1.Old]) rfl rfl (S.tm rfl) (hm1.at S.emb0)) rfl ?_; clear S; intro a S
    refine l_alloc S Tryz.zeroValue52 (cs := [.string k_empty, .int .i64 0, .int .i64 0, .int .i64 0, .int .i64 0, .int .i64 0, .int .i64 0, .int .i64 0]) rfl rfl ?_; clear S; intro a w3 b2 hz1 hk1 S
    refine lv S (rn_assign (S.tm rfl)) rfl ?_; clear S; intro a S
    refine l_store S (S.tm rfl) (S.tm rfl) (i := 0) (off := 0) rfl Tryz.sizeOf52 (vs := [.string y1.Key, .int .i64 y1.Metres, .int .i64 y1.Stroke, .int .i64 y1.Course, .int .i64 y1.Legs, .int .i64 y1.Sex, .int .i64 y1.Young, .int .i64 y1.Old]) rfl rfl rfl rfl ?_; clear S; intro w4 hk2 S
    refine l_done ?_
    replace S := S.nk [.blk b2 [.string y1.Key, .int .i64 y1.Metres, .int .i64 y1.Stroke, .int .i64 y1.Course, .int .i64 y1.Legs, .int .i64 y1.Sex, .int .i64 y1.Young, .int .i64 y1.Old] 52] [(0, v_p_r), (3, .int .i64 (i1 : Int)), (4, .pointer (some ⟨b2, 0, none⟩)), (9, v_p_r), (10, .int .i64 (p_r.length : Int)), (11, .int .i64 (i1 : Int))] [true] rfl ⟨rfl, rfl, rfl, rfl, rfl, rfl, trivial⟩
    refine then_n ?_
    refine f_seq ?_
    refine f_seq ?_
    refine f_region ?_
    refine lv S (rn_ldA Tryz.isAgg52 Tryz.sizeOf52 (off := 0) (o := 0) (part := [.string y1.Key, .int .i64 y1.Metres, .int .i64 y1.Stroke, .int .i64 y1.Course, .int .i64 y1.Legs, .int .i64 y1.Sex, .int .i64 y1.Young, .int .i64 y1.Old]) rfl rfl (S.tm rfl) (S.cellsAt (i := 0) rfl)) rfl ?_; clear S; intro a S
    obtain ⟨r1, hr2, h⟩ := bindE h
    refine l_enter S (fun _ => run_call (vs := [.agg (GRace.enc y1).toArray]) ⟨(S.tm rfl), trivial⟩ Tryz.call71) (timing_CheckRace_ok _ y1 _ hr2) rfl ?_; clear S; intro v1 a w5 hv1 hk3 hn1 S
    subst hv1
    refine lv S (rn_assign (S.tm rfl)) rfl ?_; clear S; intro a S
    refine l_done ?_
    replace S := S.nk [.blk b2 [.string y1.Key, .int .i64 y1.Metres, .int .i64 y1.Stroke, .int .i64 y1.Course, .int .i64 y1.Legs, .int .i64 y1.Sex, .int .i64 y1.Young, .int .i64 y1.Old] 52] [(0, v_p_r), (3, .int .i64 (i1 : Int)), (4, .pointer (some ⟨b2, 0, none⟩)), (5, .int .i64 r1), (9, v_p_r), (10, .int .i64 (p_r.length : Int)), (11, .int .i64 (i1 : Int))] [true] rfl ⟨rfl, rfl, rfl, rfl, rfl, rfl, rfl, trivial⟩
    refine then_n ?_
    refine f_seq ?_
    refine f_region ?_
    refine lv S (rn_move (S.tm rfl)) rfl ?_; clear S; intro a S
    refine lv S (rn_neq (S.tm rfl) rfl) rfl ?_; clear S; intro a S
    refine l_done ?_
    replace S := S.nk [.blk b2 [.string y1.Key, .int .i64 y1.Metres, .int .i64 y1.Stroke, .int .i64 y1.Course, .int .i64 y1.Legs, .int .i64 y1.Sex, .int .i64 y1.Young, .int .i64 y1.Old] 52] [(0, v_p_r), (3, .int .i64 (i1 : Int)), (4, .pointer (some ⟨b2, 0, none⟩)), (5, .int .i64 r1), (9, v_p_r), (10, .int .i64 (p_r.length : Int)), (11, .int .i64 (i1 : Int)), (19, .bool (!decide (r1 = 0)))] [true] rfl ⟨rfl, rfl, rfl, rfl, rfl, rfl, rfl, rfl, trivial⟩
    refine then_n ?_
    refine f_cond (S.tm rfl) (fun hb2 => ?_) (fun hb2 => ?_)
    ·replace h := iteT h hb2
     refine f_seq ?_
     refine f_region ?_
     refine lv S (rn_move (S.tm rfl)) rfl ?_; clear S; intro a S
     refine lv S (rn_assign (S.tm rfl)) rfl ?_; clear S; intro a S
     refine l_done ?_
     replace S := S.nk [] [(2, .int .i64 r1)] [false] rfl ⟨rfl, trivial⟩
     refine then_n ?_
     refine wp_ret ?_
     refine then_r ?_
     refine blk_r ?_
     refine then_r ?_
     refine then_r ?_
     refine blk_r ?_
     refine then_r ?_
     refine then_r ?_
     obtain rfl := Option.some.inj h
     exact f_ret S Tryz.results53 rfl rfl
    ·replace h := iteF h hb2
     refine wp_skip ?_
     refine then_n ?_
     refine f_seq ?_
     refine d_region [] ([]) Tryz.mixed S rfl (by kernel_rfl) ?_; clear S; intro w6 hk4 hsel S
     refine d_rest [0, 1, 2, 3, 4, 5, 6, 7, 8, 9, 10, 11, 12] hsel (by kernel_rfl) rfl ?_
     clear hsel
     refine s_lv S rfl (rn_move (S.tm rfl)) rfl ?_; clear S; intro a S
     refine s_lv S rfl (rn_gtr (S.tm rfl) rfl) rfl ?_; clear S; intro a S
     refine s_lv S rfl (rn_move (S.tm rfl)) rfl ?_; clear S; intro a S
     obtain ⟨j2, hj2, h⟩ := joinE h
     refine s_cutm 10 (fun a w' => ∃ c1, j2 c1 = some r ∧ Keep [] w6 w' ∧ Sx w [] nov [.blk b2 [.string y1.Key, .int .i64 y1.Metres, .int .i64 y1.Stroke, .int .i64 y1.Course, .int .i64 y1.Legs, .int .i64 y1.Sex, .int .i64 y1.Young, .int .i64 y1.Old] 52] [(0, v_p_r), (9, v_p_r), (10, .int .i64 (p_r.length : Int)), (11, .int .i64 (i1 : Int)), (33, .bool c1)] 35 a w') ?_ ?_
     ·rcases Bool.eq_false_or_eq_true (decide (0 < (i1 : Int))) with hb3 | hb3
      ·replace h := iteT h hb3
       refine s_want S rfl rfl rfl rfl hb3 ?_
       refine s_lv0 S (rn_fld fa_52_0 (S.tm rfl)) rfl ?_; clear S; intro a S
       refine s_want S rfl rfl rfl rfl hb3 ?_
       refine s_lv0 S (rn_load Tryz.isAgg9 (S.tm rfl) (S.cell (i := 0) rfl rfl)) rfl ?_; clear S; intro a S
       refine s_want S rfl rfl rfl rfl hb3 ?_
       refine s_lv0 S (rn_move (S.tm rfl)) rfl ?_; clear S; intro a S
       refine s_want S rfl rfl rfl rfl hb3 ?_
       refine s_lv0 S (rn_move (S.tm rfl)) rfl ?_; clear S; intro a S
       refine s_want S rfl rfl rfl rfl hb3 ?_
       refine s_lv0 S (rn_sub (S.tm rfl) rfl) rfl ?_; clear S; intro a S
       refine s_want S rfl rfl rfl rfl hb3 ?_
       obtain ⟨hc1, h⟩ := chkE h
       obtain ⟨b3, o2, hm2, hr3⟩ := rn_indexT (a := a) (x := .tmp 26) (y := .tmp 28) (ty := 0) sl_26 hs_p_r (inB_get hc1).1 (inB_get hc1).2 (S.tm rfl) (S.tm rfl)
       refine s_lv0 S (hr3 _) rfl ?_; clear S; intro a S
       clear hr3
       refine s_want S rfl rfl rfl rfl hb3 ?_
       refine s_lv0 S (rn_fld fa_52_0 (S.tm rfl)) rfl ?_; clear S; intro a S
       refine s_want S rfl rfl rfl rfl hb3 ?_
       refine s_lv0 S (rn_ld Tryz.isAgg9 (off := o2) (o := 0) (S.tm rfl) (hm2.at S.emb0) rfl) rfl ?_; clear S; intro a S
       refine s_want S rfl rfl rfl rfl hb3 ?_
       refine s_lv0 S (rn_sleq (S.tm rfl) (S.tm rfl)) rfl ?_; clear S; intro a S
       refine s_lv S rfl (rn_and_t hb3 (S.tm rfl) (S.tm rfl)) rfl ?_; clear S; intro a S
       refine s_done ?_
       exact ⟨_, h, Keep.refl _ _, S.nf [true] rfl ⟨rfl, rfl, rfl, rfl, rfl, trivial⟩⟩
      ·replace h := iteF h hb3
       refine s_skip S rfl rfl rfl rfl (neq_f hb3) rfl ?_ rfl; clear S; intro a S
       refine s_skip S rfl rfl rfl rfl (neq_f hb3) rfl ?_ rfl; clear S; intro a S
       refine s_skip S rfl rfl rfl rfl (neq_f hb3) rfl ?_ rfl; clear S; intro a S
       refine s_skip S rfl rfl rfl rfl (neq_f hb3) rfl ?_ rfl; clear S; intro a S
       refine s_skip S rfl rfl rfl rfl (neq_f hb3) rfl ?_ rfl; clear S; intro a S
       refine s_skip S rfl rfl rfl rfl (neq_f hb3) rfl ?_ rfl; clear S; intro a S
       refine s_skip S rfl rfl rfl rfl (neq_f hb3) rfl ?_ rfl; clear S; intro a S
       refine s_skip S rfl rfl rfl rfl (neq_f hb3) rfl ?_ rfl; clear S; intro a S
       refine s_skip S rfl rfl rfl rfl (neq_f hb3) rfl ?_ rfl; clear S; intro a S
       refine s_lv S rfl (rn_and_f true hb3 (S.tm rfl) rfl) rfl ?_; clear S; intro a S
       refine s_done ?_
       exact ⟨_, h, Keep.refl _ _, S.nf [true] rfl ⟨rfl, rfl, rfl, rfl, rfl, trivial⟩⟩
     clear S h; rintro a w7 ⟨c1, h, hk5, S⟩; rw [hj2] at h; clear hj2 j2
     refine s_done ?_
     replace S := S.nk [] [(0, v_p_r), (9, v_p_r), (10, .int .i64 (p_r.length : Int)), (11, .int .i64 (i1 : Int)), (33, .bool c1)] [false] rfl ⟨rfl, rfl, rfl, rfl, rfl, trivial⟩
     refine then_n ?_
     refine f_cond (S.tm rfl) (fun hb4 => ?_) (fun hb4 => ?_)
     ·replace h := iteT h hb4
      refine f_seq ?_
      refine f_region ?_
      refine lv S (rn_assign rfl) rfl ?_; clear S; intro a S
      refine l_done ?_
      replace S := S.nk [] [(2, .int .i64 7)] [] rfl ⟨rfl, trivial⟩
      refine then_n ?_
      refine wp_ret ?_
      refine blk_r ?_
      refine then_r ?_
      refine then_r ?_
      refine blk_r ?_
      refine then_r ?_
      refine then_r ?_
      obtain rfl := Option.some.inj h
      exact f_ret S Tryz.results53 rfl rfl
     ·replace h := iteF h hb4
      refine wp_skip ?_
      refine blk_n ?_
      refine then_n ?_
      refine f_region ?_
      refine lv S (rn_add (S.tm rfl) rfl) rfl ?_; clear S; intro a S
      refine lv S (rn_move (S.tm rfl)) rfl ?_; clear S; intro a S
      refine l_done ?_
      replace S := S.nk [] [(0, v_p_r), (9, v_p_r), (10, .int .i64 (p_r.length : Int)), (11, .int .i64 (W ((i1 : Int) + 1)))] [] rfl ⟨rfl, rfl, rfl, rfl, trivial⟩
      refine then_n ?_
      exact ⟨ys1, ⟨i1 + 1, ⟨_, (hd1).trans (List.append_cons _ _ _), by simp [hi1]⟩, h, S.nf [] rfl ⟨rfl, rfl, rfl, (congrArg (fun z => some (Value.int .i64 z)) (rng_next hd1 hi1 (slc_max hs_p_r))), trivial⟩⟩, Nat.lt_succ_self _⟩
  clear S h; rintro a w2 ⟨h, S⟩; rw [hj1] at h; clear hj1 j1
  refine then_n ?_
  refine f_seq ?_
  refine f_region ?_
  refine lv S (rn_assign rfl) rfl ?_; clear S; intro a S
  refine l_done ?_
  replace S := S.nk [] [(2, .int .i64 0)] [] rfl ⟨rfl, trivial⟩
  refine then_n ?_
  refine wp_ret ?_
  obtain rfl := Option.some.inj h
  exact f_ret S Tryz.results53 rfl rfl
set_option maxRecDepth 20000 in
theorem swimmer_CheckSwimmers_ok (w : World) (v_p_l : Value) (p_l : List GSwimmer) (hs_p_l : Slc (view w []) 3 v_p_l (p_l.map GSwimmer.enc)) (r : Int) (h : swimmer_CheckSwimmers p_l = some r) :
    Calls Tryz.prog 54 [v_p_l].toArray w (Ret w [] fun _ v _ => v = .int .i64 r) := by
 refine f_enter [] [] Tryz.func54 rfl Tryz.ntmps54 rfl (by simp) (by simp [fps]) (by simp [fps]) fun a S => ?_
 unfold swimmer_CheckSwimmers at h
 replace S := S.nk [] [(0, v_p_l)] [] rfl ⟨rfl, trivial⟩
 refine f_seq ?_
 refine f_region ?_
 refine lv S (rn_assign rfl) rfl ?_; clear S; intro a S
 refine l_done ?_
 replace S := S.nk [] [(0, v_p_l)] [] rfl ⟨rfl, trivial⟩
 refine then_n ?_
 refine f_seq ?_
 refine f_seq ?_
 refine f_region ?_
 refine lv S (rn_move (S.tm rfl)) rfl ?_; clear S; intro a S
 refine lv S (rn_lenT sl_28 (S.tm rfl) (slc_len hs_p_l)) rfl ?_; clear S; intro a S
 refine lv S (rn_gtr (S.tm rfl) rfl) rfl ?_; clear S; intro a S
 refine l_done ?_
 replace S := S.nk [] [(0, v_p_l), (7, .bool (decide (500 < (p_l.length : Int))))] [] rfl ⟨rfl, rfl, trivial⟩
 refine then_n ?_
 refine f_cond (S.tm rfl) (fun hb1 => ?_) (fun hb1 => ?_)
 ·replace h := iteT h hb1
  refine f_seq ?_
  refine f_region ?_
  refine lv S (rn_assign rfl) rfl ?_; clear S; intro a S
  refine l_done ?_
  replace S := S.nk [] [(2, .int .i64 2)] [] rfl ⟨rfl, trivial⟩
  refine then_n ?_
  refine wp_ret ?_
  refine then_r ?_
  obtain rfl := Option.some.inj h
  exact f_ret S Tryz.results54 rfl rfl
 ·replace h := iteF h hb1
  refine wp_skip ?_
  refine then_n ?_
  refine f_seq ?_
  refine f_seq ?_
  refine f_region ?_
  refine lv S (rn_move (S.tm rfl)) rfl ?_; clear S; intro a S
  refine lv S (rn_lenT sl_28 (S.tm rfl) (slc_len hs_p_l)) rfl ?_; clear S; intro a S
  refine lv S (rn_move rfl) rfl ?_; clear S; intro a S
  refine l_done ?_
  replace S := S.nk [] [(0, v_p_l), (8, v_p_l), (9, .int .i64 (p_l.length : Int)), (10, .int .i64 0)] [] rfl ⟨rfl, rfl, rfl, rfl, trivial⟩
  refine then_n ?_
  obtain ⟨j1, hj1, h⟩ := joinE h
  refine f_join (fun a w' => j1 = some r ∧ Sx w [] nov [] [] 50 a w') ?_ ?_
  ·refine wp_block ?_
   refine f_loop (fun (ys1 : List GSwimmer) a w' => ∃ i1 : Nat, (∃ dn, p_l = dn ++ ys1 ∧ dn.length = i1) ∧ swimmer_CheckSwimmers_l1 p_l j1 ys1 i1 = some r ∧ Sx w [] nov [] [(0, v_p_l), (8, v_p_l), (9, .int .i64 (p_l.length : Int)), (10, .int .i64 (i1 : Int))] 50 a w') List.length p_l ⟨0, ⟨[], rfl, rfl⟩, h, S.nf [] rfl ⟨rfl, rfl, rfl, rfl, trivial⟩⟩ ?_
   clear S h; rintro ys1 a w1 ⟨i1, ⟨dn, hd1, hi1⟩, h, S⟩
   cases ys1 with
   | nil =>
    rw [swimmer_CheckSwimmers_l1.eq_1] at h
    refine f_seq ?_
    refine f_region ?_
    refine lv S (rn_lss (S.tm rfl) (S.tm rfl)) rfl ?_; clear S; intro a S
    refine l_done ?_
    replace S := S.nk [] [(0, v_p_l), (8, v_p_l), (9, .int .i64 (p_l.length : Int)), (10, .int .i64 (i1 : Int)), (11, .bool (decide ((i1 : Int) < (p_l.length : Int))))] [] rfl ⟨rfl, rfl, rfl, rfl, rfl, trivial⟩
    refine then_n ?_
    refine f_seq ?_
    refine wp_cond_false ((S.tm rfl).trans (congrArg Value.bool (rng_nil hd1 hi1))) ?_
    refine wp_exit ?_
    refine then_x ?_
    refine then_x ?_
    refine x_same ?_
    refine then_n ?_
    exact ⟨h, S.nf [] rfl trivial⟩
   | cons y1 ys1 =>
    rw [swimmer_CheckSwimmers_l1.eq_2] at h
    refine f_seq ?_
    refine f_region ?_
    refine lv S (rn_lss (S.tm rfl) (S.tm rfl)) rfl ?_; clear S; intro a S
    refine l_done ?_
    replace S := S.nk [] [(0, v_p_l), (8, v_p_l), (9, .int .i64 (p_l.length : Int)), (10, .int .i64 (i1 : Int)), (11, .bool (decide ((i1 : Int) < (p_l.length : Int))))] [] rfl ⟨rfl, rfl, rfl, rfl, rfl, trivial⟩
    refine then_n ?_
    refine f_seq ?_
    refine wp_cond_true ((S.tm rfl).trans (congrArg Value.bool (rng_cons hd1 hi1))) ?_
    refine wp_skip ?_
    refine then_n ?_
    refine f_seq ?_
    refine wp_block ?_
    refine f_seq ?_
    refine f_region ?_
    refine lv S (rn_move (S.tm rfl)) rfl ?_; clear S; intro a S
    obtain ⟨b1, o1, hm1, hr1⟩ := rn_indexT (a := a) (x := .tmp 8) (y := .tmp 10) (ty := 0) sl_28 hs_p_l (get_mid hd1 hi1) rfl (S.tm rfl) (S.tm rfl)
    refine lv S (hr1 _) rfl ?_; clear S; intro a S
    clear hr1
    refine lv S (rn_ldA Tryz.isAgg56 Tryz.sizeOf56 (off := o1) (o := 0) (part := [.string y1.Key, .int .i64 y1.Sex, .int .i64 y1.Born]) rfl rfl (S.tm rfl) (hm1.at S.emb0)) rfl ?_; clear S; intro a S
    refine l_alloc S Tryz.zeroValue56 (cs := [.string k_empty, .int .i64 0, .int .i64 0]) rfl rfl ?_; clear S; intro a w3 b2 hz1 hk1 S
    refine lv S (rn_assign (S.tm rfl)) rfl ?_; clear S; intro a S
    refine l_store S (S.tm rfl) (S.tm rfl) (i := 0) (off := 0) rfl Tryz.sizeOf56 (vs := [.string y1.Key, .int .i64 y1.Sex, .int .i64 y1.Born]) rfl rfl rfl rfl ?_; clear S; intro w4 hk2 S
    refine l_done ?_
    replace S := S.nk [.blk b2 [.string y1.Key, .int .i64 y1.Sex, .int .i64 y1.Born] 56] [(0, v_p_l), (3, .int .i64 (i1 : Int)), (4, .pointer (some ⟨b2, 0, none⟩)), (8, v_p_l), (9, .int .i64 (p_l.length : Int)), (10, .int .i64 (i1 : Int))] [true] rfl ⟨rfl, rfl, rfl, rfl, rfl, rfl, trivial⟩
    refine then_n ?_
    refine wp_block ?_
    refine f_seq ?_
    refine f_region ?_
    refine lv S (rn_fld fa_56_0 (S.tm rfl)) rfl ?_; clear S; intro a S
    refine lv S (rn_load Tryz.isAgg9 (S.tm rfl) (S.cell (i := 0) rfl rfl)) rfl ?_; clear S; intro a S
    obtain ⟨r1, hr2, h⟩ := bindE h
    refine l_enter S (fun _ => run_call (vs := [.string y1.Key]) ⟨(S.tm rfl), trivial⟩ Tryz.call57) (words_IsKey_ok _ y1.Key _ hr2) rfl ?_; clear S; intro v1 a w5 hv1 hk3 hn1 S
    subst hv1
    refine lv S (rn_not (S.tm rfl)) rfl ?_; clear S; intro a S
    refine lv S (rn_assign (S.tm rfl)) rfl ?_; clear S; intro a S
    refine l_done ?_
    replace S := S.nk [.blk b2 [.string y1.Key, .int .i64 y1.Sex, .int .i64 y1.Born] 56] [(0, v_p_l), (3, .int .i64 (i1 : Int)), (4, .pointer (some ⟨b2, 0, none⟩)), (8, v_p_l), (9, .int .i64 (p_l.length : Int)), (10, .int .i64 (i1 : Int)), (15, .bool (!r1))] [true] rfl ⟨rfl, rfl, rfl, rfl, rfl, rfl, rfl, trivial⟩
    refine then_n ?_
    refine f_cond (S.tm rfl) (fun hb2 => ?_) (fun hb2 => ?_)
    ·replace h := iteT h hb2
     refine f_seq ?_
     refine f_region ?_
     refine lv S (rn_assign rfl) rfl ?_; clear S; intro a S
     refine l_done ?_
     replace S := S.nk [] [(2, .int .i64 5)] [false] rfl ⟨rfl, trivial⟩
     refine then_n ?_
     refine wp_ret ?_
     refine blk_r ?_
     refine blk_r ?_
     refine then_r ?_
     refine then_r ?_
     refine blk_r ?_
     refine then_r ?_
     refine then_r ?_
     obtain rfl := Option.some.inj h
     exact f_ret S Tryz.results54 rfl rfl
    ·replace h := iteF h hb2
     refine f_seq ?_
     refine d_region [] ([]) Tryz.mixed S rfl (by kernel_rfl) ?_; clear S; intro w6 hk4 hsel S
     refine d_rest [0, 1, 2, 3, 4, 5, 6, 7, 8, 9, 10, 11, 12, 13] hsel (by kernel_rfl) rfl ?_
     clear hsel
     refine s_lv S rfl (rn_move (S.tm rfl)) rfl ?_; clear S; intro a S
     refine s_lv S rfl (rn_gtr (S.tm rfl) rfl) rfl ?_; clear S; intro a S
     refine s_lv S rfl (rn_move (S.tm rfl)) rfl ?_; clear S; intro a S
     obtain ⟨j2, hj2, h⟩ := joinE h
     refine s_cutm 10 (fun a w' => ∃ c1, j2 c1 = some r ∧ Keep [] w6 w' ∧ Sx w [] nov [.blk b2 [.string y1.Key, .int .i64 y1.Sex, .int .i64 y1.Born] 56] [(0, v_p_l), (4, .pointer (some ⟨b2, 0, none⟩)), (8, v_p_l), (9, .int .i64 (p_l.length : Int)), (10, .int .i64 (i1 : Int)), (33, .bool c1)] 50 a w') ?_ ?_
     ·rcases Bool.eq_false_or_eq_true (decide (0 < (i1 : Int))) with hb3 | hb3
      ·replace h := iteT h hb3
       refine s_want S rfl rfl rfl rfl hb3 ?_
       refine s_lv0 S (rn_fld fa_56_0 (S.tm rfl)) rfl ?_; clear S; intro a S
       refine s_want S rfl rfl rfl rfl hb3 ?_
       refine s_lv0 S (rn_load Tryz.isAgg9 (S.tm rfl) (S.cell (i := 0) rfl rfl)) rfl ?_; clear S; intro a S
       refine s_want S rfl rfl rfl rfl hb3 ?_
       refine s_lv0 S (rn_move (S.tm rfl)) rfl ?_; clear S; intro a S
       refine s_want S rfl rfl rfl rfl hb3 ?_
       refine s_lv0 S (rn_move (S.tm rfl)) rfl ?_; clear S; intro a S
       refine s_want S rfl rfl rfl rfl hb3 ?_
       refine s_lv0 S (rn_sub (S.tm rfl) rfl) rfl ?_; clear S; intro a S
       refine s_want S rfl rfl rfl rfl hb3 ?_
       obtain ⟨hc1, h⟩ := chkE h
       obtain ⟨b3, o2, hm2, hr3⟩ := rn_indexT (a := a) (x := .tmp 26) (y := .tmp 28) (ty := 0) sl_28 hs_p_l (inB_get hc1).1 (inB_get hc1).2 (S.tm rfl) (S.tm rfl)
       refine s_lv0 S (hr3 _) rfl ?_; clear S; intro a S
       clear hr3
       refine s_want S rfl rfl rfl rfl hb3 ?_
       refine s_lv0 S (rn_fld fa_56_0 (S.tm rfl)) rfl ?_; clear S; intro a S
       refine s_want S rfl rfl rfl rfl hb3 ?_
       refine s_lv0 S (rn_ld Tryz.isAgg9 (off := o2) (o := 0) (S.tm rfl) (hm2.at S.emb0) rfl) rfl ?_; clear S; intro a S
       refine s_want S rfl rfl rfl rfl hb3 ?_
       refine s_lv0 S (rn_sleq (S.tm rfl) (S.tm rfl)) rfl ?_; clear S; intro a S
       refine s_lv S rfl (rn_and_t hb3 (S.tm rfl) (S.tm rfl)) rfl ?_; clear S; intro a S
       refine s_done ?_
       exact ⟨_, h, Keep.refl _ _, S.nf [true] rfl ⟨rfl, rfl, rfl, rfl, rfl, rfl, trivial⟩⟩
      ·replace h := iteF h hb3
       refine s_skip S rfl rfl rfl rfl (neq_f hb3) rfl ?_ rfl; clear S; intro a S
       refine s_skip S rfl rfl rfl rfl (neq_f hb3) rfl ?_ rfl; clear S; intro a S
       refine s_skip S rfl rfl rfl rfl (neq_f hb3) rfl ?_ rfl; clear S; intro a S
       refine s_skip S rfl rfl rfl rfl (neq_f hb3) rfl ?_ rfl; clear S; intro a S
       refine s_skip S rfl rfl rfl rfl (neq_f hb3) rfl ?_ rfl; clear S; intro a S
       refine s_skip S rfl rfl rfl rfl (neq_f hb3) rfl ?_ rfl; clear S; intro a S
       refine s_skip S rfl rfl rfl rfl (neq_f hb3) rfl ?_ rfl; clear S; intro a S
       refine s_skip S rfl rfl rfl rfl (neq_f hb3) rfl ?_ rfl; clear S; intro a S
       refine s_skip S rfl rfl rfl rfl (neq_f hb3) rfl ?_ rfl; clear S; intro a S
       refine s_lv S rfl (rn_and_f true hb3 (S.tm rfl) rfl) rfl ?_; clear S; intro a S
       refine s_done ?_
       exact ⟨_, h, Keep.refl _ _, S.nf [true] rfl ⟨rfl, rfl, rfl, rfl, rfl, rfl, trivial⟩⟩
     clear S h; rintro a w7 ⟨c1, h, hk5, S⟩; rw [hj2] at h; clear hj2 j2
     refine s_lv S rfl (rn_assign (S.tm rfl)) rfl ?_; clear S; intro a S
     refine s_done ?_
     replace S := S.nk [.blk b2 [.string y1.Key, .int .i64 y1.Sex, .int .i64 y1.Born] 56] [(0, v_p_l), (4, .pointer (some ⟨b2, 0, none⟩)), (8, v_p_l), (9, .int .i64 (p_l.length : Int)), (10, .int .i64 (i1 : Int)), (20, .bool c1)] [true] rfl ⟨rfl, rfl, rfl, rfl, rfl, rfl, trivial⟩
     refine then_n ?_
     refine f_cond (S.tm rfl) (fun hb4 => ?_) (fun hb4 => ?_)
     ·replace h := iteT h hb4
      refine f_seq ?_
      refine f_region ?_
      refine lv S (rn_assign rfl) rfl ?_; clear S; intro a S
      refine l_done ?_
      replace S := S.nk [] [(2, .int .i64 7)] [false] rfl ⟨rfl, trivial⟩
      refine then_n ?_
      refine wp_ret ?_
      refine blk_r ?_
      refine blk_r ?_
      refine then_r ?_
      refine then_r ?_
      refine blk_r ?_
      refine then_r ?_
      refine then_r ?_
      obtain rfl := Option.some.inj h
      exact f_ret S Tryz.results54 rfl rfl
     ·replace h := iteF h hb4
      refine f_seq ?_
      refine f_region ?_
      refine lv S (rn_fld fa_56_1 (S.tm rfl)) rfl ?_; clear S; intro a S
      refine lv S (rn_load Tryz.isAgg3 (S.tm rfl) (S.cell (i := 0) rfl rfl)) rfl ?_; clear S; intro a S
      refine lv S (rn_neq (S.tm rfl) rfl) rfl ?_; clear S; intro a S
      refine lv S (rn_move (S.tm rfl)) rfl ?_; clear S; intro a S
      refine f_cutm 4 (fun a w' => Keep [] w7 w' ∧ Sx w [] nov [.blk b2 [.string y1.Key, .int .i64 y1.Sex, .int .i64 y1.Born] 56] [(0, v_p_l), (4, .pointer (some ⟨b2, 0, none⟩)), (8, v_p_l), (9, .int .i64 (p_l.length : Int)), (10, .int .i64 (i1 : Int)), (42, .bool ((!decide (y1.Sex = 1)) && (!decide (y1.Sex = 2))))] 50 a w') ?_ ?_
      ·rcases Bool.eq_false_or_eq_true (!decide (y1.Sex = 1)) with hb5 | hb5
       ·refine l_want S rfl rfl rfl hb5 ?_
        refine lv S (rn_fld fa_56_1 (S.tm rfl)) rfl ?_; clear S; intro a S
        refine l_want S rfl rfl rfl hb5 ?_
        refine lv S (rn_load Tryz.isAgg3 (S.tm rfl) (S.cell (i := 0) rfl rfl)) rfl ?_; clear S; intro a S
        refine l_want S rfl rfl rfl hb5 ?_
        refine lv S (rn_neq (S.tm rfl) rfl) rfl ?_; clear S; intro a S
        refine lv S (rn_and_t hb5 (S.tm rfl) (S.tm rfl)) rfl ?_; clear S; intro a S
        refine l_done ?_
        refine then_n ?_
        exact ⟨Keep.refl _ _, S.nf [true] rfl ⟨rfl, rfl, rfl, rfl, rfl, rfl, trivial⟩⟩
       ·refine l_skip S rfl rfl rfl (neq_f hb5) rfl ?_ rfl; clear S; intro a S
        refine l_skip S rfl rfl rfl (neq_f hb5) rfl ?_ rfl; clear S; intro a S
        refine l_skip S rfl rfl rfl (neq_f hb5) rfl ?_ rfl; clear S; intro a S
        refine lv S (rn_and_f (!decide (y1.Sex = 2)) hb5 (S.tm rfl) rfl) rfl ?_; clear S; intro a S
        refine l_done ?_
        refine then_n ?_
        exact ⟨Keep.refl _ _, S.nf [true] rfl ⟨rfl, rfl, rfl, rfl, rfl, rfl, trivial⟩⟩
      clear S; rintro a w8 ⟨hk6, S⟩
      refine lv S (rn_move (S.tm rfl)) rfl ?_; clear S; intro a S
      refine f_cutm 5 (fun a w' => Keep [] w8 w' ∧ Sx w [] nov [.blk b2 [.string y1.Key, .int .i64 y1.Sex, .int .i64 y1.Born] 56] [(0, v_p_l), (8, v_p_l), (9, .int .i64 (p_l.length : Int)), (10, .int .i64 (i1 : Int)), (48, .bool (((!decide (y1.Sex = 1)) && (!decide (y1.Sex = 2))) || (!(swimmer_isDay y1.Born))))] 50 a w') ?_ ?_
      ·rcases Bool.eq_false_or_eq_true ((!decide (y1.Sex = 1)) && (!decide (y1.Sex = 2))) with hb6 | hb6
       ·refine l_skip S rfl rfl rfl (neq_t hb6) rfl ?_ rfl; clear S; intro a S
        refine l_skip S rfl rfl rfl (neq_t hb6) rfl ?_ rfl; clear S; intro a S
        refine l_skip S rfl rfl rfl (neq_t hb6) rfl ?_ rfl; clear S; intro a S
        refine l_skip S rfl rfl rfl (neq_t hb6) rfl ?_ rfl; clear S; intro a S
        refine lv S (rn_or_t (!(swimmer_isDay y1.Born)) hb6 (S.tm rfl) rfl) rfl ?_; clear S; intro a S
        refine l_done ?_
        refine then_n ?_
        exact ⟨Keep.refl _ _, S.nf [true] rfl ⟨rfl, rfl, rfl, rfl, rfl, trivial⟩⟩
       ·refine l_want S rfl rfl rfl hb6 ?_
        refine lv S (rn_fld fa_56_2 (S.tm rfl)) rfl ?_; clear S; intro a S
        refine l_want S rfl rfl rfl hb6 ?_
        refine lv S (rn_load Tryz.isAgg3 (S.tm rfl) (S.cell (i := 0) rfl rfl)) rfl ?_; clear S; intro a S
        refine l_want S rfl rfl rfl hb6 ?_
        refine l_enter S (fun _ => run_call (vs := [.int .i64 y1.Born]) ⟨(S.tm rfl), trivial⟩ Tryz.call43) (swimmer_isDay_ok _ y1.Born _ rfl) rfl ?_; clear S; intro v2 a w10 hv2 hk7 hn2 S
        subst hv2
        refine l_want S rfl rfl rfl hb6 ?_
        refine lv S (rn_not (S.tm rfl)) rfl ?_; clear S; intro a S
        refine lv S (rn_or_f hb6 (S.tm rfl) (S.tm rfl)) rfl ?_; clear S; intro a S
        refine l_done ?_
        refine then_n ?_
        exact ⟨hk7, S.nf [true] rfl ⟨rfl, rfl, rfl, rfl, rfl, trivial⟩⟩
      clear S; rintro a w9 ⟨hk8, S⟩
      refine lv S (rn_assign (S.tm rfl)) rfl ?_; clear S; intro a S
      refine l_done ?_
      replace S := S.nk [] [(0, v_p_l), (8, v_p_l), (9, .int .i64 (p_l.length : Int)), (10, .int .i64 (i1 : Int)), (34, .bool (((!decide (y1.Sex = 1)) && (!decide (y1.Sex = 2))) || (!(swimmer_isDay y1.Born))))] [false] rfl ⟨rfl, rfl, rfl, rfl, rfl, trivial⟩
      refine then_n ?_
      refine f_cond (S.tm rfl) (fun hb7 => ?_) (fun hb7 => ?_)
      ·replace h := iteT h hb7
       refine f_seq ?_
       refine f_region ?_
       refine lv S (rn_assign rfl) rfl ?_; clear S; intro a S
       refine l_done ?_
       replace S := S.nk [] [(2, .int .i64 1)] [] rfl ⟨rfl, trivial⟩
       refine then_n ?_
       refine wp_ret ?_
       refine blk_r ?_
       refine blk_r ?_
       refine then_r ?_
       refine then_r ?_
       refine blk_r ?_
       refine then_r ?_
       refine then_r ?_
       obtain rfl := Option.some.inj h
       exact f_ret S Tryz.results54 rfl rfl
      ·replace h := iteF h hb7
       refine wp_skip ?_
       refine blk_n ?_
       refine blk_n ?_
       refine then_n ?_
       refine f_region ?_
       refine lv S (rn_add (S.tm rfl) rfl) rfl ?_; clear S; intro a S
       refine lv S (rn_move (S.tm rfl)) rfl ?_; clear S; intro a S
       refine l_done ?_
       replace S := S.nk [] [(0, v_p_l), (8, v_p_l), (9, .int .i64 (p_l.length : Int)), (10, .int .i64 (W ((i1 : Int) + 1)))] [] rfl ⟨rfl, rfl, rfl, rfl, trivial⟩
       refine then_n ?_
       exact ⟨ys1, ⟨i1 + 1, ⟨_, (hd1).trans (List.append_cons _ _ _), by simp [hi1]⟩, h, S.nf [] rfl ⟨rfl, rfl, rfl, (congrArg (fun z => some (Value.int .i64 z)) (rng_next hd1 hi1 (slc_max hs_p_l))), trivial⟩⟩, Nat.lt_succ_self _⟩
  clear S h; rintro a w2 ⟨h, S⟩; rw [hj1] at h; clear hj1 j1
  refine then_n ?_
  refine f_seq ?_
  refine f_region ?_
  refine lv S (rn_assign rfl) rfl ?_; clear S; intro a S
  refine l_done ?_
  replace S := S.nk [] [(2, .int .i64 0)] [] rfl ⟨rfl, trivial⟩
  refine then_n ?_
  refine wp_ret ?_
  obtain rfl := Option.some.inj h
  exact f_ret S Tryz.results54 rfl rfl
theorem strings_Compare_ok (w : World) (s t : ByteArray) (r : Int) (h : strings_Compare s t = r) : Calls Tryz.prog 73 [.string s, .string t].toArray w (Ret w [] fun _ v _ => v = .int .i64 r) := by
  subst h
  exact ret_of_same (Any.strings_Compare Tryz.lays106 s t w)
theorem cmp_isNaN_int_ok (w : World) (p_x : Int) (r : Bool) (h : cmp_isNaN_int p_x = r) :
    Calls Tryz.prog 84 [.int .i64 p_x].toArray w (Ret w [] fun _ v _ => v = .bool r) := by
 refine f_enter [] [] Tryz.func84 rfl Tryz.ntmps84 rfl (by simp) (by simp [fps]) (by simp [fps]) fun a S => ?_
 unfold cmp_isNaN_int at h
 replace S := S.nk [] [(0, .int .i64 p_x)] [] rfl ⟨rfl, trivial⟩
 refine f_seq ?_
 refine f_region ?_
 refine lv S (rn_assign rfl) rfl ?_; clear S; intro a S
 refine l_done ?_
 replace S := S.nk [] [(0, .int .i64 p_x)] [] rfl ⟨rfl, trivial⟩
 refine then_n ?_
 refine f_seq ?_
 refine f_region ?_
 refine lv S (rn_move (S.tm rfl)) rfl ?_; clear S; intro a S
 refine lv S (rn_move (S.tm rfl)) rfl ?_; clear S; intro a S
 refine lv S (rn_neq (S.tm rfl) (S.tm rfl)) rfl ?_; clear S; intro a S
 refine lv S (rn_assign (S.tm rfl)) rfl ?_; clear S; intro a S
 refine l_done ?_
 replace S := S.nk [] [(2, .bool (!decide (p_x = p_x)))] [] rfl ⟨rfl, trivial⟩
 refine then_n ?_
 refine wp_ret ?_
 subst h
 exact f_ret S Tryz.results84 rfl rfl
theorem cmp_Compare_int_ok (w : World) (p_x : Int) (p_y : Int) (r : Int) (h : cmp_Compare_int p_x p_y = r) :
    Calls Tryz.prog 74 [.int .i64 p_x, .int .i64 p_y].toArray w (Ret w [] fun _ v _ => v = .int .i64 r) := by
 refine f_enter [] [] Tryz.func74 rfl Tryz.ntmps74 rfl (by simp) (by simp [fps]) (by simp [fps]) fun a S => ?_
 unfold cmp_Compare_int at h
 replace S := S.nk [] [(0, .int .i64 p_x), (1, .int .i64 p_y)] [] rfl ⟨rfl, rfl, trivial⟩
 refine f_seq ?_
 refine f_region ?_
 refine lv S (rn_assign rfl) rfl ?_; clear S; intro a S
 refine l_done ?_
 replace S := S.nk [] [(0, .int .i64 p_x), (1, .int .i64 p_y)] [] rfl ⟨rfl, rfl, trivial⟩
 refine then_n ?_
 refine f_seq ?_
 refine f_region ?_
 refine lv S (rn_move (S.tm rfl)) rfl ?_; clear S; intro a S
 refine l_enter S (fun _ => run_call (vs := [.int .i64 p_x]) ⟨(S.tm rfl), trivial⟩ Tryz.call84) (cmp_isNaN_int_ok _ p_x _ rfl) rfl ?_; clear S; intro v1 a w1 hv1 hk1 hn1 S
 subst hv1
 refine lv S (rn_assign (S.tm rfl)) rfl ?_; clear S; intro a S
 refine l_done ?_
 replace S := S.nk [] [(0, .int .i64 p_x), (1, .int .i64 p_y), (5, .bool (cmp_isNaN_int p_x))] [] rfl ⟨rfl, rfl, rfl, trivial⟩
 refine then_n ?_
 refine f_seq ?_
 refine f_region ?_
 refine lv S (rn_move (S.tm rfl)) rfl ?_; clear S; intro a S
 refine l_enter S (fun _ => run_call (vs := [.int .i64 p_y]) ⟨(S.tm rfl), trivial⟩ Tryz.call84) (cmp_isNaN_int_ok _ p_y _ rfl) rfl ?_; clear S; intro v2 a w2 hv2 hk2 hn2 S
 subst hv2
 refine lv S (rn_assign (S.tm rfl)) rfl ?_; clear S; intro a S
 refine l_done ?_
 replace S := S.nk [] [(0, .int .i64 p_x), (1, .int .i64 p_y), (5, .bool (cmp_isNaN_int p_x)), (6, .bool (cmp_isNaN_int p_y))] [] rfl ⟨rfl, rfl, rfl, rfl, trivial⟩
 refine then_n ?_
 refine f_seq ?_
 refine f_seq ?_
 refine f_region ?_
 refine lv S (rn_move (S.tm rfl)) rfl ?_; clear S; intro a S
 refine l_done ?_
 replace S := S.nk [] [(0, .int .i64 p_x), (1, .int .i64 p_y), (6, .bool (cmp_isNaN_int p_y)), (11, .bool (cmp_isNaN_int p_x))] [] rfl ⟨rfl, rfl, rfl, rfl, trivial⟩
 refine then_n ?_
 refine f_cond (S.tm rfl) (fun hb1 => ?_) (fun hb1 => ?_)
 ·replace h := iteT h hb1
  refine f_seq ?_
  refine f_seq ?_
  refine f_region ?_
  refine lv S (rn_move (S.tm rfl)) rfl ?_; clear S; intro a S
  refine l_done ?_
  replace S := S.nk [] [(12, .bool (cmp_isNaN_int p_y))] [] rfl ⟨rfl, trivial⟩
  refine then_n ?_
  refine f_cond (S.tm rfl) (fun hb2 => ?_) (fun hb2 => ?_)
  ·replace h := iteT h hb2
   refine f_seq ?_
   refine f_region ?_
   refine lv S (rn_assign rfl) rfl ?_; clear S; intro a S
   refine l_done ?_
   replace S := S.nk [] [(4, .int .i64 0)] [] rfl ⟨rfl, trivial⟩
   refine then_n ?_
   refine wp_ret ?_
   refine then_r ?_
   refine then_r ?_
   subst h
   exact f_ret S Tryz.results74 rfl rfl
  ·replace h := iteF h hb2
   refine wp_skip ?_
   refine then_n ?_
   refine f_seq ?_
   refine f_region ?_
   refine lv S (rn_assign rfl) rfl ?_; clear S; intro a S
   refine l_done ?_
   replace S := S.nk [] [(4, .int .i64 (-1))] [] rfl ⟨rfl, trivial⟩
   refine then_n ?_
   refine wp_ret ?_
   refine then_r ?_
   subst h
   exact f_ret S Tryz.results74 rfl rfl
 ·replace h := iteF h hb1
  refine wp_skip ?_
  refine then_n ?_
  refine f_seq ?_
  refine f_seq ?_
  refine f_region ?_
  refine lv S (rn_move (S.tm rfl)) rfl ?_; clear S; intro a S
  refine l_done ?_
  replace S := S.nk [] [(0, .int .i64 p_x), (1, .int .i64 p_y), (13, .bool (cmp_isNaN_int p_y))] [] rfl ⟨rfl, rfl, rfl, trivial⟩
  refine then_n ?_
  refine f_cond (S.tm rfl) (fun hb3 => ?_) (fun hb3 => ?_)
  ·replace h := iteT h hb3
   refine f_seq ?_
   refine f_region ?_
   refine lv S (rn_assign rfl) rfl ?_; clear S; intro a S
   refine l_done ?_
   replace S := S.nk [] [(4, .int .i64 1)] [] rfl ⟨rfl, trivial⟩
   refine then_n ?_
   refine wp_ret ?_
   refine then_r ?_
   subst h
   exact f_ret S Tryz.results74 rfl rfl
  ·replace h := iteF h hb3
   refine wp_skip ?_
   refine then_n ?_
   refine f_seq ?_
   refine f_seq ?_
   refine f_region ?_
   refine lv S (rn_move (S.tm rfl)) rfl ?_; clear S; intro a S
   refine lv S (rn_move (S.tm rfl)) rfl ?_; clear S; intro a S
   refine lv S (rn_lss (S.tm rfl) (S.tm rfl)) rfl ?_; clear S; intro a S
   refine l_done ?_
   replace S := S.nk [] [(0, .int .i64 p_x), (1, .int .i64 p_y), (16, .bool (decide (p_x < p_y)))] [] rfl ⟨rfl, rfl, rfl, trivial⟩
   refine then_n ?_
   refine f_cond (S.tm rfl) (fun hb4 => ?_) (fun hb4 => ?_)
   ·replace h := iteT h hb4
    refine f_seq ?_
    refine f_region ?_
    refine lv S (rn_assign rfl) rfl ?_; clear S; intro a S
    refine l_done ?_
    replace S := S.nk [] [(4, .int .i64 (-1))] [] rfl ⟨rfl, trivial⟩
    refine then_n ?_
    refine wp_ret ?_
    refine then_r ?_
    subst h
    exact f_ret S Tryz.results74 rfl rfl
   ·replace h := iteF h hb4
    refine wp_skip ?_
    refine then_n ?_
    refine f_seq ?_
    refine f_seq ?_
    refine f_region ?_
    refine lv S (rn_move (S.tm rfl)) rfl ?_; clear S; intro a S
    refine lv S (rn_move (S.tm rfl)) rfl ?_; clear S; intro a S
    refine lv S (rn_gtr (S.tm rfl) (S.tm rfl)) rfl ?_; clear S; intro a S
    refine l_done ?_
    replace S := S.nk [] [(19, .bool (decide (p_y < p_x)))] [] rfl ⟨rfl, trivial⟩
    refine then_n ?_
    refine f_cond (S.tm rfl) (fun hb5 => ?_) (fun hb5 => ?_)
    ·replace h := iteT h hb5
     refine f_seq ?_
     refine f_region ?_
     refine lv S (rn_assign rfl) rfl ?_; clear S; intro a S
     refine l_done ?_
     replace S := S.nk [] [(4, .int .i64 1)] [] rfl ⟨rfl, trivial⟩
     refine then_n ?_
     refine wp_ret ?_
     refine then_r ?_
     subst h
     exact f_ret S Tryz.results74 rfl rfl
    ·replace h := iteF h hb5
     refine wp_skip ?_
     refine then_n ?_
     refine f_seq ?_
     refine f_region ?_
     refine lv S (rn_assign rfl) rfl ?_; clear S; intro a S
     refine l_done ?_
     replace S := S.nk [] [(4, .int .i64 0)] [] rfl ⟨rfl, trivial⟩
     refine then_n ?_
     refine wp_ret ?_
     subst h
     exact f_ret S Tryz.results74 rfl rfl
theorem cmp_Or_int_ok (w : World) (v_p_vals : Value) (p_vals : List Int) (hs_p_vals : Slc (view w []) 1 v_p_vals (p_vals.map eInt)) (r : Int) (h : cmp_Or_int p_vals = r) :
    Calls Tryz.prog 72 [v_p_vals].toArray w (Ret w [] fun _ v _ => v = .int .i64 r) := by
 refine f_enter [] [] Tryz.func72 rfl Tryz.ntmps72 rfl (by simp) (by simp [fps]) (by simp [fps]) fun a S => ?_
 unfold cmp_Or_int at h
 replace S := S.nk [] [(0, v_p_vals)] [] rfl ⟨rfl, trivial⟩
 refine f_seq ?_
 refine f_region ?_
 refine lv S (rn_assign rfl) rfl ?_; clear S; intro a S
 refine l_done ?_
 replace S := S.nk [] [(0, v_p_vals)] [] rfl ⟨rfl, trivial⟩
 refine then_n ?_
 refine f_seq ?_
 refine f_region ?_
 refine lv S (rn_assign rfl) rfl ?_; clear S; intro a S
 refine l_done ?_
 replace S := S.nk [] [(0, v_p_vals), (3, .int .i64 0)] [] rfl ⟨rfl, rfl, trivial⟩
 refine then_n ?_
 refine f_seq ?_
 refine f_seq ?_
 refine f_region ?_
 refine lv S (rn_move (S.tm rfl)) rfl ?_; clear S; intro a S
 refine lv S (rn_lenT sl_22 (S.tm rfl) (slc_len hs_p_vals)) rfl ?_; clear S; intro a S
 refine lv S (rn_move rfl) rfl ?_; clear S; intro a S
 refine l_done ?_
 replace S := S.nk [] [(3, .int .i64 0), (6, v_p_vals), (7, .int .i64 (p_vals.length : Int)), (8, .int .i64 0)] [] rfl ⟨rfl, rfl, rfl, rfl, trivial⟩
 refine then_n ?_
 obtain ⟨j1, hj1, h⟩ := joinE h
 refine f_join (fun a w' => j1 = r ∧ Sx w [] nov [] [(3, .int .i64 0)] 18 a w') ?_ ?_
 ·refine wp_block ?_
  refine f_loop (fun (ys1 : List Int) a w' => ∃ i1 : Nat, (∃ dn, p_vals = dn ++ ys1 ∧ dn.length = i1) ∧ cmp_Or_int_l1 j1 ys1 i1 = r ∧ Sx w [] nov [] [(3, .int .i64 0), (6, v_p_vals), (7, .int .i64 (p_vals.length : Int)), (8, .int .i64 (i1 : Int))] 18 a w') List.length p_vals ⟨0, ⟨[], rfl, rfl⟩, h, S.nf [] rfl ⟨rfl, rfl, rfl, rfl, trivial⟩⟩ ?_
  clear S h; rintro ys1 a w1 ⟨i1, ⟨dn, hd1, hi1⟩, h, S⟩
  cases ys1 with
  | nil =>
   rw [cmp_Or_int_l1.eq_1] at h
   refine f_seq ?_
   refine f_region ?_
   refine lv S (rn_lss (S.tm rfl) (S.tm rfl)) rfl ?_; clear S; intro a S
   refine l_done ?_
   replace S := S.nk [] [(3, .int .i64 0), (6, v_p_vals), (7, .int .i64 (p_vals.length : Int)), (8, .int .i64 (i1 : Int)), (9, .bool (decide ((i1 : Int) < (p_vals.length : Int))))] [] rfl ⟨rfl, rfl, rfl, rfl, rfl, trivial⟩
   refine then_n ?_
   refine f_seq ?_
   refine wp_cond_false ((S.tm rfl).trans (congrArg Value.bool (rng_nil hd1 hi1))) ?_
   refine wp_exit ?_
   refine then_x ?_
   refine then_x ?_
   refine x_same ?_
   refine then_n ?_
   exact ⟨h, S.nf [] rfl ⟨rfl, trivial⟩⟩
  | cons y1 ys1 =>
   rw [cmp_Or_int_l1.eq_2] at h
   refine f_seq ?_
   refine f_region ?_
   refine lv S (rn_lss (S.tm rfl) (S.tm rfl)) rfl ?_; clear S; intro a S
   refine l_done ?_
   replace S := S.nk [] [(3, .int .i64 0), (6, v_p_vals), (7, .int .i64 (p_vals.length : Int)), (8, .int .i64 (i1 : Int)), (9, .bool (decide ((i1 : Int) < (p_vals.length : Int))))] [] rfl ⟨rfl, rfl, rfl, rfl, rfl, trivial⟩
   refine then_n ?_
   refine f_seq ?_
   refine wp_cond_true ((S.tm rfl).trans (congrArg Value.bool (rng_cons hd1 hi1))) ?_
   refine wp_skip ?_
   refine then_n ?_
   refine f_seq ?_
   refine wp_block ?_
   refine f_seq ?_
   refine f_region ?_
   obtain ⟨b1, o1, hm1, hr1⟩ := rn_indexT (a := a) (x := .tmp 6) (y := .tmp 8) (ty := 0) sl_22 hs_p_vals (get_mid hd1 hi1) rfl (S.tm rfl) (S.tm rfl)
   refine lv S (hr1 _) rfl ?_; clear S; intro a S
   clear hr1
   refine lv S (rn_ld Tryz.isAgg3 (off := o1) (o := 0) (S.tm rfl) (hm1.at S.emb0) rfl) rfl ?_; clear S; intro a S
   refine lv S (rn_assign (S.tm rfl)) rfl ?_; clear S; intro a S
   refine l_done ?_
   replace S := S.nk [] [(3, .int .i64 0), (5, .int .i64 y1), (6, v_p_vals), (7, .int .i64 (p_vals.length : Int)), (8, .int .i64 (i1 : Int))] [] rfl ⟨rfl, rfl, rfl, rfl, rfl, trivial⟩
   refine then_n ?_
   refine f_seq ?_
   refine f_region ?_
   refine lv S (rn_move (S.tm rfl)) rfl ?_; clear S; intro a S
   refine lv S (rn_move (S.tm rfl)) rfl ?_; clear S; intro a S
   refine lv S (rn_neq (S.tm rfl) (S.tm rfl)) rfl ?_; clear S; intro a S
   refine l_done ?_
   replace S := S.nk [] [(3, .int .i64 0), (5, .int .i64 y1), (6, v_p_vals), (7, .int .i64 (p_vals.length : Int)), (8, .int .i64 (i1 : Int)), (14, .bool (!decide (y1 = 0)))] [] rfl ⟨rfl, rfl, rfl, rfl, rfl, rfl, trivial⟩
   refine then_n ?_
   refine f_cond (S.tm rfl) (fun hb1 => ?_) (fun hb1 => ?_)
   ·replace h := iteT h hb1
    refine f_seq ?_
    refine f_region ?_
    refine lv S (rn_move (S.tm rfl)) rfl ?_; clear S; intro a S
    refine lv S (rn_assign (S.tm rfl)) rfl ?_; clear S; intro a S
    refine l_done ?_
    replace S := S.nk [] [(2, .int .i64 y1)] [] rfl ⟨rfl, trivial⟩
    refine then_n ?_
    refine wp_ret ?_
    refine blk_r ?_
    refine then_r ?_
    refine then_r ?_
    refine blk_r ?_
    refine then_r ?_
    refine then_r ?_
    subst h
    exact f_ret S Tryz.results72 rfl rfl
   ·replace h := iteF h hb1
    refine wp_skip ?_
    refine blk_n ?_
    refine then_n ?_
    refine f_region ?_
    refine lv S (rn_add (S.tm rfl) rfl) rfl ?_; clear S; intro a S
    refine lv S (rn_move (S.tm rfl)) rfl ?_; clear S; intro a S
    refine l_done ?_
    replace S := S.nk [] [(3, .int .i64 0), (6, v_p_vals), (7, .int .i64 (p_vals.length : Int)), (8, .int .i64 (W ((i1 : Int) + 1)))] [] rfl ⟨rfl, rfl, rfl, rfl, trivial⟩
    refine then_n ?_
    exact ⟨ys1, ⟨i1 + 1, ⟨_, (hd1).trans (List.append_cons _ _ _), by simp [hi1]⟩, h, S.nf [] rfl ⟨rfl, rfl, rfl, (congrArg (fun z => some (Value.int .i64 z)) (rng_next hd1 hi1 (slc_max hs_p_vals))), trivial⟩⟩, Nat.lt_succ_self _⟩
 clear S h; rintro a w2 ⟨h, S⟩; rw [hj1] at h; clear hj1 j1
 refine then_n ?_
 refine f_seq ?_
 refine f_region ?_
 refine lv S (rn_move (S.tm rfl)) rfl ?_; clear S; intro a S
 refine lv S (rn_assign (S.tm rfl)) rfl ?_; clear S; intro a S
 refine l_done ?_
 replace S := S.nk [] [(2, .int .i64 0)] [] rfl ⟨rfl, trivial⟩
 refine then_n ?_
 refine wp_ret ?_
 subst h
 exact f_ret S Tryz.results72 rfl rfl
set_option maxRecDepth 20000 in
theorem swimmer_CheckMoves_ok (w : World) (v_p_l : Value) (p_l : List GMove) (hs_p_l : Slc (view w []) 3 v_p_l (p_l.map GMove.enc)) (r : Int) (h : swimmer_CheckMoves p_l = some r) :
    Calls Tryz.prog 55 [v_p_l].toArray w (Ret w [] fun _ v _ => v = .int .i64 r) := by
 refine f_enter [] [] Tryz.func55 rfl Tryz.ntmps55 rfl (by simp) (by simp [fps]) (by simp [fps]) fun a S => ?_
 unfold swimmer_CheckMoves at h
 replace S := S.nk [] [(0, v_p_l)] [] rfl ⟨rfl, trivial⟩
 refine f_seq ?_
 refine f_region ?_
 refine lv S (rn_assign rfl) rfl ?_; clear S; intro a S
 refine l_done ?_
 replace S := S.nk [] [(0, v_p_l)] [] rfl ⟨rfl, trivial⟩
 refine then_n ?_
 refine f_seq ?_
 refine f_seq ?_
 refine f_region ?_
 refine lv S (rn_move (S.tm rfl)) rfl ?_; clear S; intro a S
 refine lv S (rn_lenT sl_30 (S.tm rfl) (slc_len hs_p_l)) rfl ?_; clear S; intro a S
 refine lv S (rn_gtr (S.tm rfl) rfl) rfl ?_; clear S; intro a S
 refine l_done ?_
 replace S := S.nk [] [(0, v_p_l), (8, .bool (decide (1000 < (p_l.length : Int))))] [] rfl ⟨rfl, rfl, trivial⟩
 refine then_n ?_
 refine f_cond (S.tm rfl) (fun hb1 => ?_) (fun hb1 => ?_)
 ·replace h := iteT h hb1
  refine f_seq ?_
  refine f_region ?_
  refine lv S (rn_assign rfl) rfl ?_; clear S; intro a S
  refine l_done ?_
  replace S := S.nk [] [(2, .int .i64 2)] [] rfl ⟨rfl, trivial⟩
  refine then_n ?_
  refine wp_ret ?_
  refine then_r ?_
  obtain rfl := Option.some.inj h
  exact f_ret S Tryz.results55 rfl rfl
 ·replace h := iteF h hb1
  refine wp_skip ?_
  refine then_n ?_
  refine f_seq ?_
  refine f_seq ?_
  refine f_region ?_
  refine lv S (rn_move (S.tm rfl)) rfl ?_; clear S; intro a S
  refine lv S (rn_lenT sl_30 (S.tm rfl) (slc_len hs_p_l)) rfl ?_; clear S; intro a S
  refine lv S (rn_move rfl) rfl ?_; clear S; intro a S
  refine l_done ?_
  replace S := S.nk [] [(0, v_p_l), (9, v_p_l), (10, .int .i64 (p_l.length : Int)), (11, .int .i64 0)] [] rfl ⟨rfl, rfl, rfl, rfl, trivial⟩
  refine then_n ?_
  obtain ⟨j1, hj1, h⟩ := joinE h
  refine f_join (fun a w' => j1 = some r ∧ Sx w [] nov [] [] 97 a w') ?_ ?_
  ·refine wp_block ?_
   refine f_loop (fun (ys1 : List GMove) a w' => ∃ i1 : Nat, (∃ dn, p_l = dn ++ ys1 ∧ dn.length = i1) ∧ swimmer_CheckMoves_l1 p_l j1 ys1 i1 = some r ∧ Sx w [] nov [] [(0, v_p_l), (9, v_p_l), (10, .int .i64 (p_l.length : Int)), (11, .int .i64 (i1 : Int))] 97 a w') List.length p_l ⟨0, ⟨[], rfl, rfl⟩, h, S.nf [] rfl ⟨rfl, rfl, rfl, rfl, trivial⟩⟩ ?_
   clear S h; rintro ys1 a w1 ⟨i1, ⟨dn, hd1, hi1⟩, h, S⟩
   cases ys1 with
   | nil =>
    rw [swimmer_CheckMoves_l1.eq_1] at h
    refine f_seq ?_
    refine f_region ?_
    refine lv S (rn_lss (S.tm rfl) (S.tm rfl)) rfl ?_; clear S; intro a S
    refine l_done ?_
    replace S := S.nk [] [(0, v_p_l), (9, v_p_l), (10, .int .i64 (p_l.length : Int)), (11, .int .i64 (i1 : Int)), (12, .bool (decide ((i1 : Int) < (p_l.length : Int))))] [] rfl ⟨rfl, rfl, rfl, rfl, rfl, trivial⟩
    refine then_n ?_
    refine f_seq ?_
    refine wp_cond_false ((S.tm rfl).trans (congrArg Value.bool (rng_nil hd1 hi1))) ?_
    refine wp_exit ?_
    refine then_x ?_
    refine then_x ?_
    refine x_same ?_
    refine then_n ?_
    exact ⟨h, S.nf [] rfl trivial⟩
   | cons y1 ys1 =>
    rw [swimmer_CheckMoves_l1.eq_2] at h
    refine f_seq ?_
    refine f_region ?_
    refine lv S (rn_lss (S.tm rfl) (S.tm rfl)) rfl ?_; clear S; intro a S
    refine l_done ?_
    replace S := S.nk [] [(0, v_p_l), (9, v_p_l), (10, .int .i64 (p_l.length : Int)), (11, .int .i64 (i1 : Int)), (12, .bool (decide ((i1 : Int) < (p_l.length : Int))))] [] rfl ⟨rfl, rfl, rfl, rfl, rfl, trivial⟩
    refine then_n ?_
    refine f_seq ?_
    refine wp_cond_true ((S.tm rfl).trans (congrArg Value.bool (rng_cons hd1 hi1))) ?_
    refine wp_skip ?_
    refine then_n ?_
    refine f_seq ?_
    refine wp_block ?_
    refine f_seq ?_
    refine f_region ?_
    refine lv S (rn_move (S.tm rfl)) rfl ?_; clear S; intro a S
    obtain ⟨b1, o1, hm1, hr1⟩ := rn_indexT (a := a) (x := .tmp 9) (y := .tmp 11) (ty := 0) sl_30 hs_p_l (get_mid hd1 hi1) rfl (S.tm rfl) (S.tm rfl)
    refine lv S (hr1 _) rfl ?_; clear S; intro a S
    clear hr1
    refine lv S (rn_ldA Tryz.isAgg58 Tryz.sizeOf58 (off := o1) (o := 0) (part := [.string y1.Who, .string y1.Club, .int .i64 y1.Day]) rfl rfl (S.tm rfl) (hm1.at S.emb0)) rfl ?_; clear S; intro a S
    refine l_alloc S Tryz.zeroValue58 (cs := [.string k_empty, .string k_empty, .int .i64 0]) rfl rfl ?_; clear S; intro a w3 b2 hz1 hk1 S
    refine lv S (rn_assign (S.tm rfl)) rfl ?_; clear S; intro a S
    refine l_store S (S.tm rfl) (S.tm rfl) (i := 0) (off := 0) rfl Tryz.sizeOf58 (vs := [.string y1.Who, .string y1.Club, .int .i64 y1.Day]) rfl rfl rfl rfl ?_; clear S; intro w4 hk2 S
    refine l_done ?_
    replace S := S.nk [.blk b2 [.string y1.Who, .string y1.Club, .int .i64 y1.Day] 58] [(0, v_p_l), (3, .int .i64 (i1 : Int)), (4, .pointer (some ⟨b2, 0, none⟩)), (9, v_p_l), (10, .int .i64 (p_l.length : Int)), (11, .int .i64 (i1 : Int))] [true] rfl ⟨rfl, rfl, rfl, rfl, rfl, rfl, trivial⟩
    refine then_n ?_
    refine f_seq ?_
    refine d_region [] ([]) Tryz.mixed S rfl (by kernel_rfl) ?_; clear S; intro w5 hk3 hsel S
    refine d_rest [0, 1, 2, 3, 4, 5, 6, 7, 8, 9, 10, 11, 12, 13] hsel (by kernel_rfl) rfl ?_
    clear hsel
    refine s_lv S rfl (rn_move (S.tm rfl)) rfl ?_; clear S; intro a S
    refine s_lv S rfl (rn_eql (S.tm rfl) rfl) rfl ?_; clear S; intro a S
    refine s_lv S rfl (rn_move (S.tm rfl)) rfl ?_; clear S; intro a S
    obtain ⟨j2, hj2, h⟩ := joinE h
    refine s_cutm 10 (fun a w' => ∃ c1, j2 c1 = some r ∧ Keep [] w5 w' ∧ Sx w [] nov [.blk b2 [.string y1.Who, .string y1.Club, .int .i64 y1.Day] 58] [(0, v_p_l), (3, .int .i64 (i1 : Int)), (4, .pointer (some ⟨b2, 0, none⟩)), (9, v_p_l), (10, .int .i64 (p_l.length : Int)), (11, .int .i64 (i1 : Int)), (28, .bool c1)] 97 a w') ?_ ?_
    ·rcases Bool.eq_false_or_eq_true (decide ((i1 : Int) = 0)) with hb2 | hb2
     ·replace h := iteT h hb2
      refine s_skip S rfl rfl rfl rfl (neq_t hb2) rfl ?_ rfl; clear S; intro a S
      refine s_skip S rfl rfl rfl rfl (neq_t hb2) rfl ?_ rfl; clear S; intro a S
      refine s_skip S rfl rfl rfl rfl (neq_t hb2) rfl ?_ rfl; clear S; intro a S
      refine s_skip S rfl rfl rfl rfl (neq_t hb2) rfl ?_ rfl; clear S; intro a S
      refine s_skip S rfl rfl rfl rfl (neq_t hb2) rfl ?_ rfl; clear S; intro a S
      refine s_skip S rfl rfl rfl rfl (neq_t hb2) rfl ?_ rfl; clear S; intro a S
      refine s_skip S rfl rfl rfl rfl (neq_t hb2) rfl ?_ rfl; clear S; intro a S
      refine s_skip S rfl rfl rfl rfl (neq_t hb2) rfl ?_ rfl; clear S; intro a S
      refine s_skip S rfl rfl rfl rfl (neq_t hb2) rfl ?_ rfl; clear S; intro a S
      refine s_lv S rfl (rn_or_t true hb2 (S.tm rfl) rfl) rfl ?_; clear S; intro a S
      refine s_done ?_
      exact ⟨_, h, Keep.refl _ _, S.nf [true] rfl ⟨rfl, rfl, rfl, rfl, rfl, rfl, rfl, trivial⟩⟩
     ·replace h := iteF h hb2
      refine s_want S rfl rfl rfl rfl hb2 ?_
      refine s_lv0 S (rn_move (S.tm rfl)) rfl ?_; clear S; intro a S
      refine s_want S rfl rfl rfl rfl hb2 ?_
      refine s_lv0 S (rn_move (S.tm rfl)) rfl ?_; clear S; intro a S
      refine s_want S rfl rfl rfl rfl hb2 ?_
      refine s_lv0 S (rn_sub (S.tm rfl) rfl) rfl ?_; clear S; intro a S
      refine s_want S rfl rfl rfl rfl hb2 ?_
      obtain ⟨hc1, h⟩ := chkE h
      obtain ⟨b3, o2, hm2, hr2⟩ := rn_indexT (a := a) (x := .tmp 19) (y := .tmp 21) (ty := 0) sl_30 hs_p_l (inB_get hc1).1 (inB_get hc1).2 (S.tm rfl) (S.tm rfl)
      refine s_lv0 S (hr2 _) rfl ?_; clear S; intro a S
      clear hr2
      refine s_want S rfl rfl rfl rfl hb2 ?_
      refine s_lv0 S (rn_fld fa_58_0 (S.tm rfl)) rfl ?_; clear S; intro a S
      refine s_want S rfl rfl rfl rfl hb2 ?_
      refine s_lv0 S (rn_ld Tryz.isAgg9 (off := o2) (o := 0) (S.tm rfl) (hm2.at S.emb0) rfl) rfl ?_; clear S; intro a S
      refine s_want S rfl rfl rfl rfl hb2 ?_
      refine s_lv0 S (rn_fld fa_58_0 (S.tm rfl)) rfl ?_; clear S; intro a S
      refine s_want S rfl rfl rfl rfl hb2 ?_
      refine s_lv0 S (rn_load Tryz.isAgg9 (S.tm rfl) (S.cell (i := 0) rfl rfl)) rfl ?_; clear S; intro a S
      refine s_want S rfl rfl rfl rfl hb2 ?_
      refine s_lv0 S (rn_sneq (S.tm rfl) (S.tm rfl)) rfl ?_; clear S; intro a S
      refine s_lv S rfl (rn_or_f hb2 (S.tm rfl) (S.tm rfl)) rfl ?_; clear S; intro a S
      refine s_done ?_
      exact ⟨_, h, Keep.refl _ _, S.nf [true] rfl ⟨rfl, rfl, rfl, rfl, rfl, rfl, rfl, trivial⟩⟩
    clear S h; rintro a w6 ⟨c1, h, hk4, S⟩; rw [hj2] at h; clear hj2 j2
    refine s_lv S rfl (rn_assign (S.tm rfl)) rfl ?_; clear S; intro a S
    refine s_done ?_
    replace S := S.nk [.blk b2 [.string y1.Who, .string y1.Club, .int .i64 y1.Day] 58] [(0, v_p_l), (3, .int .i64 (i1 : Int)), (4, .pointer (some ⟨b2, 0, none⟩)), (5, .bool c1), (9, v_p_l), (10, .int .i64 (p_l.length : Int)), (11, .int .i64 (i1 : Int))] [true] rfl ⟨rfl, rfl, rfl, rfl, rfl, rfl, rfl, trivial⟩
    refine then_n ?_
    refine wp_block ?_
    refine f_seq ?_
    refine f_region ?_
    refine lv S (rn_fld fa_58_0 (S.tm rfl)) rfl ?_; clear S; intro a S
    refine lv S (rn_load Tryz.isAgg9 (S.tm rfl) (S.cell (i := 0) rfl rfl)) rfl ?_; clear S; intro a S
    obtain ⟨r1, hr3, h⟩ := bindE h
    refine l_enter S (fun _ => run_call (vs := [.string y1.Who]) ⟨(S.tm rfl), trivial⟩ Tryz.call57) (words_IsKey_ok _ y1.Who _ hr3) rfl ?_; clear S; intro v1 a w7 hv1 hk5 hn1 S
    subst hv1
    refine lv S (rn_not (S.tm rfl)) rfl ?_; clear S; intro a S
    refine lv S (rn_move (S.tm rfl)) rfl ?_; clear S; intro a S
    obtain ⟨j3, hj3, h⟩ := joinE h
    refine f_cutm 10 (fun a w' => ∃ c2, j3 c2 = some r ∧ Keep [] w7 w' ∧ Sx w [] nov [.blk b2 [.string y1.Who, .string y1.Club, .int .i64 y1.Day] 58] [(0, v_p_l), (3, .int .i64 (i1 : Int)), (4, .pointer (some ⟨b2, 0, none⟩)), (5, .bool c1), (9, v_p_l), (10, .int .i64 (p_l.length : Int)), (11, .int .i64 (i1 : Int)), (44, .bool c2)] 97 a w') ?_ ?_
    ·rcases Bool.eq_false_or_eq_true (!r1) with hb3 | hb3
     ·replace h := iteT h hb3
      refine l_skip S rfl rfl rfl (neq_t hb3) rfl ?_ rfl; clear S; intro a S
      refine l_skip S rfl rfl rfl (neq_t hb3) rfl ?_ rfl; clear S; intro a S
      refine l_skip S rfl rfl rfl (neq_t hb3) rfl ?_ rfl; clear S; intro a S
      refine l_skip S rfl rfl rfl (neq_t hb3) rfl ?_ rfl; clear S; intro a S
      refine l_skipU S rfl rfl rfl rfl ?_; clear S; intro a S
      refine l_skipU S rfl rfl rfl rfl ?_; clear S; intro a S
      refine l_skipU S rfl rfl rfl rfl ?_; clear S; intro a S
      refine l_skipU S rfl rfl rfl rfl ?_; clear S; intro a S
      refine l_skip S rfl rfl rfl (neq_t hb3) rfl ?_ rfl; clear S; intro a S
      refine lv S (rn_or_t true hb3 (S.tm rfl) rfl) rfl ?_; clear S; intro a S
      refine l_done ?_
      refine then_n ?_
      exact ⟨_, h, Keep.refl _ _, S.nf [true] rfl ⟨rfl, rfl, rfl, rfl, rfl, rfl, rfl, rfl, trivial⟩⟩
     ·replace h := iteF h hb3
      refine l_want S rfl rfl rfl hb3 ?_
      refine lv S (rn_fld fa_58_1 (S.tm rfl)) rfl ?_; clear S; intro a S
      refine l_want S rfl rfl rfl hb3 ?_
      refine lv S (rn_load Tryz.isAgg9 (S.tm rfl) (S.cell (i := 0) rfl rfl)) rfl ?_; clear S; intro a S
      refine l_want S rfl rfl rfl hb3 ?_
      refine lv S (rn_sneq (S.tm rfl) rfl) rfl ?_; clear S; intro a S
      refine l_want S rfl rfl rfl hb3 ?_
      refine lv S (rn_move (S.tm rfl)) rfl ?_; clear S; intro a S
      obtain ⟨j4, hj4, h⟩ := joinE h
      refine f_cutm 5 (fun a w' => ∃ c3, j4 c3 = some r ∧ Keep [] w7 w' ∧ Sx w [] nov [.blk b2 [.string y1.Who, .string y1.Club, .int .i64 y1.Day] 58] [(0, v_p_l), (3, .int .i64 (i1 : Int)), (4, .pointer (some ⟨b2, 0, none⟩)), (5, .bool c1), (9, v_p_l), (10, .int .i64 (p_l.length : Int)), (11, .int .i64 (i1 : Int)), (34, .bool (!r1)), (35, .pointer (some ⟨b2, 1, none⟩)), (36, .string y1.Club), (37, .bool (!decide (y1.Club = k_empty))), (38, .bool (!decide (y1.Club = k_empty))), (43, .bool c3)] 97 a w') ?_ ?_
      ·rcases Bool.eq_false_or_eq_true (!decide (y1.Club = k_empty)) with hb4 | hb4
       ·replace h := iteT h hb4
        refine l_want S rfl rfl rfl hb4 ?_
        refine lv S (rn_fld fa_58_1 (S.tm rfl)) rfl ?_; clear S; intro a S
        refine l_want S rfl rfl rfl hb4 ?_
        refine lv S (rn_load Tryz.isAgg9 (S.tm rfl) (S.cell (i := 0) rfl rfl)) rfl ?_; clear S; intro a S
        refine l_want S rfl rfl rfl hb4 ?_
        obtain ⟨r2, hr4, h⟩ := bindE h
        refine l_enter S (fun _ => run_call (vs := [.string y1.Club]) ⟨(S.tm rfl), trivial⟩ Tryz.call57) (words_IsKey_ok _ y1.Club _ hr4) rfl ?_; clear S; intro v2 a w10 hv2 hk6 hn2 S
        subst hv2
        refine l_want S rfl rfl rfl hb4 ?_
        refine lv S (rn_not (S.tm rfl)) rfl ?_; clear S; intro a S
        refine l_want S rfl rfl rfl hb3 ?_
        refine lv S (rn_and_t hb4 (S.tm rfl) (S.tm rfl)) rfl ?_; clear S; intro a S
        refine l_done ?_
        refine then_n ?_
        exact ⟨_, h, hk6, S.nf [true] rfl ⟨rfl, rfl, rfl, rfl, rfl, rfl, rfl, rfl, rfl, rfl, rfl, rfl, rfl, trivial⟩⟩
       ·replace h := iteF h hb4
        refine l_skip S rfl rfl rfl (neq_f hb4) rfl ?_ rfl; clear S; intro a S
        refine l_skip S rfl rfl rfl (neq_f hb4) rfl ?_ rfl; clear S; intro a S
        refine l_skip S rfl rfl rfl (neq_f hb4) rfl ?_ rfl; clear S; intro a S
        refine l_skip S rfl rfl rfl (neq_f hb4) rfl ?_ rfl; clear S; intro a S
        refine l_want S rfl rfl rfl hb3 ?_
        refine lv S (rn_and_f true hb4 (S.tm rfl) rfl) rfl ?_; clear S; intro a S
        refine l_done ?_
        refine then_n ?_
        exact ⟨_, h, Keep.refl _ _, S.nf [true] rfl ⟨rfl, rfl, rfl, rfl, rfl, rfl, rfl, rfl, rfl, rfl, rfl, rfl, rfl, trivial⟩⟩
      clear S h; rintro a w9 ⟨c3, h, hk7, S⟩; rw [hj4] at h; clear hj4 j4
      refine lv S (rn_or_f hb3 (S.tm rfl) (S.tm rfl)) rfl ?_; clear S; intro a S
      refine l_done ?_
      refine then_n ?_
      exact ⟨_, h, hk7, S.nf [true] rfl ⟨rfl, rfl, rfl, rfl, rfl, rfl, rfl, rfl, trivial⟩⟩
    clear S h; rintro a w8 ⟨c2, h, hk8, S⟩; rw [hj3] at h; clear hj3 j3
    refine lv S (rn_assign (S.tm rfl)) rfl ?_; clear S; intro a S
    refine l_done ?_
    replace S := S.nk [.blk b2 [.string y1.Who, .string y1.Club, .int .i64 y1.Day] 58] [(0, v_p_l), (3, .int .i64 (i1 : Int)), (4, .pointer (some ⟨b2, 0, none⟩)), (5, .bool c1), (9, v_p_l), (10, .int .i64 (p_l.length : Int)), (11, .int .i64 (i1 : Int)), (29, .bool c2)] [true] rfl ⟨rfl, rfl, rfl, rfl, rfl, rfl, rfl, rfl, trivial⟩
    refine then_n ?_
    refine f_cond (S.tm rfl) (fun hb5 => ?_) (fun hb5 => ?_)
    ·replace h := iteT h hb5
     refine f_seq ?_
     refine f_region ?_
     refine lv S (rn_assign rfl) rfl ?_; clear S; intro a S
     refine l_done ?_
     replace S := S.nk [] [(2, .int .i64 5)] [false] rfl ⟨rfl, trivial⟩
     refine then_n ?_
     refine wp_ret ?_
     refine blk_r ?_
     refine blk_r ?_
     refine then_r ?_
     refine then_r ?_
     refine blk_r ?_
     refine then_r ?_
     refine then_r ?_
     obtain rfl := Option.some.inj h
     exact f_ret S Tryz.results55 rfl rfl
    ·replace h := iteF h hb5
     refine f_seq ?_
     refine f_region ?_
     refine lv S (rn_fld fa_58_2 (S.tm rfl)) rfl ?_; clear S; intro a S
     refine lv S (rn_load Tryz.isAgg3 (S.tm rfl) (S.cell (i := 0) rfl rfl)) rfl ?_; clear S; intro a S
     refine l_enter S (fun _ => run_call (vs := [.int .i64 y1.Day]) ⟨(S.tm rfl), trivial⟩ Tryz.call43) (swimmer_isDay_ok _ y1.Day _ rfl) rfl ?_; clear S; intro v3 a w11 hv3 hk9 hn3 S
     subst hv3
     refine lv S (rn_not (S.tm rfl)) rfl ?_; clear S; intro a S
     refine lv S (rn_assign (S.tm rfl)) rfl ?_; clear S; intro a S
     refine l_done ?_
     replace S := S.nk [.blk b2 [.string y1.Who, .string y1.Club, .int .i64 y1.Day] 58] [(0, v_p_l), (3, .int .i64 (i1 : Int)), (4, .pointer (some ⟨b2, 0, none⟩)), (5, .bool c1), (9, v_p_l), (10, .int .i64 (p_l.length : Int)), (11, .int .i64 (i1 : Int)), (45, .bool (!(swimmer_isDay y1.Day)))] [true] rfl ⟨rfl, rfl, rfl, rfl, rfl, rfl, rfl, rfl, trivial⟩
     refine then_n ?_
     refine f_cond (S.tm rfl) (fun hb6 => ?_) (fun hb6 => ?_)
     ·replace h := iteT h hb6
      refine f_seq ?_
      refine f_region ?_
      refine lv S (rn_assign rfl) rfl ?_; clear S; intro a S
      refine l_done ?_
      replace S := S.nk [] [(2, .int .i64 1)] [false] rfl ⟨rfl, trivial⟩
      refine then_n ?_
      refine wp_ret ?_
      refine blk_r ?_
      refine blk_r ?_
      refine then_r ?_
      refine then_r ?_
      refine blk_r ?_
      refine then_r ?_
      refine then_r ?_
      obtain rfl := Option.some.inj h
      exact f_ret S Tryz.results55 rfl rfl
     ·replace h := iteF h hb6
      refine f_seq ?_
      obtain ⟨j5, hj5, h⟩ := joinE h
      refine f_join (fun a w' => ∃ x1 : Bool, j5 x1 = some r ∧ Sx w [] nov [.blk b2 [.string y1.Who, .string y1.Club, .int .i64 y1.Day] 58] [(0, v_p_l), (3, .int .i64 (i1 : Int)), (4, .pointer (some ⟨b2, 0, none⟩)), (5, .bool c1), (9, v_p_l), (10, .int .i64 (p_l.length : Int)), (11, .int .i64 (i1 : Int)), (50, .bool x1)] 97 a w') ?_ ?_
      ·rcases Bool.eq_false_or_eq_true (decide (0 < (i1 : Int))) with hb7 | hb7
       ·replace h := iteT h hb7
        obtain ⟨hc2, h⟩ := chkE h
        obtain ⟨hc3, h⟩ := chkE h
        refine d_region [] ([]) Tryz.mixed S rfl (by kernel_rfl) ?_; clear S; intro w17 hk14 hsel S
        refine d_quiet 0 S hsel rfl rfl rfl (by kernel_rfl) (by kernel_rfl) rfl (fun _ hw => (rn_move (S.tm rfl))) ?_; clear S; intro a S
        refine d_quiet 1 S hsel rfl rfl rfl (by kernel_rfl) (by kernel_rfl) rfl (fun _ hw => (rn_gtr (S.tm rfl) rfl)) ?_; clear S; intro a S
        refine d_quiet 2 S hsel rfl rfl rfl (by kernel_rfl) (by kernel_rfl) rfl (fun _ hw => (rn_move (S.tm rfl))) ?_; clear S; intro a S
        refine d_quiet_g 3 S hsel rfl rfl rfl rfl hb7 rfl rfl (by kernel_rfl) (by kernel_rfl) rfl (fun _ hw => (rn_move (S.tm rfl))) ?_; clear S; intro a S
        refine d_quiet_g 4 S hsel rfl rfl rfl rfl hb7 rfl rfl (by kernel_rfl) (by kernel_rfl) rfl (fun _ hw => (rn_move (S.tm rfl))) ?_; clear S; intro a S
        refine d_quiet_g 5 S hsel rfl rfl rfl rfl hb7 rfl rfl (by kernel_rfl) (by kernel_rfl) rfl (fun _ hw => (rn_sub (S.tm rfl) rfl)) ?_; clear S; intro a S
        obtain ⟨b7, o5, hm5, hr7⟩ := rn_indexT (a := a) (x := .tmp 54) (y := .tmp 56) (ty := 0) sl_30 (hs_p_l.mono (S.le_arg nil_sub)) (inB_get hc2).1 (inB_get hc2).2 (S.tm rfl) (S.tm rfl)
        refine d_quiet_g 6 S hsel rfl rfl rfl rfl hb7 rfl rfl (by kernel_rfl) (by kernel_rfl) rfl (fun _ hw => hr7 _) ?_; clear S; intro a S
        clear hr7
        refine d_quiet_g 7 S hsel rfl rfl rfl rfl hb7 rfl rfl (by kernel_rfl) (by kernel_rfl) rfl (fun _ hw => (rn_fld fa_58_0 (S.tm rfl))) ?_; clear S; intro a S
        refine d_quiet_g 8 S hsel rfl rfl rfl rfl hb7 rfl rfl (by kernel_rfl) (by kernel_rfl) rfl (fun _ hw => (rn_ld Tryz.isAgg9 (off := o5) (o := 0) (S.tm rfl) (hm5.kept hw) rfl)) ?_; clear S; intro a S
        refine d_quiet_g 9 S hsel rfl rfl rfl rfl hb7 rfl rfl (by kernel_rfl) (by kernel_rfl) rfl (fun _ hw => (rn_fld fa_58_0 (S.tm rfl))) ?_; clear S; intro a S
        refine d_quiet_g 10 S hsel rfl rfl rfl rfl hb7 rfl rfl (by kernel_rfl) (by kernel_rfl) rfl (fun _ hw => (rn_ld Tryz.isAgg9 (off := 0) (o := 0) (S.tm rfl) ((S.blk_mem (i := 0) (cells := [.string y1.Who, .string y1.Club, .int .i64 y1.Day]) (b := b2) (T := 58) rfl (ne_nil (e' := .blk b2 [.string y1.Who, .string y1.Club, .int .i64 y1.Day] 58))).kept hw) rfl)) ?_; clear S; intro a S
        refine d_quiet_g 12 S hsel rfl rfl rfl rfl hb7 rfl rfl (by kernel_rfl) (by kernel_rfl) rfl (fun _ hw => (rn_move (S.tm rfl))) ?_; clear S; intro a S
        refine d_quiet_g 13 S hsel rfl rfl rfl rfl hb7 rfl rfl (by kernel_rfl) (by kernel_rfl) rfl (fun _ hw => (rn_move (S.tm rfl))) ?_; clear S; intro a S
        refine d_quiet_g 14 S hsel rfl rfl rfl rfl hb7 rfl rfl (by kernel_rfl) (by kernel_rfl) rfl (fun _ hw => (rn_sub (S.tm rfl) rfl)) ?_; clear S; intro a S
        obtain ⟨b8, o6, hm6, hr8⟩ := rn_indexT (a := a) (x := .tmp 63) (y := .tmp 65) (ty := 0) sl_30 (hs_p_l.mono (S.le_arg nil_sub)) (inB_get hc3).1 (inB_get hc3).2 (S.tm rfl) (S.tm rfl)
        refine d_quiet_g 15 S hsel rfl rfl rfl rfl hb7 rfl rfl (by kernel_rfl) (by kernel_rfl) rfl (fun _ hw => hr8 _) ?_; clear S; intro a S
        clear hr8
        refine d_quiet_g 16 S hsel rfl rfl rfl rfl hb7 rfl rfl (by kernel_rfl) (by kernel_rfl) rfl (fun _ hw => (rn_fld fa_58_2 (S.tm rfl))) ?_; clear S; intro a S
        refine d_quiet_g 17 S hsel rfl rfl rfl rfl hb7 rfl rfl (by kernel_rfl) (by kernel_rfl) rfl (fun _ hw => (rn_ld Tryz.isAgg3 (off := o6) (o := 2) (S.tm rfl) (hm6.kept hw) rfl)) ?_; clear S; intro a S
        refine d_quiet_g 18 S hsel rfl rfl rfl rfl hb7 rfl rfl (by kernel_rfl) (by kernel_rfl) rfl (fun _ hw => (rn_fld fa_58_2 (S.tm rfl))) ?_; clear S; intro a S
        refine d_quiet_g 19 S hsel rfl rfl rfl rfl hb7 rfl rfl (by kernel_rfl) (by kernel_rfl) rfl (fun _ hw => (rn_ld Tryz.isAgg3 (off := 0) (o := 2) (S.tm rfl) ((S.blk_mem (i := 0) (cells := [.string y1.Who, .string y1.Club, .int .i64 y1.Day]) (b := b2) (T := 58) rfl (ne_nil (e' := .blk b2 [.string y1.Who, .string y1.Club, .int .i64 y1.Day] 58))).kept hw) rfl)) ?_; clear S; intro a S
        refine d_loud1 11 (by kernel_rfl) rfl ?_
        refine l_want S rfl rfl rfl hb7 ?_
        refine l_enter S (fun _ => run_call (vs := [.string ((nth p_l (W ((i1 : Int) - 1))).Who), .string y1.Who]) ⟨(S.tm rfl), (S.tm rfl), trivial⟩ Tryz.call73) (strings_Compare_ok _ ((nth p_l (W ((i1 : Int) - 1))).Who) y1.Who _ rfl) rfl ?_; clear S; intro v7 a w18 hv7 hk15 hn7 S
        subst hv7
        refine l_done ?_
        refine d_next hk15 ?_
        refine d_loud1 20 (by kernel_rfl) rfl ?_
        refine l_want S rfl rfl rfl hb7 ?_
        refine l_enter S (fun _ => run_call (vs := [.int .i64 ((nth p_l (W ((i1 : Int) - 1))).Day), .int .i64 y1.Day]) ⟨(S.tm rfl), (S.tm rfl), trivial⟩ Tryz.call74) (cmp_Compare_int_ok _ ((nth p_l (W ((i1 : Int) - 1))).Day) y1.Day _ rfl) rfl ?_; clear S; intro v8 a w19 hv8 hk16 hn8 S
        subst hv8
        refine l_done ?_
        refine d_next hk16 ?_
        refine d_loud1 21 (by kernel_rfl) rfl ?_
        refine l_want S rfl rfl rfl hb7 ?_
        refine l_buildSlice S Tryz.underlying22 Tryz.sizeOf3 Tryz.zeroValue3 rfl rfl (pv := [(0, .int .i64 (strings_Compare ((nth p_l (W ((i1 : Int) - 1))).Who) y1.Who)), (1, .int .i64 (cmp_Compare_int ((nth p_l (W ((i1 : Int) - 1))).Day) y1.Day))]) ⟨rfl, (S.tm rfl), rfl, (S.tm rfl), trivial⟩ (cs := [.int .i64 (strings_Compare ((nth p_l (W ((i1 : Int) - 1))).Who) y1.Who), .int .i64 (cmp_Compare_int ((nth p_l (W ((i1 : Int) - 1))).Day) y1.Day)]) (by kernel_rfl) rfl ?_; clear S; intro a w20 b9 hz3 hk17 S
        refine l_done ?_
        refine d_next hk17 ?_
        refine d_loud1 22 (by kernel_rfl) rfl ?_
        refine l_want S rfl rfl rfl hb7 ?_
        refine l_enter S (fun _ => run_call (vs := [.slice (some ⟨b9, 0, none⟩) 2 2]) ⟨(S.tm rfl), trivial⟩ Tryz.call72) (cmp_Or_int_ok _ (.slice (some ⟨b9, 0, none⟩) 2 2) [(strings_Compare ((nth p_l (W ((i1 : Int) - 1))).Who) y1.Who), (cmp_Compare_int ((nth p_l (W ((i1 : Int) - 1))).Day) y1.Day)] (lit_slcT enc_int S (i := 0) rfl rfl rfl rfl ((ne_nil (e' := .blk b9 [.int .i64 (strings_Compare ((nth p_l (W ((i1 : Int) - 1))).Who) y1.Who), .int .i64 (cmp_Compare_int ((nth p_l (W ((i1 : Int) - 1))).Day) y1.Day)] 3)) _ rfl)) _ rfl) rfl ?_; clear S; intro v9 a w21 hv9 hk18 hn9 S
        subst hv9
        refine l_done ?_
        refine d_next hk18 ?_
        refine d_rest [23, 24, 25] hsel (by kernel_rfl) rfl ?_
        clear hsel
        refine s_want S rfl rfl rfl rfl hb7 ?_
        refine s_lv0 S (rn_geq (S.tm rfl) rfl) rfl ?_; clear S; intro a S
        refine s_lv S rfl (rn_pick_b hb7 (S.tm rfl) (S.tm rfl)) rfl ?_; clear S; intro a S
        refine s_lv S rfl (rn_assign (S.tm rfl)) rfl ?_; clear S; intro a S
        refine s_done ?_
        replace S := S.nk [.blk b9 [.int .i64 (strings_Compare ((nth p_l (W ((i1 : Int) - 1))).Who) y1.Who), .int .i64 (cmp_Compare_int ((nth p_l (W ((i1 : Int) - 1))).Day) y1.Day)] 3, .blk b2 [.string y1.Who, .string y1.Club, .int .i64 y1.Day] 58] [(0, v_p_l), (3, .int .i64 (i1 : Int)), (4, .pointer (some ⟨b2, 0, none⟩)), (5, .bool c1), (9, v_p_l), (10, .int .i64 (p_l.length : Int)), (11, .int .i64 (i1 : Int)), (50, .bool (decide (0 ≤ (cmp_Or_int [(strings_Compare ((nth p_l (W ((i1 : Int) - 1))).Who) y1.Who), (cmp_Compare_int ((nth p_l (W ((i1 : Int) - 1))).Day) y1.Day)])))), (54, v_p_l), (55, .int .i64 (i1 : Int)), (56, .int .i64 (W ((i1 : Int) - 1))), (57, .pointer (some ⟨b7, o5, none⟩)), (58, .pointer (some ⟨b7, o5, none⟩)), (59, .string ((nth p_l (W ((i1 : Int) - 1))).Who)), (60, .pointer (some ⟨b2, 0, none⟩)), (61, .string y1.Who), (62, .int .i64 (strings_Compare ((nth p_l (W ((i1 : Int) - 1))).Who) y1.Who)), (63, v_p_l), (64, .int .i64 (i1 : Int)), (65, .int .i64 (W ((i1 : Int) - 1))), (66, .pointer (some ⟨b8, o6, none⟩)), (67, .pointer (some ⟨b8, o6 + 2, none⟩)), (68, .int .i64 ((nth p_l (W ((i1 : Int) - 1))).Day)), (69, .pointer (some ⟨b2, 2, none⟩)), (70, .int .i64 y1.Day), (71, .int .i64 (cmp_Compare_int ((nth p_l (W ((i1 : Int) - 1))).Day) y1.Day)), (72, .slice (some ⟨b9, 0, none⟩) 2 2), (73, .int .i64 (cmp_Or_int [(strings_Compare ((nth p_l (W ((i1 : Int) - 1))).Who) y1.Who), (cmp_Compare_int ((nth p_l (W ((i1 : Int) - 1))).Day) y1.Day)])), (74, .bool (decide (0 ≤ (cmp_Or_int [(strings_Compare ((nth p_l (W ((i1 : Int) - 1))).Who) y1.Who), (cmp_Compare_int ((nth p_l (W ((i1 : Int) - 1))).Day) y1.Day)]))))] [true, true] rfl ⟨rfl, rfl, rfl, rfl, rfl, rfl, rfl, rfl, rfl, rfl, rfl, rfl, rfl, rfl, rfl, rfl, rfl, rfl, rfl, rfl, rfl, rfl, rfl, rfl, rfl, rfl, rfl, rfl, rfl, trivial⟩
        refine then_n ?_
        exact ⟨decide (0 ≤ (cmp_Or_int [(strings_Compare ((nth p_l (W ((i1 : Int) - 1))).Who) y1.Who), (cmp_Compare_int ((nth p_l (W ((i1 : Int) - 1))).Day) y1.Day)])), h, S.nf [false, true] rfl ⟨rfl, rfl, rfl, rfl, rfl, rfl, rfl, rfl, trivial⟩⟩
       ·replace h := iteF h hb7
        refine d_region [] ([]) Tryz.mixed S rfl (by kernel_rfl) ?_; clear S; intro w22 hk19 hsel S
        refine d_rest [0, 1, 2, 3, 4, 5, 6, 7, 8, 9, 10, 11, 12, 13, 14, 15, 16, 17, 18, 19, 20, 21, 22, 23, 24, 25] hsel (by kernel_rfl) rfl ?_
        clear hsel
        refine s_lv S rfl (rn_move (S.tm rfl)) rfl ?_; clear S; intro a S
        refine s_lv S rfl (rn_gtr (S.tm rfl) rfl) rfl ?_; clear S; intro a S
        refine s_lv S rfl (rn_move (S.tm rfl)) rfl ?_; clear S; intro a S
        refine s_skip S rfl rfl rfl rfl (neq_f hb7) rfl ?_ rfl; clear S; intro a S
        refine s_skip S rfl rfl rfl rfl (neq_f hb7) rfl ?_ rfl; clear S; intro a S
        refine s_skip S rfl rfl rfl rfl (neq_f hb7) rfl ?_ rfl; clear S; intro a S
        refine s_skip S rfl rfl rfl rfl (neq_f hb7) rfl ?_ rfl; clear S; intro a S
        refine s_skip S rfl rfl rfl rfl (neq_f hb7) rfl ?_ rfl; clear S; intro a S
        refine s_skip S rfl rfl rfl rfl (neq_f hb7) rfl ?_ rfl; clear S; intro a S
        refine s_skip S rfl rfl rfl rfl (neq_f hb7) rfl ?_ rfl; clear S; intro a S
        refine s_skip S rfl rfl rfl rfl (neq_f hb7) rfl ?_ rfl; clear S; intro a S
        refine s_skip S rfl rfl rfl rfl (neq_f hb7) rfl ?_ rfl; clear S; intro a S
        refine s_skip S rfl rfl rfl rfl (neq_f hb7) rfl ?_ rfl; clear S; intro a S
        refine s_skip S rfl rfl rfl rfl (neq_f hb7) rfl ?_ rfl; clear S; intro a S
        refine s_skip S rfl rfl rfl rfl (neq_f hb7) rfl ?_ rfl; clear S; intro a S
        refine s_skip S rfl rfl rfl rfl (neq_f hb7) rfl ?_ rfl; clear S; intro a S
        refine s_skip S rfl rfl rfl rfl (neq_f hb7) rfl ?_ rfl; clear S; intro a S
        refine s_skip S rfl rfl rfl rfl (neq_f hb7) rfl ?_ rfl; clear S; intro a S
        refine s_skip S rfl rfl rfl rfl (neq_f hb7) rfl ?_ rfl; clear S; intro a S
        refine s_skip S rfl rfl rfl rfl (neq_f hb7) rfl ?_ rfl; clear S; intro a S
        refine s_skip S rfl rfl rfl rfl (neq_f hb7) rfl ?_ rfl; clear S; intro a S
        refine s_skip S rfl rfl rfl rfl (neq_f hb7) rfl ?_ rfl; clear S; intro a S
        refine s_skip S rfl rfl rfl rfl (neq_f hb7) rfl ?_ rfl; clear S; intro a S
        refine s_skip S rfl rfl rfl rfl (neq_f hb7) rfl ?_ rfl; clear S; intro a S
        refine s_lv S rfl (rn_pick_c hb7 (S.tm rfl) rfl) rfl ?_; clear S; intro a S
        refine s_lv S rfl (rn_assign (S.tm rfl)) rfl ?_; clear S; intro a S
        refine s_done ?_
        replace S := S.nk [.blk b2 [.string y1.Who, .string y1.Club, .int .i64 y1.Day] 58] [(0, v_p_l), (3, .int .i64 (i1 : Int)), (4, .pointer (some ⟨b2, 0, none⟩)), (5, .bool c1), (9, v_p_l), (10, .int .i64 (p_l.length : Int)), (11, .int .i64 (i1 : Int)), (50, .bool false)] [true] rfl ⟨rfl, rfl, rfl, rfl, rfl, rfl, rfl, rfl, trivial⟩
        refine then_n ?_
        exact ⟨false, h, S.nf [true] rfl ⟨rfl, rfl, rfl, rfl, rfl, rfl, rfl, rfl, trivial⟩⟩
      clear S h; rintro a w12 ⟨x1, h, S⟩; rw [hj5] at h; clear hj5 j5
      refine then_n ?_
      refine f_cond (S.tm rfl) (fun hb8 => ?_) (fun hb8 => ?_)
      ·replace h := iteT h hb8
       refine f_seq ?_
       refine f_region ?_
       refine lv S (rn_assign rfl) rfl ?_; clear S; intro a S
       refine l_done ?_
       replace S := S.nk [] [(2, .int .i64 7)] [false] rfl ⟨rfl, trivial⟩
       refine then_n ?_
       refine wp_ret ?_
       refine blk_r ?_
       refine blk_r ?_
       refine then_r ?_
       refine then_r ?_
       refine blk_r ?_
       refine then_r ?_
       refine then_r ?_
       obtain rfl := Option.some.inj h
       exact f_ret S Tryz.results55 rfl rfl
      ·replace h := iteF h hb8
       refine f_seq ?_
       refine f_seq ?_
       refine f_region ?_
       refine lv S (rn_move (S.tm rfl)) rfl ?_; clear S; intro a S
       refine lv S (rn_move (S.tm rfl)) rfl ?_; clear S; intro a S
       refine f_cutm 4 (fun a w' => Keep [] w12 w' ∧ Sx w [] nov [.blk b2 [.string y1.Who, .string y1.Club, .int .i64 y1.Day] 58] [(0, v_p_l), (3, .int .i64 (i1 : Int)), (4, .pointer (some ⟨b2, 0, none⟩)), (5, .bool c1), (9, v_p_l), (10, .int .i64 (p_l.length : Int)), (11, .int .i64 (i1 : Int)), (82, .bool (c1 && (decide (y1.Club = k_empty))))] 97 a w') ?_ ?_
       ·rcases Bool.eq_false_or_eq_true c1 with hb9 | hb9
        ·refine l_want S rfl rfl rfl hb9 ?_
         refine lv S (rn_fld fa_58_1 (S.tm rfl)) rfl ?_; clear S; intro a S
         refine l_want S rfl rfl rfl hb9 ?_
         refine lv S (rn_load Tryz.isAgg9 (S.tm rfl) (S.cell (i := 0) rfl rfl)) rfl ?_; clear S; intro a S
         refine l_want S rfl rfl rfl hb9 ?_
         refine lv S (rn_seql (S.tm rfl) rfl) rfl ?_; clear S; intro a S
         refine lv S (rn_and_t hb9 (S.tm rfl) (S.tm rfl)) rfl ?_; clear S; intro a S
         refine l_done ?_
         refine then_n ?_
         exact ⟨Keep.refl _ _, S.nf [true] rfl ⟨rfl, rfl, rfl, rfl, rfl, rfl, rfl, rfl, trivial⟩⟩
        ·refine l_skip S rfl rfl rfl (neq_f hb9) rfl ?_ rfl; clear S; intro a S
         refine l_skip S rfl rfl rfl (neq_f hb9) rfl ?_ rfl; clear S; intro a S
         refine l_skip S rfl rfl rfl (neq_f hb9) rfl ?_ rfl; clear S; intro a S
         refine lv S (rn_and_f (decide (y1.Club = k_empty)) hb9 (S.tm rfl) rfl) rfl ?_; clear S; intro a S
         refine l_done ?_
         refine then_n ?_
         exact ⟨Keep.refl _ _, S.nf [true] rfl ⟨rfl, rfl, rfl, rfl, rfl, rfl, rfl, rfl, trivial⟩⟩
       clear S; rintro a w23 ⟨hk20, S⟩
       refine lv S (rn_assign (S.tm rfl)) rfl ?_; clear S; intro a S
       refine l_done ?_
       replace S := S.nk [.blk b2 [.string y1.Who, .string y1.Club, .int .i64 y1.Day] 58] [(0, v_p_l), (3, .int .i64 (i1 : Int)), (4, .pointer (some ⟨b2, 0, none⟩)), (5, .bool c1), (9, v_p_l), (10, .int .i64 (p_l.length : Int)), (11, .int .i64 (i1 : Int)), (76, .bool (c1 && (decide (y1.Club = k_empty))))] [true] rfl ⟨rfl, rfl, rfl, rfl, rfl, rfl, rfl, rfl, trivial⟩
       refine then_n ?_
       obtain ⟨j6, hj6, h⟩ := joinE h
       refine f_join (fun a w' => ∃ x2 : Bool, j6 x2 = some r ∧ Sx w [] nov [] [(0, v_p_l), (9, v_p_l), (10, .int .i64 (p_l.length : Int)), (11, .int .i64 (i1 : Int)), (76, .bool x2)] 97 a w') ?_ ?_
       ·refine f_cond (S.tm rfl) (fun hb10 => ?_) (fun hb10 => ?_)
        ·replace h := iteT h hb10
         refine wp_skip ?_
         refine then_n ?_
         exact ⟨(c1 && (decide (y1.Club = k_empty))), h, S.nf [false] rfl ⟨rfl, rfl, rfl, rfl, rfl, trivial⟩⟩
        ·replace h := iteF h hb10
         refine d_region [] ([]) Tryz.mixed S rfl (by kernel_rfl) ?_; clear S; intro w25 hk21 hsel S
         refine d_rest [0, 1, 2, 3, 4, 5, 6, 7, 8, 9, 10, 11, 12, 13] hsel (by kernel_rfl) rfl ?_
         clear hsel
         refine s_lv S rfl (rn_move (S.tm rfl)) rfl ?_; clear S; intro a S
         refine s_lv S rfl (rn_not (S.tm rfl)) rfl ?_; clear S; intro a S
         refine s_lv S rfl (rn_move (S.tm rfl)) rfl ?_; clear S; intro a S
         obtain ⟨j7, hj7, h⟩ := joinE h
         refine s_cutm 10 (fun a w' => ∃ c4, j7 c4 = some r ∧ Keep [] w25 w' ∧ Sx w [] nov [.blk b2 [.string y1.Who, .string y1.Club, .int .i64 y1.Day] 58] [(0, v_p_l), (9, v_p_l), (10, .int .i64 (p_l.length : Int)), (11, .int .i64 (i1 : Int)), (95, .bool c4)] 97 a w') ?_ ?_
         ·rcases Bool.eq_false_or_eq_true (!c1) with hb11 | hb11
          ·replace h := iteT h hb11
           refine s_want S rfl rfl rfl rfl hb11 ?_
           refine s_lv0 S (rn_move (S.tm rfl)) rfl ?_; clear S; intro a S
           refine s_want S rfl rfl rfl rfl hb11 ?_
           refine s_lv0 S (rn_move (S.tm rfl)) rfl ?_; clear S; intro a S
           refine s_want S rfl rfl rfl rfl hb11 ?_
           refine s_lv0 S (rn_sub (S.tm rfl) rfl) rfl ?_; clear S; intro a S
           refine s_want S rfl rfl rfl rfl hb11 ?_
           obtain ⟨hc4, h⟩ := chkE h
           obtain ⟨b10, o7, hm7, hr9⟩ := rn_indexT (a := a) (x := .tmp 86) (y := .tmp 88) (ty := 0) sl_30 hs_p_l (inB_get hc4).1 (inB_get hc4).2 (S.tm rfl) (S.tm rfl)
           refine s_lv0 S (hr9 _) rfl ?_; clear S; intro a S
           clear hr9
           refine s_want S rfl rfl rfl rfl hb11 ?_
           refine s_lv0 S (rn_fld fa_58_1 (S.tm rfl)) rfl ?_; clear S; intro a S
           refine s_want S rfl rfl rfl rfl hb11 ?_
           refine s_lv0 S (rn_ld Tryz.isAgg9 (off := o7) (o := 1) (S.tm rfl) (hm7.at S.emb0) rfl) rfl ?_; clear S; intro a S
           refine s_want S rfl rfl rfl rfl hb11 ?_
           refine s_lv0 S (rn_fld fa_58_1 (S.tm rfl)) rfl ?_; clear S; intro a S
           refine s_want S rfl rfl rfl rfl hb11 ?_
           refine s_lv0 S (rn_load Tryz.isAgg9 (S.tm rfl) (S.cell (i := 0) rfl rfl)) rfl ?_; clear S; intro a S
           refine s_want S rfl rfl rfl rfl hb11 ?_
           refine s_lv0 S (rn_seql (S.tm rfl) (S.tm rfl)) rfl ?_; clear S; intro a S
           refine s_lv S rfl (rn_and_t hb11 (S.tm rfl) (S.tm rfl)) rfl ?_; clear S; intro a S
           refine s_done ?_
           exact ⟨_, h, Keep.refl _ _, S.nf [true] rfl ⟨rfl, rfl, rfl, rfl, rfl, trivial⟩⟩
          ·replace h := iteF h hb11
           refine s_skip S rfl rfl rfl rfl (neq_f hb11) rfl ?_ rfl; clear S; intro a S
           refine s_skip S rfl rfl rfl rfl (neq_f hb11) rfl ?_ rfl; clear S; intro a S
           refine s_skip S rfl rfl rfl rfl (neq_f hb11) rfl ?_ rfl; clear S; intro a S
           refine s_skip S rfl rfl rfl rfl (neq_f hb11) rfl ?_ rfl; clear S; intro a S
           refine s_skip S rfl rfl rfl rfl (neq_f hb11) rfl ?_ rfl; clear S; intro a S
           refine s_skip S rfl rfl rfl rfl (neq_f hb11) rfl ?_ rfl; clear S; intro a S
           refine s_skip S rfl rfl rfl rfl (neq_f hb11) rfl ?_ rfl; clear S; intro a S
           refine s_skip S rfl rfl rfl rfl (neq_f hb11) rfl ?_ rfl; clear S; intro a S
           refine s_skip S rfl rfl rfl rfl (neq_f hb11) rfl ?_ rfl; clear S; intro a S
           refine s_lv S rfl (rn_and_f true hb11 (S.tm rfl) rfl) rfl ?_; clear S; intro a S
           refine s_done ?_
           exact ⟨_, h, Keep.refl _ _, S.nf [true] rfl ⟨rfl, rfl, rfl, rfl, rfl, trivial⟩⟩
         clear S h; rintro a w26 ⟨c4, h, hk22, S⟩; rw [hj7] at h; clear hj7 j7
         refine s_lv S rfl (rn_assign (S.tm rfl)) rfl ?_; clear S; intro a S
         refine s_done ?_
         replace S := S.nk [] [(0, v_p_l), (9, v_p_l), (10, .int .i64 (p_l.length : Int)), (11, .int .i64 (i1 : Int)), (76, .bool c4)] [false] rfl ⟨rfl, rfl, rfl, rfl, rfl, trivial⟩
         refine then_n ?_
         exact ⟨c4, h, S.nf [] rfl ⟨rfl, rfl, rfl, rfl, rfl, trivial⟩⟩
       clear S h; rintro a w24 ⟨x2, h, S⟩; rw [hj6] at h; clear hj6 j6
       refine then_n ?_
       refine f_cond (S.tm rfl) (fun hb12 => ?_) (fun hb12 => ?_)
       ·replace h := iteT h hb12
        refine f_seq ?_
        refine f_region ?_
        refine lv S (rn_assign rfl) rfl ?_; clear S; intro a S
        refine l_done ?_
        replace S := S.nk [] [(2, .int .i64 3)] [] rfl ⟨rfl, trivial⟩
        refine then_n ?_
        refine wp_ret ?_
        refine blk_r ?_
        refine blk_r ?_
        refine then_r ?_
        refine then_r ?_
        refine blk_r ?_
        refine then_r ?_
        refine then_r ?_
        obtain rfl := Option.some.inj h
        exact f_ret S Tryz.results55 rfl rfl
       ·replace h := iteF h hb12
        refine wp_skip ?_
        refine blk_n ?_
        refine blk_n ?_
        refine then_n ?_
        refine f_region ?_
        refine lv S (rn_add (S.tm rfl) rfl) rfl ?_; clear S; intro a S
        refine lv S (rn_move (S.tm rfl)) rfl ?_; clear S; intro a S
        refine l_done ?_
        replace S := S.nk [] [(0, v_p_l), (9, v_p_l), (10, .int .i64 (p_l.length : Int)), (11, .int .i64 (W ((i1 : Int) + 1)))] [] rfl ⟨rfl, rfl, rfl, rfl, trivial⟩
        refine then_n ?_
        exact ⟨ys1, ⟨i1 + 1, ⟨_, (hd1).trans (List.append_cons _ _ _), by simp [hi1]⟩, h, S.nf [] rfl ⟨rfl, rfl, rfl, (congrArg (fun z => some (Value.int .i64 z)) (rng_next hd1 hi1 (slc_max hs_p_l))), trivial⟩⟩, Nat.lt_succ_self _⟩
  clear S h; rintro a w2 ⟨h, S⟩; rw [hj1] at h; clear hj1 j1
  refine then_n ?_
  refine f_seq ?_
  refine f_region ?_
  refine lv S (rn_assign rfl) rfl ?_; clear S; intro a S
  refine l_done ?_
  replace S := S.nk [] [(2, .int .i64 0)] [] rfl ⟨rfl, trivial⟩
  refine then_n ?_
  refine wp_ret ?_
  obtain rfl := Option.some.inj h
  exact f_ret S Tryz.results55 rfl rfl
theorem swimmer_isWay_ok (w : World) (p_n : Int) (r : Bool) (h : swimmer_isWay p_n = r) :
    Calls Tryz.prog 75 [.int .i64 p_n].toArray w (Ret w [] fun _ v _ => v = .bool r) := by
 refine f_enter [] [] Tryz.func75 rfl Tryz.ntmps75 rfl (by simp) (by simp [fps]) (by simp [fps]) fun a S => ?_
 unfold swimmer_isWay at h
 replace S := S.nk [] [(0, .int .i64 p_n)] [] rfl ⟨rfl, trivial⟩
 refine f_seq ?_
 refine f_region ?_
 refine lv S (rn_assign rfl) rfl ?_; clear S; intro a S
 refine l_done ?_
 replace S := S.nk [] [(0, .int .i64 p_n)] [] rfl ⟨rfl, trivial⟩
 refine then_n ?_
 refine f_seq ?_
 refine f_region ?_
 refine lv S (rn_move (S.tm rfl)) rfl ?_; clear S; intro a S
 refine lv S (rn_eql (S.tm rfl) rfl) rfl ?_; clear S; intro a S
 refine lv S (rn_move (S.tm rfl)) rfl ?_; clear S; intro a S
 refine f_cutm 3 (fun a w' => Keep [] w w' ∧ Sx w [] nov [] [(8, .bool ((decide (p_n = 1)) || (decide (p_n = 2))))] 9 a w') ?_ ?_
 ·rcases Bool.eq_false_or_eq_true (decide (p_n = 1)) with hb1 | hb1
  ·refine l_skip S rfl rfl rfl (neq_t hb1) rfl ?_ rfl; clear S; intro a S
   refine l_skip S rfl rfl rfl (neq_t hb1) rfl ?_ rfl; clear S; intro a S
   refine lv S (rn_or_t (decide (p_n = 2)) hb1 (S.tm rfl) rfl) rfl ?_; clear S; intro a S
   refine l_done ?_
   refine then_n ?_
   exact ⟨Keep.refl _ _, S.nf [] rfl ⟨rfl, trivial⟩⟩
  ·refine l_want S rfl rfl rfl hb1 ?_
   refine lv S (rn_move (S.tm rfl)) rfl ?_; clear S; intro a S
   refine l_want S rfl rfl rfl hb1 ?_
   refine lv S (rn_eql (S.tm rfl) rfl) rfl ?_; clear S; intro a S
   refine lv S (rn_or_f hb1 (S.tm rfl) (S.tm rfl)) rfl ?_; clear S; intro a S
   refine l_done ?_
   refine then_n ?_
   exact ⟨Keep.refl _ _, S.nf [] rfl ⟨rfl, trivial⟩⟩
 clear S; rintro a w1 ⟨hk1, S⟩
 refine lv S (rn_assign (S.tm rfl)) rfl ?_; clear S; intro a S
 refine l_done ?_
 replace S := S.nk [] [(2, .bool ((decide (p_n = 1)) || (decide (p_n = 2))))] [] rfl ⟨rfl, trivial⟩
 refine then_n ?_
 refine wp_ret ?_
 subst h
 exact f_ret S Tryz.results75 rfl rfl
theorem swimmer_checkBounds_ok (w : World) (p_b : GBounds) (r : Int) (h : swimmer_checkBounds p_b = r) :
    Calls Tryz.prog 56 [.agg (GBounds.enc p_b).toArray].toArray w (Ret w [] fun _ v _ => v = .int .i64 r) := by
 refine f_enter [] [] Tryz.func56 rfl Tryz.ntmps56 rfl (by simp) (by simp [fps]) (by simp [fps]) fun a S => ?_
 unfold swimmer_checkBounds at h
 replace S := S.nk [] [(0, .agg (GBounds.enc p_b).toArray)] [] rfl ⟨rfl, trivial⟩
 refine f_seq ?_
 refine f_region ?_
 refine l_box S (S.tm rfl) (cs := [.int .i64 p_b.Races, .int .i64 p_b.Club, .int .i64 p_b.Age, .int .i64 p_b.Day]) rfl rfl ?_; clear S; intro a w1 b1 hz1 hk1 S
 refine lv S (rn_assign rfl) rfl ?_; clear S; intro a S
 refine l_done ?_
 replace S := S.nk [.blk b1 [.int .i64 p_b.Races, .int .i64 p_b.Club, .int .i64 p_b.Age, .int .i64 p_b.Day] 33] [(1, .pointer (some ⟨b1, 0, none⟩))] [true] rfl ⟨rfl, trivial⟩
 refine then_n ?_
 refine f_seq ?_
 refine wp_block ?_
 refine f_seq ?_
 refine f_region ?_
 refine lv S (rn_fld fa_33_0 (S.tm rfl)) rfl ?_; clear S; intro a S
 refine lv S (rn_load Tryz.isAgg3 (S.tm rfl) (S.cell (i := 0) rfl rfl)) rfl ?_; clear S; intro a S
 refine l_enter S (fun _ => run_call (vs := [.int .i64 p_b.Races, .int .i64 0, .int .i64 100]) ⟨(S.tm rfl), rfl, rfl, trivial⟩ Tryz.call40) (words_Within_ok _ p_b.Races 0 100 _ rfl) rfl ?_; clear S; intro v1 a w2 hv1 hk2 hn1 S
 subst hv1
 refine lv S (rn_not (S.tm rfl)) rfl ?_; clear S; intro a S
 refine lv S (rn_move (S.tm rfl)) rfl ?_; clear S; intro a S
 refine f_cutm 5 (fun a w' => Keep [] w2 w' ∧ Sx w [] nov [.blk b1 [.int .i64 p_b.Races, .int .i64 p_b.Club, .int .i64 p_b.Age, .int .i64 p_b.Day] 33] [(1, .pointer (some ⟨b1, 0, none⟩)), (13, .bool ((!(words_Within p_b.Races 0 100)) || (!(words_Within p_b.Club 0 1500))))] 24 a w') ?_ ?_
 ·rcases Bool.eq_false_or_eq_true (!(words_Within p_b.Races 0 100)) with hb1 | hb1
  ·refine l_skip S rfl rfl rfl (neq_t hb1) rfl ?_ rfl; clear S; intro a S
   refine l_skip S rfl rfl rfl (neq_t hb1) rfl ?_ rfl; clear S; intro a S
   refine l_skip S rfl rfl rfl (neq_t hb1) rfl ?_ rfl; clear S; intro a S
   refine l_skip S rfl rfl rfl (neq_t hb1) rfl ?_ rfl; clear S; intro a S
   refine lv S (rn_or_t (!(words_Within p_b.Club 0 1500)) hb1 (S.tm rfl) rfl) rfl ?_; clear S; intro a S
   refine l_done ?_
   refine then_n ?_
   exact ⟨Keep.refl _ _, S.nf [true] rfl ⟨rfl, rfl, trivial⟩⟩
  ·refine l_want S rfl rfl rfl hb1 ?_
   refine lv S (rn_fld fa_33_1 (S.tm rfl)) rfl ?_; clear S; intro a S
   refine l_want S rfl rfl rfl hb1 ?_
   refine lv S (rn_load Tryz.isAgg3 (S.tm rfl) (S.cell (i := 0) rfl rfl)) rfl ?_; clear S; intro a S
   refine l_want S rfl rfl rfl hb1 ?_
   refine l_enter S (fun _ => run_call (vs := [.int .i64 p_b.Club, .int .i64 0, .int .i64 1500]) ⟨(S.tm rfl), rfl, rfl, trivial⟩ Tryz.call40) (words_Within_ok _ p_b.Club 0 1500 _ rfl) rfl ?_; clear S; intro v2 a w4 hv2 hk3 hn2 S
   subst hv2
   refine l_want S rfl rfl rfl hb1 ?_
   refine lv S (rn_not (S.tm rfl)) rfl ?_; clear S; intro a S
   refine lv S (rn_or_f hb1 (S.tm rfl) (S.tm rfl)) rfl ?_; clear S; intro a S
   refine l_done ?_
   refine then_n ?_
   exact ⟨hk3, S.nf [true] rfl ⟨rfl, rfl, trivial⟩⟩
 clear S; rintro a w3 ⟨hk4, S⟩
 refine lv S (rn_assign (S.tm rfl)) rfl ?_; clear S; intro a S
 refine l_done ?_
 replace S := S.nk [.blk b1 [.int .i64 p_b.Races, .int .i64 p_b.Club, .int .i64 p_b.Age, .int .i64 p_b.Day] 33] [(1, .pointer (some ⟨b1, 0, none⟩)), (3, .bool ((!(words_Within p_b.Races 0 100)) || (!(words_Within p_b.Club 0 1500))))] [true] rfl ⟨rfl, rfl, trivial⟩
 refine then_n ?_
 refine f_cond (S.tm rfl) (fun hb2 => ?_) (fun hb2 => ?_)
 ·replace h := iteT h hb2
  refine f_seq ?_
  refine f_region ?_
  refine lv S (rn_assign rfl) rfl ?_; clear S; intro a S
  refine l_done ?_
  replace S := S.nk [] [(2, .int .i64 1)] [false] rfl ⟨rfl, trivial⟩
  refine then_n ?_
  refine wp_ret ?_
  refine blk_r ?_
  refine then_r ?_
  subst h
  exact f_ret S Tryz.results56 rfl rfl
 ·replace h := iteF h hb2
  refine f_seq ?_
  refine f_region ?_
  refine lv S (rn_fld fa_33_2 (S.tm rfl)) rfl ?_; clear S; intro a S
  refine lv S (rn_load Tryz.isAgg3 (S.tm rfl) (S.cell (i := 0) rfl rfl)) rfl ?_; clear S; intro a S
  refine l_enter S (fun _ => run_call (vs := [.int .i64 p_b.Age]) ⟨(S.tm rfl), trivial⟩ Tryz.call75) (swimmer_isWay_ok _ p_b.Age _ rfl) rfl ?_; clear S; intro v3 a w5 hv3 hk5 hn3 S
  subst hv3
  refine lv S (rn_not (S.tm rfl)) rfl ?_; clear S; intro a S
  refine lv S (rn_assign (S.tm rfl)) rfl ?_; clear S; intro a S
  refine l_done ?_
  replace S := S.nk [.blk b1 [.int .i64 p_b.Races, .int .i64 p_b.Club, .int .i64 p_b.Age, .int .i64 p_b.Day] 33] [(1, .pointer (some ⟨b1, 0, none⟩)), (14, .bool (!(swimmer_isWay p_b.Age)))] [true] rfl ⟨rfl, rfl, trivial⟩
  refine then_n ?_
  refine f_cond (S.tm rfl) (fun hb3 => ?_) (fun hb3 => ?_)
  ·replace h := iteT h hb3
   refine f_seq ?_
   refine f_region ?_
   refine lv S (rn_assign rfl) rfl ?_; clear S; intro a S
   refine l_done ?_
   replace S := S.nk [] [(2, .int .i64 4)] [false] rfl ⟨rfl, trivial⟩
   refine then_n ?_
   refine wp_ret ?_
   refine blk_r ?_
   refine then_r ?_
   subst h
   exact f_ret S Tryz.results56 rfl rfl
  ·replace h := iteF h hb3
   refine f_seq ?_
   refine f_region ?_
   refine lv S (rn_fld fa_33_3 (S.tm rfl)) rfl ?_; clear S; intro a S
   refine lv S (rn_load Tryz.isAgg3 (S.tm rfl) (S.cell (i := 0) rfl rfl)) rfl ?_; clear S; intro a S
   refine l_enter S (fun _ => run_call (vs := [.int .i64 p_b.Day]) ⟨(S.tm rfl), trivial⟩ Tryz.call43) (swimmer_isDay_ok _ p_b.Day _ rfl) rfl ?_; clear S; intro v4 a w6 hv4 hk6 hn4 S
   subst hv4
   refine lv S (rn_not (S.tm rfl)) rfl ?_; clear S; intro a S
   refine lv S (rn_assign (S.tm rfl)) rfl ?_; clear S; intro a S
   refine l_done ?_
   replace S := S.nk [] [(19, .bool (!(swimmer_isDay p_b.Day)))] [false] rfl ⟨rfl, trivial⟩
   refine then_n ?_
   refine f_cond (S.tm rfl) (fun hb4 => ?_) (fun hb4 => ?_)
   ·replace h := iteT h hb4
    refine f_seq ?_
    refine f_region ?_
    refine lv S (rn_assign rfl) rfl ?_; clear S; intro a S
    refine l_done ?_
    replace S := S.nk [] [(2, .int .i64 1)] [] rfl ⟨rfl, trivial⟩
    refine then_n ?_
    refine wp_ret ?_
    refine blk_r ?_
    refine then_r ?_
    subst h
    exact f_ret S Tryz.results56 rfl rfl
   ·replace h := iteF h hb4
    refine wp_skip ?_
    refine blk_n ?_
    refine then_n ?_
    refine f_seq ?_
    refine f_region ?_
    refine lv S (rn_assign rfl) rfl ?_; clear S; intro a S
    refine l_done ?_
    replace S := S.nk [] [(2, .int .i64 0)] [] rfl ⟨rfl, trivial⟩
    refine then_n ?_
    refine wp_ret ?_
    subst h
    exact f_ret S Tryz.results56 rfl rfl
theorem swimmer_checkMeet_ok (w : World) (v_p_r : Value) (p_r : List GRace) (hs_p_r : Slc (view w []) 8 v_p_r (p_r.map GRace.enc)) (v_p_s : Value) (p_s : List GSwimmer) (hs_p_s : Slc (view w []) 3 v_p_s (p_s.map GSwimmer.enc)) (v_p_m : Value) (p_m : List GMove) (hs_p_m : Slc (view w []) 3 v_p_m (p_m.map GMove.enc)) (p_b : GBounds) (r : Int) (h : swimmer_checkMeet p_r p_s p_m p_b = some r) :
    Calls Tryz.prog 30 [v_p_r, v_p_s, v_p_m, .agg (GBounds.enc p_b).toArray].toArray w (Ret w [] fun _ v _ => v = .int .i64 r) := by
 refine f_enter [] [] Tryz.func30 rfl Tryz.ntmps30 rfl (by simp) (by simp [fps]) (by simp [fps]) fun a S => ?_
 unfold swimmer_checkMeet at h
 replace S := S.nk [] [(0, v_p_r), (1, v_p_s), (2, v_p_m), (3, .agg (GBounds.enc p_b).toArray)] [] rfl ⟨rfl, rfl, rfl, rfl, trivial⟩
 refine f_seq ?_
 refine f_region ?_
 refine l_box S (S.tm rfl) (cs := [.int .i64 p_b.Races, .int .i64 p_b.Club, .int .i64 p_b.Age, .int .i64 p_b.Day]) rfl rfl ?_; clear S; intro a w1 b1 hz1 hk1 S
 refine lv S (rn_assign rfl) rfl ?_; clear S; intro a S
 refine l_done ?_
 replace S := S.nk [.blk b1 [.int .i64 p_b.Races, .int .i64 p_b.Club, .int .i64 p_b.Age, .int .i64 p_b.Day] 33] [(0, v_p_r), (1, v_p_s), (2, v_p_m), (7, .pointer (some ⟨b1, 0, none⟩))] [true] rfl ⟨rfl, rfl, rfl, rfl, trivial⟩
 refine then_n ?_
 refine f_seq ?_
 refine f_seq ?_
 refine f_region ?_
 refine lv S (rn_move (S.tm rfl)) rfl ?_; clear S; intro a S
 obtain ⟨r1, hr1, h⟩ := bindE h
 refine l_enter S (fun _ => run_call (vs := [v_p_r]) ⟨(S.tm rfl), trivial⟩ Tryz.call53) (swimmer_checkRaces_ok _ v_p_r p_r (hs_p_r.mono (S.le_arg nil_sub)) _ hr1) rfl ?_; clear S; intro v1 a w2 hv1 hk2 hn1 S
 subst hv1
 refine lv S (rn_assign (S.tm rfl)) rfl ?_; clear S; intro a S
 refine l_done ?_
 replace S := S.nk [.blk b1 [.int .i64 p_b.Races, .int .i64 p_b.Club, .int .i64 p_b.Age, .int .i64 p_b.Day] 33] [(1, v_p_s), (2, v_p_m), (7, .pointer (some ⟨b1, 0, none⟩)), (9, .int .i64 r1)] [true] rfl ⟨rfl, rfl, rfl, rfl, trivial⟩
 refine then_n ?_
 refine f_seq ?_
 refine f_region ?_
 refine lv S (rn_move (S.tm rfl)) rfl ?_; clear S; intro a S
 refine lv S (rn_neq (S.tm rfl) rfl) rfl ?_; clear S; intro a S
 refine l_done ?_
 replace S := S.nk [.blk b1 [.int .i64 p_b.Races, .int .i64 p_b.Club, .int .i64 p_b.Age, .int .i64 p_b.Day] 33] [(1, v_p_s), (2, v_p_m), (7, .pointer (some ⟨b1, 0, none⟩)), (9, .int .i64 r1), (15, .bool (!decide (r1 = 0)))] [true] rfl ⟨rfl, rfl, rfl, rfl, rfl, trivial⟩
 refine then_n ?_
 refine f_cond (S.tm rfl) (fun hb1 => ?_) (fun hb1 => ?_)
 ·replace h := iteT h hb1
  refine f_seq ?_
  refine f_region ?_
  refine lv S (rn_move (S.tm rfl)) rfl ?_; clear S; intro a S
  refine lv S (rn_assign (S.tm rfl)) rfl ?_; clear S; intro a S
  refine l_done ?_
  replace S := S.nk [] [(8, .int .i64 r1)] [false] rfl ⟨rfl, trivial⟩
  refine then_n ?_
  refine wp_ret ?_
  refine then_r ?_
  obtain rfl := Option.some.inj h
  exact f_ret S Tryz.results30 rfl rfl
 ·replace h := iteF h hb1
  refine wp_skip ?_
  refine then_n ?_
  refine f_seq ?_
  refine f_seq ?_
  refine f_region ?_
  refine lv S (rn_move (S.tm rfl)) rfl ?_; clear S; intro a S
  obtain ⟨r2, hr2, h⟩ := bindE h
  refine l_enter S (fun _ => run_call (vs := [v_p_s]) ⟨(S.tm rfl), trivial⟩ Tryz.call54) (swimmer_CheckSwimmers_ok _ v_p_s p_s (hs_p_s.mono (S.le_arg nil_sub)) _ hr2) rfl ?_; clear S; intro v2 a w3 hv2 hk3 hn2 S
  subst hv2
  refine lv S (rn_assign (S.tm rfl)) rfl ?_; clear S; intro a S
  refine l_done ?_
  replace S := S.nk [.blk b1 [.int .i64 p_b.Races, .int .i64 p_b.Club, .int .i64 p_b.Age, .int .i64 p_b.Day] 33] [(2, v_p_m), (7, .pointer (some ⟨b1, 0, none⟩)), (10, .int .i64 r2)] [true] rfl ⟨rfl, rfl, rfl, trivial⟩
  refine then_n ?_
  refine f_seq ?_
  refine f_region ?_
  refine lv S (rn_move (S.tm rfl)) rfl ?_; clear S; intro a S
  refine lv S (rn_neq (S.tm rfl) rfl) rfl ?_; clear S; intro a S
  refine l_done ?_
  replace S := S.nk [.blk b1 [.int .i64 p_b.Races, .int .i64 p_b.Club, .int .i64 p_b.Age, .int .i64 p_b.Day] 33] [(2, v_p_m), (7, .pointer (some ⟨b1, 0, none⟩)), (10, .int .i64 r2), (20, .bool (!decide (r2 = 0)))] [true] rfl ⟨rfl, rfl, rfl, rfl, trivial⟩
  refine then_n ?_
  refine f_cond (S.tm rfl) (fun hb2 => ?_) (fun hb2 => ?_)
  ·replace h := iteT h hb2
   refine f_seq ?_
   refine f_region ?_
   refine lv S (rn_move (S.tm rfl)) rfl ?_; clear S; intro a S
   refine lv S (rn_assign (S.tm rfl)) rfl ?_; clear S; intro a S
   refine l_done ?_
   replace S := S.nk [] [(8, .int .i64 r2)] [false] rfl ⟨rfl, trivial⟩
   refine then_n ?_
   refine wp_ret ?_
   refine then_r ?_
   obtain rfl := Option.some.inj h
   exact f_ret S Tryz.results30 rfl rfl
  ·replace h := iteF h hb2
   refine wp_skip ?_
   refine then_n ?_
   refine f_seq ?_
   refine f_seq ?_
   refine f_region ?_
   refine lv S (rn_move (S.tm rfl)) rfl ?_; clear S; intro a S
   obtain ⟨r3, hr3, h⟩ := bindE h
   refine l_enter S (fun _ => run_call (vs := [v_p_m]) ⟨(S.tm rfl), trivial⟩ Tryz.call55) (swimmer_CheckMoves_ok _ v_p_m p_m (hs_p_m.mono (S.le_arg nil_sub)) _ hr3) rfl ?_; clear S; intro v3 a w4 hv3 hk4 hn3 S
   subst hv3
   refine lv S (rn_assign (S.tm rfl)) rfl ?_; clear S; intro a S
   refine l_done ?_
   replace S := S.nk [.blk b1 [.int .i64 p_b.Races, .int .i64 p_b.Club, .int .i64 p_b.Age, .int .i64 p_b.Day] 33] [(7, .pointer (some ⟨b1, 0, none⟩)), (11, .int .i64 r3)] [true] rfl ⟨rfl, rfl, trivial⟩
   refine then_n ?_
   refine f_seq ?_
   refine f_region ?_
   refine lv S (rn_move (S.tm rfl)) rfl ?_; clear S; intro a S
   refine lv S (rn_neq (S.tm rfl) rfl) rfl ?_; clear S; intro a S
   refine l_done ?_
   replace S := S.nk [.blk b1 [.int .i64 p_b.Races, .int .i64 p_b.Club, .int .i64 p_b.Age, .int .i64 p_b.Day] 33] [(7, .pointer (some ⟨b1, 0, none⟩)), (11, .int .i64 r3), (25, .bool (!decide (r3 = 0)))] [true] rfl ⟨rfl, rfl, rfl, trivial⟩
   refine then_n ?_
   refine f_cond (S.tm rfl) (fun hb3 => ?_) (fun hb3 => ?_)
   ·replace h := iteT h hb3
    refine f_seq ?_
    refine f_region ?_
    refine lv S (rn_move (S.tm rfl)) rfl ?_; clear S; intro a S
    refine lv S (rn_assign (S.tm rfl)) rfl ?_; clear S; intro a S
    refine l_done ?_
    replace S := S.nk [] [(8, .int .i64 r3)] [false] rfl ⟨rfl, trivial⟩
    refine then_n ?_
    refine wp_ret ?_
    refine then_r ?_
    obtain rfl := Option.some.inj h
    exact f_ret S Tryz.results30 rfl rfl
   ·replace h := iteF h hb3
    refine wp_skip ?_
    refine then_n ?_
    refine f_seq ?_
    refine f_region ?_
    refine lv S (rn_ldA Tryz.isAgg33 Tryz.sizeOf33 (off := 0) (o := 0) (part := [.int .i64 p_b.Races, .int .i64 p_b.Club, .int .i64 p_b.Age, .int .i64 p_b.Day]) rfl rfl (S.tm rfl) (S.cellsAt (i := 0) rfl)) rfl ?_; clear S; intro a S
    refine l_enter S (fun _ => run_call (vs := [.agg (GBounds.enc p_b).toArray]) ⟨(S.tm rfl), trivial⟩ Tryz.call56) (swimmer_checkBounds_ok _ p_b _ rfl) rfl ?_; clear S; intro v4 a w5 hv4 hk5 hn4 S
    subst hv4
    refine lv S (rn_assign (S.tm rfl)) rfl ?_; clear S; intro a S
    refine l_done ?_
    replace S := S.nk [] [(8, .int .i64 (swimmer_checkBounds p_b))] [false] rfl ⟨rfl, trivial⟩
    refine then_n ?_
    refine wp_ret ?_
    obtain rfl := Option.some.inj h
    exact f_ret S Tryz.results30 rfl rfl
theorem swimmer_CheckEntries_ok (w : World) (v_p_l : Value) (p_l : List GEntry) (hs_p_l : Slc (view w []) 2 v_p_l (p_l.map GEntry.enc)) (r : Int) (h : swimmer_CheckEntries p_l = some r) :
    Calls Tryz.prog 31 [v_p_l].toArray w (Ret w [] fun _ v _ => v = .int .i64 r) := by
 refine f_enter [] [] Tryz.func31 rfl Tryz.ntmps31 rfl (by simp) (by simp [fps]) (by simp [fps]) fun a S => ?_
 unfold swimmer_CheckEntries at h
 replace S := S.nk [] [(0, v_p_l)] [] rfl ⟨rfl, trivial⟩
 refine f_seq ?_
 refine f_region ?_
 refine lv S (rn_assign rfl) rfl ?_; clear S; intro a S
 refine l_done ?_
 replace S := S.nk [] [(0, v_p_l)] [] rfl ⟨rfl, trivial⟩
 refine then_n ?_
 refine f_seq ?_
 refine f_seq ?_
 refine f_region ?_
 refine lv S (rn_move (S.tm rfl)) rfl ?_; clear S; intro a S
 refine lv S (rn_lenT sl_35 (S.tm rfl) (slc_len hs_p_l)) rfl ?_; clear S; intro a S
 refine lv S (rn_gtr (S.tm rfl) rfl) rfl ?_; clear S; intro a S
 refine l_done ?_
 replace S := S.nk [] [(0, v_p_l), (9, .bool (decide (1500 < (p_l.length : Int))))] [] rfl ⟨rfl, rfl, trivial⟩
 refine then_n ?_
 refine f_cond (S.tm rfl) (fun hb1 => ?_) (fun hb1 => ?_)
 ·replace h := iteT h hb1
  refine f_seq ?_
  refine f_region ?_
  refine lv S (rn_assign rfl) rfl ?_; clear S; intro a S
  refine l_done ?_
  replace S := S.nk [] [(2, .int .i64 2)] [] rfl ⟨rfl, trivial⟩
  refine then_n ?_
  refine wp_ret ?_
  refine then_r ?_
  obtain rfl := Option.some.inj h
  exact f_ret S Tryz.results31 rfl rfl
 ·replace h := iteF h hb1
  refine wp_skip ?_
  refine then_n ?_
  refine f_seq ?_
  refine f_region ?_
  refine l_makeMap (κ := GEntry) (ν := Bool) S rfl (fun x => Value.agg (GEntry.enc x).toArray) Value.bool ?_; clear S; intro a w1 b1 hz1 hk1 S
  refine lv S (rn_assign (S.tm rfl)) rfl ?_; clear S; intro a S
  refine l_done ?_
  replace S := S.nk [.map b1 (ments (fun x => Value.agg (GEntry.enc x).toArray) Value.bool ([] : List (GEntry × Bool))) ([] : List (GEntry × Bool)).length] [(0, v_p_l), (3, .map (some b1))] [true] rfl ⟨rfl, rfl, trivial⟩
  refine then_n ?_
  refine f_seq ?_
  refine f_region ?_
  refine lv S (rn_assign rfl) rfl ?_; clear S; intro a S
  refine l_done ?_
  replace S := S.nk [.map b1 (ments (fun x => Value.agg (GEntry.enc x).toArray) Value.bool ([] : List (GEntry × Bool))) ([] : List (GEntry × Bool)).length] [(0, v_p_l), (3, .map (some b1)), (4, .bool false)] [true] rfl ⟨rfl, rfl, rfl, trivial⟩
  refine then_n ?_
  refine f_seq ?_
  refine f_seq ?_
  refine f_region ?_
  refine lv S (rn_move (S.tm rfl)) rfl ?_; clear S; intro a S
  refine lv S (rn_lenT sl_35 (S.tm rfl) (slc_len hs_p_l)) rfl ?_; clear S; intro a S
  refine lv S (rn_move rfl) rfl ?_; clear S; intro a S
  refine l_done ?_
  replace S := S.nk [.map b1 (ments (fun x => Value.agg (GEntry.enc x).toArray) Value.bool ([] : List (GEntry × Bool))) ([] : List (GEntry × Bool)).length] [(3, .map (some b1)), (4, .bool false), (11, v_p_l), (12, .int .i64 (p_l.length : Int)), (13, .int .i64 0)] [true] rfl ⟨rfl, rfl, rfl, rfl, rfl, trivial⟩
  refine then_n ?_
  obtain ⟨j1, hj1, h⟩ := joinE h
  refine f_join (fun a w' => ∃ x1 : List (GEntry × Bool), ∃ x2 : Bool, j1 x1 x2 = some r ∧ Sx w [] nov [.map b1 (ments (fun x => Value.agg (GEntry.enc x).toArray) Value.bool x1) x1.length] [(4, .bool x2)] 37 a w') ?_ ?_
  ·refine wp_block ?_
   refine f_loop (fun (ys1 : List GEntry) a w' => ∃ i1 : Nat, ∃ x1 : List (GEntry × Bool), ∃ x2 : Bool, (∃ dn, p_l = dn ++ ys1 ∧ dn.length = i1) ∧ swimmer_CheckEntries_l1 j1 ys1 i1 x1 x2 = some r ∧ Sx w [] nov [.map b1 (ments (fun x => Value.agg (GEntry.enc x).toArray) Value.bool x1) x1.length] [(3, .map (some b1)), (4, .bool x2), (11, v_p_l), (12, .int .i64 (p_l.length : Int)), (13, .int .i64 (i1 : Int))] 37 a w') List.length p_l ⟨0, ([] : List (GEntry × Bool)), false, ⟨[], rfl, rfl⟩, h, S.nf [true] rfl ⟨rfl, rfl, rfl, rfl, rfl, trivial⟩⟩ ?_
   clear S h; rintro ys1 a w2 ⟨i1, x1, x2, ⟨dn, hd1, hi1⟩, h, S⟩
   cases ys1 with
   | nil =>
    rw [swimmer_CheckEntries_l1.eq_1] at h
    refine f_seq ?_
    refine f_region ?_
    refine lv S (rn_lss (S.tm rfl) (S.tm rfl)) rfl ?_; clear S; intro a S
    refine l_done ?_
    replace S := S.nk [.map b1 (ments (fun x => Value.agg (GEntry.enc x).toArray) Value.bool x1) x1.length] [(3, .map (some b1)), (4, .bool x2), (11, v_p_l), (12, .int .i64 (p_l.length : Int)), (13, .int .i64 (i1 : Int)), (14, .bool (decide ((i1 : Int) < (p_l.length : Int))))] [true] rfl ⟨rfl, rfl, rfl, rfl, rfl, rfl, trivial⟩
    refine then_n ?_
    refine f_seq ?_
    refine wp_cond_false ((S.tm rfl).trans (congrArg Value.bool (rng_nil hd1 hi1))) ?_
    refine wp_exit ?_
    refine then_x ?_
    refine then_x ?_
    refine x_same ?_
    refine then_n ?_
    exact ⟨x1, x2, h, S.nf [true] rfl ⟨rfl, trivial⟩⟩
   | cons y1 ys1 =>
    rw [swimmer_CheckEntries_l1.eq_2] at h
    refine f_seq ?_
    refine f_region ?_
    refine lv S (rn_lss (S.tm rfl) (S.tm rfl)) rfl ?_; clear S; intro a S
    refine l_done ?_
    replace S := S.nk [.map b1 (ments (fun x => Value.agg (GEntry.enc x).toArray) Value.bool x1) x1.length] [(3, .map (some b1)), (4, .bool x2), (11, v_p_l), (12, .int .i64 (p_l.length : Int)), (13, .int .i64 (i1 : Int)), (14, .bool (decide ((i1 : Int) < (p_l.length : Int))))] [true] rfl ⟨rfl, rfl, rfl, rfl, rfl, rfl, trivial⟩
    refine then_n ?_
    refine f_seq ?_
    refine wp_cond_true ((S.tm rfl).trans (congrArg Value.bool (rng_cons hd1 hi1))) ?_
    refine wp_skip ?_
    refine then_n ?_
    refine f_seq ?_
    refine wp_block ?_
    refine f_seq ?_
    refine f_region ?_
    obtain ⟨b2, o1, hm1, hr1⟩ := rn_indexT (a := a) (x := .tmp 11) (y := .tmp 13) (ty := 0) sl_35 hs_p_l (get_mid hd1 hi1) rfl (S.tm rfl) (S.tm rfl)
    refine lv S (hr1 _) rfl ?_; clear S; intro a S
    clear hr1
    refine lv S (rn_ldA Tryz.isAgg45 Tryz.sizeOf45 (off := o1) (o := 0) (part := [.string y1.Who, .string y1.Race]) rfl rfl (S.tm rfl) (hm1.at S.emb0)) rfl ?_; clear S; intro a S
    refine l_alloc S Tryz.zeroValue45 (cs := [.string k_empty, .string k_empty]) rfl rfl ?_; clear S; intro a w4 b3 hz2 hk2 S
    refine l_store S (S.tm rfl) (S.tm rfl) (i := 0) (off := 0) rfl Tryz.sizeOf45 (vs := [.string y1.Who, .string y1.Race]) rfl rfl rfl rfl ?_; clear S; intro w5 hk3 S
    refine l_done ?_
    replace S := S.nk [.blk b3 [.string y1.Who, .string y1.Race] 45, .map b1 (ments (fun x => Value.agg (GEntry.enc x).toArray) Value.bool x1) x1.length] [(3, .map (some b1)), (4, .bool x2), (6, .pointer (some ⟨b3, 0, none⟩)), (11, v_p_l), (12, .int .i64 (p_l.length : Int)), (13, .int .i64 (i1 : Int))] [true, true] rfl ⟨rfl, rfl, rfl, rfl, rfl, rfl, trivial⟩
    refine then_n ?_
    refine f_seq ?_
    refine f_seq ?_
    refine f_region ?_
    refine lv S (rn_fld fa_45_0 (S.tm rfl)) rfl ?_; clear S; intro a S
    refine lv S (rn_load Tryz.isAgg9 (S.tm rfl) (S.cell (i := 0) rfl rfl)) rfl ?_; clear S; intro a S
    obtain ⟨r1, hr2, h⟩ := bindE h
    refine l_enter S (fun _ => run_call (vs := [.string y1.Who]) ⟨(S.tm rfl), trivial⟩ Tryz.call57) (words_IsKey_ok _ y1.Who _ hr2) rfl ?_; clear S; intro v1 a w6 hv1 hk4 hn1 S
    subst hv1
    refine lv S (rn_not (S.tm rfl)) rfl ?_; clear S; intro a S
    refine lv S (rn_move (S.tm rfl)) rfl ?_; clear S; intro a S
    obtain ⟨j2, hj2, h⟩ := joinE h
    refine f_cutm 5 (fun a w' => ∃ c1, j2 c1 = some r ∧ Keep [] w6 w' ∧ Sx w [] nov [.blk b3 [.string y1.Who, .string y1.Race] 45, .map b1 (ments (fun x => Value.agg (GEntry.enc x).toArray) Value.bool x1) x1.length] [(3, .map (some b1)), (4, .bool x2), (6, .pointer (some ⟨b3, 0, none⟩)), (11, v_p_l), (12, .int .i64 (p_l.length : Int)), (13, .int .i64 (i1 : Int)), (26, .bool c1)] 37 a w') ?_ ?_
    ·rcases Bool.eq_false_or_eq_true (!r1) with hb2 | hb2
     ·replace h := iteT h hb2
      refine l_skip S rfl rfl rfl (neq_t hb2) rfl ?_ rfl; clear S; intro a S
      refine l_skip S rfl rfl rfl (neq_t hb2) rfl ?_ rfl; clear S; intro a S
      refine l_skip S rfl rfl rfl (neq_t hb2) rfl ?_ rfl; clear S; intro a S
      refine l_skip S rfl rfl rfl (neq_t hb2) rfl ?_ rfl; clear S; intro a S
      refine lv S (rn_or_t true hb2 (S.tm rfl) rfl) rfl ?_; clear S; intro a S
      refine l_done ?_
      refine then_n ?_
      exact ⟨_, h, Keep.refl _ _, S.nf [true, true] rfl ⟨rfl, rfl, rfl, rfl, rfl, rfl, rfl, trivial⟩⟩
     ·replace h := iteF h hb2
      refine l_want S rfl rfl rfl hb2 ?_
      refine lv S (rn_fld fa_45_1 (S.tm rfl)) rfl ?_; clear S; intro a S
      refine l_want S rfl rfl rfl hb2 ?_
      refine lv S (rn_load Tryz.isAgg9 (S.tm rfl) (S.cell (i := 0) rfl rfl)) rfl ?_; clear S; intro a S
      refine l_want S rfl rfl rfl hb2 ?_
      obtain ⟨r2, hr3, h⟩ := bindE h
      refine l_enter S (fun _ => run_call (vs := [.string y1.Race]) ⟨(S.tm rfl), trivial⟩ Tryz.call57) (words_IsKey_ok _ y1.Race _ hr3) rfl ?_; clear S; intro v2 a w8 hv2 hk5 hn2 S
      subst hv2
      refine l_want S rfl rfl rfl hb2 ?_
      refine lv S (rn_not (S.tm rfl)) rfl ?_; clear S; intro a S
      refine lv S (rn_or_f hb2 (S.tm rfl) (S.tm rfl)) rfl ?_; clear S; intro a S
      refine l_done ?_
      refine then_n ?_
      exact ⟨_, h, hk5, S.nf [true, true] rfl ⟨rfl, rfl, rfl, rfl, rfl, rfl, rfl, trivial⟩⟩
    clear S h; rintro a w7 ⟨c1, h, hk6, S⟩; rw [hj2] at h; clear hj2 j2
    refine l_done ?_
    replace S := S.nk [.blk b3 [.string y1.Who, .string y1.Race] 45, .map b1 (ments (fun x => Value.agg (GEntry.enc x).toArray) Value.bool x1) x1.length] [(3, .map (some b1)), (4, .bool x2), (6, .pointer (some ⟨b3, 0, none⟩)), (11, v_p_l), (12, .int .i64 (p_l.length : Int)), (13, .int .i64 (i1 : Int)), (26, .bool c1)] [true, true] rfl ⟨rfl, rfl, rfl, rfl, rfl, rfl, rfl, trivial⟩
    refine then_n ?_
    refine f_cond (S.tm rfl) (fun hb3 => ?_) (fun hb3 => ?_)
    ·replace h := iteT h hb3
     refine f_seq ?_
     refine f_region ?_
     refine lv S (rn_assign rfl) rfl ?_; clear S; intro a S
     refine l_done ?_
     replace S := S.nk [] [(2, .int .i64 5)] [false, false] rfl ⟨rfl, trivial⟩
     refine then_n ?_
     refine wp_ret ?_
     refine then_r ?_
     refine blk_r ?_
     refine then_r ?_
     refine then_r ?_
     refine blk_r ?_
     refine then_r ?_
     refine then_r ?_
     obtain rfl := Option.some.inj h
     exact f_ret S Tryz.results31 rfl rfl
    ·replace h := iteF h hb3
     refine wp_skip ?_
     refine then_n ?_
     refine f_seq ?_
     refine f_region ?_
     refine lv S (rn_move (S.tm rfl)) rfl ?_; clear S; intro a S
     refine lv S (rn_move (S.tm rfl)) rfl ?_; clear S; intro a S
     refine f_cutm 4 (fun a w' => Keep [] w7 w' ∧ Sx w [] nov [.blk b3 [.string y1.Who, .string y1.Race] 45, .map b1 (ments (fun x => Value.agg (GEntry.enc x).toArray) Value.bool x1) x1.length] [(3, .map (some b1)), (6, .pointer (some ⟨b3, 0, none⟩)), (11, v_p_l), (12, .int .i64 (p_l.length : Int)), (13, .int .i64 (i1 : Int)), (32, .bool (x2 || (mgetD x1 y1 false)))] 37 a w') ?_ ?_
     ·rcases Bool.eq_false_or_eq_true x2 with hb4 | hb4
      ·refine l_skip S rfl rfl rfl (neq_t hb4) rfl ?_ rfl; clear S; intro a S
       refine l_skip S rfl rfl rfl (neq_t hb4) rfl ?_ rfl; clear S; intro a S
       refine l_skip S rfl rfl rfl (neq_t hb4) rfl ?_ rfl; clear S; intro a S
       refine lv S (rn_or_t (mgetD x1 y1 false) hb4 (S.tm rfl) rfl) rfl ?_; clear S; intro a S
       refine l_done ?_
       refine then_n ?_
       exact ⟨Keep.refl _ _, S.nf [true, true] rfl ⟨rfl, rfl, rfl, rfl, rfl, rfl, trivial⟩⟩
      ·refine l_want S rfl rfl rfl hb4 ?_
       refine lv S (rn_move (S.tm rfl)) rfl ?_; clear S; intro a S
       refine l_want S rfl rfl rfl hb4 ?_
       refine lv S (rn_ldA Tryz.isAgg45 Tryz.sizeOf45 (off := 0) (o := 0) (part := [.string y1.Who, .string y1.Race]) rfl rfl (S.tm rfl) (S.cellsAt (i := 0) rfl)) rfl ?_; clear S; intro a S
       refine l_want S rfl rfl rfl hb4 ?_
       refine lv S (rn_lookup (kv := (fun x => Value.agg (GEntry.enc x).toArray)) (vv := Value.bool) (m := x1) (key := y1) (z := false) (S.map_at (i := 1) rfl) Tryz.underlying110 keyT_45 Tryz.zeroValue4 (S.tm rfl) (S.tm rfl)) rfl ?_; clear S; intro a S
       refine lv S (rn_or_f hb4 (S.tm rfl) (S.tm rfl)) rfl ?_; clear S; intro a S
       refine l_done ?_
       refine then_n ?_
       exact ⟨Keep.refl _ _, S.nf [true, true] rfl ⟨rfl, rfl, rfl, rfl, rfl, rfl, trivial⟩⟩
     clear S; rintro a w9 ⟨hk7, S⟩
     refine lv S (rn_assign (S.tm rfl)) rfl ?_; clear S; intro a S
     refine l_done ?_
     replace S := S.nk [.blk b3 [.string y1.Who, .string y1.Race] 45, .map b1 (ments (fun x => Value.agg (GEntry.enc x).toArray) Value.bool x1) x1.length] [(3, .map (some b1)), (4, .bool (x2 || (mgetD x1 y1 false))), (6, .pointer (some ⟨b3, 0, none⟩)), (11, v_p_l), (12, .int .i64 (p_l.length : Int)), (13, .int .i64 (i1 : Int))] [true, true] rfl ⟨rfl, rfl, rfl, rfl, rfl, rfl, trivial⟩
     refine then_n ?_
     refine f_region ?_
     refine lv S (rn_move (S.tm rfl)) rfl ?_; clear S; intro a S
     refine lv S (rn_ldA Tryz.isAgg45 Tryz.sizeOf45 (off := 0) (o := 0) (part := [.string y1.Who, .string y1.Race]) rfl rfl (S.tm rfl) (S.cellsAt (i := 0) rfl)) rfl ?_; clear S; intro a S
     refine l_mapUpdate (kv := (fun x => Value.agg (GEntry.enc x).toArray)) (vv := Value.bool) (m := x1) (key := y1) (val := true) S (i := 1) rfl Tryz.underlying110 keyT_45 (S.tm rfl) (S.tm rfl) rfl ?_; clear S; intro w10 hk8 S
     refine l_done ?_
     replace S := S.nk [.map b1 (ments (fun x => Value.agg (GEntry.enc x).toArray) Value.bool (mput x1 y1 true)) (mput x1 y1 true).length] [(3, .map (some b1)), (4, .bool (x2 || (mgetD x1 y1 false))), (11, v_p_l), (12, .int .i64 (p_l.length : Int)), (13, .int .i64 (i1 : Int))] [false, true] rfl ⟨rfl, rfl, rfl, rfl, rfl, trivial⟩
     refine blk_n ?_
     refine then_n ?_
     refine f_region ?_
     refine lv S (rn_add (S.tm rfl) rfl) rfl ?_; clear S; intro a S
     refine lv S (rn_move (S.tm rfl)) rfl ?_; clear S; intro a S
     refine l_done ?_
     replace S := S.nk [.map b1 (ments (fun x => Value.agg (GEntry.enc x).toArray) Value.bool (mput x1 y1 true)) (mput x1 y1 true).length] [(3, .map (some b1)), (4, .bool (x2 || (mgetD x1 y1 false))), (11, v_p_l), (12, .int .i64 (p_l.length : Int)), (13, .int .i64 (W ((i1 : Int) + 1)))] [true] rfl ⟨rfl, rfl, rfl, rfl, rfl, trivial⟩
     refine then_n ?_
     exact ⟨ys1, ⟨i1 + 1, (mput x1 y1 true), (x2 || (mgetD x1 y1 false)), ⟨_, (hd1).trans (List.append_cons _ _ _), by simp [hi1]⟩, h, S.nf [true] rfl ⟨rfl, rfl, rfl, rfl, (congrArg (fun z => some (Value.int .i64 z)) (rng_next hd1 hi1 (slc_max hs_p_l))), trivial⟩⟩, Nat.lt_succ_self _⟩
  clear S h; rintro a w3 ⟨x1, x2, h, S⟩; rw [hj1] at h; clear hj1 j1
  refine then_n ?_
  refine f_seq ?_
  refine f_seq ?_
  refine f_region ?_
  refine lv S (rn_move (S.tm rfl)) rfl ?_; clear S; intro a S
  refine l_done ?_
  replace S := S.nk [] [(36, .bool x2)] [false] rfl ⟨rfl, trivial⟩
  refine then_n ?_
  refine f_cond (S.tm rfl) (fun hb5 => ?_) (fun hb5 => ?_)
  ·replace h := iteT h hb5
   refine f_seq ?_
   refine f_region ?_
   refine lv S (rn_assign rfl) rfl ?_; clear S; intro a S
   refine l_done ?_
   replace S := S.nk [] [(2, .int .i64 6)] [] rfl ⟨rfl, trivial⟩
   refine then_n ?_
   refine wp_ret ?_
   refine then_r ?_
   obtain rfl := Option.some.inj h
   exact f_ret S Tryz.results31 rfl rfl
  ·replace h := iteF h hb5
   refine wp_skip ?_
   refine then_n ?_
   refine f_seq ?_
   refine f_region ?_
   refine lv S (rn_assign rfl) rfl ?_; clear S; intro a S
   refine l_done ?_
   replace S := S.nk [] [(2, .int .i64 0)] [] rfl ⟨rfl, trivial⟩
   refine then_n ?_
   refine wp_ret ?_
   obtain rfl := Option.some.inj h
   exact f_ret S Tryz.results31 rfl rfl
theorem swimmer_raceOf_c1_ok (w : World) (p_x : GRace) (b_p_a1 : Nat) (p_a1 : ByteArray) (hb_b_p_a1 : view w [] b_p_a1 = some (.cells [.string p_a1].toArray 9 (0, 0))) (r : Bool) (h : swimmer_raceOf_c1 p_x p_a1 = r) :
    Calls Tryz.prog 59 [.agg (GRace.enc p_x).toArray, .pointer (some ⟨b_p_a1, 0, none⟩)].toArray w (Ret w [] fun _ v _ => v = .bool r) := by
 refine f_enter [] [] Tryz.func59 rfl Tryz.ntmps59 rfl (by simp) (by simp [fps]) (by simp [fps]) fun a S => ?_
 unfold swimmer_raceOf_c1 at h
 replace S := S.nk [] [(0, .agg (GRace.enc p_x).toArray), (1, .pointer (some ⟨b_p_a1, 0, none⟩))] [] rfl ⟨rfl, rfl, trivial⟩
 refine f_seq ?_
 refine f_region ?_
 refine l_box S (S.tm rfl) (cs := [.string p_x.Key, .int .i64 p_x.Metres, .int .i64 p_x.Stroke, .int .i64 p_x.Course, .int .i64 p_x.Legs, .int .i64 p_x.Sex, .int .i64 p_x.Young, .int .i64 p_x.Old]) rfl rfl ?_; clear S; intro a w1 b1 hz1 hk1 S
 refine lv S (rn_assign rfl) rfl ?_; clear S; intro a S
 refine l_done ?_
 replace S := S.nk [.blk b1 [.string p_x.Key, .int .i64 p_x.Metres, .int .i64 p_x.Stroke, .int .i64 p_x.Course, .int .i64 p_x.Legs, .int .i64 p_x.Sex, .int .i64 p_x.Young, .int .i64 p_x.Old] 52] [(1, .pointer (some ⟨b_p_a1, 0, none⟩)), (2, .pointer (some ⟨b1, 0, none⟩))] [true] rfl ⟨rfl, rfl, trivial⟩
 refine then_n ?_
 refine f_seq ?_
 refine f_region ?_
 refine lv S (rn_fld fa_52_0 (S.tm rfl)) rfl ?_; clear S; intro a S
 refine lv S (rn_load Tryz.isAgg9 (S.tm rfl) (S.cell (i := 0) rfl rfl)) rfl ?_; clear S; intro a S
 refine lv S (rn_ld Tryz.isAgg9 (off := 0) (o := 0) (S.tm rfl) ((mem_blk hb_b_p_a1).at S.emb0) rfl) rfl ?_; clear S; intro a S
 refine lv S (rn_seql (S.tm rfl) (S.tm rfl)) rfl ?_; clear S; intro a S
 refine lv S (rn_assign (S.tm rfl)) rfl ?_; clear S; intro a S
 refine l_done ?_
 replace S := S.nk [] [(3, .bool (decide (p_x.Key = p_a1)))] [false] rfl ⟨rfl, trivial⟩
 refine then_n ?_
 refine wp_ret ?_
 subst h
 exact f_ret S Tryz.results59 rfl rfl
theorem slices_IndexFunc_Race_swimmer_raceOf_c1_ok (w : World) (v_p_s : Value) (p_s : List GRace) (hs_p_s : Slc (view w []) 8 v_p_s (p_s.map GRace.enc)) (b_p_f_0 : Nat) (p_f_0 : ByteArray) (hb_b_p_f_0 : view w [] b_p_f_0 = some (.cells [.string p_f_0].toArray 9 (0, 0))) (r : Int) (h : slices_IndexFunc_Race_swimmer_raceOf_c1 p_s p_f_0 = r) :
    Calls Tryz.prog 58 [v_p_s, .func (.func 59) #[] #[.pointer (some ⟨b_p_f_0, 0, none⟩)]].toArray w (Ret w [] fun _ v _ => v = .int .i64 r) := by
 refine f_enter [] [] Tryz.func58 rfl Tryz.ntmps58 rfl (by simp) (by simp [fps]) (by simp [fps]) fun a S => ?_
 unfold slices_IndexFunc_Race_swimmer_raceOf_c1 at h
 replace S := S.nk [] [(0, v_p_s), (1, .func (.func 59) #[] #[.pointer (some ⟨b_p_f_0, 0, none⟩)])] [] rfl ⟨rfl, rfl, trivial⟩
 refine f_seq ?_
 refine f_region ?_
 refine lv S (rn_assign rfl) rfl ?_; clear S; intro a S
 refine l_done ?_
 replace S := S.nk [] [(0, v_p_s), (1, .func (.func 59) #[] #[.pointer (some ⟨b_p_f_0, 0, none⟩)])] [] rfl ⟨rfl, rfl, trivial⟩
 refine then_n ?_
 refine f_seq ?_
 refine f_seq ?_
 refine f_region ?_
 refine lv S (rn_move (S.tm rfl)) rfl ?_; clear S; intro a S
 refine lv S (rn_lenT sl_26 (S.tm rfl) (slc_len hs_p_s)) rfl ?_; clear S; intro a S
 refine lv S (rn_move rfl) rfl ?_; clear S; intro a S
 refine l_done ?_
 replace S := S.nk [] [(0, v_p_s), (1, .func (.func 59) #[] #[.pointer (some ⟨b_p_f_0, 0, none⟩)]), (7, .int .i64 (p_s.length : Int)), (8, .int .i64 0)] [] rfl ⟨rfl, rfl, rfl, rfl, trivial⟩
 refine then_n ?_
 obtain ⟨j1, hj1, h⟩ := joinE h
 refine f_join (fun a w' => j1 = r ∧ Sx w [] nov [] [] 19 a w') ?_ ?_
 ·refine wp_block ?_
  refine f_loop (fun (ys1 : List GRace) a w' => ∃ i1 : Nat, (∃ dn, p_s = dn ++ ys1 ∧ dn.length = i1) ∧ slices_IndexFunc_Race_swimmer_raceOf_c1_l1 p_f_0 j1 ys1 i1 = r ∧ Sx w [] nov [] [(0, v_p_s), (1, .func (.func 59) #[] #[.pointer (some ⟨b_p_f_0, 0, none⟩)]), (7, .int .i64 (p_s.length : Int)), (8, .int .i64 (i1 : Int))] 19 a w') List.length p_s ⟨0, ⟨[], rfl, rfl⟩, h, S.nf [] rfl ⟨rfl, rfl, rfl, rfl, trivial⟩⟩ ?_
  clear S h; rintro ys1 a w1 ⟨i1, ⟨dn, hd1, hi1⟩, h, S⟩
  cases ys1 with
  | nil =>
   rw [slices_IndexFunc_Race_swimmer_raceOf_c1_l1.eq_1] at h
   refine f_seq ?_
   refine f_region ?_
   refine lv S (rn_lss (S.tm rfl) (S.tm rfl)) rfl ?_; clear S; intro a S
   refine l_done ?_
   replace S := S.nk [] [(0, v_p_s), (1, .func (.func 59) #[] #[.pointer (some ⟨b_p_f_0, 0, none⟩)]), (7, .int .i64 (p_s.length : Int)), (8, .int .i64 (i1 : Int)), (9, .bool (decide ((i1 : Int) < (p_s.length : Int))))] [] rfl ⟨rfl, rfl, rfl, rfl, rfl, trivial⟩
   refine then_n ?_
   refine f_seq ?_
   refine wp_cond_false ((S.tm rfl).trans (congrArg Value.bool (rng_nil hd1 hi1))) ?_
   refine wp_exit ?_
   refine then_x ?_
   refine then_x ?_
   refine x_same ?_
   refine then_n ?_
   exact ⟨h, S.nf [] rfl trivial⟩
  | cons y1 ys1 =>
   rw [slices_IndexFunc_Race_swimmer_raceOf_c1_l1.eq_2] at h
   refine f_seq ?_
   refine f_region ?_
   refine lv S (rn_lss (S.tm rfl) (S.tm rfl)) rfl ?_; clear S; intro a S
   refine l_done ?_
   replace S := S.nk [] [(0, v_p_s), (1, .func (.func 59) #[] #[.pointer (some ⟨b_p_f_0, 0, none⟩)]), (7, .int .i64 (p_s.length : Int)), (8, .int .i64 (i1 : Int)), (9, .bool (decide ((i1 : Int) < (p_s.length : Int))))] [] rfl ⟨rfl, rfl, rfl, rfl, rfl, trivial⟩
   refine then_n ?_
   refine f_seq ?_
   refine wp_cond_true ((S.tm rfl).trans (congrArg Value.bool (rng_cons hd1 hi1))) ?_
   refine wp_skip ?_
   refine then_n ?_
   refine f_seq ?_
   refine wp_block ?_
   refine f_seq ?_
   refine f_region ?_
   refine lv S (rn_move (S.tm rfl)) rfl ?_; clear S; intro a S
   refine lv S (rn_assign (S.tm rfl)) rfl ?_; clear S; intro a S
   refine l_done ?_
   replace S := S.nk [] [(0, v_p_s), (1, .func (.func 59) #[] #[.pointer (some ⟨b_p_f_0, 0, none⟩)]), (5, .int .i64 (i1 : Int)), (7, .int .i64 (p_s.length : Int)), (8, .int .i64 (i1 : Int))] [] rfl ⟨rfl, rfl, rfl, rfl, rfl, trivial⟩
   refine then_n ?_
   refine f_seq ?_
   refine f_region ?_
   refine lv S (rn_move (S.tm rfl)) rfl ?_; clear S; intro a S
   refine lv S (rn_move (S.tm rfl)) rfl ?_; clear S; intro a S
   refine lv S (rn_move (S.tm rfl)) rfl ?_; clear S; intro a S
   obtain ⟨b1, o1, hm1, hr1⟩ := rn_indexT (a := a) (x := .tmp 12) (y := .tmp 13) (ty := 0) sl_26 hs_p_s (get_mid hd1 hi1) rfl (S.tm rfl) (S.tm rfl)
   refine lv S (hr1 _) rfl ?_; clear S; intro a S
   clear hr1
   refine lv S (rn_ldA Tryz.isAgg52 Tryz.sizeOf52 (off := o1) (o := 0) (part := [.string y1.Key, .int .i64 y1.Metres, .int .i64 y1.Stroke, .int .i64 y1.Course, .int .i64 y1.Legs, .int .i64 y1.Sex, .int .i64 y1.Young, .int .i64 y1.Old]) rfl rfl (S.tm rfl) (hm1.at S.emb0)) rfl ?_; clear S; intro a S
   refine l_enter S (fun _ => run_callV (cap := [.pointer (some ⟨b_p_f_0, 0, none⟩)]) (S.tm rfl) (vs := [.agg (GRace.enc y1).toArray]) ⟨(S.tm rfl), trivial⟩ Tryz.call59) (swimmer_raceOf_c1_ok _ y1 b_p_f_0 p_f_0 (S.le_arg nil_sub _ _ hb_b_p_f_0) _ rfl) rfl ?_; clear S; intro v1 a w3 hv1 hk1 hn1 S
   subst hv1
   refine l_done ?_
   replace S := S.nk [] [(0, v_p_s), (1, .func (.func 59) #[] #[.pointer (some ⟨b_p_f_0, 0, none⟩)]), (5, .int .i64 (i1 : Int)), (7, .int .i64 (p_s.length : Int)), (8, .int .i64 (i1 : Int)), (16, .bool (swimmer_raceOf_c1 y1 p_f_0))] [] rfl ⟨rfl, rfl, rfl, rfl, rfl, rfl, trivial⟩
   refine then_n ?_
   refine f_cond (S.tm rfl) (fun hb1 => ?_) (fun hb1 => ?_)
   ·replace h := iteT h hb1
    refine f_seq ?_
    refine f_region ?_
    refine lv S (rn_move (S.tm rfl)) rfl ?_; clear S; intro a S
    refine lv S (rn_assign (S.tm rfl)) rfl ?_; clear S; intro a S
    refine l_done ?_
    replace S := S.nk [] [(4, .int .i64 (i1 : Int))] [] rfl ⟨rfl, trivial⟩
    refine then_n ?_
    refine wp_ret ?_
    refine blk_r ?_
    refine then_r ?_
    refine then_r ?_
    refine blk_r ?_
    refine then_r ?_
    refine then_r ?_
    subst h
    exact f_ret S Tryz.results58 rfl rfl
   ·replace h := iteF h hb1
    refine wp_skip ?_
    refine blk_n ?_
    refine then_n ?_
    refine f_region ?_
    refine lv S (rn_add (S.tm rfl) rfl) rfl ?_; clear S; intro a S
    refine lv S (rn_move (S.tm rfl)) rfl ?_; clear S; intro a S
    refine l_done ?_
    replace S := S.nk [] [(0, v_p_s), (1, .func (.func 59) #[] #[.pointer (some ⟨b_p_f_0, 0, none⟩)]), (7, .int .i64 (p_s.length : Int)), (8, .int .i64 (W ((i1 : Int) + 1)))] [] rfl ⟨rfl, rfl, rfl, rfl, trivial⟩
    refine then_n ?_
    exact ⟨ys1, ⟨i1 + 1, ⟨_, (hd1).trans (List.append_cons _ _ _), by simp [hi1]⟩, h, S.nf [] rfl ⟨rfl, rfl, rfl, (congrArg (fun z => some (Value.int .i64 z)) (rng_next hd1 hi1 (slc_max hs_p_s))), trivial⟩⟩, Nat.lt_succ_self _⟩
 clear S h; rintro a w2 ⟨h, S⟩; rw [hj1] at h; clear hj1 j1
 refine then_n ?_
 refine f_seq ?_
 refine f_region ?_
 refine lv S (rn_assign rfl) rfl ?_; clear S; intro a S
 refine l_done ?_
 replace S := S.nk [] [(4, .int .i64 (-1))] [] rfl ⟨rfl, trivial⟩
 refine then_n ?_
 refine wp_ret ?_
 subst h
 exact f_ret S Tryz.results58 rfl rfl
theorem swimmer_raceOf_ok (w : World) (v_p_r : Value) (p_r : List GRace) (hs_p_r : Slc (view w []) 8 v_p_r (p_r.map GRace.enc)) (p_key : ByteArray) (r : GRace × Bool) (h : swimmer_raceOf p_r p_key = some r) :
    Calls Tryz.prog 32 [v_p_r, .string p_key].toArray w (Ret w [] fun _ v _ => v = .tuple #[.agg (GRace.enc r.1).toArray, .bool r.2]) := by
 refine f_enter [] [] Tryz.func32 rfl Tryz.ntmps32 rfl (by simp) (by simp [fps]) (by simp [fps]) fun a S => ?_
 unfold swimmer_raceOf at h
 replace S := S.nk [] [(0, v_p_r), (1, .string p_key)] [] rfl ⟨rfl, rfl, trivial⟩
 refine f_seq ?_
 refine f_region ?_
 refine l_box S (S.tm rfl) (cs := [.string p_key]) rfl rfl ?_; clear S; intro a w1 b1 hz1 hk1 S
 refine l_alloc S Tryz.zeroValue52 (cs := [.string k_empty, .int .i64 0, .int .i64 0, .int .i64 0, .int .i64 0, .int .i64 0, .int .i64 0, .int .i64 0]) rfl rfl ?_; clear S; intro a w2 b2 hz2 hk2 S
 refine lv S (rn_assign rfl) rfl ?_; clear S; intro a S
 refine l_done ?_
 replace S := S.nk [.blk b2 [.string k_empty, .int .i64 0, .int .i64 0, .int .i64 0, .int .i64 0, .int .i64 0, .int .i64 0, .int .i64 0] 52, .blk b1 [.string p_key] 9] [(0, v_p_r), (3, .pointer (some ⟨b1, 0, none⟩)), (4, .pointer (some ⟨b2, 0, none⟩))] [true, true] rfl ⟨rfl, rfl, rfl, trivial⟩
 refine then_n ?_
 refine f_seq ?_
 refine f_region ?_
 refine lv S (rn_move (S.tm rfl)) rfl ?_; clear S; intro a S
 refine lv S (rn_makeFunc (us := #[]) (xs := [].toArray) (ys := [.tmp 3].toArray) (by simp) (evA ⟨(S.tm rfl), trivial⟩ (vs := [.pointer (some ⟨b1, 0, none⟩)]))) rfl ?_; clear S; intro a S
 refine l_enter S (fun _ => run_call (vs := [v_p_r, .func (.func 59) #[] #[.pointer (some ⟨b1, 0, none⟩)]]) ⟨(S.tm rfl), (S.tm rfl), trivial⟩ Tryz.call58) (slices_IndexFunc_Race_swimmer_raceOf_c1_ok _ v_p_r p_r (hs_p_r.mono (S.le_arg nil_sub)) b1 p_key (S.blk_view (i := 1) rfl ((ne_nil (e' := .blk b1 [.string p_key] 9)) _ rfl)) _ rfl) rfl ?_; clear S; intro v1 a w3 hv1 hk3 hn1 S
 subst hv1
 refine lv S (rn_assign (S.tm rfl)) rfl ?_; clear S; intro a S
 refine l_done ?_
 replace S := S.nk [.blk b2 [.string k_empty, .int .i64 0, .int .i64 0, .int .i64 0, .int .i64 0, .int .i64 0, .int .i64 0, .int .i64 0] 52] [(0, v_p_r), (4, .pointer (some ⟨b2, 0, none⟩)), (6, .int .i64 (slices_IndexFunc_Race_swimmer_raceOf_c1 p_r p_key))] [true, false] rfl ⟨rfl, rfl, rfl, trivial⟩
 refine then_n ?_
 refine f_seq ?_
 refine f_seq ?_
 refine f_region ?_
 refine lv S (rn_move (S.tm rfl)) rfl ?_; clear S; intro a S
 refine lv S (rn_lss (S.tm rfl) rfl) rfl ?_; clear S; intro a S
 refine l_done ?_
 replace S := S.nk [.blk b2 [.string k_empty, .int .i64 0, .int .i64 0, .int .i64 0, .int .i64 0, .int .i64 0, .int .i64 0, .int .i64 0] 52] [(0, v_p_r), (4, .pointer (some ⟨b2, 0, none⟩)), (6, .int .i64 (slices_IndexFunc_Race_swimmer_raceOf_c1 p_r p_key)), (11, .bool (decide ((slices_IndexFunc_Race_swimmer_raceOf_c1 p_r p_key) < 0)))] [true] rfl ⟨rfl, rfl, rfl, rfl, trivial⟩
 refine then_n ?_
 refine f_cond (S.tm rfl) (fun hb1 => ?_) (fun hb1 => ?_)
 ·replace h := iteT h hb1
  refine f_seq ?_
  refine f_region ?_
  refine lv S (rn_bld bt_52 (pv := []) trivial (cs := [.string k_empty, .int .i64 0, .int .i64 0, .int .i64 0, .int .i64 0, .int .i64 0, .int .i64 0, .int .i64 0]) (by kernel_rfl)) rfl ?_; clear S; intro a S
  refine l_store S (S.tm rfl) (S.tm rfl) (i := 0) (off := 0) rfl Tryz.sizeOf52 (vs := [.string k_empty, .int .i64 0, .int .i64 0, .int .i64 0, .int .i64 0, .int .i64 0, .int .i64 0, .int .i64 0]) rfl rfl rfl rfl ?_; clear S; intro w4 hk4 S
  refine lv S (rn_assign rfl) rfl ?_; clear S; intro a S
  refine l_done ?_
  replace S := S.nk [.blk b2 [.string k_empty, .int .i64 0, .int .i64 0, .int .i64 0, .int .i64 0, .int .i64 0, .int .i64 0, .int .i64 0] 52] [(4, .pointer (some ⟨b2, 0, none⟩)), (5, .bool false)] [true] rfl ⟨rfl, rfl, trivial⟩
  refine then_n ?_
  refine wp_ret ?_
  refine then_r ?_
  obtain rfl := Option.some.inj h
  exact f_retG S (rs := [.cell 4 52, .tmp 5]) (vs := [.agg #[.string k_empty, .int .i64 0, .int .i64 0, .int .i64 0, .int .i64 0, .int .i64 0, .int .i64 0, .int .i64 0], .bool false]) Tryz.results32 ⟨(res_cell (off := 0) S rfl Tryz.isAgg52 Tryz.sizeOf52 rfl (S.cellsAt (i := 0) rfl)), (res_tmp S rfl), trivial⟩ rfl rfl
 ·replace h := iteF h hb1
  refine wp_skip ?_
  refine then_n ?_
  refine f_seq ?_
  refine f_region ?_
  refine lv S (rn_move (S.tm rfl)) rfl ?_; clear S; intro a S
  refine lv S (rn_move (S.tm rfl)) rfl ?_; clear S; intro a S
  obtain ⟨hc1, h⟩ := chkE h
  obtain ⟨b3, o1, hm1, hr1⟩ := rn_indexT (a := a) (x := .tmp 13) (y := .tmp 14) (ty := 0) sl_26 hs_p_r (inB_get hc1).1 (inB_get hc1).2 (S.tm rfl) (S.tm rfl)
  refine lv S (hr1 _) rfl ?_; clear S; intro a S
  clear hr1
  refine lv S (rn_ldA Tryz.isAgg52 Tryz.sizeOf52 (off := o1) (o := 0) (part := [.string ((nth p_r (slices_IndexFunc_Race_swimmer_raceOf_c1 p_r p_key)).Key), .int .i64 ((nth p_r (slices_IndexFunc_Race_swimmer_raceOf_c1 p_r p_key)).Metres), .int .i64 ((nth p_r (slices_IndexFunc_Race_swimmer_raceOf_c1 p_r p_key)).Stroke), .int .i64 ((nth p_r (slices_IndexFunc_Race_swimmer_raceOf_c1 p_r p_key)).Course), .int .i64 ((nth p_r (slices_IndexFunc_Race_swimmer_raceOf_c1 p_r p_key)).Legs), .int .i64 ((nth p_r (slices_IndexFunc_Race_swimmer_raceOf_c1 p_r p_key)).Sex), .int .i64 ((nth p_r (slices_IndexFunc_Race_swimmer_raceOf_c1 p_r p_key)).Young), .int .i64 ((nth p_r (slices_IndexFunc_Race_swimmer_raceOf_c1 p_r p_key)).Old)]) rfl rfl (S.tm rfl) (hm1.at S.emb0)) rfl ?_; clear S; intro a S
  refine l_store S (S.tm rfl) (S.tm rfl) (i := 0) (off := 0) rfl Tryz.sizeOf52 (vs := [.string ((nth p_r (slices_IndexFunc_Race_swimmer_raceOf_c1 p_r p_key)).Key), .int .i64 ((nth p_r (slices_IndexFunc_Race_swimmer_raceOf_c1 p_r p_key)).Metres), .int .i64 ((nth p_r (slices_IndexFunc_Race_swimmer_raceOf_c1 p_r p_key)).Stroke), .int .i64 ((nth p_r (slices_IndexFunc_Race_swimmer_raceOf_c1 p_r p_key)).Course), .int .i64 ((nth p_r (slices_IndexFunc_Race_swimmer_raceOf_c1 p_r p_key)).Legs), .int .i64 ((nth p_r (slices_IndexFunc_Race_swimmer_raceOf_c1 p_r p_key)).Sex), .int .i64 ((nth p_r (slices_IndexFunc_Race_swimmer_raceOf_c1 p_r p_key)).Young), .int .i64 ((nth p_r (slices_IndexFunc_Race_swimmer_raceOf_c1 p_r p_key)).Old)]) rfl rfl rfl rfl ?_; clear S; intro w5 hk5 S
  refine lv S (rn_assign rfl) rfl ?_; clear S; intro a S
  refine l_done ?_
  replace S := S.nk [.blk b2 [.string ((nth p_r (slices_IndexFunc_Race_swimmer_raceOf_c1 p_r p_key)).Key), .int .i64 ((nth p_r (slices_IndexFunc_Race_swimmer_raceOf_c1 p_r p_key)).Metres), .int .i64 ((nth p_r (slices_IndexFunc_Race_swimmer_raceOf_c1 p_r p_key)).Stroke), .int .i64 ((nth p_r (slices_IndexFunc_Race_swimmer_raceOf_c1 p_r p_key)).Course), .int .i64 ((nth p_r (slices_IndexFunc_Race_swimmer_raceOf_c1 p_r p_key)).Legs), .int .i64 ((nth p_r (slices_IndexFunc_Race_swimmer_raceOf_c1 p_r p_key)).Sex), .int .i64 ((nth p_r (slices_IndexFunc_Race_swimmer_raceOf_c1 p_r p_key)).Young), .int .i64 ((nth p_r (slices_IndexFunc_Race_swimmer_raceOf_c1 p_r p_key)).Old)] 52] [(4, .pointer (some ⟨b2, 0, none⟩)), (5, .bool true)] [true] rfl ⟨rfl, rfl, trivial⟩
  refine then_n ?_
  refine wp_ret ?_
  obtain rfl := Option.some.inj h
  exact f_retG S (rs := [.cell 4 52, .tmp 5]) (vs := [.agg #[.string ((nth p_r (slices_IndexFunc_Race_swimmer_raceOf_c1 p_r p_key)).Key), .int .i64 ((nth p_r (slices_IndexFunc_Race_swimmer_raceOf_c1 p_r p_key)).Metres), .int .i64 ((nth p_r (slices_IndexFunc_Race_swimmer_raceOf_c1 p_r p_key)).Stroke), .int .i64 ((nth p_r (slices_IndexFunc_Race_swimmer_raceOf_c1 p_r p_key)).Course), .int .i64 ((nth p_r (slices_IndexFunc_Race_swimmer_raceOf_c1 p_r p_key)).Legs), .int .i64 ((nth p_r (slices_IndexFunc_Race_swimmer_raceOf_c1 p_r p_key)).Sex), .int .i64 ((nth p_r (slices_IndexFunc_Race_swimmer_raceOf_c1 p_r p_key)).Young), .int .i64 ((nth p_r (slices_IndexFunc_Race_swimmer_raceOf_c1 p_r p_key)).Old)], .bool true]) Tryz.results32 ⟨(res_cell (off := 0) S rfl Tryz.isAgg52 Tryz.sizeOf52 rfl (S.cellsAt (i := 0) rfl)), (res_tmp S rfl), trivial⟩ rfl rfl
theorem swimmer_swimmerOf_c1_ok (w : World) (p_x : GSwimmer) (b_p_a1 : Nat) (p_a1 : ByteArray) (hb_b_p_a1 : view w [] b_p_a1 = some (.cells [.string p_a1].toArray 9 (0, 0))) (b_p_a2 : Nat) (p_a2 : Int) (hb_b_p_a2 : view w [] b_p_a2 = some (.cells [.int .i64 p_a2].toArray 3 (0, 0))) (r : Bool) (h : swimmer_swimmerOf_c1 p_x p_a1 p_a2 = r) :
    Calls Tryz.prog 61 [.agg (GSwimmer.enc p_x).toArray, .pointer (some ⟨b_p_a1, 0, none⟩), .pointer (some ⟨b_p_a2, 0, none⟩)].toArray w (Ret w [] fun _ v _ => v = .bool r) := by
 refine f_enter [] [] Tryz.func61 rfl Tryz.ntmps61 rfl (by simp) (by simp [fps]) (by simp [fps]) fun a S => ?_
 unfold swimmer_swimmerOf_c1 at h
 replace S := S.nk [] [(0, .agg (GSwimmer.enc p_x).toArray), (1, .pointer (some ⟨b_p_a1, 0, none⟩)), (2, .pointer (some ⟨b_p_a2, 0, none⟩))] [] rfl ⟨rfl, rfl, rfl, trivial⟩
 refine f_seq ?_
 refine f_region ?_
 refine l_box S (S.tm rfl) (cs := [.string p_x.Key, .int .i64 p_x.Sex, .int .i64 p_x.Born]) rfl rfl ?_; clear S; intro a w1 b1 hz1 hk1 S
 refine lv S (rn_assign rfl) rfl ?_; clear S; intro a S
 refine l_done ?_
 replace S := S.nk [.blk b1 [.string p_x.Key, .int .i64 p_x.Sex, .int .i64 p_x.Born] 56] [(1, .pointer (some ⟨b_p_a1, 0, none⟩)), (2, .pointer (some ⟨b_p_a2, 0, none⟩)), (3, .pointer (some ⟨b1, 0, none⟩))] [true] rfl ⟨rfl, rfl, rfl, trivial⟩
 refine then_n ?_
 refine f_seq ?_
 refine f_region ?_
 refine lv S (rn_fld fa_56_0 (S.tm rfl)) rfl ?_; clear S; intro a S
 refine lv S (rn_load Tryz.isAgg9 (S.tm rfl) (S.cell (i := 0) rfl rfl)) rfl ?_; clear S; intro a S
 refine lv S (rn_ld Tryz.isAgg9 (off := 0) (o := 0) (S.tm rfl) ((mem_blk hb_b_p_a1).at S.emb0) rfl) rfl ?_; clear S; intro a S
 refine lv S (rn_seql (S.tm rfl) (S.tm rfl)) rfl ?_; clear S; intro a S
 refine lv S (rn_move (S.tm rfl)) rfl ?_; clear S; intro a S
 refine f_cutm 5 (fun a w' => Keep [] w1 w' ∧ Sx w [] nov [.blk b1 [.string p_x.Key, .int .i64 p_x.Sex, .int .i64 p_x.Born] 56] [(14, .bool ((decide (p_x.Key = p_a1)) && (decide (p_x.Born ≤ p_a2))))] 15 a w') ?_ ?_
 ·rcases Bool.eq_false_or_eq_true (decide (p_x.Key = p_a1)) with hb1 | hb1
  ·refine l_want S rfl rfl rfl hb1 ?_
   refine lv S (rn_fld fa_56_2 (S.tm rfl)) rfl ?_; clear S; intro a S
   refine l_want S rfl rfl rfl hb1 ?_
   refine lv S (rn_load Tryz.isAgg3 (S.tm rfl) (S.cell (i := 0) rfl rfl)) rfl ?_; clear S; intro a S
   refine l_want S rfl rfl rfl hb1 ?_
   refine lv S (rn_ld Tryz.isAgg3 (off := 0) (o := 0) (S.tm rfl) ((mem_blk hb_b_p_a2).at S.emb0) rfl) rfl ?_; clear S; intro a S
   refine l_want S rfl rfl rfl hb1 ?_
   refine lv S (rn_leq (S.tm rfl) (S.tm rfl)) rfl ?_; clear S; intro a S
   refine lv S (rn_and_t hb1 (S.tm rfl) (S.tm rfl)) rfl ?_; clear S; intro a S
   refine l_done ?_
   refine then_n ?_
   exact ⟨Keep.refl _ _, S.nf [true] rfl ⟨rfl, trivial⟩⟩
  ·refine l_skip S rfl rfl rfl (neq_f hb1) rfl ?_ rfl; clear S; intro a S
   refine l_skip S rfl rfl rfl (neq_f hb1) rfl ?_ rfl; clear S; intro a S
   refine l_skip S rfl rfl rfl (neq_f hb1) rfl ?_ rfl; clear S; intro a S
   refine l_skip S rfl rfl rfl (neq_f hb1) rfl ?_ rfl; clear S; intro a S
   refine lv S (rn_and_f (decide (p_x.Born ≤ p_a2)) hb1 (S.tm rfl) rfl) rfl ?_; clear S; intro a S
   refine l_done ?_
   refine then_n ?_
   exact ⟨Keep.refl _ _, S.nf [true] rfl ⟨rfl, trivial⟩⟩
 clear S; rintro a w2 ⟨hk2, S⟩
 refine lv S (rn_assign (S.tm rfl)) rfl ?_; clear S; intro a S
 refine l_done ?_
 replace S := S.nk [] [(4, .bool ((decide (p_x.Key = p_a1)) && (decide (p_x.Born ≤ p_a2))))] [false] rfl ⟨rfl, trivial⟩
 refine then_n ?_
 refine wp_ret ?_
 subst h
 exact f_ret S Tryz.results61 rfl rfl
theorem slices_IndexFunc_Swimmer_swimmer_swimmerOf_c1_ok (w : World) (v_p_s : Value) (p_s : List GSwimmer) (hs_p_s : Slc (view w []) 3 v_p_s (p_s.map GSwimmer.enc)) (b_p_f_0 : Nat) (p_f_0 : ByteArray) (hb_b_p_f_0 : view w [] b_p_f_0 = some (.cells [.string p_f_0].toArray 9 (0, 0))) (b_p_f_1 : Nat) (p_f_1 : Int) (hb_b_p_f_1 : view w [] b_p_f_1 = some (.cells [.int .i64 p_f_1].toArray 3 (0, 0))) (r : Int) (h : slices_IndexFunc_Swimmer_swimmer_swimmerOf_c1 p_s p_f_0 p_f_1 = r) :
    Calls Tryz.prog 60 [v_p_s, .func (.func 61) #[] #[.pointer (some ⟨b_p_f_0, 0, none⟩), .pointer (some ⟨b_p_f_1, 0, none⟩)]].toArray w (Ret w [] fun _ v _ => v = .int .i64 r) := by
 refine f_enter [] [] Tryz.func60 rfl Tryz.ntmps60 rfl (by simp) (by simp [fps]) (by simp [fps]) fun a S => ?_
 unfold slices_IndexFunc_Swimmer_swimmer_swimmerOf_c1 at h
 replace S := S.nk [] [(0, v_p_s), (1, .func (.func 61) #[] #[.pointer (some ⟨b_p_f_0, 0, none⟩), .pointer (some ⟨b_p_f_1, 0, none⟩)])] [] rfl ⟨rfl, rfl, trivial⟩
 refine f_seq ?_
 refine f_region ?_
 refine lv S (rn_assign rfl) rfl ?_; clear S; intro a S
 refine l_done ?_
 replace S := S.nk [] [(0, v_p_s), (1, .func (.func 61) #[] #[.pointer (some ⟨b_p_f_0, 0, none⟩), .pointer (some ⟨b_p_f_1, 0, none⟩)])] [] rfl ⟨rfl, rfl, trivial⟩
 refine then_n ?_
 refine f_seq ?_
 refine f_seq ?_
 refine f_region ?_
 refine lv S (rn_move (S.tm rfl)) rfl ?_; clear S; intro a S
 refine lv S (rn_lenT sl_28 (S.tm rfl) (slc_len hs_p_s)) rfl ?_; clear S; intro a S
 refine lv S (rn_move rfl) rfl ?_; clear S; intro a S
 refine l_done ?_
 replace S := S.nk [] [(0, v_p_s), (1, .func (.func 61) #[] #[.pointer (some ⟨b_p_f_0, 0, none⟩), .pointer (some ⟨b_p_f_1, 0, none⟩)]), (7, .int .i64 (p_s.length : Int)), (8, .int .i64 0)] [] rfl ⟨rfl, rfl, rfl, rfl, trivial⟩
 refine then_n ?_
 obtain ⟨j1, hj1, h⟩ := joinE h
 refine f_join (fun a w' => j1 = r ∧ Sx w [] nov [] [] 19 a w') ?_ ?_
 ·refine wp_block ?_
  refine f_loop (fun (ys1 : List GSwimmer) a w' => ∃ i1 : Nat, (∃ dn, p_s = dn ++ ys1 ∧ dn.length = i1) ∧ slices_IndexFunc_Swimmer_swimmer_swimmerOf_c1_l1 p_f_0 p_f_1 j1 ys1 i1 = r ∧ Sx w [] nov [] [(0, v_p_s), (1, .func (.func 61) #[] #[.pointer (some ⟨b_p_f_0, 0, none⟩), .pointer (some ⟨b_p_f_1, 0, none⟩)]), (7, .int .i64 (p_s.length : Int)), (8, .int .i64 (i1 : Int))] 19 a w') List.length p_s ⟨0, ⟨[], rfl, rfl⟩, h, S.nf [] rfl ⟨rfl, rfl, rfl, rfl, trivial⟩⟩ ?_
  clear S h; rintro ys1 a w1 ⟨i1, ⟨dn, hd1, hi1⟩, h, S⟩
  cases ys1 with
  | nil =>
   rw [slices_IndexFunc_Swimmer_swimmer_swimmerOf_c1_l1.eq_1] at h
   refine f_seq ?_
   refine f_region ?_
   refine lv S (rn_lss (S.tm rfl) (S.tm rfl)) rfl ?_; clear S; intro a S
   refine l_done ?_
   replace S := S.nk [] [(0, v_p_s), (1, .func (.func 61) #[] #[.pointer (some ⟨b_p_f_0, 0, none⟩), .pointer (some ⟨b_p_f_1, 0, none⟩)]), (7, .int .i64 (p_s.length : Int)), (8, .int .i64 (i1 : Int)), (9, .bool (decide ((i1 : Int) < (p_s.length : Int))))] [] rfl ⟨rfl, rfl, rfl, rfl, rfl, trivial⟩
   refine then_n ?_
   refine f_seq ?_
   refine wp_cond_false ((S.tm rfl).trans (congrArg Value.bool (rng_nil hd1 hi1))) ?_
   refine wp_exit ?_
   refine then_x ?_
   refine then_x ?_
   refine x_same ?_
   refine then_n ?_
   exact ⟨h, S.nf [] rfl trivial⟩
  | cons y1 ys1 =>
   rw [slices_IndexFunc_Swimmer_swimmer_swimmerOf_c1_l1.eq_2] at h
   refine f_seq ?_
   refine f_region ?_
   refine lv S (rn_lss (S.tm rfl) (S.tm rfl)) rfl ?_; clear S; intro a S
   refine l_done ?_
   replace S := S.nk [] [(0, v_p_s), (1, .func (.func 61) #[] #[.pointer (some ⟨b_p_f_0, 0, none⟩), .pointer (some ⟨b_p_f_1, 0, none⟩)]), (7, .int .i64 (p_s.length : Int)), (8, .int .i64 (i1 : Int)), (9, .bool (decide ((i1 : Int) < (p_s.length : Int))))] [] rfl ⟨rfl, rfl, rfl, rfl, rfl, trivial⟩
   refine then_n ?_
   refine f_seq ?_
   refine wp_cond_true ((S.tm rfl).trans (congrArg Value.bool (rng_cons hd1 hi1))) ?_
   refine wp_skip ?_
   refine then_n ?_
   refine f_seq ?_
   refine wp_block ?_
   refine f_seq ?_
   refine f_region ?_
   refine lv S (rn_move (S.tm rfl)) rfl ?_; clear S; intro a S
   refine lv S (rn_assign (S.tm rfl)) rfl ?_; clear S; intro a S
   refine l_done ?_
   replace S := S.nk [] [(0, v_p_s), (1, .func (.func 61) #[] #[.pointer (some ⟨b_p_f_0, 0, none⟩), .pointer (some ⟨b_p_f_1, 0, none⟩)]), (5, .int .i64 (i1 : Int)), (7, .int .i64 (p_s.length : Int)), (8, .int .i64 (i1 : Int))] [] rfl ⟨rfl, rfl, rfl, rfl, rfl, trivial⟩
   refine then_n ?_
   refine f_seq ?_
   refine f_region ?_
   refine lv S (rn_move (S.tm rfl)) rfl ?_; clear S; intro a S
   refine lv S (rn_move (S.tm rfl)) rfl ?_; clear S; intro a S
   refine lv S (rn_move (S.tm rfl)) rfl ?_; clear S; intro a S
   obtain ⟨b1, o1, hm1, hr1⟩ := rn_indexT (a := a) (x := .tmp 12) (y := .tmp 13) (ty := 0) sl_28 hs_p_s (get_mid hd1 hi1) rfl (S.tm rfl) (S.tm rfl)
   refine lv S (hr1 _) rfl ?_; clear S; intro a S
   clear hr1
   refine lv S (rn_ldA Tryz.isAgg56 Tryz.sizeOf56 (off := o1) (o := 0) (part := [.string y1.Key, .int .i64 y1.Sex, .int .i64 y1.Born]) rfl rfl (S.tm rfl) (hm1.at S.emb0)) rfl ?_; clear S; intro a S
   refine l_enter S (fun _ => run_callV (cap := [.pointer (some ⟨b_p_f_0, 0, none⟩), .pointer (some ⟨b_p_f_1, 0, none⟩)]) (S.tm rfl) (vs := [.agg (GSwimmer.enc y1).toArray]) ⟨(S.tm rfl), trivial⟩ Tryz.call61) (swimmer_swimmerOf_c1_ok _ y1 b_p_f_0 p_f_0 (S.le_arg nil_sub _ _ hb_b_p_f_0) b_p_f_1 p_f_1 (S.le_arg nil_sub _ _ hb_b_p_f_1) _ rfl) rfl ?_; clear S; intro v1 a w3 hv1 hk1 hn1 S
   subst hv1
   refine l_done ?_
   replace S := S.nk [] [(0, v_p_s), (1, .func (.func 61) #[] #[.pointer (some ⟨b_p_f_0, 0, none⟩), .pointer (some ⟨b_p_f_1, 0, none⟩)]), (5, .int .i64 (i1 : Int)), (7, .int .i64 (p_s.length : Int)), (8, .int .i64 (i1 : Int)), (16, .bool (swimmer_swimmerOf_c1 y1 p_f_0 p_f_1))] [] rfl ⟨rfl, rfl, rfl, rfl, rfl, rfl, trivial⟩
   refine then_n ?_
   refine f_cond (S.tm rfl) (fun hb1 => ?_) (fun hb1 => ?_)
   ·replace h := iteT h hb1
    refine f_seq ?_
    refine f_region ?_
    refine lv S (rn_move (S.tm rfl)) rfl ?_; clear S; intro a S
    refine lv S (rn_assign (S.tm rfl)) rfl ?_; clear S; intro a S
    refine l_done ?_
    replace S := S.nk [] [(4, .int .i64 (i1 : Int))] [] rfl ⟨rfl, trivial⟩
    refine then_n ?_
    refine wp_ret ?_
    refine blk_r ?_
    refine then_r ?_
    refine then_r ?_
    refine blk_r ?_
    refine then_r ?_
    refine then_r ?_
    subst h
    exact f_ret S Tryz.results60 rfl rfl
   ·replace h := iteF h hb1
    refine wp_skip ?_
    refine blk_n ?_
    refine then_n ?_
    refine f_region ?_
    refine lv S (rn_add (S.tm rfl) rfl) rfl ?_; clear S; intro a S
    refine lv S (rn_move (S.tm rfl)) rfl ?_; clear S; intro a S
    refine l_done ?_
    replace S := S.nk [] [(0, v_p_s), (1, .func (.func 61) #[] #[.pointer (some ⟨b_p_f_0, 0, none⟩), .pointer (some ⟨b_p_f_1, 0, none⟩)]), (7, .int .i64 (p_s.length : Int)), (8, .int .i64 (W ((i1 : Int) + 1)))] [] rfl ⟨rfl, rfl, rfl, rfl, trivial⟩
    refine then_n ?_
    exact ⟨ys1, ⟨i1 + 1, ⟨_, (hd1).trans (List.append_cons _ _ _), by simp [hi1]⟩, h, S.nf [] rfl ⟨rfl, rfl, rfl, (congrArg (fun z => some (Value.int .i64 z)) (rng_next hd1 hi1 (slc_max hs_p_s))), trivial⟩⟩, Nat.lt_succ_self _⟩
 clear S h; rintro a w2 ⟨h, S⟩; rw [hj1] at h; clear hj1 j1
 refine then_n ?_
 refine f_seq ?_
 refine f_region ?_
 refine lv S (rn_assign rfl) rfl ?_; clear S; intro a S
 refine l_done ?_
 replace S := S.nk [] [(4, .int .i64 (-1))] [] rfl ⟨rfl, trivial⟩
 refine then_n ?_
 refine wp_ret ?_
 subst h
 exact f_ret S Tryz.results60 rfl rfl
theorem swimmer_swimmerOf_ok (w : World) (v_p_s : Value) (p_s : List GSwimmer) (hs_p_s : Slc (view w []) 3 v_p_s (p_s.map GSwimmer.enc)) (p_key : ByteArray) (p_day : Int) (r : GSwimmer × Bool) (h : swimmer_swimmerOf p_s p_key p_day = some r) :
    Calls Tryz.prog 33 [v_p_s, .string p_key, .int .i64 p_day].toArray w (Ret w [] fun _ v _ => v = .tuple #[.agg (GSwimmer.enc r.1).toArray, .bool r.2]) := by
 refine f_enter [] [] Tryz.func33 rfl Tryz.ntmps33 rfl (by simp) (by simp [fps]) (by simp [fps]) fun a S => ?_
 unfold swimmer_swimmerOf at h
 replace S := S.nk [] [(0, v_p_s), (1, .string p_key), (2, .int .i64 p_day)] [] rfl ⟨rfl, rfl, rfl, trivial⟩
 refine f_seq ?_
 refine f_region ?_
 refine l_box S (S.tm rfl) (cs := [.string p_key]) rfl rfl ?_; clear S; intro a w1 b1 hz1 hk1 S
 refine l_box S (S.tm rfl) (cs := [.int .i64 p_day]) rfl rfl ?_; clear S; intro a w2 b2 hz2 hk2 S
 refine l_alloc S Tryz.zeroValue56 (cs := [.string k_empty, .int .i64 0, .int .i64 0]) rfl rfl ?_; clear S; intro a w3 b3 hz3 hk3 S
 refine lv S (rn_assign rfl) rfl ?_; clear S; intro a S
 refine l_done ?_
 replace S := S.nk [.blk b3 [.string k_empty, .int .i64 0, .int .i64 0] 56, .blk b2 [.int .i64 p_day] 3, .blk b1 [.string p_key] 9] [(0, v_p_s), (4, .pointer (some ⟨b1, 0, none⟩)), (5, .pointer (some ⟨b2, 0, none⟩)), (6, .pointer (some ⟨b3, 0, none⟩))] [true, true, true] rfl ⟨rfl, rfl, rfl, rfl, trivial⟩
 refine then_n ?_
 refine f_seq ?_
 refine f_region ?_
 refine lv S (rn_move (S.tm rfl)) rfl ?_; clear S; intro a S
 refine lv S (rn_makeFunc (us := #[]) (xs := [].toArray) (ys := [.tmp 4, .tmp 5].toArray) (by simp) (evA ⟨(S.tm rfl), (S.tm rfl), trivial⟩ (vs := [.pointer (some ⟨b1, 0, none⟩), .pointer (some ⟨b2, 0, none⟩)]))) rfl ?_; clear S; intro a S
 refine l_enter S (fun _ => run_call (vs := [v_p_s, .func (.func 61) #[] #[.pointer (some ⟨b1, 0, none⟩), .pointer (some ⟨b2, 0, none⟩)]]) ⟨(S.tm rfl), (S.tm rfl), trivial⟩ Tryz.call60) (slices_IndexFunc_Swimmer_swimmer_swimmerOf_c1_ok _ v_p_s p_s (hs_p_s.mono (S.le_arg nil_sub)) b1 p_key (S.blk_view (i := 2) rfl ((ne_nil (e' := .blk b1 [.string p_key] 9)) _ rfl)) b2 p_day (S.blk_view (i := 1) rfl ((ne_nil (e' := .blk b2 [.int .i64 p_day] 3)) _ rfl)) _ rfl) rfl ?_; clear S; intro v1 a w4 hv1 hk4 hn1 S
 subst hv1
 refine lv S (rn_assign (S.tm rfl)) rfl ?_; clear S; intro a S
 refine l_done ?_
 replace S := S.nk [.blk b3 [.string k_empty, .int .i64 0, .int .i64 0] 56] [(0, v_p_s), (6, .pointer (some ⟨b3, 0, none⟩)), (8, .int .i64 (slices_IndexFunc_Swimmer_swimmer_swimmerOf_c1 p_s p_key p_day))] [true, false, false] rfl ⟨rfl, rfl, rfl, trivial⟩
 refine then_n ?_
 refine f_seq ?_
 refine f_seq ?_
 refine f_region ?_
 refine lv S (rn_move (S.tm rfl)) rfl ?_; clear S; intro a S
 refine lv S (rn_lss (S.tm rfl) rfl) rfl ?_; clear S; intro a S
 refine l_done ?_
 replace S := S.nk [.blk b3 [.string k_empty, .int .i64 0, .int .i64 0] 56] [(0, v_p_s), (6, .pointer (some ⟨b3, 0, none⟩)), (8, .int .i64 (slices_IndexFunc_Swimmer_swimmer_swimmerOf_c1 p_s p_key p_day)), (13, .bool (decide ((slices_IndexFunc_Swimmer_swimmer_swimmerOf_c1 p_s p_key p_day) < 0)))] [true] rfl ⟨rfl, rfl, rfl, rfl, trivial⟩
 refine then_n ?_
 refine f_cond (S.tm rfl) (fun hb1 => ?_) (fun hb1 => ?_)
 ·replace h := iteT h hb1
  refine f_seq ?_
  refine f_region ?_
  refine lv S (rn_bld bt_56 (pv := []) trivial (cs := [.string k_empty, .int .i64 0, .int .i64 0]) (by kernel_rfl)) rfl ?_; clear S; intro a S
  refine l_store S (S.tm rfl) (S.tm rfl) (i := 0) (off := 0) rfl Tryz.sizeOf56 (vs := [.string k_empty, .int .i64 0, .int .i64 0]) rfl rfl rfl rfl ?_; clear S; intro w5 hk5 S
  refine lv S (rn_assign rfl) rfl ?_; clear S; intro a S
  refine l_done ?_
  replace S := S.nk [.blk b3 [.string k_empty, .int .i64 0, .int .i64 0] 56] [(6, .pointer (some ⟨b3, 0, none⟩)), (7, .bool false)] [true] rfl ⟨rfl, rfl, trivial⟩
  refine then_n ?_
  refine wp_ret ?_
  refine then_r ?_
  obtain rfl := Option.some.inj h
  exact f_retG S (rs := [.cell 6 56, .tmp 7]) (vs := [.agg #[.string k_empty, .int .i64 0, .int .i64 0], .bool false]) Tryz.results33 ⟨(res_cell (off := 0) S rfl Tryz.isAgg56 Tryz.sizeOf56 rfl (S.cellsAt (i := 0) rfl)), (res_tmp S rfl), trivial⟩ rfl rfl
 ·replace h := iteF h hb1
  refine wp_skip ?_
  refine then_n ?_
  refine f_seq ?_
  refine f_region ?_
  refine lv S (rn_move (S.tm rfl)) rfl ?_; clear S; intro a S
  refine lv S (rn_move (S.tm rfl)) rfl ?_; clear S; intro a S
  obtain ⟨hc1, h⟩ := chkE h
  obtain ⟨b4, o1, hm1, hr1⟩ := rn_indexT (a := a) (x := .tmp 15) (y := .tmp 16) (ty := 0) sl_28 hs_p_s (inB_get hc1).1 (inB_get hc1).2 (S.tm rfl) (S.tm rfl)
  refine lv S (hr1 _) rfl ?_; clear S; intro a S
  clear hr1
  refine lv S (rn_ldA Tryz.isAgg56 Tryz.sizeOf56 (off := o1) (o := 0) (part := [.string ((nth p_s (slices_IndexFunc_Swimmer_swimmer_swimmerOf_c1 p_s p_key p_day)).Key), .int .i64 ((nth p_s (slices_IndexFunc_Swimmer_swimmer_swimmerOf_c1 p_s p_key p_day)).Sex), .int .i64 ((nth p_s (slices_IndexFunc_Swimmer_swimmer_swimmerOf_c1 p_s p_key p_day)).Born)]) rfl rfl (S.tm rfl) (hm1.at S.emb0)) rfl ?_; clear S; intro a S
  refine l_store S (S.tm rfl) (S.tm rfl) (i := 0) (off := 0) rfl Tryz.sizeOf56 (vs := [.string ((nth p_s (slices_IndexFunc_Swimmer_swimmer_swimmerOf_c1 p_s p_key p_day)).Key), .int .i64 ((nth p_s (slices_IndexFunc_Swimmer_swimmer_swimmerOf_c1 p_s p_key p_day)).Sex), .int .i64 ((nth p_s (slices_IndexFunc_Swimmer_swimmer_swimmerOf_c1 p_s p_key p_day)).Born)]) rfl rfl rfl rfl ?_; clear S; intro w6 hk6 S
  refine lv S (rn_assign rfl) rfl ?_; clear S; intro a S
  refine l_done ?_
  replace S := S.nk [.blk b3 [.string ((nth p_s (slices_IndexFunc_Swimmer_swimmer_swimmerOf_c1 p_s p_key p_day)).Key), .int .i64 ((nth p_s (slices_IndexFunc_Swimmer_swimmer_swimmerOf_c1 p_s p_key p_day)).Sex), .int .i64 ((nth p_s (slices_IndexFunc_Swimmer_swimmer_swimmerOf_c1 p_s p_key p_day)).Born)] 56] [(6, .pointer (some ⟨b3, 0, none⟩)), (7, .bool true)] [true] rfl ⟨rfl, rfl, trivial⟩
  refine then_n ?_
  refine wp_ret ?_
  obtain rfl := Option.some.inj h
  exact f_retG S (rs := [.cell 6 56, .tmp 7]) (vs := [.agg #[.string ((nth p_s (slices_IndexFunc_Swimmer_swimmer_swimmerOf_c1 p_s p_key p_day)).Key), .int .i64 ((nth p_s (slices_IndexFunc_Swimmer_swimmer_swimmerOf_c1 p_s p_key p_day)).Sex), .int .i64 ((nth p_s (slices_IndexFunc_Swimmer_swimmer_swimmerOf_c1 p_s p_key p_day)).Born)], .bool true]) Tryz.results33 ⟨(res_cell (off := 0) S rfl Tryz.isAgg56 Tryz.sizeOf56 rfl (S.cellsAt (i := 0) rfl)), (res_tmp S rfl), trivial⟩ rfl rfl
theorem swimmer_clubAt_ok (w : World) (v_p_l : Value) (p_l : List GMove) (hs_p_l : Slc (view w []) 3 v_p_l (p_l.map GMove.enc)) (p_who : ByteArray) (p_day : Int) (r : ByteArray) (h : swimmer_clubAt p_l p_who p_day = r) :
    Calls Tryz.prog 34 [v_p_l, .string p_who, .int .i64 p_day].toArray w (Ret w [] fun _ v _ => v = .string r) := by
 refine f_enter [] [] Tryz.func34 rfl Tryz.ntmps34 rfl (by simp) (by simp [fps]) (by simp [fps]) fun a S => ?_
 unfold swimmer_clubAt at h
 replace S := S.nk [] [(0, v_p_l), (1, .string p_who), (2, .int .i64 p_day)] [] rfl ⟨rfl, rfl, rfl, trivial⟩
 refine f_seq ?_
 refine f_region ?_
 refine lv S (rn_assign rfl) rfl ?_; clear S; intro a S
 refine l_done ?_
 replace S := S.nk [] [(0, v_p_l), (1, .string p_who), (2, .int .i64 p_day)] [] rfl ⟨rfl, rfl, rfl, trivial⟩
 refine then_n ?_
 refine f_seq ?_
 refine f_region ?_
 refine lv S (rn_assign rfl) rfl ?_; clear S; intro a S
 refine l_done ?_
 replace S := S.nk [] [(0, v_p_l), (1, .string p_who), (2, .int .i64 p_day), (7, .string k_empty)] [] rfl ⟨rfl, rfl, rfl, rfl, trivial⟩
 refine then_n ?_
 refine f_seq ?_
 refine f_seq ?_
 refine f_region ?_
 refine lv S (rn_move (S.tm rfl)) rfl ?_; clear S; intro a S
 refine lv S (rn_lenT sl_30 (S.tm rfl) (slc_len hs_p_l)) rfl ?_; clear S; intro a S
 refine lv S (rn_move rfl) rfl ?_; clear S; intro a S
 refine l_done ?_
 replace S := S.nk [] [(1, .string p_who), (2, .int .i64 p_day), (7, .string k_empty), (10, v_p_l), (11, .int .i64 (p_l.length : Int)), (12, .int .i64 0)] [] rfl ⟨rfl, rfl, rfl, rfl, rfl, rfl, trivial⟩
 refine then_n ?_
 obtain ⟨j1, hj1, h⟩ := joinE h
 refine f_join (fun a w' => ∃ x1 : ByteArray, j1 x1 = r ∧ Sx w [] nov [] [(7, .string x1)] 30 a w') ?_ ?_
 ·refine wp_block ?_
  refine f_loop (fun (ys1 : List GMove) a w' => ∃ i1 : Nat, ∃ x1 : ByteArray, (∃ dn, p_l = dn ++ ys1 ∧ dn.length = i1) ∧ swimmer_clubAt_l1 p_who p_day j1 ys1 i1 x1 = r ∧ Sx w [] nov [] [(1, .string p_who), (2, .int .i64 p_day), (7, .string x1), (10, v_p_l), (11, .int .i64 (p_l.length : Int)), (12, .int .i64 (i1 : Int))] 30 a w') List.length p_l ⟨0, k_empty, ⟨[], rfl, rfl⟩, h, S.nf [] rfl ⟨rfl, rfl, rfl, rfl, rfl, rfl, trivial⟩⟩ ?_
  clear S h; rintro ys1 a w1 ⟨i1, x1, ⟨dn, hd1, hi1⟩, h, S⟩
  cases ys1 with
  | nil =>
   rw [swimmer_clubAt_l1.eq_1] at h
   refine f_seq ?_
   refine f_region ?_
   refine lv S (rn_lss (S.tm rfl) (S.tm rfl)) rfl ?_; clear S; intro a S
   refine l_done ?_
   replace S := S.nk [] [(1, .string p_who), (2, .int .i64 p_day), (7, .string x1), (10, v_p_l), (11, .int .i64 (p_l.length : Int)), (12, .int .i64 (i1 : Int)), (13, .bool (decide ((i1 : Int) < (p_l.length : Int))))] [] rfl ⟨rfl, rfl, rfl, rfl, rfl, rfl, rfl, trivial⟩
   refine then_n ?_
   refine f_seq ?_
   refine wp_cond_false ((S.tm rfl).trans (congrArg Value.bool (rng_nil hd1 hi1))) ?_
   refine wp_exit ?_
   refine then_x ?_
   refine then_x ?_
   refine x_same ?_
   refine then_n ?_
   exact ⟨x1, h, S.nf [] rfl ⟨rfl, trivial⟩⟩
  | cons y1 ys1 =>
   rw [swimmer_clubAt_l1.eq_2] at h
   refine f_seq ?_
   refine f_region ?_
   refine lv S (rn_lss (S.tm rfl) (S.tm rfl)) rfl ?_; clear S; intro a S
   refine l_done ?_
   replace S := S.nk [] [(1, .string p_who), (2, .int .i64 p_day), (7, .string x1), (10, v_p_l), (11, .int .i64 (p_l.length : Int)), (12, .int .i64 (i1 : Int)), (13, .bool (decide ((i1 : Int) < (p_l.length : Int))))] [] rfl ⟨rfl, rfl, rfl, rfl, rfl, rfl, rfl, trivial⟩
   refine then_n ?_
   refine f_seq ?_
   refine wp_cond_true ((S.tm rfl).trans (congrArg Value.bool (rng_cons hd1 hi1))) ?_
   refine wp_skip ?_
   refine then_n ?_
   refine f_seq ?_
   obtain ⟨j2, hj2, h⟩ := joinE h
   refine f_join (fun a w' => ∃ x2 : ByteArray, j2 x2 = r ∧ Sx w [] nov [] [(1, .string p_who), (2, .int .i64 p_day), (7, .string x2), (10, v_p_l), (11, .int .i64 (p_l.length : Int)), (12, .int .i64 (i1 : Int))] 30 a w') ?_ ?_
   ·refine wp_block ?_
    refine f_seq ?_
    refine f_region ?_
    obtain ⟨b1, o1, hm1, hr1⟩ := rn_indexT (a := a) (x := .tmp 10) (y := .tmp 12) (ty := 0) sl_30 hs_p_l (get_mid hd1 hi1) rfl (S.tm rfl) (S.tm rfl)
    refine lv S (hr1 _) rfl ?_; clear S; intro a S
    clear hr1
    refine lv S (rn_ldA Tryz.isAgg58 Tryz.sizeOf58 (off := o1) (o := 0) (part := [.string y1.Who, .string y1.Club, .int .i64 y1.Day]) rfl rfl (S.tm rfl) (hm1.at S.emb0)) rfl ?_; clear S; intro a S
    refine l_alloc S Tryz.zeroValue58 (cs := [.string k_empty, .string k_empty, .int .i64 0]) rfl rfl ?_; clear S; intro a w4 b2 hz1 hk1 S
    refine l_store S (S.tm rfl) (S.tm rfl) (i := 0) (off := 0) rfl Tryz.sizeOf58 (vs := [.string y1.Who, .string y1.Club, .int .i64 y1.Day]) rfl rfl rfl rfl ?_; clear S; intro w5 hk2 S
    refine l_done ?_
    replace S := S.nk [.blk b2 [.string y1.Who, .string y1.Club, .int .i64 y1.Day] 58] [(1, .string p_who), (2, .int .i64 p_day), (7, .string x1), (9, .pointer (some ⟨b2, 0, none⟩)), (10, v_p_l), (11, .int .i64 (p_l.length : Int)), (12, .int .i64 (i1 : Int))] [true] rfl ⟨rfl, rfl, rfl, rfl, rfl, rfl, rfl, trivial⟩
    refine then_n ?_
    refine f_seq ?_
    refine f_region ?_
    refine lv S (rn_fld fa_58_0 (S.tm rfl)) rfl ?_; clear S; intro a S
    refine lv S (rn_load Tryz.isAgg9 (S.tm rfl) (S.cell (i := 0) rfl rfl)) rfl ?_; clear S; intro a S
    refine lv S (rn_move (S.tm rfl)) rfl ?_; clear S; intro a S
    refine lv S (rn_seql (S.tm rfl) (S.tm rfl)) rfl ?_; clear S; intro a S
    refine lv S (rn_move (S.tm rfl)) rfl ?_; clear S; intro a S
    refine f_cutm 5 (fun a w' => Keep [] w5 w' ∧ Sx w [] nov [.blk b2 [.string y1.Who, .string y1.Club, .int .i64 y1.Day] 58] [(1, .string p_who), (2, .int .i64 p_day), (7, .string x1), (9, .pointer (some ⟨b2, 0, none⟩)), (10, v_p_l), (11, .int .i64 (p_l.length : Int)), (12, .int .i64 (i1 : Int)), (25, .bool ((decide (y1.Who = p_who)) && (decide (y1.Day ≤ p_day))))] 30 a w') ?_ ?_
    ·rcases Bool.eq_false_or_eq_true (decide (y1.Who = p_who)) with hb1 | hb1
     ·refine l_want S rfl rfl rfl hb1 ?_
      refine lv S (rn_fld fa_58_2 (S.tm rfl)) rfl ?_; clear S; intro a S
      refine l_want S rfl rfl rfl hb1 ?_
      refine lv S (rn_load Tryz.isAgg3 (S.tm rfl) (S.cell (i := 0) rfl rfl)) rfl ?_; clear S; intro a S
      refine l_want S rfl rfl rfl hb1 ?_
      refine lv S (rn_move (S.tm rfl)) rfl ?_; clear S; intro a S
      refine l_want S rfl rfl rfl hb1 ?_
      refine lv S (rn_leq (S.tm rfl) (S.tm rfl)) rfl ?_; clear S; intro a S
      refine lv S (rn_and_t hb1 (S.tm rfl) (S.tm rfl)) rfl ?_; clear S; intro a S
      refine l_done ?_
      refine then_n ?_
      exact ⟨Keep.refl _ _, S.nf [true] rfl ⟨rfl, rfl, rfl, rfl, rfl, rfl, rfl, rfl, trivial⟩⟩
     ·refine l_skip S rfl rfl rfl (neq_f hb1) rfl ?_ rfl; clear S; intro a S
      refine l_skip S rfl rfl rfl (neq_f hb1) rfl ?_ rfl; clear S; intro a S
      refine l_skip S rfl rfl rfl (neq_f hb1) rfl ?_ rfl; clear S; intro a S
      refine l_skip S rfl rfl rfl (neq_f hb1) rfl ?_ rfl; clear S; intro a S
      refine lv S (rn_and_f (decide (y1.Day ≤ p_day)) hb1 (S.tm rfl) rfl) rfl ?_; clear S; intro a S
      refine l_done ?_
      refine then_n ?_
      exact ⟨Keep.refl _ _, S.nf [true] rfl ⟨rfl, rfl, rfl, rfl, rfl, rfl, rfl, rfl, trivial⟩⟩
    clear S; rintro a w6 ⟨hk3, S⟩
    refine l_done ?_
    replace S := S.nk [.blk b2 [.string y1.Who, .string y1.Club, .int .i64 y1.Day] 58] [(1, .string p_who), (2, .int .i64 p_day), (7, .string x1), (9, .pointer (some ⟨b2, 0, none⟩)), (10, v_p_l), (11, .int .i64 (p_l.length : Int)), (12, .int .i64 (i1 : Int)), (25, .bool ((decide (y1.Who = p_who)) && (decide (y1.Day ≤ p_day))))] [true] rfl ⟨rfl, rfl, rfl, rfl, rfl, rfl, rfl, rfl, trivial⟩
    refine then_n ?_
    obtain ⟨j3, hj3, h⟩ := joinE h
    refine f_join (fun a w' => ∃ x3 : ByteArray, j3 x3 = r ∧ Sx w [] nov [] [(1, .string p_who), (2, .int .i64 p_day), (7, .string x3), (10, v_p_l), (11, .int .i64 (p_l.length : Int)), (12, .int .i64 (i1 : Int))] 30 a w') ?_ ?_
    ·refine f_cond (S.tm rfl) (fun hb2 => ?_) (fun hb2 => ?_)
     ·replace h := iteT h hb2
      refine f_region ?_
      refine lv S (rn_fld fa_58_1 (S.tm rfl)) rfl ?_; clear S; intro a S
      refine lv S (rn_load Tryz.isAgg9 (S.tm rfl) (S.cell (i := 0) rfl rfl)) rfl ?_; clear S; intro a S
      refine lv S (rn_assign (S.tm rfl)) rfl ?_; clear S; intro a S
      refine l_done ?_
      replace S := S.nk [] [(1, .string p_who), (2, .int .i64 p_day), (7, .string y1.Club), (10, v_p_l), (11, .int .i64 (p_l.length : Int)), (12, .int .i64 (i1 : Int))] [false] rfl ⟨rfl, rfl, rfl, rfl, rfl, rfl, trivial⟩
      refine then_n ?_
      exact ⟨y1.Club, h, S.nf [] rfl ⟨rfl, rfl, rfl, rfl, rfl, rfl, trivial⟩⟩
     ·replace h := iteF h hb2
      refine wp_skip ?_
      refine then_n ?_
      exact ⟨x1, h, S.nf [false] rfl ⟨rfl, rfl, rfl, rfl, rfl, rfl, trivial⟩⟩
    clear S h; rintro a w7 ⟨x3, h, S⟩; rw [hj3] at h; clear hj3 j3
    refine blk_n ?_
    refine then_n ?_
    exact ⟨x3, h, S.nf [] rfl ⟨rfl, rfl, rfl, rfl, rfl, rfl, trivial⟩⟩
   clear S h; rintro a w3 ⟨x2, h, S⟩; rw [hj2] at h; clear hj2 j2
   refine then_n ?_
   refine f_region ?_
   refine lv S (rn_add (S.tm rfl) rfl) rfl ?_; clear S; intro a S
   refine lv S (rn_move (S.tm rfl)) rfl ?_; clear S; intro a S
   refine l_done ?_
   replace S := S.nk [] [(1, .string p_who), (2, .int .i64 p_day), (7, .string x2), (10, v_p_l), (11, .int .i64 (p_l.length : Int)), (12, .int .i64 (W ((i1 : Int) + 1)))] [] rfl ⟨rfl, rfl, rfl, rfl, rfl, rfl, trivial⟩
   refine then_n ?_
   exact ⟨ys1, ⟨i1 + 1, x2, ⟨_, (hd1).trans (List.append_cons _ _ _), by simp [hi1]⟩, h, S.nf [] rfl ⟨rfl, rfl, rfl, rfl, rfl, (congrArg (fun z => some (Value.int .i64 z)) (rng_next hd1 hi1 (slc_max hs_p_l))), trivial⟩⟩, Nat.lt_succ_self _⟩
 clear S h; rintro a w2 ⟨x1, h, S⟩; rw [hj1] at h; clear hj1 j1
 refine then_n ?_
 refine f_seq ?_
 refine f_region ?_
 refine lv S (rn_move (S.tm rfl)) rfl ?_; clear S; intro a S
 refine lv S (rn_assign (S.tm rfl)) rfl ?_; clear S; intro a S
 refine l_done ?_
 replace S := S.nk [] [(6, .string x1)] [] rfl ⟨rfl, trivial⟩
 refine then_n ?_
 refine wp_ret ?_
 subst h
 exact f_ret S Tryz.results34 rfl rfl
theorem swimmer_dateOf_ok (w : World) (p_day : Int) (r : GDate) (h : swimmer_dateOf p_day = some r) :
    Calls Tryz.prog 77 [.int .i64 p_day].toArray w (Ret w [] fun _ v _ => v = .agg (GDate.enc r).toArray) := by
 refine f_enter [] [] Tryz.func77 rfl Tryz.ntmps77 rfl (by simp) (by simp [fps]) (by simp [fps]) fun a S => ?_
 unfold swimmer_dateOf at h
 replace S := S.nk [] [(0, .int .i64 p_day)] [] rfl ⟨rfl, trivial⟩
 refine f_seq ?_
 refine f_region ?_
 refine l_alloc S Tryz.zeroValue67 (cs := [.int .i64 0, .int .i64 0, .int .i64 0]) rfl rfl ?_; clear S; intro a w1 b1 hz1 hk1 S
 refine l_done ?_
 replace S := S.nk [.blk b1 [.int .i64 0, .int .i64 0, .int .i64 0] 67] [(0, .int .i64 p_day), (2, .pointer (some ⟨b1, 0, none⟩))] [true] rfl ⟨rfl, rfl, trivial⟩
 refine then_n ?_
 refine f_seq ?_
 refine f_region ?_
 refine lv S (rn_bld bt_67 (pv := [(0, .int .i64 2024), (1, .int .i64 1)]) ⟨rfl, rfl, rfl, rfl, trivial⟩ (cs := [.int .i64 2024, .int .i64 1, .int .i64 0]) (by kernel_rfl)) rfl ?_; clear S; intro a S
 refine l_alloc S Tryz.zeroValue67 (cs := [.int .i64 0, .int .i64 0, .int .i64 0]) rfl rfl ?_; clear S; intro a w2 b2 hz2 hk2 S
 refine l_store S (S.tm rfl) (S.tm rfl) (i := 0) (off := 0) rfl Tryz.sizeOf67 (vs := [.int .i64 2024, .int .i64 1, .int .i64 0]) rfl rfl rfl rfl ?_; clear S; intro w3 hk3 S
 refine l_done ?_
 replace S := S.nk [.blk b2 [.int .i64 2024, .int .i64 1, .int .i64 0] 67, .blk b1 [.int .i64 0, .int .i64 0, .int .i64 0] 67] [(0, .int .i64 p_day), (2, .pointer (some ⟨b1, 0, none⟩)), (3, .pointer (some ⟨b2, 0, none⟩))] [true, true] rfl ⟨rfl, rfl, rfl, trivial⟩
 refine then_n ?_
 refine f_seq ?_
 obtain ⟨j1, hj1, h⟩ := joinE h
 refine f_join (fun a w' => ∃ x1 : Int, ∃ x2 : Int, j1 x1 x2 = some r ∧ Sx w [] nov [.blk b2 [.int .i64 x1, .int .i64 1, .int .i64 0] 67, .blk b1 [.int .i64 0, .int .i64 0, .int .i64 0] 67] [(0, .int .i64 x2), (2, .pointer (some ⟨b1, 0, none⟩)), (3, .pointer (some ⟨b2, 0, none⟩))] 52 a w') ?_ ?_
 ·refine wp_block ?_
  refine f_loop (fun (m1 : Nat) a w' => ∃ x1 : Int, ∃ x2 : Int, swimmer_dateOf_l1 j1 m1 x1 x2 = some r ∧ Sx w [] nov [.blk b2 [.int .i64 x1, .int .i64 1, .int .i64 0] 67, .blk b1 [.int .i64 0, .int .i64 0, .int .i64 0] 67] [(0, .int .i64 x2), (2, .pointer (some ⟨b1, 0, none⟩)), (3, .pointer (some ⟨b2, 0, none⟩))] 52 a w') id ((0 - p_day).toNat + 2) ⟨2024, p_day, h, S.nf [true, true] rfl ⟨rfl, rfl, rfl, trivial⟩⟩ ?_
  clear S h; rintro m1 a w4 ⟨x1, x2, h, S⟩
  cases m1 with
  | zero => rw [swimmer_dateOf_l1.eq_1] at h; cases h
  | succ m1 =>
   rw [swimmer_dateOf_l1.eq_2] at h
   refine f_seq ?_
   refine f_seq ?_
   refine f_region ?_
   refine lv S (rn_move (S.tm rfl)) rfl ?_; clear S; intro a S
   refine lv S (rn_lss (S.tm rfl) rfl) rfl ?_; clear S; intro a S
   refine l_done ?_
   replace S := S.nk [.blk b2 [.int .i64 x1, .int .i64 1, .int .i64 0] 67, .blk b1 [.int .i64 0, .int .i64 0, .int .i64 0] 67] [(0, .int .i64 x2), (2, .pointer (some ⟨b1, 0, none⟩)), (3, .pointer (some ⟨b2, 0, none⟩)), (6, .bool (decide (x2 < 0)))] [true, true] rfl ⟨rfl, rfl, rfl, rfl, trivial⟩
   refine then_n ?_
   refine f_cond (S.tm rfl) (fun hb1 => ?_) (fun hb1 => ?_)
   ·replace h := iteT h hb1
    refine wp_skip ?_
    refine then_n ?_
    refine wp_block ?_
    refine f_seq ?_
    refine f_region ?_
    refine lv S (rn_fld fa_67_0 (S.tm rfl)) rfl ?_; clear S; intro a S
    refine lv S (rn_load Tryz.isAgg3 (S.tm rfl) (S.cell (i := 0) rfl rfl)) rfl ?_; clear S; intro a S
    refine lv S (rn_sub (S.tm rfl) rfl) rfl ?_; clear S; intro a S
    refine lv S (rn_fld fa_67_0 (S.tm rfl)) rfl ?_; clear S; intro a S
    refine l_store S (S.tm rfl) (S.tm rfl) (i := 0) (off := 0) rfl Tryz.sizeOf3 (vs := [.int .i64 (W (x1 - 1))]) rfl rfl rfl rfl ?_; clear S; intro w6 hk4 S
    refine l_done ?_
    replace S := S.nk [.blk b2 [.int .i64 (W (x1 - 1)), .int .i64 1, .int .i64 0] 67, .blk b1 [.int .i64 0, .int .i64 0, .int .i64 0] 67] [(0, .int .i64 x2), (2, .pointer (some ⟨b1, 0, none⟩)), (3, .pointer (some ⟨b2, 0, none⟩))] [true, true] rfl ⟨rfl, rfl, rfl, trivial⟩
    refine then_n ?_
    refine f_region ?_
    refine lv S (rn_move (S.tm rfl)) rfl ?_; clear S; intro a S
    refine lv S (rn_fld fa_67_0 (S.tm rfl)) rfl ?_; clear S; intro a S
    refine lv S (rn_load Tryz.isAgg3 (S.tm rfl) (S.cell (i := 0) rfl rfl)) rfl ?_; clear S; intro a S
    refine l_enter S (fun _ => run_call (vs := [.int .i64 (W (x1 - 1))]) ⟨(S.tm rfl), trivial⟩ Tryz.call42) (swimmer_yearLong_ok _ (W (x1 - 1)) _ rfl) rfl ?_; clear S; intro v1 a w7 hv1 hk5 hn1 S
    subst hv1
    refine lv S (rn_add (S.tm rfl) (S.tm rfl)) rfl ?_; clear S; intro a S
    refine lv S (rn_assign (S.tm rfl)) rfl ?_; clear S; intro a S
    refine l_done ?_
    replace S := S.nk [.blk b2 [.int .i64 (W (x1 - 1)), .int .i64 1, .int .i64 0] 67, .blk b1 [.int .i64 0, .int .i64 0, .int .i64 0] 67] [(0, .int .i64 (W (x2 + (swimmer_yearLong (W (x1 - 1)))))), (2, .pointer (some ⟨b1, 0, none⟩)), (3, .pointer (some ⟨b2, 0, none⟩))] [true, true] rfl ⟨rfl, rfl, rfl, trivial⟩
    refine blk_n ?_
    refine then_n ?_
    exact ⟨m1, ⟨W (x1 - 1), W (x2 + (swimmer_yearLong (W (x1 - 1)))), h, S.nf [true, true] rfl ⟨rfl, rfl, rfl, trivial⟩⟩, Nat.lt_succ_self _⟩
   ·replace h := iteF h hb1
    refine wp_exit ?_
    refine then_x ?_
    refine then_x ?_
    refine x_same ?_
    refine then_n ?_
    exact ⟨x1, x2, h, S.nf [true, true] rfl ⟨rfl, rfl, rfl, trivial⟩⟩
 clear S h; rintro a w5 ⟨x1, x2, h, S⟩; rw [hj1] at h; clear hj1 j1
 refine then_n ?_
 refine f_seq ?_
 obtain ⟨j2, hj2, h⟩ := joinE h
 refine f_join (fun a w' => ∃ x3 : Int, ∃ x4 : Int, j2 x3 x4 = some r ∧ Sx w [] nov [.blk b2 [.int .i64 x3, .int .i64 1, .int .i64 0] 67, .blk b1 [.int .i64 0, .int .i64 0, .int .i64 0] 67] [(0, .int .i64 x4), (2, .pointer (some ⟨b1, 0, none⟩)), (3, .pointer (some ⟨b2, 0, none⟩))] 52 a w') ?_ ?_
 ·refine wp_block ?_
  refine f_loop (fun (m2 : Nat) a w' => ∃ x3 : Int, ∃ x4 : Int, swimmer_dateOf_l2 j2 m2 x3 x4 = some r ∧ Sx w [] nov [.blk b2 [.int .i64 x3, .int .i64 1, .int .i64 0] 67, .blk b1 [.int .i64 0, .int .i64 0, .int .i64 0] 67] [(0, .int .i64 x4), (2, .pointer (some ⟨b1, 0, none⟩)), (3, .pointer (some ⟨b2, 0, none⟩))] 52 a w') id ((x2 - (swimmer_yearLong x1)).toNat + 2) ⟨x1, x2, h, S.nf [true, true] rfl ⟨rfl, rfl, rfl, trivial⟩⟩ ?_
  clear S h; rintro m2 a w8 ⟨x3, x4, h, S⟩
  cases m2 with
  | zero => rw [swimmer_dateOf_l2.eq_1] at h; cases h
  | succ m2 =>
   rw [swimmer_dateOf_l2.eq_2] at h
   refine f_seq ?_
   refine f_seq ?_
   refine f_region ?_
   refine lv S (rn_move (S.tm rfl)) rfl ?_; clear S; intro a S
   refine lv S (rn_fld fa_67_0 (S.tm rfl)) rfl ?_; clear S; intro a S
   refine lv S (rn_load Tryz.isAgg3 (S.tm rfl) (S.cell (i := 0) rfl rfl)) rfl ?_; clear S; intro a S
   refine l_enter S (fun _ => run_call (vs := [.int .i64 x3]) ⟨(S.tm rfl), trivial⟩ Tryz.call42) (swimmer_yearLong_ok _ x3 _ rfl) rfl ?_; clear S; intro v2 a w10 hv2 hk6 hn2 S
   subst hv2
   refine lv S (rn_geq (S.tm rfl) (S.tm rfl)) rfl ?_; clear S; intro a S
   refine l_done ?_
   replace S := S.nk [.blk b2 [.int .i64 x3, .int .i64 1, .int .i64 0] 67, .blk b1 [.int .i64 0, .int .i64 0, .int .i64 0] 67] [(0, .int .i64 x4), (2, .pointer (some ⟨b1, 0, none⟩)), (3, .pointer (some ⟨b2, 0, none⟩)), (20, .bool (decide ((swimmer_yearLong x3) ≤ x4)))] [true, true] rfl ⟨rfl, rfl, rfl, rfl, trivial⟩
   refine then_n ?_
   refine f_cond (S.tm rfl) (fun hb2 => ?_) (fun hb2 => ?_)
   ·replace h := iteT h hb2
    refine wp_skip ?_
    refine then_n ?_
    refine wp_block ?_
    refine f_seq ?_
    refine f_region ?_
    refine lv S (rn_move (S.tm rfl)) rfl ?_; clear S; intro a S
    refine lv S (rn_fld fa_67_0 (S.tm rfl)) rfl ?_; clear S; intro a S
    refine lv S (rn_load Tryz.isAgg3 (S.tm rfl) (S.cell (i := 0) rfl rfl)) rfl ?_; clear S; intro a S
    refine l_enter S (fun _ => run_call (vs := [.int .i64 x3]) ⟨(S.tm rfl), trivial⟩ Tryz.call42) (swimmer_yearLong_ok _ x3 _ rfl) rfl ?_; clear S; intro v3 a w11 hv3 hk7 hn3 S
    subst hv3
    refine lv S (rn_sub (S.tm rfl) (S.tm rfl)) rfl ?_; clear S; intro a S
    refine lv S (rn_assign (S.tm rfl)) rfl ?_; clear S; intro a S
    refine l_done ?_
    replace S := S.nk [.blk b2 [.int .i64 x3, .int .i64 1, .int .i64 0] 67, .blk b1 [.int .i64 0, .int .i64 0, .int .i64 0] 67] [(0, .int .i64 (W (x4 - (swimmer_yearLong x3)))), (2, .pointer (some ⟨b1, 0, none⟩)), (3, .pointer (some ⟨b2, 0, none⟩))] [true, true] rfl ⟨rfl, rfl, rfl, trivial⟩
    refine then_n ?_
    refine f_region ?_
    refine lv S (rn_fld fa_67_0 (S.tm rfl)) rfl ?_; clear S; intro a S
    refine lv S (rn_load Tryz.isAgg3 (S.tm rfl) (S.cell (i := 0) rfl rfl)) rfl ?_; clear S; intro a S
    refine lv S (rn_add (S.tm rfl) rfl) rfl ?_; clear S; intro a S
    refine lv S (rn_fld fa_67_0 (S.tm rfl)) rfl ?_; clear S; intro a S
    refine l_store S (S.tm rfl) (S.tm rfl) (i := 0) (off := 0) rfl Tryz.sizeOf3 (vs := [.int .i64 (W (x3 + 1))]) rfl rfl rfl rfl ?_; clear S; intro w12 hk8 S
    refine l_done ?_
    replace S := S.nk [.blk b2 [.int .i64 (W (x3 + 1)), .int .i64 1, .int .i64 0] 67, .blk b1 [.int .i64 0, .int .i64 0, .int .i64 0] 67] [(0, .int .i64 (W (x4 - (swimmer_yearLong x3)))), (2, .pointer (some ⟨b1, 0, none⟩)), (3, .pointer (some ⟨b2, 0, none⟩))] [true, true] rfl ⟨rfl, rfl, rfl, trivial⟩
    refine blk_n ?_
    refine then_n ?_
    exact ⟨m2, ⟨W (x3 + 1), W (x4 - (swimmer_yearLong x3)), h, S.nf [true, true] rfl ⟨rfl, rfl, rfl, trivial⟩⟩, Nat.lt_succ_self _⟩
   ·replace h := iteF h hb2
    refine wp_exit ?_
    refine then_x ?_
    refine then_x ?_
    refine x_same ?_
    refine then_n ?_
    exact ⟨x3, x4, h, S.nf [true, true] rfl ⟨rfl, rfl, rfl, trivial⟩⟩
 clear S h; rintro a w9 ⟨x3, x4, h, S⟩; rw [hj2] at h; clear hj2 j2
 refine then_n ?_
 refine f_seq ?_
 obtain ⟨j3, hj3, h⟩ := joinE h
 refine f_join (fun a w' => ∃ x5 : Int, ∃ x6 : Int, j3 x5 x6 = some r ∧ Sx w [] nov [.blk b2 [.int .i64 x3, .int .i64 x5, .int .i64 0] 67, .blk b1 [.int .i64 0, .int .i64 0, .int .i64 0] 67] [(0, .int .i64 x6), (2, .pointer (some ⟨b1, 0, none⟩)), (3, .pointer (some ⟨b2, 0, none⟩))] 52 a w') ?_ ?_
 ·refine wp_block ?_
  refine f_loop (fun (m3 : Nat) a w' => ∃ x5 : Int, ∃ x6 : Int, swimmer_dateOf_l3 x3 j3 m3 x5 x6 = some r ∧ Sx w [] nov [.blk b2 [.int .i64 x3, .int .i64 x5, .int .i64 0] 67, .blk b1 [.int .i64 0, .int .i64 0, .int .i64 0] 67] [(0, .int .i64 x6), (2, .pointer (some ⟨b1, 0, none⟩)), (3, .pointer (some ⟨b2, 0, none⟩))] 52 a w') id ((x4 - (swimmer_long x3 1)).toNat + 2) ⟨1, x4, h, S.nf [true, true] rfl ⟨rfl, rfl, rfl, trivial⟩⟩ ?_
  clear S h; rintro m3 a w13 ⟨x5, x6, h, S⟩
  cases m3 with
  | zero => rw [swimmer_dateOf_l3.eq_1] at h; cases h
  | succ m3 =>
   rw [swimmer_dateOf_l3.eq_2] at h
   refine f_seq ?_
   refine f_seq ?_
   refine f_region ?_
   refine lv S (rn_move (S.tm rfl)) rfl ?_; clear S; intro a S
   refine lv S (rn_fld fa_67_0 (S.tm rfl)) rfl ?_; clear S; intro a S
   refine lv S (rn_load Tryz.isAgg3 (S.tm rfl) (S.cell (i := 0) rfl rfl)) rfl ?_; clear S; intro a S
   refine lv S (rn_fld fa_67_1 (S.tm rfl)) rfl ?_; clear S; intro a S
   refine lv S (rn_load Tryz.isAgg3 (S.tm rfl) (S.cell (i := 0) rfl rfl)) rfl ?_; clear S; intro a S
   refine l_enter S (fun _ => run_call (vs := [.int .i64 x3, .int .i64 x5]) ⟨(S.tm rfl), (S.tm rfl), trivial⟩ Tryz.call41) (swimmer_long_ok _ x3 x5 _ rfl) rfl ?_; clear S; intro v4 a w15 hv4 hk9 hn4 S
   subst hv4
   refine lv S (rn_geq (S.tm rfl) (S.tm rfl)) rfl ?_; clear S; intro a S
   refine l_done ?_
   replace S := S.nk [.blk b2 [.int .i64 x3, .int .i64 x5, .int .i64 0] 67, .blk b1 [.int .i64 0, .int .i64 0, .int .i64 0] 67] [(0, .int .i64 x6), (2, .pointer (some ⟨b1, 0, none⟩)), (3, .pointer (some ⟨b2, 0, none⟩)), (36, .bool (decide ((swimmer_long x3 x5) ≤ x6)))] [true, true] rfl ⟨rfl, rfl, rfl, rfl, trivial⟩
   refine then_n ?_
   refine f_cond (S.tm rfl) (fun hb3 => ?_) (fun hb3 => ?_)
   ·replace h := iteT h hb3
    refine wp_skip ?_
    refine then_n ?_
    refine wp_block ?_
    refine f_seq ?_
    refine f_region ?_
    refine lv S (rn_move (S.tm rfl)) rfl ?_; clear S; intro a S
    refine lv S (rn_fld fa_67_0 (S.tm rfl)) rfl ?_; clear S; intro a S
    refine lv S (rn_load Tryz.isAgg3 (S.tm rfl) (S.cell (i := 0) rfl rfl)) rfl ?_; clear S; intro a S
    refine lv S (rn_fld fa_67_1 (S.tm rfl)) rfl ?_; clear S; intro a S
    refine lv S (rn_load Tryz.isAgg3 (S.tm rfl) (S.cell (i := 0) rfl rfl)) rfl ?_; clear S; intro a S
    refine l_enter S (fun _ => run_call (vs := [.int .i64 x3, .int .i64 x5]) ⟨(S.tm rfl), (S.tm rfl), trivial⟩ Tryz.call41) (swimmer_long_ok _ x3 x5 _ rfl) rfl ?_; clear S; intro v5 a w16 hv5 hk10 hn5 S
    subst hv5
    refine lv S (rn_sub (S.tm rfl) (S.tm rfl)) rfl ?_; clear S; intro a S
    refine lv S (rn_assign (S.tm rfl)) rfl ?_; clear S; intro a S
    refine l_done ?_
    replace S := S.nk [.blk b2 [.int .i64 x3, .int .i64 x5, .int .i64 0] 67, .blk b1 [.int .i64 0, .int .i64 0, .int .i64 0] 67] [(0, .int .i64 (W (x6 - (swimmer_long x3 x5)))), (2, .pointer (some ⟨b1, 0, none⟩)), (3, .pointer (some ⟨b2, 0, none⟩))] [true, true] rfl ⟨rfl, rfl, rfl, trivial⟩
    refine then_n ?_
    refine f_region ?_
    refine lv S (rn_fld fa_67_1 (S.tm rfl)) rfl ?_; clear S; intro a S
    refine lv S (rn_load Tryz.isAgg3 (S.tm rfl) (S.cell (i := 0) rfl rfl)) rfl ?_; clear S; intro a S
    refine lv S (rn_add (S.tm rfl) rfl) rfl ?_; clear S; intro a S
    refine lv S (rn_fld fa_67_1 (S.tm rfl)) rfl ?_; clear S; intro a S
    refine l_store S (S.tm rfl) (S.tm rfl) (i := 0) (off := 1) rfl Tryz.sizeOf3 (vs := [.int .i64 (W (x5 + 1))]) rfl rfl rfl rfl ?_; clear S; intro w17 hk11 S
    refine l_done ?_
    replace S := S.nk [.blk b2 [.int .i64 x3, .int .i64 (W (x5 + 1)), .int .i64 0] 67, .blk b1 [.int .i64 0, .int .i64 0, .int .i64 0] 67] [(0, .int .i64 (W (x6 - (swimmer_long x3 x5)))), (2, .pointer (some ⟨b1, 0, none⟩)), (3, .pointer (some ⟨b2, 0, none⟩))] [true, true] rfl ⟨rfl, rfl, rfl, trivial⟩
    refine blk_n ?_
    refine then_n ?_
    exact ⟨m3, ⟨W (x5 + 1), W (x6 - (swimmer_long x3 x5)), h, S.nf [true, true] rfl ⟨rfl, rfl, rfl, trivial⟩⟩, Nat.lt_succ_self _⟩
   ·replace h := iteF h hb3
    refine wp_exit ?_
    refine then_x ?_
    refine then_x ?_
    refine x_same ?_
    refine then_n ?_
    exact ⟨x5, x6, h, S.nf [true, true] rfl ⟨rfl, rfl, rfl, trivial⟩⟩
 clear S h; rintro a w14 ⟨x5, x6, h, S⟩; rw [hj3] at h; clear hj3 j3
 refine then_n ?_
 refine f_seq ?_
 refine f_region ?_
 refine lv S (rn_move (S.tm rfl)) rfl ?_; clear S; intro a S
 refine lv S (rn_add (S.tm rfl) rfl) rfl ?_; clear S; intro a S
 refine lv S (rn_fld fa_67_2 (S.tm rfl)) rfl ?_; clear S; intro a S
 refine l_store S (S.tm rfl) (S.tm rfl) (i := 0) (off := 2) rfl Tryz.sizeOf3 (vs := [.int .i64 (W (x6 + 1))]) rfl rfl rfl rfl ?_; clear S; intro w18 hk12 S
 refine l_done ?_
 replace S := S.nk [.blk b2 [.int .i64 x3, .int .i64 x5, .int .i64 (W (x6 + 1))] 67, .blk b1 [.int .i64 0, .int .i64 0, .int .i64 0] 67] [(2, .pointer (some ⟨b1, 0, none⟩)), (3, .pointer (some ⟨b2, 0, none⟩))] [true, true] rfl ⟨rfl, rfl, trivial⟩
 refine then_n ?_
 refine f_seq ?_
 refine f_region ?_
 refine lv S (rn_ldA Tryz.isAgg67 Tryz.sizeOf67 (off := 0) (o := 0) (part := [.int .i64 x3, .int .i64 x5, .int .i64 (W (x6 + 1))]) rfl rfl (S.tm rfl) (S.cellsAt (i := 0) rfl)) rfl ?_; clear S; intro a S
 refine l_store S (S.tm rfl) (S.tm rfl) (i := 1) (off := 0) rfl Tryz.sizeOf67 (vs := [.int .i64 x3, .int .i64 x5, .int .i64 (W (x6 + 1))]) rfl rfl rfl rfl ?_; clear S; intro w19 hk13 S
 refine l_done ?_
 replace S := S.nk [.blk b1 [.int .i64 x3, .int .i64 x5, .int .i64 (W (x6 + 1))] 67] [(2, .pointer (some ⟨b1, 0, none⟩))] [false, true] rfl ⟨rfl, trivial⟩
 refine then_n ?_
 refine wp_ret ?_
 obtain rfl := Option.some.inj h
 exact f_retG S (rs := [.cell 2 67]) (vs := [.agg #[.int .i64 x3, .int .i64 x5, .int .i64 (W (x6 + 1))]]) Tryz.results77 ⟨(res_cell (off := 0) S rfl Tryz.isAgg67 Tryz.sizeOf67 rfl (S.cellsAt (i := 0) rfl)), trivial⟩ rfl rfl
set_option maxRecDepth 20000 in
theorem swimmer_age_ok (w : World) (p_s : GSwimmer) (p_day : Int) (p_way : Int) (r : Int) (h : swimmer_age p_s p_day p_way = some r) :
    Calls Tryz.prog 62 [.agg (GSwimmer.enc p_s).toArray, .int .i64 p_day, .int .i64 p_way].toArray w (Ret w [] fun _ v _ => v = .int .i64 r) := by
 refine f_enter [] [] Tryz.func62 rfl Tryz.ntmps62 rfl (by simp) (by simp [fps]) (by simp [fps]) fun a S => ?_
 unfold swimmer_age at h
 replace S := S.nk [] [(0, .agg (GSwimmer.enc p_s).toArray), (1, .int .i64 p_day), (2, .int .i64 p_way)] [] rfl ⟨rfl, rfl, rfl, trivial⟩
 refine f_seq ?_
 refine f_region ?_
 refine l_box S (S.tm rfl) (cs := [.string p_s.Key, .int .i64 p_s.Sex, .int .i64 p_s.Born]) rfl rfl ?_; clear S; intro a w1 b1 hz1 hk1 S
 refine lv S (rn_assign rfl) rfl ?_; clear S; intro a S
 refine l_done ?_
 replace S := S.nk [.blk b1 [.string p_s.Key, .int .i64 p_s.Sex, .int .i64 p_s.Born] 56] [(1, .int .i64 p_day), (2, .int .i64 p_way), (3, .pointer (some ⟨b1, 0, none⟩))] [true] rfl ⟨rfl, rfl, rfl, trivial⟩
 refine then_n ?_
 refine f_seq ?_
 refine f_region ?_
 refine lv S (rn_fld fa_56_2 (S.tm rfl)) rfl ?_; clear S; intro a S
 refine lv S (rn_load Tryz.isAgg3 (S.tm rfl) (S.cell (i := 0) rfl rfl)) rfl ?_; clear S; intro a S
 obtain ⟨r1, hr1, h⟩ := bindE h
 refine l_enter S (fun _ => run_call (vs := [.int .i64 p_s.Born]) ⟨(S.tm rfl), trivial⟩ Tryz.call77) (swimmer_dateOf_ok _ p_s.Born _ hr1) rfl ?_; clear S; intro v1 a w2 hv1 hk2 hn1 S
 subst hv1
 refine lv S (rn_move (S.tm rfl)) rfl ?_; clear S; intro a S
 obtain ⟨r2, hr2, h⟩ := bindE h
 refine l_enter S (fun _ => run_call (vs := [.int .i64 p_day]) ⟨(S.tm rfl), trivial⟩ Tryz.call77) (swimmer_dateOf_ok _ p_day _ hr2) rfl ?_; clear S; intro v2 a w3 hv2 hk3 hn2 S
 subst hv2
 refine l_alloc S Tryz.zeroValue67 (cs := [.int .i64 0, .int .i64 0, .int .i64 0]) rfl rfl ?_; clear S; intro a w4 b2 hz2 hk4 S
 refine l_alloc S Tryz.zeroValue67 (cs := [.int .i64 0, .int .i64 0, .int .i64 0]) rfl rfl ?_; clear S; intro a w5 b3 hz3 hk5 S
 refine l_store S (S.tm rfl) (S.tm rfl) (i := 1) (off := 0) rfl Tryz.sizeOf67 (vs := [.int .i64 r1.Year, .int .i64 r1.Month, .int .i64 r1.Day]) rfl rfl rfl rfl ?_; clear S; intro w6 hk6 S
 refine l_store S (S.tm rfl) (S.tm rfl) (i := 0) (off := 0) rfl Tryz.sizeOf67 (vs := [.int .i64 r2.Year, .int .i64 r2.Month, .int .i64 r2.Day]) rfl rfl rfl rfl ?_; clear S; intro w7 hk7 S
 refine l_done ?_
 replace S := S.nk [.blk b3 [.int .i64 r2.Year, .int .i64 r2.Month, .int .i64 r2.Day] 67, .blk b2 [.int .i64 r1.Year, .int .i64 r1.Month, .int .i64 r1.Day] 67] [(2, .int .i64 p_way), (7, .pointer (some ⟨b2, 0, none⟩)), (8, .pointer (some ⟨b3, 0, none⟩))] [true, true, false] rfl ⟨rfl, rfl, rfl, trivial⟩
 refine then_n ?_
 refine f_seq ?_
 refine f_region ?_
 refine lv S (rn_fld fa_67_0 (S.tm rfl)) rfl ?_; clear S; intro a S
 refine lv S (rn_load Tryz.isAgg3 (S.tm rfl) (S.cell (i := 0) rfl rfl)) rfl ?_; clear S; intro a S
 refine lv S (rn_fld fa_67_0 (S.tm rfl)) rfl ?_; clear S; intro a S
 refine lv S (rn_load Tryz.isAgg3 (S.tm rfl) (S.cell (i := 1) rfl rfl)) rfl ?_; clear S; intro a S
 refine lv S (rn_sub (S.tm rfl) (S.tm rfl)) rfl ?_; clear S; intro a S
 refine lv S (rn_assign (S.tm rfl)) rfl ?_; clear S; intro a S
 refine l_done ?_
 replace S := S.nk [.blk b3 [.int .i64 r2.Year, .int .i64 r2.Month, .int .i64 r2.Day] 67, .blk b2 [.int .i64 r1.Year, .int .i64 r1.Month, .int .i64 r1.Day] 67] [(2, .int .i64 p_way), (7, .pointer (some ⟨b2, 0, none⟩)), (8, .pointer (some ⟨b3, 0, none⟩)), (9, .int .i64 (W (r2.Year - r1.Year)))] [true, true] rfl ⟨rfl, rfl, rfl, rfl, trivial⟩
 refine then_n ?_
 refine f_seq ?_
 refine f_seq ?_
 obtain ⟨j1, hj1, h⟩ := joinE h
 refine f_join (fun a w' => ∃ x1 : Bool, j1 x1 = some r ∧ Sx w [] nov [] [(9, .int .i64 (W (r2.Year - r1.Year))), (36, .bool x1)] 40 a w') ?_ ?_
 ·rcases Bool.eq_false_or_eq_true (decide (p_way = 1)) with hb1 | hb1
  ·replace h := iteT h hb1
   refine d_region [] ([]) Tryz.mixed S rfl (by kernel_rfl) ?_; clear S; intro w13 hk12 hsel S
   refine d_quiet 0 S hsel rfl rfl rfl (by kernel_rfl) (by kernel_rfl) rfl (fun _ hw => (rn_move (S.tm rfl))) ?_; clear S; intro a S
   refine d_quiet 1 S hsel rfl rfl rfl (by kernel_rfl) (by kernel_rfl) rfl (fun _ hw => (rn_eql (S.tm rfl) rfl)) ?_; clear S; intro a S
   refine d_quiet 2 S hsel rfl rfl rfl (by kernel_rfl) (by kernel_rfl) rfl (fun _ hw => (rn_move (S.tm rfl))) ?_; clear S; intro a S
   refine d_quiet_g 3 S hsel rfl rfl rfl rfl hb1 rfl rfl (by kernel_rfl) (by kernel_rfl) rfl (fun _ hw => (rn_fld fa_67_1 (S.tm rfl))) ?_; clear S; intro a S
   refine d_quiet_g 4 S hsel rfl rfl rfl rfl hb1 rfl rfl (by kernel_rfl) (by kernel_rfl) rfl (fun _ hw => (rn_ld Tryz.isAgg3 (off := 0) (o := 1) (S.tm rfl) ((S.blk_mem (i := 0) (cells := [.int .i64 r2.Year, .int .i64 r2.Month, .int .i64 r2.Day]) (b := b3) (T := 67) rfl (ne_nil (e' := .blk b3 [.int .i64 r2.Year, .int .i64 r2.Month, .int .i64 r2.Day] 67))).kept hw) rfl)) ?_; clear S; intro a S
   refine d_quiet_g 5 S hsel rfl rfl rfl rfl hb1 rfl rfl (by kernel_rfl) (by kernel_rfl) rfl (fun _ hw => (rn_fld fa_67_1 (S.tm rfl))) ?_; clear S; intro a S
   refine d_quiet_g 6 S hsel rfl rfl rfl rfl hb1 rfl rfl (by kernel_rfl) (by kernel_rfl) rfl (fun _ hw => (rn_ld Tryz.isAgg3 (off := 0) (o := 1) (S.tm rfl) ((S.blk_mem (i := 1) (cells := [.int .i64 r1.Year, .int .i64 r1.Month, .int .i64 r1.Day]) (b := b2) (T := 67) rfl (ne_nil (e' := .blk b2 [.int .i64 r1.Year, .int .i64 r1.Month, .int .i64 r1.Day] 67))).kept hw) rfl)) ?_; clear S; intro a S
   refine d_quiet_g 8 S hsel rfl rfl rfl rfl hb1 rfl rfl (by kernel_rfl) (by kernel_rfl) rfl (fun _ hw => (rn_fld fa_67_2 (S.tm rfl))) ?_; clear S; intro a S
   refine d_quiet_g 9 S hsel rfl rfl rfl rfl hb1 rfl rfl (by kernel_rfl) (by kernel_rfl) rfl (fun _ hw => (rn_ld Tryz.isAgg3 (off := 0) (o := 2) (S.tm rfl) ((S.blk_mem (i := 0) (cells := [.int .i64 r2.Year, .int .i64 r2.Month, .int .i64 r2.Day]) (b := b3) (T := 67) rfl (ne_nil (e' := .blk b3 [.int .i64 r2.Year, .int .i64 r2.Month, .int .i64 r2.Day] 67))).kept hw) rfl)) ?_; clear S; intro a S
   refine d_quiet_g 10 S hsel rfl rfl rfl rfl hb1 rfl rfl (by kernel_rfl) (by kernel_rfl) rfl (fun _ hw => (rn_fld fa_67_2 (S.tm rfl))) ?_; clear S; intro a S
   refine d_quiet_g 11 S hsel rfl rfl rfl rfl hb1 rfl rfl (by kernel_rfl) (by kernel_rfl) rfl (fun _ hw => (rn_ld Tryz.isAgg3 (off := 0) (o := 2) (S.tm rfl) ((S.blk_mem (i := 1) (cells := [.int .i64 r1.Year, .int .i64 r1.Month, .int .i64 r1.Day]) (b := b2) (T := 67) rfl (ne_nil (e' := .blk b2 [.int .i64 r1.Year, .int .i64 r1.Month, .int .i64 r1.Day] 67))).kept hw) rfl)) ?_; clear S; intro a S
   refine d_loud1 7 (by kernel_rfl) rfl ?_
   refine l_want S rfl rfl rfl hb1 ?_
   refine l_enter S (fun _ => run_call (vs := [.int .i64 r2.Month, .int .i64 r1.Month]) ⟨(S.tm rfl), (S.tm rfl), trivial⟩ Tryz.call74) (cmp_Compare_int_ok _ r2.Month r1.Month _ rfl) rfl ?_; clear S; intro v6 a w14 hv6 hk13 hn6 S
   subst hv6
   refine l_done ?_
   refine d_next hk13 ?_
   refine d_loud1 12 (by kernel_rfl) rfl ?_
   refine l_want S rfl rfl rfl hb1 ?_
   refine l_enter S (fun _ => run_call (vs := [.int .i64 r2.Day, .int .i64 r1.Day]) ⟨(S.tm rfl), (S.tm rfl), trivial⟩ Tryz.call74) (cmp_Compare_int_ok _ r2.Day r1.Day _ rfl) rfl ?_; clear S; intro v7 a w15 hv7 hk14 hn7 S
   subst hv7
   refine l_done ?_
   refine d_next hk14 ?_
   refine d_loud1 13 (by kernel_rfl) rfl ?_
   refine l_want S rfl rfl rfl hb1 ?_
   refine l_buildSlice S Tryz.underlying22 Tryz.sizeOf3 Tryz.zeroValue3 rfl rfl (pv := [(0, .int .i64 (cmp_Compare_int r2.Month r1.Month)), (1, .int .i64 (cmp_Compare_int r2.Day r1.Day))]) ⟨rfl, (S.tm rfl), rfl, (S.tm rfl), trivial⟩ (cs := [.int .i64 (cmp_Compare_int r2.Month r1.Month), .int .i64 (cmp_Compare_int r2.Day r1.Day)]) (by kernel_rfl) rfl ?_; clear S; intro a w16 b5 hz5 hk15 S
   refine l_done ?_
   refine d_next hk15 ?_
   refine d_loud1 14 (by kernel_rfl) rfl ?_
   refine l_want S rfl rfl rfl hb1 ?_
   refine l_enter S (fun _ => run_call (vs := [.slice (some ⟨b5, 0, none⟩) 2 2]) ⟨(S.tm rfl), trivial⟩ Tryz.call72) (cmp_Or_int_ok _ (.slice (some ⟨b5, 0, none⟩) 2 2) [(cmp_Compare_int r2.Month r1.Month), (cmp_Compare_int r2.Day r1.Day)] (lit_slcT enc_int S (i := 0) rfl rfl rfl rfl ((ne_nil (e' := .blk b5 [.int .i64 (cmp_Compare_int r2.Month r1.Month), .int .i64 (cmp_Compare_int r2.Day r1.Day)] 3)) _ rfl)) _ rfl) rfl ?_; clear S; intro v8 a w17 hv8 hk16 hn8 S
   subst hv8
   refine l_done ?_
   refine d_next hk16 ?_
   refine d_rest [15, 16] hsel (by kernel_rfl) rfl ?_
   clear hsel
   refine s_want S rfl rfl rfl rfl hb1 ?_
   refine s_lv0 S (rn_lss (S.tm rfl) rfl) rfl ?_; clear S; intro a S
   refine s_lv S rfl (rn_pick_b hb1 (S.tm rfl) (S.tm rfl)) rfl ?_; clear S; intro a S
   refine s_done ?_
   replace S := S.nk [] [(9, .int .i64 (W (r2.Year - r1.Year))), (36, .bool (decide ((cmp_Or_int [(cmp_Compare_int r2.Month r1.Month), (cmp_Compare_int r2.Day r1.Day)]) < 0)))] [false, false, false] rfl ⟨rfl, rfl, trivial⟩
   refine then_n ?_
   exact ⟨decide ((cmp_Or_int [(cmp_Compare_int r2.Month r1.Month), (cmp_Compare_int r2.Day r1.Day)]) < 0), h, S.nf [] rfl ⟨rfl, rfl, trivial⟩⟩
  ·replace h := iteF h hb1
   refine d_region [] ([]) Tryz.mixed S rfl (by kernel_rfl) ?_; clear S; intro w18 hk17 hsel S
   refine d_rest [0, 1, 2, 3, 4, 5, 6, 7, 8, 9, 10, 11, 12, 13, 14, 15, 16] hsel (by kernel_rfl) rfl ?_
   clear hsel
   refine s_lv S rfl (rn_move (S.tm rfl)) rfl ?_; clear S; intro a S
   refine s_lv S rfl (rn_eql (S.tm rfl) rfl) rfl ?_; clear S; intro a S
   refine s_lv S rfl (rn_move (S.tm rfl)) rfl ?_; clear S; intro a S
   refine s_skip S rfl rfl rfl rfl (neq_f hb1) rfl ?_ rfl; clear S; intro a S
   refine s_skip S rfl rfl rfl rfl (neq_f hb1) rfl ?_ rfl; clear S; intro a S
   refine s_skip S rfl rfl rfl rfl (neq_f hb1) rfl ?_ rfl; clear S; intro a S
   refine s_skip S rfl rfl rfl rfl (neq_f hb1) rfl ?_ rfl; clear S; intro a S
   refine s_skip S rfl rfl rfl rfl (neq_f hb1) rfl ?_ rfl; clear S; intro a S
   refine s_skip S rfl rfl rfl rfl (neq_f hb1) rfl ?_ rfl; clear S; intro a S
   refine s_skip S rfl rfl rfl rfl (neq_f hb1) rfl ?_ rfl; clear S; intro a S
   refine s_skip S rfl rfl rfl rfl (neq_f hb1) rfl ?_ rfl; clear S; intro a S
   refine s_skip S rfl rfl rfl rfl (neq_f hb1) rfl ?_ rfl; clear S; intro a S
   refine s_skip S rfl rfl rfl rfl (neq_f hb1) rfl ?_ rfl; clear S; intro a S
   refine s_skip S rfl rfl rfl rfl (neq_f hb1) rfl ?_ rfl; clear S; intro a S
   refine s_skip S rfl rfl rfl rfl (neq_f hb1) rfl ?_ rfl; clear S; intro a S
   refine s_skip S rfl rfl rfl rfl (neq_f hb1) rfl ?_ rfl; clear S; intro a S
   refine s_lv S rfl (rn_pick_c hb1 (S.tm rfl) rfl) rfl ?_; clear S; intro a S
   refine s_done ?_
   replace S := S.nk [] [(9, .int .i64 (W (r2.Year - r1.Year))), (36, .bool false)] [false, false] rfl ⟨rfl, rfl, trivial⟩
   refine then_n ?_
   exact ⟨false, h, S.nf [] rfl ⟨rfl, rfl, trivial⟩⟩
 clear S h; rintro a w8 ⟨x1, h, S⟩; rw [hj1] at h; clear hj1 j1
 refine then_n ?_
 obtain ⟨j2, hj2, h⟩ := joinE h
 refine f_join (fun a w' => ∃ x2 : Int, j2 x2 = some r ∧ Sx w [] nov [] [(9, .int .i64 x2)] 40 a w') ?_ ?_
 ·refine f_cond (S.tm rfl) (fun hb2 => ?_) (fun hb2 => ?_)
  ·replace h := iteT h hb2
   refine f_region ?_
   refine lv S (rn_move (S.tm rfl)) rfl ?_; clear S; intro a S
   refine lv S (rn_sub (S.tm rfl) rfl) rfl ?_; clear S; intro a S
   refine lv S (rn_assign (S.tm rfl)) rfl ?_; clear S; intro a S
   refine l_done ?_
   replace S := S.nk [] [(9, .int .i64 (W ((W (r2.Year - r1.Year)) - 1)))] [] rfl ⟨rfl, trivial⟩
   refine then_n ?_
   exact ⟨W ((W (r2.Year - r1.Year)) - 1), h, S.nf [] rfl ⟨rfl, trivial⟩⟩
  ·replace h := iteF h hb2
   refine wp_skip ?_
   refine then_n ?_
   exact ⟨W (r2.Year - r1.Year), h, S.nf [] rfl ⟨rfl, trivial⟩⟩
 clear S h; rintro a w19 ⟨x2, h, S⟩; rw [hj2] at h; clear hj2 j2
 refine then_n ?_
 refine f_seq ?_
 refine f_region ?_
 refine lv S (rn_move (S.tm rfl)) rfl ?_; clear S; intro a S
 refine lv S (rn_assign (S.tm rfl)) rfl ?_; clear S; intro a S
 refine l_done ?_
 replace S := S.nk [] [(6, .int .i64 x2)] [] rfl ⟨rfl, trivial⟩
 refine then_n ?_
 refine wp_ret ?_
 obtain rfl := Option.some.inj h
 exact f_ret S Tryz.results62 rfl rfl
set_option maxRecDepth 20000 in
theorem swimmer_may_ok (w : World) (p_r : GRace) (p_s : GSwimmer) (p_day : Int) (p_way : Int) (r : Bool) (h : swimmer_may p_r p_s p_day p_way = some r) :
    Calls Tryz.prog 35 [.agg (GRace.enc p_r).toArray, .agg (GSwimmer.enc p_s).toArray, .int .i64 p_day, .int .i64 p_way].toArray w (Ret w [] fun _ v _ => v = .bool r) := by
 refine f_enter [] [] Tryz.func35 rfl Tryz.ntmps35 rfl (by simp) (by simp [fps]) (by simp [fps]) fun a S => ?_
 unfold swimmer_may at h
 replace S := S.nk [] [(0, .agg (GRace.enc p_r).toArray), (1, .agg (GSwimmer.enc p_s).toArray), (2, .int .i64 p_day), (3, .int .i64 p_way)] [] rfl ⟨rfl, rfl, rfl, rfl, trivial⟩
 refine f_seq ?_
 refine f_region ?_
 refine l_box S (S.tm rfl) (cs := [.string p_r.Key, .int .i64 p_r.Metres, .int .i64 p_r.Stroke, .int .i64 p_r.Course, .int .i64 p_r.Legs, .int .i64 p_r.Sex, .int .i64 p_r.Young, .int .i64 p_r.Old]) rfl rfl ?_; clear S; intro a w1 b1 hz1 hk1 S
 refine l_box S (S.tm rfl) (cs := [.string p_s.Key, .int .i64 p_s.Sex, .int .i64 p_s.Born]) rfl rfl ?_; clear S; intro a w2 b2 hz2 hk2 S
 refine lv S (rn_assign rfl) rfl ?_; clear S; intro a S
 refine l_done ?_
 replace S := S.nk [.blk b2 [.string p_s.Key, .int .i64 p_s.Sex, .int .i64 p_s.Born] 56, .blk b1 [.string p_r.Key, .int .i64 p_r.Metres, .int .i64 p_r.Stroke, .int .i64 p_r.Course, .int .i64 p_r.Legs, .int .i64 p_r.Sex, .int .i64 p_r.Young, .int .i64 p_r.Old] 52] [(2, .int .i64 p_day), (3, .int .i64 p_way), (4, .pointer (some ⟨b1, 0, none⟩)), (5, .pointer (some ⟨b2, 0, none⟩))] [true, true] rfl ⟨rfl, rfl, rfl, rfl, trivial⟩
 refine then_n ?_
 refine f_seq ?_
 obtain ⟨j1, hj1, h⟩ := joinE h
 refine f_join (fun a w' => ∃ x1 : Bool, j1 x1 = some r ∧ Sx w [] nov [] [(8, .bool x1)] 30 a w') ?_ ?_
 ·rcases Bool.eq_false_or_eq_true (decide (p_r.Sex = 0)) with hb1 | hb1
  ·replace h := iteT h hb1
   rcases Bool.eq_false_or_eq_true true with hb2 | hb2
   ·replace h := iteT h hb2
    obtain ⟨r1, hr1, h⟩ := bindE h
    refine d_region [] ([]) Tryz.mixed S rfl (by kernel_rfl) ?_; clear S; intro w6 hk5 hsel S
    refine d_quiet 0 S hsel rfl rfl rfl (by kernel_rfl) (by kernel_rfl) rfl (fun _ hw => (rn_fld fa_52_5 (S.tm rfl))) ?_; clear S; intro a S
    refine d_quiet 1 S hsel rfl rfl rfl (by kernel_rfl) (by kernel_rfl) rfl (fun _ hw => (rn_ld Tryz.isAgg3 (off := 0) (o := 5) (S.tm rfl) ((S.blk_mem (i := 1) (cells := [.string p_r.Key, .int .i64 p_r.Metres, .int .i64 p_r.Stroke, .int .i64 p_r.Course, .int .i64 p_r.Legs, .int .i64 p_r.Sex, .int .i64 p_r.Young, .int .i64 p_r.Old]) (b := b1) (T := 52) rfl (ne_nil (e' := .blk b1 [.string p_r.Key, .int .i64 p_r.Metres, .int .i64 p_r.Stroke, .int .i64 p_r.Course, .int .i64 p_r.Legs, .int .i64 p_r.Sex, .int .i64 p_r.Young, .int .i64 p_r.Old] 52))).kept hw) rfl)) ?_; clear S; intro a S
    refine d_quiet 2 S hsel rfl rfl rfl (by kernel_rfl) (by kernel_rfl) rfl (fun _ hw => (rn_eql (S.tm rfl) rfl)) ?_; clear S; intro a S
    refine d_quiet 3 S hsel rfl rfl rfl (by kernel_rfl) (by kernel_rfl) rfl (fun _ hw => (rn_move (S.tm rfl))) ?_; clear S; intro a S
    refine d_skip 4 S hsel rfl rfl rfl rfl (neq_t hb1) rfl (by kernel_rfl) (by kernel_rfl) rfl ?_; clear S; intro a S
    refine d_skip 5 S hsel rfl rfl rfl rfl (neq_t hb1) rfl (by kernel_rfl) (by kernel_rfl) rfl ?_; clear S; intro a S
    refine d_skip 6 S hsel rfl rfl rfl rfl (neq_t hb1) rfl (by kernel_rfl) (by kernel_rfl) rfl ?_; clear S; intro a S
    refine d_skip 7 S hsel rfl rfl rfl rfl (neq_t hb1) rfl (by kernel_rfl) (by kernel_rfl) rfl ?_; clear S; intro a S
    refine d_skip 8 S hsel rfl rfl rfl rfl (neq_t hb1) rfl (by kernel_rfl) (by kernel_rfl) rfl ?_; clear S; intro a S
    refine d_quiet 9 S hsel rfl rfl rfl (by kernel_rfl) (by kernel_rfl) rfl (fun _ hw => (rn_pick_b hb1 (S.tm rfl) rfl)) ?_; clear S; intro a S
    refine d_quiet 10 S hsel rfl rfl rfl (by kernel_rfl) (by kernel_rfl) rfl (fun _ hw => (rn_move (S.tm rfl))) ?_; clear S; intro a S
    refine d_quiet_g 11 S hsel rfl rfl rfl rfl hb2 rfl rfl (by kernel_rfl) (by kernel_rfl) rfl (fun _ hw => (rn_ldA Tryz.isAgg56 Tryz.sizeOf56 (off := 0) (o := 0) (part := [.string p_s.Key, .int .i64 p_s.Sex, .int .i64 p_s.Born]) rfl rfl (S.tm rfl) ((S.blk_mem (i := 0) (cells := [.string p_s.Key, .int .i64 p_s.Sex, .int .i64 p_s.Born]) (b := b2) (T := 56) rfl (ne_nil (e' := .blk b2 [.string p_s.Key, .int .i64 p_s.Sex, .int .i64 p_s.Born] 56))).kept hw))) ?_; clear S; intro a S
    refine d_quiet_g 12 S hsel rfl rfl rfl rfl hb2 rfl rfl (by kernel_rfl) (by kernel_rfl) rfl (fun _ hw => (rn_move (S.tm rfl))) ?_; clear S; intro a S
    refine d_quiet_g 13 S hsel rfl rfl rfl rfl hb2 rfl rfl (by kernel_rfl) (by kernel_rfl) rfl (fun _ hw => (rn_move (S.tm rfl))) ?_; clear S; intro a S
    refine d_quiet_g 15 S hsel rfl rfl rfl rfl hb2 rfl rfl (by kernel_rfl) (by kernel_rfl) rfl (fun _ hw => (rn_fld fa_52_6 (S.tm rfl))) ?_; clear S; intro a S
    refine d_quiet_g 16 S hsel rfl rfl rfl rfl hb2 rfl rfl (by kernel_rfl) (by kernel_rfl) rfl (fun _ hw => (rn_ld Tryz.isAgg3 (off := 0) (o := 6) (S.tm rfl) ((S.blk_mem (i := 1) (cells := [.string p_r.Key, .int .i64 p_r.Metres, .int .i64 p_r.Stroke, .int .i64 p_r.Course, .int .i64 p_r.Legs, .int .i64 p_r.Sex, .int .i64 p_r.Young, .int .i64 p_r.Old]) (b := b1) (T := 52) rfl (ne_nil (e' := .blk b1 [.string p_r.Key, .int .i64 p_r.Metres, .int .i64 p_r.Stroke, .int .i64 p_r.Course, .int .i64 p_r.Legs, .int .i64 p_r.Sex, .int .i64 p_r.Young, .int .i64 p_r.Old] 52))).kept hw) rfl)) ?_; clear S; intro a S
    refine d_quiet_g 17 S hsel rfl rfl rfl rfl hb2 rfl rfl (by kernel_rfl) (by kernel_rfl) rfl (fun _ hw => (rn_fld fa_52_7 (S.tm rfl))) ?_; clear S; intro a S
    refine d_quiet_g 18 S hsel rfl rfl rfl rfl hb2 rfl rfl (by kernel_rfl) (by kernel_rfl) rfl (fun _ hw => (rn_ld Tryz.isAgg3 (off := 0) (o := 7) (S.tm rfl) ((S.blk_mem (i := 1) (cells := [.string p_r.Key, .int .i64 p_r.Metres, .int .i64 p_r.Stroke, .int .i64 p_r.Course, .int .i64 p_r.Legs, .int .i64 p_r.Sex, .int .i64 p_r.Young, .int .i64 p_r.Old]) (b := b1) (T := 52) rfl (ne_nil (e' := .blk b1 [.string p_r.Key, .int .i64 p_r.Metres, .int .i64 p_r.Stroke, .int .i64 p_r.Course, .int .i64 p_r.Legs, .int .i64 p_r.Sex, .int .i64 p_r.Young, .int .i64 p_r.Old] 52))).kept hw) rfl)) ?_; clear S; intro a S
    refine d_loud1 14 (by kernel_rfl) rfl ?_
    refine l_want S rfl rfl rfl hb2 ?_
    refine l_enter S (fun _ => run_call (vs := [.agg (GSwimmer.enc p_s).toArray, .int .i64 p_day, .int .i64 p_way]) ⟨(S.tm rfl), (S.tm rfl), (S.tm rfl), trivial⟩ Tryz.call62) (swimmer_age_ok _ p_s p_day p_way _ hr1) rfl ?_; clear S; intro v3 a w7 hv3 hk6 hn3 S
    subst hv3
    refine l_done ?_
    refine d_next hk6 ?_
    refine d_loud1 19 (by kernel_rfl) rfl ?_
    refine l_want S rfl rfl rfl hb2 ?_
    refine l_enter S (fun _ => run_call (vs := [.int .i64 r1, .int .i64 p_r.Young, .int .i64 p_r.Old]) ⟨(S.tm rfl), (S.tm rfl), (S.tm rfl), trivial⟩ Tryz.call40) (words_Within_ok _ r1 p_r.Young p_r.Old _ rfl) rfl ?_; clear S; intro v4 a w8 hv4 hk7 hn4 S
    subst hv4
    refine l_done ?_
    refine d_next hk7 ?_
    refine d_rest [20, 21] hsel (by kernel_rfl) rfl ?_
    clear hsel
    refine s_lv S rfl (rn_pick_b hb2 (S.tm rfl) (S.tm rfl)) rfl ?_; clear S; intro a S
    refine s_lv S rfl (rn_assign (S.tm rfl)) rfl ?_; clear S; intro a S
    refine s_done ?_
    replace S := S.nk [] [(8, .bool (words_Within r1 p_r.Young p_r.Old))] [false, false] rfl ⟨rfl, trivial⟩
    refine then_n ?_
    exact ⟨(words_Within r1 p_r.Young p_r.Old), h, S.nf [] rfl ⟨rfl, trivial⟩⟩
   ·replace h := iteF h hb2
    refine d_region [] ([]) Tryz.mixed S rfl (by kernel_rfl) ?_; clear S; intro w9 hk8 hsel S
    refine d_rest [0, 1, 2, 3, 4, 5, 6, 7, 8, 9, 10, 11, 12, 13, 14, 15, 16, 17, 18, 19, 20, 21] hsel (by kernel_rfl) rfl ?_
    clear hsel
    refine s_lv S rfl (rn_fld fa_52_5 (S.tm rfl)) rfl ?_; clear S; intro a S
    refine s_lv S rfl (rn_load Tryz.isAgg3 (S.tm rfl) (S.cell (i := 1) rfl rfl)) rfl ?_; clear S; intro a S
    refine s_lv S rfl (rn_eql (S.tm rfl) rfl) rfl ?_; clear S; intro a S
    refine s_lv S rfl (rn_move (S.tm rfl)) rfl ?_; clear S; intro a S
    refine s_skip S rfl rfl rfl rfl (neq_t hb1) rfl ?_ rfl; clear S; intro a S
    refine s_skip S rfl rfl rfl rfl (neq_t hb1) rfl ?_ rfl; clear S; intro a S
    refine s_skip S rfl rfl rfl rfl (neq_t hb1) rfl ?_ rfl; clear S; intro a S
    refine s_skip S rfl rfl rfl rfl (neq_t hb1) rfl ?_ rfl; clear S; intro a S
    refine s_skip S rfl rfl rfl rfl (neq_t hb1) rfl ?_ rfl; clear S; intro a S
    refine s_lv S rfl (rn_pick_b hb1 (S.tm rfl) rfl) rfl ?_; clear S; intro a S
    refine s_lv S rfl (rn_move (S.tm rfl)) rfl ?_; clear S; intro a S
    refine s_skip S rfl rfl rfl rfl (neq_f hb2) rfl ?_ rfl; clear S; intro a S
    refine s_skip S rfl rfl rfl rfl (neq_f hb2) rfl ?_ rfl; clear S; intro a S
    refine s_skip S rfl rfl rfl rfl (neq_f hb2) rfl ?_ rfl; clear S; intro a S
    refine s_skip S rfl rfl rfl rfl (neq_f hb2) rfl ?_ rfl; clear S; intro a S
    refine s_skip S rfl rfl rfl rfl (neq_f hb2) rfl ?_ rfl; clear S; intro a S
    refine s_skip S rfl rfl rfl rfl (neq_f hb2) rfl ?_ rfl; clear S; intro a S
    refine s_skip S rfl rfl rfl rfl (neq_f hb2) rfl ?_ rfl; clear S; intro a S
    refine s_skip S rfl rfl rfl rfl (neq_f hb2) rfl ?_ rfl; clear S; intro a S
    refine s_skip S rfl rfl rfl rfl (neq_f hb2) rfl ?_ rfl; clear S; intro a S
    refine s_lv S rfl (rn_pick_c hb2 (S.tm rfl) rfl) rfl ?_; clear S; intro a S
    refine s_lv S rfl (rn_assign (S.tm rfl)) rfl ?_; clear S; intro a S
    refine s_done ?_
    replace S := S.nk [] [(8, .bool false)] [false, false] rfl ⟨rfl, trivial⟩
    refine then_n ?_
    exact ⟨false, h, S.nf [] rfl ⟨rfl, trivial⟩⟩
  ·replace h := iteF h hb1
   rcases Bool.eq_false_or_eq_true (decide (p_r.Sex = p_s.Sex)) with hb3 | hb3
   ·replace h := iteT h hb3
    obtain ⟨r2, hr2, h⟩ := bindE h
    refine d_region [] ([]) Tryz.mixed S rfl (by kernel_rfl) ?_; clear S; intro w12 hk11 hsel S
    refine d_quiet 0 S hsel rfl rfl rfl (by kernel_rfl) (by kernel_rfl) rfl (fun _ hw => (rn_fld fa_52_5 (S.tm rfl))) ?_; clear S; intro a S
    refine d_quiet 1 S hsel rfl rfl rfl (by kernel_rfl) (by kernel_rfl) rfl (fun _ hw => (rn_ld Tryz.isAgg3 (off := 0) (o := 5) (S.tm rfl) ((S.blk_mem (i := 1) (cells := [.string p_r.Key, .int .i64 p_r.Metres, .int .i64 p_r.Stroke, .int .i64 p_r.Course, .int .i64 p_r.Legs, .int .i64 p_r.Sex, .int .i64 p_r.Young, .int .i64 p_r.Old]) (b := b1) (T := 52) rfl (ne_nil (e' := .blk b1 [.string p_r.Key, .int .i64 p_r.Metres, .int .i64 p_r.Stroke, .int .i64 p_r.Course, .int .i64 p_r.Legs, .int .i64 p_r.Sex, .int .i64 p_r.Young, .int .i64 p_r.Old] 52))).kept hw) rfl)) ?_; clear S; intro a S
    refine d_quiet 2 S hsel rfl rfl rfl (by kernel_rfl) (by kernel_rfl) rfl (fun _ hw => (rn_eql (S.tm rfl) rfl)) ?_; clear S; intro a S
    refine d_quiet 3 S hsel rfl rfl rfl (by kernel_rfl) (by kernel_rfl) rfl (fun _ hw => (rn_move (S.tm rfl))) ?_; clear S; intro a S
    refine d_quiet_g 4 S hsel rfl rfl rfl rfl hb1 rfl rfl (by kernel_rfl) (by kernel_rfl) rfl (fun _ hw => (rn_fld fa_52_5 (S.tm rfl))) ?_; clear S; intro a S
    refine d_quiet_g 5 S hsel rfl rfl rfl rfl hb1 rfl rfl (by kernel_rfl) (by kernel_rfl) rfl (fun _ hw => (rn_ld Tryz.isAgg3 (off := 0) (o := 5) (S.tm rfl) ((S.blk_mem (i := 1) (cells := [.string p_r.Key, .int .i64 p_r.Metres, .int .i64 p_r.Stroke, .int .i64 p_r.Course, .int .i64 p_r.Legs, .int .i64 p_r.Sex, .int .i64 p_r.Young, .int .i64 p_r.Old]) (b := b1) (T := 52) rfl (ne_nil (e' := .blk b1 [.string p_r.Key, .int .i64 p_r.Metres, .int .i64 p_r.Stroke, .int .i64 p_r.Course, .int .i64 p_r.Legs, .int .i64 p_r.Sex, .int .i64 p_r.Young, .int .i64 p_r.Old] 52))).kept hw) rfl)) ?_; clear S; intro a S
    refine d_quiet_g 6 S hsel rfl rfl rfl rfl hb1 rfl rfl (by kernel_rfl) (by kernel_rfl) rfl (fun _ hw => (rn_fld fa_56_1 (S.tm rfl))) ?_; clear S; intro a S
    refine d_quiet_g 7 S hsel rfl rfl rfl rfl hb1 rfl rfl (by kernel_rfl) (by kernel_rfl) rfl (fun _ hw => (rn_ld Tryz.isAgg3 (off := 0) (o := 1) (S.tm rfl) ((S.blk_mem (i := 0) (cells := [.string p_s.Key, .int .i64 p_s.Sex, .int .i64 p_s.Born]) (b := b2) (T := 56) rfl (ne_nil (e' := .blk b2 [.string p_s.Key, .int .i64 p_s.Sex, .int .i64 p_s.Born] 56))).kept hw) rfl)) ?_; clear S; intro a S
    refine d_quiet_g 8 S hsel rfl rfl rfl rfl hb1 rfl rfl (by kernel_rfl) (by kernel_rfl) rfl (fun _ hw => (rn_eql (S.tm rfl) (S.tm rfl))) ?_; clear S; intro a S
    refine d_quiet 9 S hsel rfl rfl rfl (by kernel_rfl) (by kernel_rfl) rfl (fun _ hw => (rn_pick_c hb1 (S.tm rfl) (S.tm rfl))) ?_; clear S; intro a S
    refine d_quiet 10 S hsel rfl rfl rfl (by kernel_rfl) (by kernel_rfl) rfl (fun _ hw => (rn_move (S.tm rfl))) ?_; clear S; intro a S
    refine d_quiet_g 11 S hsel rfl rfl rfl rfl hb3 rfl rfl (by kernel_rfl) (by kernel_rfl) rfl (fun _ hw => (rn_ldA Tryz.isAgg56 Tryz.sizeOf56 (off := 0) (o := 0) (part := [.string p_s.Key, .int .i64 p_s.Sex, .int .i64 p_s.Born]) rfl rfl (S.tm rfl) ((S.blk_mem (i := 0) (cells := [.string p_s.Key, .int .i64 p_s.Sex, .int .i64 p_s.Born]) (b := b2) (T := 56) rfl (ne_nil (e' := .blk b2 [.string p_s.Key, .int .i64 p_s.Sex, .int .i64 p_s.Born] 56))).kept hw))) ?_; clear S; intro a S
    refine d_quiet_g 12 S hsel rfl rfl rfl rfl hb3 rfl rfl (by kernel_rfl) (by kernel_rfl) rfl (fun _ hw => (rn_move (S.tm rfl))) ?_; clear S; intro a S
    refine d_quiet_g 13 S hsel rfl rfl rfl rfl hb3 rfl rfl (by kernel_rfl) (by kernel_rfl) rfl (fun _ hw => (rn_move (S.tm rfl))) ?_; clear S; intro a S
    refine d_quiet_g 15 S hsel rfl rfl rfl rfl hb3 rfl rfl (by kernel_rfl) (by kernel_rfl) rfl (fun _ hw => (rn_fld fa_52_6 (S.tm rfl))) ?_; clear S; intro a S
    refine d_quiet_g 16 S hsel rfl rfl rfl rfl hb3 rfl rfl (by kernel_rfl) (by kernel_rfl) rfl (fun _ hw => (rn_ld Tryz.isAgg3 (off := 0) (o := 6) (S.tm rfl) ((S.blk_mem (i := 1) (cells := [.string p_r.Key, .int .i64 p_r.Metres, .int .i64 p_r.Stroke, .int .i64 p_r.Course, .int .i64 p_r.Legs, .int .i64 p_r.Sex, .int .i64 p_r.Young, .int .i64 p_r.Old]) (b := b1) (T := 52) rfl (ne_nil (e' := .blk b1 [.string p_r.Key, .int .i64 p_r.Metres, .int .i64 p_r.Stroke, .int .i64 p_r.Course, .int .i64 p_r.Legs, .int .i64 p_r.Sex, .int .i64 p_r.Young, .int .i64 p_r.Old] 52))).kept hw) rfl)) ?_; clear S; intro a S
    refine d_quiet_g 17 S hsel rfl rfl rfl rfl hb3 rfl rfl (by kernel_rfl) (by kernel_rfl) rfl (fun _ hw => (rn_fld fa_52_7 (S.tm rfl))) ?_; clear S; intro a S
    refine d_quiet_g 18 S hsel rfl rfl rfl rfl hb3 rfl rfl (by kernel_rfl) (by kernel_rfl) rfl (fun _ hw => (rn_ld Tryz.isAgg3 (off := 0) (o := 7) (S.tm rfl) ((S.blk_mem (i := 1) (cells := [.string p_r.Key, .int .i64 p_r.Metres, .int .i64 p_r.Stroke, .int .i64 p_r.Course, .int .i64 p_r.Legs, .int .i64 p_r.Sex, .int .i64 p_r.Young, .int .i64 p_r.Old]) (b := b1) (T := 52) rfl (ne_nil (e' := .blk b1 [.string p_r.Key, .int .i64 p_r.Metres, .int .i64 p_r.Stroke, .int .i64 p_r.Course, .int .i64 p_r.Legs, .int .i64 p_r.Sex, .int .i64 p_r.Young, .int .i64 p_r.Old] 52))).kept hw) rfl)) ?_; clear S; intro a S
    refine d_loud1 14 (by kernel_rfl) rfl ?_
    refine l_want S rfl rfl rfl hb3 ?_
    refine l_enter S (fun _ => run_call (vs := [.agg (GSwimmer.enc p_s).toArray, .int .i64 p_day, .int .i64 p_way]) ⟨(S.tm rfl), (S.tm rfl), (S.tm rfl), trivial⟩ Tryz.call62) (swimmer_age_ok _ p_s p_day p_way _ hr2) rfl ?_; clear S; intro v7 a w13 hv7 hk12 hn7 S
    subst hv7
    refine l_done ?_
    refine d_next hk12 ?_
    refine d_loud1 19 (by kernel_rfl) rfl ?_
    refine l_want S rfl rfl rfl hb3 ?_
    refine l_enter S (fun _ => run_call (vs := [.int .i64 r2, .int .i64 p_r.Young, .int .i64 p_r.Old]) ⟨(S.tm rfl), (S.tm rfl), (S.tm rfl), trivial⟩ Tryz.call40) (words_Within_ok _ r2 p_r.Young p_r.Old _ rfl) rfl ?_; clear S; intro v8 a w14 hv8 hk13 hn8 S
    subst hv8
    refine l_done ?_
    refine d_next hk13 ?_
    refine d_rest [20, 21] hsel (by kernel_rfl) rfl ?_
    clear hsel
    refine s_lv S rfl (rn_pick_b hb3 (S.tm rfl) (S.tm rfl)) rfl ?_; clear S; intro a S
    refine s_lv S rfl (rn_assign (S.tm rfl)) rfl ?_; clear S; intro a S
    refine s_done ?_
    replace S := S.nk [] [(8, .bool (words_Within r2 p_r.Young p_r.Old))] [false, false] rfl ⟨rfl, trivial⟩
    refine then_n ?_
    exact ⟨(words_Within r2 p_r.Young p_r.Old), h, S.nf [] rfl ⟨rfl, trivial⟩⟩
   ·replace h := iteF h hb3
    refine d_region [] ([]) Tryz.mixed S rfl (by kernel_rfl) ?_; clear S; intro w15 hk14 hsel S
    refine d_rest [0, 1, 2, 3, 4, 5, 6, 7, 8, 9, 10, 11, 12, 13, 14, 15, 16, 17, 18, 19, 20, 21] hsel (by kernel_rfl) rfl ?_
    clear hsel
    refine s_lv S rfl (rn_fld fa_52_5 (S.tm rfl)) rfl ?_; clear S; intro a S
    refine s_lv S rfl (rn_load Tryz.isAgg3 (S.tm rfl) (S.cell (i := 1) rfl rfl)) rfl ?_; clear S; intro a S
    refine s_lv S rfl (rn_eql (S.tm rfl) rfl) rfl ?_; clear S; intro a S
    refine s_lv S rfl (rn_move (S.tm rfl)) rfl ?_; clear S; intro a S
    refine s_want S rfl rfl rfl rfl hb1 ?_
    refine s_lv0 S (rn_fld fa_52_5 (S.tm rfl)) rfl ?_; clear S; intro a S
    refine s_want S rfl rfl rfl rfl hb1 ?_
    refine s_lv0 S (rn_load Tryz.isAgg3 (S.tm rfl) (S.cell (i := 1) rfl rfl)) rfl ?_; clear S; intro a S
    refine s_want S rfl rfl rfl rfl hb1 ?_
    refine s_lv0 S (rn_fld fa_56_1 (S.tm rfl)) rfl ?_; clear S; intro a S
    refine s_want S rfl rfl rfl rfl hb1 ?_
    refine s_lv0 S (rn_load Tryz.isAgg3 (S.tm rfl) (S.cell (i := 0) rfl rfl)) rfl ?_; clear S; intro a S
    refine s_want S rfl rfl rfl rfl hb1 ?_
    refine s_lv0 S (rn_eql (S.tm rfl) (S.tm rfl)) rfl ?_; clear S; intro a S
    refine s_lv S rfl (rn_pick_c hb1 (S.tm rfl) (S.tm rfl)) rfl ?_; clear S; intro a S
    refine s_lv S rfl (rn_move (S.tm rfl)) rfl ?_; clear S; intro a S
    refine s_skip S rfl rfl rfl rfl (neq_f hb3) rfl ?_ rfl; clear S; intro a S
    refine s_skip S rfl rfl rfl rfl (neq_f hb3) rfl ?_ rfl; clear S; intro a S
    refine s_skip S rfl rfl rfl rfl (neq_f hb3) rfl ?_ rfl; clear S; intro a S
    refine s_skip S rfl rfl rfl rfl (neq_f hb3) rfl ?_ rfl; clear S; intro a S
    refine s_skip S rfl rfl rfl rfl (neq_f hb3) rfl ?_ rfl; clear S; intro a S
    refine s_skip S rfl rfl rfl rfl (neq_f hb3) rfl ?_ rfl; clear S; intro a S
    refine s_skip S rfl rfl rfl rfl (neq_f hb3) rfl ?_ rfl; clear S; intro a S
    refine s_skip S rfl rfl rfl rfl (neq_f hb3) rfl ?_ rfl; clear S; intro a S
    refine s_skip S rfl rfl rfl rfl (neq_f hb3) rfl ?_ rfl; clear S; intro a S
    refine s_lv S rfl (rn_pick_c hb3 (S.tm rfl) rfl) rfl ?_; clear S; intro a S
    refine s_lv S rfl (rn_assign (S.tm rfl)) rfl ?_; clear S; intro a S
    refine s_done ?_
    replace S := S.nk [] [(8, .bool false)] [false, false] rfl ⟨rfl, trivial⟩
    refine then_n ?_
    exact ⟨false, h, S.nf [] rfl ⟨rfl, trivial⟩⟩
 clear S h; rintro a w3 ⟨x1, h, S⟩; rw [hj1] at h; clear hj1 j1
 refine then_n ?_
 refine wp_ret ?_
 obtain rfl := Option.some.inj h
 exact f_ret S Tryz.results35 rfl rfl
end Go.Proofs.YtdcmeoefpigcdaaGreatDoor
