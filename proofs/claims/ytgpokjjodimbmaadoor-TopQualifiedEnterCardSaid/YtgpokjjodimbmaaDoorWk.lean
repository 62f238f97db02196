/- Each Go function computes its plain twin, by program. -/
import Derived.Test.YtgpokjjodimbmaaDoorWk1
namespace Go.Proofs.YtgpokjjodimbmaaDoor
open Go
theorem session_Timetable_ok (w : World) (v_p_l : Value) (p_l : List GItem) (hs_p_l : Slc (view w []) 5 v_p_l (p_l.map GItem.enc)) (p_from : Int) (r : (List GSlot) × Int) (h : session_Timetable p_l p_from = some r) :
    Calls Tryd.prog 33 [v_p_l, .int .i64 p_from].toArray w (Ret w [] fun τ v _ => ∃ u1 : Value, v = .tuple #[u1, .int .i64 r.2] ∧ OwnV τ 85 4 u1 r.1.length (r.1.flatMap GSlot.enc)) := by
 refine f_enter [] [] Tryd.func33 rfl Tryd.ntmps33 rfl (by simp) (by simp [fps]) (by simp [fps]) fun a S => ?_
 unfold session_Timetable at h
 replace S := S.nk [] [(0, v_p_l), (1, .int .i64 p_from)] [] rfl ⟨rfl, rfl, trivial⟩
 refine f_seq ?_
 refine f_region ?_
 refine lv S (rn_assign rfl) rfl ?_; clear S; intro a S
 refine lv S (rn_assign rfl) rfl ?_; clear S; intro a S
 refine l_done ?_
 replace S := S.nk [] [(0, v_p_l), (1, .int .i64 p_from)] [] rfl ⟨rfl, rfl, trivial⟩
 refine then_n ?_
 refine f_seq ?_
 refine f_seq ?_
 refine f_region ?_
 refine lv S (rn_move (S.tm rfl)) rfl ?_; clear S; intro a S
 obtain ⟨r1, hr1, h⟩ := bindE h
 refine l_enter S (fun _ => run_call (vs := [v_p_l]) ⟨(S.tm rfl), trivial⟩ Tryd.call47) (session_CheckItems_ok _ v_p_l p_l (hs_p_l.mono (S.le_arg nil_sub)) _ hr1) rfl ?_; clear S; intro v1 a w1 hv1 hk1 hn1 S
 subst hv1
 refine lv S (rn_assign (S.tm rfl)) rfl ?_; clear S; intro a S
 refine l_done ?_
 replace S := S.nk [] [(0, v_p_l), (1, .int .i64 p_from), (6, .int .i64 r1)] [] rfl ⟨rfl, rfl, rfl, trivial⟩
 refine then_n ?_
 refine f_seq ?_
 refine f_region ?_
 refine lv S (rn_move (S.tm rfl)) rfl ?_; clear S; intro a S
 refine lv S (rn_neq (S.tm rfl) rfl) rfl ?_; clear S; intro a S
 refine l_done ?_
 replace S := S.nk [] [(0, v_p_l), (1, .int .i64 p_from), (6, .int .i64 r1), (10, .bool (!decide (r1 = 0)))] [] rfl ⟨rfl, rfl, rfl, rfl, trivial⟩
 refine then_n ?_
 refine f_cond (S.tm rfl) (fun hb1 => ?_) (fun hb1 => ?_)
 ·replace h := iteT h hb1
  refine f_seq ?_
  refine f_region ?_
  refine lv S (rn_move (S.tm rfl)) rfl ?_; clear S; intro a S
  refine lv S (rn_assign rfl) rfl ?_; clear S; intro a S
  refine lv S (rn_assign (S.tm rfl)) rfl ?_; clear S; intro a S
  refine l_done ?_
  replace S := S.nk [] [(4, .slice none 0 0), (5, .int .i64 r1)] [] rfl ⟨rfl, rfl, trivial⟩
  refine then_n ?_
  refine wp_ret ?_
  refine then_r ?_
  obtain rfl := Option.some.inj h
  exact f_ret2 S Tryd.results33 rfl rfl ⟨_, rfl, (ownV_nil _ _ _)⟩
 ·replace h := iteF h hb1
  refine wp_skip ?_
  refine then_n ?_
  refine f_seq ?_
  refine f_region ?_
  refine lv S (rn_move (S.tm rfl)) rfl ?_; clear S; intro a S
  refine lv S (rn_move (S.tm rfl)) rfl ?_; clear S; intro a S
  obtain ⟨r2, hr2, h⟩ := bindE h
  have hz1 := S.keep.size
  refine l_enter S (fun _ => run_call (vs := [v_p_l, .int .i64 p_from]) ⟨(S.tm rfl), (S.tm rfl), trivial⟩ Tryd.call48) (session_begin_ok _ v_p_l p_l (hs_p_l.mono (S.le_arg nil_sub)) p_from _ hr2) rfl ?_; clear S; intro v2 a w2 hv2 hk2 hn2 S
  obtain ⟨u1, rfl, ho1⟩ := hv2
  obtain ⟨φ1, hl1, hm1, S⟩ := S.see' hn2 hz1
  have hs1 := ho1.mono hm1
  refine lv S (rn_extract (S.tm rfl) rfl) rfl ?_; clear S; intro a S
  refine lv S (rn_extract (S.tm rfl) rfl) rfl ?_; clear S; intro a S
  refine lv S (rn_assign (S.tm rfl)) rfl ?_; clear S; intro a S
  refine lv S (rn_assign (S.tm rfl)) rfl ?_; clear S; intro a S
  refine l_done ?_
  replace S := S.nk [] [(4, u1), (5, .int .i64 r2.2)] [] rfl ⟨rfl, rfl, trivial⟩
  refine then_n ?_
  refine wp_ret ?_
  obtain rfl := Option.some.inj h
  exact f_ret2 S Tryd.results33 rfl rfl ⟨_, rfl, ((hs1).mono S.le_newer)⟩
theorem session_Ends_ok (w : World) (v_p_l : Value) (p_l : List GItem) (hs_p_l : Slc (view w []) 5 v_p_l (p_l.map GItem.enc)) (p_from : Int) (r : Int × Int) (h : session_Ends p_l p_from = some r) :
    Calls Tryd.prog 22 [v_p_l, .int .i64 p_from].toArray w (Ret w [] fun _ v _ => v = .tuple #[.int .i64 r.1, .int .i64 r.2]) := by
 refine f_enter [] [] Tryd.func22 rfl Tryd.ntmps22 rfl (by simp) (by simp [fps]) (by simp [fps]) fun a S => ?_
 unfold session_Ends at h
 replace S := S.nk [] [(0, v_p_l), (1, .int .i64 p_from)] [] rfl ⟨rfl, rfl, trivial⟩
 refine f_seq ?_
 refine f_region ?_
 refine lv S (rn_assign rfl) rfl ?_; clear S; intro a S
 refine lv S (rn_assign rfl) rfl ?_; clear S; intro a S
 refine l_done ?_
 replace S := S.nk [] [(0, v_p_l), (1, .int .i64 p_from)] [] rfl ⟨rfl, rfl, trivial⟩
 refine then_n ?_
 refine f_seq ?_
 refine f_region ?_
 refine lv S (rn_move (S.tm rfl)) rfl ?_; clear S; intro a S
 refine lv S (rn_move (S.tm rfl)) rfl ?_; clear S; intro a S
 obtain ⟨r1, hr1, h⟩ := bindE h
 have hz1 := S.keep.size
 refine l_enter S (fun _ => run_call (vs := [v_p_l, .int .i64 p_from]) ⟨(S.tm rfl), (S.tm rfl), trivial⟩ Tryd.call33) (session_Timetable_ok _ v_p_l p_l (hs_p_l.mono (S.le_arg nil_sub)) p_from _ hr1) rfl ?_; clear S; intro v1 a w1 hv1 hk1 hn1 S
 obtain ⟨u1, rfl, ho1⟩ := hv1
 obtain ⟨φ1, hl1, hm1, S⟩ := S.see' hn1 hz1
 have hs1 := ho1.mono hm1
 refine lv S (rn_move (S.tm rfl)) rfl ?_; clear S; intro a S
 refine lv S (rn_extract (S.tm rfl) rfl) rfl ?_; clear S; intro a S
 refine lv S (rn_extract (S.tm rfl) rfl) rfl ?_; clear S; intro a S
 refine lv S (rn_assign (S.tm rfl)) rfl ?_; clear S; intro a S
 refine lv S (rn_assign (S.tm rfl)) rfl ?_; clear S; intro a S
 refine l_done ?_
 replace S := S.nk [] [(1, .int .i64 p_from), (6, u1), (7, .int .i64 r1.2)] [] rfl ⟨rfl, rfl, rfl, trivial⟩
 refine then_n ?_
 refine f_seq ?_
 refine f_seq ?_
 refine f_region ?_
 refine lv S (rn_move (S.tm rfl)) rfl ?_; clear S; intro a S
 refine lv S (rn_neq (S.tm rfl) rfl) rfl ?_; clear S; intro a S
 refine l_done ?_
 replace S := S.nk [] [(1, .int .i64 p_from), (6, u1), (7, .int .i64 r1.2), (15, .bool (!decide (r1.2 = 0)))] [] rfl ⟨rfl, rfl, rfl, rfl, trivial⟩
 refine then_n ?_
 refine f_cond (S.tm rfl) (fun hb1 => ?_) (fun hb1 => ?_)
 ·replace h := iteT h hb1
  refine f_seq ?_
  refine f_region ?_
  refine lv S (rn_move (S.tm rfl)) rfl ?_; clear S; intro a S
  refine lv S (rn_assign rfl) rfl ?_; clear S; intro a S
  refine lv S (rn_assign (S.tm rfl)) rfl ?_; clear S; intro a S
  refine l_done ?_
  replace S := S.nk [] [(4, .int .i64 0), (5, .int .i64 r1.2)] [] rfl ⟨rfl, rfl, trivial⟩
  refine then_n ?_
  refine wp_ret ?_
  refine then_r ?_
  obtain rfl := Option.some.inj h
  exact f_ret2 S Tryd.results22 rfl rfl rfl
 ·replace h := iteF h hb1
  refine wp_skip ?_
  refine then_n ?_
  refine f_seq ?_
  refine f_region ?_
  refine lv S (rn_move (S.tm rfl)) rfl ?_; clear S; intro a S
  refine lv S (rn_move (S.tm rfl)) rfl ?_; clear S; intro a S
  obtain ⟨r2, hr2, h⟩ := bindE h
  refine l_enter S (fun _ => run_call (vs := [u1, .int .i64 p_from]) ⟨(S.tm rfl), (S.tm rfl), trivial⟩ Tryd.call34) (session_end_ok _ u1 r1.1 (((ownV_slcT GSlot.enc_ok hs1)).mono (S.le_new nil_sub)) p_from _ hr2) rfl ?_; clear S; intro v2 a w2 hv2 hk2 hn2 S
  subst hv2
  refine lv S (rn_assign (S.tm rfl)) rfl ?_; clear S; intro a S
  refine lv S (rn_assign rfl) rfl ?_; clear S; intro a S
  refine l_done ?_
  replace S := S.nk [] [(4, .int .i64 r2), (5, .int .i64 0)] [] rfl ⟨rfl, rfl, trivial⟩
  refine then_n ?_
  refine wp_ret ?_
  obtain rfl := Option.some.inj h
  exact f_ret2 S Tryd.results22 rfl rfl rfl
set_option maxRecDepth 20000 in
theorem points_CheckBase_ok (w : World) (v_p_l : Value) (p_l : List GBase) (hs_p_l : Slc (view w []) 2 v_p_l (p_l.map GBase.enc)) (r : Int) (h : points_CheckBase p_l = some r) :
    Calls Tryd.prog 35 [v_p_l].toArray w (Ret w [] fun _ v _ => v = .int .i64 r) := by
 refine f_enter [] [] Tryd.func35 rfl Tryd.ntmps35 rfl (by simp) (by simp [fps]) (by simp [fps]) fun a S => ?_
 unfold points_CheckBase at h
 replace S := S.nk [] [(0, v_p_l)] [] rfl ⟨rfl, trivial⟩
 refine f_seq ?_
 refine f_region ?_
 refine lv S (rn_assign rfl) rfl ?_; clear S; intro a S
 refine l_done ?_
 replace S := S.nk [] [(0, v_p_l)] [] rfl ⟨rfl, trivial⟩
 refine then_n ?_
 refine f_seq ?_
 refine f_seq ?_
 refine f_region ?_
 refine lv S (rn_move (S.tm rfl)) rfl ?_; clear S; intro a S
 refine lv S (rn_lenT sl_64 (S.tm rfl) (slc_len hs_p_l)) rfl ?_; clear S; intro a S
 refine lv S (rn_gtr (S.tm rfl) rfl) rfl ?_; clear S; intro a S
 refine l_done ?_
 replace S := S.nk [] [(0, v_p_l), (7, .bool (decide (500 < (p_l.length : Int))))] [] rfl ⟨rfl, rfl, trivial⟩
 refine then_n ?_
 refine f_cond (S.tm rfl) (fun hb1 => ?_) (fun hb1 => ?_)
 ·replace h := iteT h hb1
  refine f_seq ?_
  refine f_region ?_
  refine lv S (rn_assign rfl) rfl ?_; clear S; intro a S
  refine l_done ?_
  replace S := S.nk [] [(2, .int .i64 2)] [] rfl ⟨rfl, trivial⟩
  refine then_n ?_
  refine wp_ret ?_
  refine then_r ?_
  obtain rfl := Option.some.inj h
  exact f_ret S Tryd.results35 rfl rfl
 ·replace h := iteF h hb1
  refine wp_skip ?_
  refine then_n ?_
  refine f_seq ?_
  refine f_seq ?_
  refine f_region ?_
  refine lv S (rn_move (S.tm rfl)) rfl ?_; clear S; intro a S
  refine lv S (rn_lenT sl_64 (S.tm rfl) (slc_len hs_p_l)) rfl ?_; clear S; intro a S
  refine lv S (rn_move rfl) rfl ?_; clear S; intro a S
  refine l_done ?_
  replace S := S.nk [] [(0, v_p_l), (8, v_p_l), (9, .int .i64 (p_l.length : Int)), (10, .int .i64 0)] [] rfl ⟨rfl, rfl, rfl, rfl, trivial⟩
  refine then_n ?_
  obtain ⟨j1, hj1, h⟩ := joinE h
  refine f_join (fun a w' => j1 = some r ∧ Sx w [] nov [] [] 40 a w') ?_ ?_
  ·refine wp_block ?_
   refine f_loop (fun (ys1 : List GBase) a w' => ∃ i1 : Nat, (∃ dn, p_l = dn ++ ys1 ∧ dn.length = i1) ∧ points_CheckBase_l1 p_l j1 ys1 i1 = some r ∧ Sx w [] nov [] [(0, v_p_l), (8, v_p_l), (9, .int .i64 (p_l.length : Int)), (10, .int .i64 (i1 : Int))] 40 a w') List.length p_l ⟨0, ⟨[], rfl, rfl⟩, h, S.nf [] rfl ⟨rfl, rfl, rfl, rfl, trivial⟩⟩ ?_
   clear S h; rintro ys1 a w1 ⟨i1, ⟨dn, hd1, hi1⟩, h, S⟩
   cases ys1 with
   | nil =>
    rw [points_CheckBase_l1.eq_1] at h
    refine f_seq ?_
    refine f_region ?_
    refine lv S (rn_lss (S.tm rfl) (S.tm rfl)) rfl ?_; clear S; intro a S
    refine l_done ?_
    replace S := S.nk [] [(0, v_p_l), (8, v_p_l), (9, .int .i64 (p_l.length : Int)), (10, .int .i64 (i1 : Int)), (11, .bool (decide ((i1 : Int) < (p_l.length : Int))))] [] rfl ⟨rfl, rfl, rfl, rfl, rfl, trivial⟩
    refine then_n ?_
    refine f_seq ?_
    refine wp_cond_false ((S.tm rfl).trans (congrArg Value.bool (rng_nil hd1 hi1))) ?_
    refine wp_exit ?_
    refine then_x ?_
    refine then_x ?_
    refine x_same ?_
    refine then_n ?_
    exact ⟨h, S.nf [] rfl trivial⟩
   | cons y1 ys1 =>
    rw [points_CheckBase_l1.eq_2] at h
    refine f_seq ?_
    refine f_region ?_
    refine lv S (rn_lss (S.tm rfl) (S.tm rfl)) rfl ?_; clear S; intro a S
    refine l_done ?_
    replace S := S.nk [] [(0, v_p_l), (8, v_p_l), (9, .int .i64 (p_l.length : Int)), (10, .int .i64 (i1 : Int)), (11, .bool (decide ((i1 : Int) < (p_l.length : Int))))] [] rfl ⟨rfl, rfl, rfl, rfl, rfl, trivial⟩
    refine then_n ?_
    refine f_seq ?_
    refine wp_cond_true ((S.tm rfl).trans (congrArg Value.bool (rng_cons hd1 hi1))) ?_
    refine wp_skip ?_
    refine then_n ?_
    refine f_seq ?_
    refine wp_block ?_
    refine f_seq ?_
    refine f_region ?_
    refine lv S (rn_move (S.tm rfl)) rfl ?_; clear S; intro a S
    obtain ⟨b1, o1, hm1, hr1⟩ := rn_indexT (a := a) (x := .tmp 8) (y := .tmp 10) (ty := 0) sl_64 hs_p_l (get_mid hd1 hi1) rfl (S.tm rfl) (S.tm rfl)
    refine lv S (hr1 _) rfl ?_; clear S; intro a S
    clear hr1
    refine lv S (rn_ldA Tryd.isAgg63 Tryd.sizeOf63 (off := o1) (o := 0) (part := [.string y1.Race, .int .i64 y1.Time]) rfl rfl (S.tm rfl) (hm1.at S.emb0)) rfl ?_; clear S; intro a S
    refine l_alloc S Tryd.zeroValue63 (cs := [.string k_empty, .int .i64 0]) rfl rfl ?_; clear S; intro a w3 b2 hz1 hk1 S
    refine lv S (rn_assign (S.tm rfl)) rfl ?_; clear S; intro a S
    refine l_store S (S.tm rfl) (S.tm rfl) (i := 0) (off := 0) rfl Tryd.sizeOf63 (vs := [.string y1.Race, .int .i64 y1.Time]) rfl rfl rfl rfl ?_; clear S; intro w4 hk2 S
    refine l_done ?_
    replace S := S.nk [.blk b2 [.string y1.Race, .int .i64 y1.Time] 63] [(0, v_p_l), (3, .int .i64 (i1 : Int)), (4, .pointer (some ⟨b2, 0, none⟩)), (8, v_p_l), (9, .int .i64 (p_l.length : Int)), (10, .int .i64 (i1 : Int))] [true] rfl ⟨rfl, rfl, rfl, rfl, rfl, rfl, trivial⟩
    refine then_n ?_
    refine wp_block ?_
    refine f_seq ?_
    refine f_region ?_
    refine lv S (rn_fld fa_63_0 (S.tm rfl)) rfl ?_; clear S; intro a S
    refine lv S (rn_load Tryd.isAgg9 (S.tm rfl) (S.cell (i := 0) rfl rfl)) rfl ?_; clear S; intro a S
    obtain ⟨r1, hr2, h⟩ := bindE h
    refine l_enter S (fun _ => run_call (vs := [.string y1.Race]) ⟨(S.tm rfl), trivial⟩ Tryd.call17) (words_IsKey_ok _ y1.Race _ hr2) rfl ?_; clear S; intro v1 a w5 hv1 hk3 hn1 S
    subst hv1
    refine lv S (rn_not (S.tm rfl)) rfl ?_; clear S; intro a S
    refine lv S (rn_assign (S.tm rfl)) rfl ?_; clear S; intro a S
    refine l_done ?_
    replace S := S.nk [.blk b2 [.string y1.Race, .int .i64 y1.Time] 63] [(0, v_p_l), (3, .int .i64 (i1 : Int)), (4, .pointer (some ⟨b2, 0, none⟩)), (8, v_p_l), (9, .int .i64 (p_l.length : Int)), (10, .int .i64 (i1 : Int)), (15, .bool (!r1))] [true] rfl ⟨rfl, rfl, rfl, rfl, rfl, rfl, rfl, trivial⟩
    refine then_n ?_
    refine f_cond (S.tm rfl) (fun hb2 => ?_) (fun hb2 => ?_)
    ·replace h := iteT h hb2
     refine f_seq ?_
     refine f_region ?_
     refine lv S (rn_assign rfl) rfl ?_; clear S; intro a S
     refine l_done ?_
     replace S := S.nk [] [(2, .int .i64 5)] [false] rfl ⟨rfl, trivial⟩
     refine then_n ?_
     refine wp_ret ?_
     refine blk_r ?_
     refine blk_r ?_
     refine then_r ?_
     refine then_r ?_
     refine blk_r ?_
     refine then_r ?_
     refine then_r ?_
     obtain rfl := Option.some.inj h
     exact f_ret S Tryd.results35 rfl rfl
    ·replace h := iteF h hb2
     refine f_seq ?_
     refine d_region [] ([]) Tryd.mixed S rfl (by kernel_rfl) ?_; clear S; intro w6 hk4 hsel S
     refine d_rest [0, 1, 2, 3, 4, 5, 6, 7, 8, 9, 10, 11, 12, 13] hsel (by kernel_rfl) rfl ?_
     clear hsel
     refine s_lv S rfl (rn_move (S.tm rfl)) rfl ?_; clear S; intro a S
     refine s_lv S rfl (rn_gtr (S.tm rfl) rfl) rfl ?_; clear S; intro a S
     refine s_lv S rfl (rn_move (S.tm rfl)) rfl ?_; clear S; intro a S
     obtain ⟨j2, hj2, h⟩ := joinE h
     refine s_cutm 10 (fun a w' => ∃ c1, j2 c1 = some r ∧ Keep [] w6 w' ∧ Sx w [] nov [.blk b2 [.string y1.Race, .int .i64 y1.Time] 63] [(0, v_p_l), (4, .pointer (some ⟨b2, 0, none⟩)), (8, v_p_l), (9, .int .i64 (p_l.length : Int)), (10, .int .i64 (i1 : Int)), (33, .bool c1)] 40 a w') ?_ ?_
     ·rcases Bool.eq_false_or_eq_true (decide (0 < (i1 : Int))) with hb3 | hb3
      ·replace h := iteT h hb3
       refine s_want S rfl rfl rfl rfl hb3 ?_
       refine s_lv0 S (rn_fld fa_63_0 (S.tm rfl)) rfl ?_; clear S; intro a S
       refine s_want S rfl rfl rfl rfl hb3 ?_
       refine s_lv0 S (rn_load Tryd.isAgg9 (S.tm rfl) (S.cell (i := 0) rfl rfl)) rfl ?_; clear S; intro a S
       refine s_want S rfl rfl rfl rfl hb3 ?_
       refine s_lv0 S (rn_move (S.tm rfl)) rfl ?_; clear S; intro a S
       refine s_want S rfl rfl rfl rfl hb3 ?_
       refine s_lv0 S (rn_move (S.tm rfl)) rfl ?_; clear S; intro a S
       refine s_want S rfl rfl rfl rfl hb3 ?_
       refine s_lv0 S (rn_sub (S.tm rfl) rfl) rfl ?_; clear S; intro a S
       refine s_want S rfl rfl rfl rfl hb3 ?_
       obtain ⟨hc1, h⟩ := chkE h
       obtain ⟨b3, o2, hm2, hr3⟩ := rn_indexT (a := a) (x := .tmp 26) (y := .tmp 28) (ty := 0) sl_64 hs_p_l (inB_get hc1).1 (inB_get hc1).2 (S.tm rfl) (S.tm rfl)
       refine s_lv0 S (hr3 _) rfl ?_; clear S; intro a S
       clear hr3
       refine s_want S rfl rfl rfl rfl hb3 ?_
       refine s_lv0 S (rn_fld fa_63_0 (S.tm rfl)) rfl ?_; clear S; intro a S
       refine s_want S rfl rfl rfl rfl hb3 ?_
       refine s_lv0 S (rn_ld Tryd.isAgg9 (off := o2) (o := 0) (S.tm rfl) (hm2.at S.emb0) rfl) rfl ?_; clear S; intro a S
       refine s_want S rfl rfl rfl rfl hb3 ?_
       refine s_lv0 S (rn_sleq (S.tm rfl) (S.tm rfl)) rfl ?_; clear S; intro a S
       refine s_lv S rfl (rn_and_t hb3 (S.tm rfl) (S.tm rfl)) rfl ?_; clear S; intro a S
       refine s_done ?_
       exact ⟨_, h, Keep.refl _ _, S.nf [true] rfl ⟨rfl, rfl, rfl, rfl, rfl, rfl, trivial⟩⟩
      ·replace h := iteF h hb3
       refine s_skip S rfl rfl rfl rfl (neq_f hb3) rfl ?_ rfl; clear S; intro a S
       refine s_skip S rfl rfl rfl rfl (neq_f hb3) rfl ?_ rfl; clear S; intro a S
       refine s_skip S rfl rfl rfl rfl (neq_f hb3) rfl ?_ rfl; clear S; intro a S
       refine s_skip S rfl rfl rfl rfl (neq_f hb3) rfl ?_ rfl; clear S; intro a S
       refine s_skip S rfl rfl rfl rfl (neq_f hb3) rfl ?_ rfl; clear S; intro a S
       refine s_skip S rfl rfl rfl rfl (neq_f hb3) rfl ?_ rfl; clear S; intro a S
       refine s_skip S rfl rfl rfl rfl (neq_f hb3) rfl ?_ rfl; clear S; intro a S
       refine s_skip S rfl rfl rfl rfl (neq_f hb3) rfl ?_ rfl; clear S; intro a S
       refine s_skip S rfl rfl rfl rfl (neq_f hb3) rfl ?_ rfl; clear S; intro a S
       refine s_lv S rfl (rn_and_f true hb3 (S.tm rfl) rfl) rfl ?_; clear S; intro a S
       refine s_done ?_
       exact ⟨_, h, Keep.refl _ _, S.nf [true] rfl ⟨rfl, rfl, rfl, rfl, rfl, rfl, trivial⟩⟩
     clear S h; rintro a w7 ⟨c1, h, hk5, S⟩; rw [hj2] at h; clear hj2 j2
     refine s_lv S rfl (rn_assign (S.tm rfl)) rfl ?_; clear S; intro a S
     refine s_done ?_
     replace S := S.nk [.blk b2 [.string y1.Race, .int .i64 y1.Time] 63] [(0, v_p_l), (4, .pointer (some ⟨b2, 0, none⟩)), (8, v_p_l), (9, .int .i64 (p_l.length : Int)), (10, .int .i64 (i1 : Int)), (20, .bool c1)] [true] rfl ⟨rfl, rfl, rfl, rfl, rfl, rfl, trivial⟩
     refine then_n ?_
     refine f_cond (S.tm rfl) (fun hb4 => ?_) (fun hb4 => ?_)
     ·replace h := iteT h hb4
      refine f_seq ?_
      refine f_region ?_
      refine lv S (rn_assign rfl) rfl ?_; clear S; intro a S
      refine l_done ?_
      replace S := S.nk [] [(2, .int .i64 7)] [false] rfl ⟨rfl, trivial⟩
      refine then_n ?_
      refine wp_ret ?_
      refine blk_r ?_
      refine blk_r ?_
      refine then_r ?_
      refine then_r ?_
      refine blk_r ?_
      refine then_r ?_
      refine then_r ?_
      obtain rfl := Option.some.inj h
      exact f_ret S Tryd.results35 rfl rfl
     ·replace h := iteF h hb4
      refine f_seq ?_
      refine f_region ?_
      refine lv S (rn_fld fa_63_1 (S.tm rfl)) rfl ?_; clear S; intro a S
      refine lv S (rn_load Tryd.isAgg3 (S.tm rfl) (S.cell (i := 0) rfl rfl)) rfl ?_; clear S; intro a S
      refine l_enter S (fun _ => run_call (vs := [.int .i64 y1.Time]) ⟨(S.tm rfl), trivial⟩ Tryd.call27) (timing_IsTime_ok _ y1.Time _ rfl) rfl ?_; clear S; intro v2 a w8 hv2 hk6 hn2 S
      subst hv2
      refine lv S (rn_not (S.tm rfl)) rfl ?_; clear S; intro a S
      refine lv S (rn_assign (S.tm rfl)) rfl ?_; clear S; intro a S
      refine l_done ?_
      replace S := S.nk [] [(0, v_p_l), (8, v_p_l), (9, .int .i64 (p_l.length : Int)), (10, .int .i64 (i1 : Int)), (34, .bool (!(timing_IsTime y1.Time)))] [false] rfl ⟨rfl, rfl, rfl, rfl, rfl, trivial⟩
      refine then_n ?_
      refine f_cond (S.tm rfl) (fun hb5 => ?_) (fun hb5 => ?_)
      ·replace h := iteT h hb5
       refine f_seq ?_
       refine f_region ?_
       refine lv S (rn_assign rfl) rfl ?_; clear S; intro a S
       refine l_done ?_
       replace S := S.nk [] [(2, .int .i64 1)] [] rfl ⟨rfl, trivial⟩
       refine then_n ?_
       refine wp_ret ?_
       refine blk_r ?_
       refine blk_r ?_
       refine then_r ?_
       refine then_r ?_
       refine blk_r ?_
       refine then_r ?_
       refine then_r ?_
       obtain rfl := Option.some.inj h
       exact f_ret S Tryd.results35 rfl rfl
      ·replace h := iteF h hb5
       refine wp_skip ?_
       refine blk_n ?_
       refine blk_n ?_
       refine then_n ?_
       refine f_region ?_
       refine lv S (rn_add (S.tm rfl) rfl) rfl ?_; clear S; intro a S
       refine lv S (rn_move (S.tm rfl)) rfl ?_; clear S; intro a S
       refine l_done ?_
       replace S := S.nk [] [(0, v_p_l), (8, v_p_l), (9, .int .i64 (p_l.length : Int)), (10, .int .i64 (W ((i1 : Int) + 1)))] [] rfl ⟨rfl, rfl, rfl, rfl, trivial⟩
       refine then_n ?_
       exact ⟨ys1, ⟨i1 + 1, ⟨_, (hd1).trans (List.append_cons _ _ _), by simp [hi1]⟩, h, S.nf [] rfl ⟨rfl, rfl, rfl, (congrArg (fun z => some (Value.int .i64 z)) (rng_next hd1 hi1 (slc_max hs_p_l))), trivial⟩⟩, Nat.lt_succ_self _⟩
  clear S h; rintro a w2 ⟨h, S⟩; rw [hj1] at h; clear hj1 j1
  refine then_n ?_
  refine f_seq ?_
  refine f_region ?_
  refine lv S (rn_assign rfl) rfl ?_; clear S; intro a S
  refine l_done ?_
  replace S := S.nk [] [(2, .int .i64 0)] [] rfl ⟨rfl, trivial⟩
  refine then_n ?_
  refine wp_ret ?_
  obtain rfl := Option.some.inj h
  exact f_ret S Tryd.results35 rfl rfl
theorem points_baseOf_ok (w : World) (v_p_l : Value) (p_l : List GBase) (hs_p_l : Slc (view w []) 2 v_p_l (p_l.map GBase.enc)) (p_race : ByteArray) (r : Int) (h : points_baseOf p_l p_race = r) :
    Calls Tryd.prog 36 [v_p_l, .string p_race].toArray w (Ret w [] fun _ v _ => v = .int .i64 r) := by
 refine f_enter [] [] Tryd.func36 rfl Tryd.ntmps36 rfl (by simp) (by simp [fps]) (by simp [fps]) fun a S => ?_
 unfold points_baseOf at h
 replace S := S.nk [] [(0, v_p_l), (1, .string p_race)] [] rfl ⟨rfl, rfl, trivial⟩
 refine f_seq ?_
 refine f_region ?_
 refine lv S (rn_assign rfl) rfl ?_; clear S; intro a S
 refine l_done ?_
 replace S := S.nk [] [(0, v_p_l), (1, .string p_race)] [] rfl ⟨rfl, rfl, trivial⟩
 refine then_n ?_
 refine f_seq ?_
 refine f_seq ?_
 refine f_region ?_
 refine lv S (rn_move (S.tm rfl)) rfl ?_; clear S; intro a S
 refine lv S (rn_lenT sl_64 (S.tm rfl) (slc_len hs_p_l)) rfl ?_; clear S; intro a S
 refine lv S (rn_move rfl) rfl ?_; clear S; intro a S
 refine l_done ?_
 replace S := S.nk [] [(1, .string p_race), (7, v_p_l), (8, .int .i64 (p_l.length : Int)), (9, .int .i64 0)] [] rfl ⟨rfl, rfl, rfl, rfl, trivial⟩
 refine then_n ?_
 obtain ⟨j1, hj1, h⟩ := joinE h
 refine f_join (fun a w' => j1 = r ∧ Sx w [] nov [] [] 20 a w') ?_ ?_
 ·refine wp_block ?_
  refine f_loop (fun (ys1 : List GBase) a w' => ∃ i1 : Nat, (∃ dn, p_l = dn ++ ys1 ∧ dn.length = i1) ∧ points_baseOf_l1 p_race j1 ys1 i1 = r ∧ Sx w [] nov [] [(1, .string p_race), (7, v_p_l), (8, .int .i64 (p_l.length : Int)), (9, .int .i64 (i1 : Int))] 20 a w') List.length p_l ⟨0, ⟨[], rfl, rfl⟩, h, S.nf [] rfl ⟨rfl, rfl, rfl, rfl, trivial⟩⟩ ?_
  clear S h; rintro ys1 a w1 ⟨i1, ⟨dn, hd1, hi1⟩, h, S⟩
  cases ys1 with
  | nil =>
   rw [points_baseOf_l1.eq_1] at h
   refine f_seq ?_
   refine f_region ?_
   refine lv S (rn_lss (S.tm rfl) (S.tm rfl)) rfl ?_; clear S; intro a S
   refine l_done ?_
   replace S := S.nk [] [(1, .string p_race), (7, v_p_l), (8, .int .i64 (p_l.length : Int)), (9, .int .i64 (i1 : Int)), (10, .bool (decide ((i1 : Int) < (p_l.length : Int))))] [] rfl ⟨rfl, rfl, rfl, rfl, rfl, trivial⟩
   refine then_n ?_
   refine f_seq ?_
   refine wp_cond_false ((S.tm rfl).trans (congrArg Value.bool (rng_nil hd1 hi1))) ?_
   refine wp_exit ?_
   refine then_x ?_
   refine then_x ?_
   refine x_same ?_
   refine then_n ?_
   exact ⟨h, S.nf [] rfl trivial⟩
  | cons y1 ys1 =>
   rw [points_baseOf_l1.eq_2] at h
   refine f_seq ?_
   refine f_region ?_
   refine lv S (rn_lss (S.tm rfl) (S.tm rfl)) rfl ?_; clear S; intro a S
   refine l_done ?_
   replace S := S.nk [] [(1, .string p_race), (7, v_p_l), (8, .int .i64 (p_l.length : Int)), (9, .int .i64 (i1 : Int)), (10, .bool (decide ((i1 : Int) < (p_l.length : Int))))] [] rfl ⟨rfl, rfl, rfl, rfl, rfl, trivial⟩
   refine then_n ?_
   refine f_seq ?_
   refine wp_cond_true ((S.tm rfl).trans (congrArg Value.bool (rng_cons hd1 hi1))) ?_
   refine wp_skip ?_
   refine then_n ?_
   refine f_seq ?_
   refine wp_block ?_
   refine f_seq ?_
   refine f_region ?_
   obtain ⟨b1, o1, hm1, hr1⟩ := rn_indexT (a := a) (x := .tmp 7) (y := .tmp 9) (ty := 0) sl_64 hs_p_l (get_mid hd1 hi1) rfl (S.tm rfl) (S.tm rfl)
   refine lv S (hr1 _) rfl ?_; clear S; intro a S
   clear hr1
   refine lv S (rn_ldA Tryd.isAgg63 Tryd.sizeOf63 (off := o1) (o := 0) (part := [.string y1.Race, .int .i64 y1.Time]) rfl rfl (S.tm rfl) (hm1.at S.emb0)) rfl ?_; clear S; intro a S
   refine l_alloc S Tryd.zeroValue63 (cs := [.string k_empty, .int .i64 0]) rfl rfl ?_; clear S; intro a w3 b2 hz1 hk1 S
   refine l_store S (S.tm rfl) (S.tm rfl) (i := 0) (off := 0) rfl Tryd.sizeOf63 (vs := [.string y1.Race, .int .i64 y1.Time]) rfl rfl rfl rfl ?_; clear S; intro w4 hk2 S
   refine l_done ?_
   replace S := S.nk [.blk b2 [.string y1.Race, .int .i64 y1.Time] 63] [(1, .string p_race), (6, .pointer (some ⟨b2, 0, none⟩)), (7, v_p_l), (8, .int .i64 (p_l.length : Int)), (9, .int .i64 (i1 : Int))] [true] rfl ⟨rfl, rfl, rfl, rfl, rfl, trivial⟩
   refine then_n ?_
   refine f_seq ?_
   refine f_region ?_
   refine lv S (rn_fld fa_63_0 (S.tm rfl)) rfl ?_; clear S; intro a S
   refine lv S (rn_load Tryd.isAgg9 (S.tm rfl) (S.cell (i := 0) rfl rfl)) rfl ?_; clear S; intro a S
   refine lv S (rn_move (S.tm rfl)) rfl ?_; clear S; intro a S
   refine lv S (rn_seql (S.tm rfl) (S.tm rfl)) rfl ?_; clear S; intro a S
   refine l_done ?_
   replace S := S.nk [.blk b2 [.string y1.Race, .int .i64 y1.Time] 63] [(1, .string p_race), (6, .pointer (some ⟨b2, 0, none⟩)), (7, v_p_l), (8, .int .i64 (p_l.length : Int)), (9, .int .i64 (i1 : Int)), (16, .bool (decide (y1.Race = p_race)))] [true] rfl ⟨rfl, rfl, rfl, rfl, rfl, rfl, trivial⟩
   refine then_n ?_
   refine f_cond (S.tm rfl) (fun hb1 => ?_) (fun hb1 => ?_)
   ·replace h := iteT h hb1
    refine f_seq ?_
    refine f_region ?_
    refine lv S (rn_fld fa_63_1 (S.tm rfl)) rfl ?_; clear S; intro a S
    refine lv S (rn_load Tryd.isAgg3 (S.tm rfl) (S.cell (i := 0) rfl rfl)) rfl ?_; clear S; intro a S
    refine lv S (rn_assign (S.tm rfl)) rfl ?_; clear S; intro a S
    refine l_done ?_
    replace S := S.nk [] [(4, .int .i64 y1.Time)] [false] rfl ⟨rfl, trivial⟩
    refine then_n ?_
    refine wp_ret ?_
    refine blk_r ?_
    refine then_r ?_
    refine then_r ?_
    refine blk_r ?_
    refine then_r ?_
    refine then_r ?_
    subst h
    exact f_ret S Tryd.results36 rfl rfl
   ·replace h := iteF h hb1
    refine wp_skip ?_
    refine blk_n ?_
    refine then_n ?_
    refine f_region ?_
    refine lv S (rn_add (S.tm rfl) rfl) rfl ?_; clear S; intro a S
    refine lv S (rn_move (S.tm rfl)) rfl ?_; clear S; intro a S
    refine l_done ?_
    replace S := S.nk [] [(1, .string p_race), (7, v_p_l), (8, .int .i64 (p_l.length : Int)), (9, .int .i64 (W ((i1 : Int) + 1)))] [false] rfl ⟨rfl, rfl, rfl, rfl, trivial⟩
    refine then_n ?_
    exact ⟨ys1, ⟨i1 + 1, ⟨_, (hd1).trans (List.append_cons _ _ _), by simp [hi1]⟩, h, S.nf [] rfl ⟨rfl, rfl, rfl, (congrArg (fun z => some (Value.int .i64 z)) (rng_next hd1 hi1 (slc_max hs_p_l))), trivial⟩⟩, Nat.lt_succ_self _⟩
 clear S h; rintro a w2 ⟨h, S⟩; rw [hj1] at h; clear hj1 j1
 refine then_n ?_
 refine f_seq ?_
 refine f_region ?_
 refine lv S (rn_assign rfl) rfl ?_; clear S; intro a S
 refine l_done ?_
 replace S := S.nk [] [(4, .int .i64 0)] [] rfl ⟨rfl, trivial⟩
 refine then_n ?_
 refine wp_ret ?_
 subst h
 exact f_ret S Tryd.results36 rfl rfl
theorem bits_Mul64_ok (w : World) (p_x : Int) (p_y : Int) (r : Int × Int) (h : bits_Mul64 p_x p_y = r) :
    Calls Tryd.prog 49 [.int .u64 p_x, .int .u64 p_y].toArray w (Ret w [] fun _ v _ => v = .tuple #[.int .u64 r.1, .int .u64 r.2]) := by
 refine f_enter [] [] Tryd.func49 rfl Tryd.ntmps49 rfl (by simp) (by simp [fps]) (by simp [fps]) fun a S => ?_
 unfold bits_Mul64 at h
 replace S := S.nk [] [(0, .int .u64 p_x), (1, .int .u64 p_y)] [] rfl ⟨rfl, rfl, trivial⟩
 refine f_seq ?_
 refine f_region ?_
 refine lv S (rn_assign rfl) rfl ?_; clear S; intro a S
 refine lv S (rn_assign rfl) rfl ?_; clear S; intro a S
 refine l_done ?_
 replace S := S.nk [] [(0, .int .u64 p_x), (1, .int .u64 p_y)] [] rfl ⟨rfl, rfl, trivial⟩
 refine then_n ?_
 refine f_seq ?_
 refine f_region ?_
 refine lv S (rn_move (S.tm rfl)) rfl ?_; clear S; intro a S
 refine lv S (rn_and_ (S.tm rfl) rfl) rfl ?_; clear S; intro a S
 refine lv S (rn_assign (S.tm rfl)) rfl ?_; clear S; intro a S
 refine l_done ?_
 replace S := S.nk [] [(0, .int .u64 p_x), (1, .int .u64 p_y), (6, .int .u64 (bitAnd .u64 p_x 4294967295))] [] rfl ⟨rfl, rfl, rfl, trivial⟩
 refine then_n ?_
 refine f_seq ?_
 refine f_region ?_
 refine lv S (rn_move (S.tm rfl)) rfl ?_; clear S; intro a S
 refine lv S (rn_shr (S.tm rfl) rfl (by decide)) rfl ?_; clear S; intro a S
 refine lv S (rn_assign (S.tm rfl)) rfl ?_; clear S; intro a S
 refine l_done ?_
 replace S := S.nk [] [(0, .int .u64 p_x), (1, .int .u64 p_y), (6, .int .u64 (bitAnd .u64 p_x 4294967295)), (7, .int .u64 (bitShr .u64 p_x 32))] [] rfl ⟨rfl, rfl, rfl, rfl, trivial⟩
 refine then_n ?_
 refine f_seq ?_
 refine f_region ?_
 refine lv S (rn_move (S.tm rfl)) rfl ?_; clear S; intro a S
 refine lv S (rn_and_ (S.tm rfl) rfl) rfl ?_; clear S; intro a S
 refine lv S (rn_assign (S.tm rfl)) rfl ?_; clear S; intro a S
 refine l_done ?_
 replace S := S.nk [] [(0, .int .u64 p_x), (1, .int .u64 p_y), (6, .int .u64 (bitAnd .u64 p_x 4294967295)), (7, .int .u64 (bitShr .u64 p_x 32)), (8, .int .u64 (bitAnd .u64 p_y 4294967295))] [] rfl ⟨rfl, rfl, rfl, rfl, rfl, trivial⟩
 refine then_n ?_
 refine f_seq ?_
 refine f_region ?_
 refine lv S (rn_move (S.tm rfl)) rfl ?_; clear S; intro a S
 refine lv S (rn_shr (S.tm rfl) rfl (by decide)) rfl ?_; clear S; intro a S
 refine lv S (rn_assign (S.tm rfl)) rfl ?_; clear S; intro a S
 refine l_done ?_
 replace S := S.nk [] [(0, .int .u64 p_x), (1, .int .u64 p_y), (6, .int .u64 (bitAnd .u64 p_x 4294967295)), (7, .int .u64 (bitShr .u64 p_x 32)), (8, .int .u64 (bitAnd .u64 p_y 4294967295)), (9, .int .u64 (bitShr .u64 p_y 32))] [] rfl ⟨rfl, rfl, rfl, rfl, rfl, rfl, trivial⟩
 refine then_n ?_
 refine f_seq ?_
 refine f_region ?_
 refine lv S (rn_move (S.tm rfl)) rfl ?_; clear S; intro a S
 refine lv S (rn_move (S.tm rfl)) rfl ?_; clear S; intro a S
 refine lv S (rn_mulk (S.tm rfl) (S.tm rfl)) rfl ?_; clear S; intro a S
 refine lv S (rn_assign (S.tm rfl)) rfl ?_; clear S; intro a S
 refine l_done ?_
 replace S := S.nk [] [(0, .int .u64 p_x), (1, .int .u64 p_y), (6, .int .u64 (bitAnd .u64 p_x 4294967295)), (7, .int .u64 (bitShr .u64 p_x 32)), (8, .int .u64 (bitAnd .u64 p_y 4294967295)), (9, .int .u64 (bitShr .u64 p_y 32)), (10, .int .u64 (IntKind.wrap .u64 ((bitAnd .u64 p_x 4294967295) * (bitAnd .u64 p_y 4294967295))))] [] rfl ⟨rfl, rfl, rfl, rfl, rfl, rfl, rfl, trivial⟩
 refine then_n ?_
 refine f_seq ?_
 refine f_region ?_
 refine lv S (rn_move (S.tm rfl)) rfl ?_; clear S; intro a S
 refine lv S (rn_move (S.tm rfl)) rfl ?_; clear S; intro a S
 refine lv S (rn_mulk (S.tm rfl) (S.tm rfl)) rfl ?_; clear S; intro a S
 refine lv S (rn_move (S.tm rfl)) rfl ?_; clear S; intro a S
 refine lv S (rn_shr (S.tm rfl) rfl (by decide)) rfl ?_; clear S; intro a S
 refine lv S (rn_addk (S.tm rfl) (S.tm rfl)) rfl ?_; clear S; intro a S
 refine lv S (rn_assign (S.tm rfl)) rfl ?_; clear S; intro a S
 refine l_done ?_
 replace S := S.nk [] [(0, .int .u64 p_x), (1, .int .u64 p_y), (6, .int .u64 (bitAnd .u64 p_x 4294967295)), (7, .int .u64 (bitShr .u64 p_x 32)), (9, .int .u64 (bitShr .u64 p_y 32)), (11, .int .u64 (IntKind.wrap .u64 ((IntKind.wrap .u64 ((bitShr .u64 p_x 32) * (bitAnd .u64 p_y 4294967295))) + (bitShr .u64 (IntKind.wrap .u64 ((bitAnd .u64 p_x 4294967295) * (bitAnd .u64 p_y 4294967295))) 32))))] [] rfl ⟨rfl, rfl, rfl, rfl, rfl, rfl, trivial⟩
 refine then_n ?_
 refine f_seq ?_
 refine f_region ?_
 refine lv S (rn_move (S.tm rfl)) rfl ?_; clear S; intro a S
 refine lv S (rn_and_ (S.tm rfl) rfl) rfl ?_; clear S; intro a S
 refine lv S (rn_assign (S.tm rfl)) rfl ?_; clear S; intro a S
 refine l_done ?_
 replace S := S.nk [] [(0, .int .u64 p_x), (1, .int .u64 p_y), (6, .int .u64 (bitAnd .u64 p_x 4294967295)), (7, .int .u64 (bitShr .u64 p_x 32)), (9, .int .u64 (bitShr .u64 p_y 32)), (11, .int .u64 (IntKind.wrap .u64 ((IntKind.wrap .u64 ((bitShr .u64 p_x 32) * (bitAnd .u64 p_y 4294967295))) + (bitShr .u64 (IntKind.wrap .u64 ((bitAnd .u64 p_x 4294967295) * (bitAnd .u64 p_y 4294967295))) 32)))), (12, .int .u64 (bitAnd .u64 (IntKind.wrap .u64 ((IntKind.wrap .u64 ((bitShr .u64 p_x 32) * (bitAnd .u64 p_y 4294967295))) + (bitShr .u64 (IntKind.wrap .u64 ((bitAnd .u64 p_x 4294967295) * (bitAnd .u64 p_y 4294967295))) 32))) 4294967295))] [] rfl ⟨rfl, rfl, rfl, rfl, rfl, rfl, rfl, trivial⟩
 refine then_n ?_
 refine f_seq ?_
 refine f_region ?_
 refine lv S (rn_move (S.tm rfl)) rfl ?_; clear S; intro a S
 refine lv S (rn_shr (S.tm rfl) rfl (by decide)) rfl ?_; clear S; intro a S
 refine lv S (rn_assign (S.tm rfl)) rfl ?_; clear S; intro a S
 refine l_done ?_
 replace S := S.nk [] [(0, .int .u64 p_x), (1, .int .u64 p_y), (6, .int .u64 (bitAnd .u64 p_x 4294967295)), (7, .int .u64 (bitShr .u64 p_x 32)), (9, .int .u64 (bitShr .u64 p_y 32)), (12, .int .u64 (bitAnd .u64 (IntKind.wrap .u64 ((IntKind.wrap .u64 ((bitShr .u64 p_x 32) * (bitAnd .u64 p_y 4294967295))) + (bitShr .u64 (IntKind.wrap .u64 ((bitAnd .u64 p_x 4294967295) * (bitAnd .u64 p_y 4294967295))) 32))) 4294967295)), (13, .int .u64 (bitShr .u64 (IntKind.wrap .u64 ((IntKind.wrap .u64 ((bitShr .u64 p_x 32) * (bitAnd .u64 p_y 4294967295))) + (bitShr .u64 (IntKind.wrap .u64 ((bitAnd .u64 p_x 4294967295) * (bitAnd .u64 p_y 4294967295))) 32))) 32))] [] rfl ⟨rfl, rfl, rfl, rfl, rfl, rfl, rfl, trivial⟩
 refine then_n ?_
 refine f_seq ?_
 refine f_region ?_
 refine lv S (rn_move (S.tm rfl)) rfl ?_; clear S; intro a S
 refine lv S (rn_move (S.tm rfl)) rfl ?_; clear S; intro a S
 refine lv S (rn_move (S.tm rfl)) rfl ?_; clear S; intro a S
 refine lv S (rn_mulk (S.tm rfl) (S.tm rfl)) rfl ?_; clear S; intro a S
 refine lv S (rn_addk (S.tm rfl) (S.tm rfl)) rfl ?_; clear S; intro a S
 refine lv S (rn_assign (S.tm rfl)) rfl ?_; clear S; intro a S
 refine l_done ?_
 replace S := S.nk [] [(0, .int .u64 p_x), (1, .int .u64 p_y), (7, .int .u64 (bitShr .u64 p_x 32)), (9, .int .u64 (bitShr .u64 p_y 32)), (12, .int .u64 (IntKind.wrap .u64 ((bitAnd .u64 (IntKind.wrap .u64 ((IntKind.wrap .u64 ((bitShr .u64 p_x 32) * (bitAnd .u64 p_y 4294967295))) + (bitShr .u64 (IntKind.wrap .u64 ((bitAnd .u64 p_x 4294967295) * (bitAnd .u64 p_y 4294967295))) 32))) 4294967295) + (IntKind.wrap .u64 ((bitAnd .u64 p_x 4294967295) * (bitShr .u64 p_y 32)))))), (13, .int .u64 (bitShr .u64 (IntKind.wrap .u64 ((IntKind.wrap .u64 ((bitShr .u64 p_x 32) * (bitAnd .u64 p_y 4294967295))) + (bitShr .u64 (IntKind.wrap .u64 ((bitAnd .u64 p_x 4294967295) * (bitAnd .u64 p_y 4294967295))) 32))) 32))] [] rfl ⟨rfl, rfl, rfl, rfl, rfl, rfl, trivial⟩
 refine then_n ?_
 refine f_seq ?_
 refine f_region ?_
 refine lv S (rn_move (S.tm rfl)) rfl ?_; clear S; intro a S
 refine lv S (rn_move (S.tm rfl)) rfl ?_; clear S; intro a S
 refine lv S (rn_mulk (S.tm rfl) (S.tm rfl)) rfl ?_; clear S; intro a S
 refine lv S (rn_move (S.tm rfl)) rfl ?_; clear S; intro a S
 refine lv S (rn_addk (S.tm rfl) (S.tm rfl)) rfl ?_; clear S; intro a S
 refine lv S (rn_move (S.tm rfl)) rfl ?_; clear S; intro a S
 refine lv S (rn_shr (S.tm rfl) rfl (by decide)) rfl ?_; clear S; intro a S
 refine lv S (rn_addk (S.tm rfl) (S.tm rfl)) rfl ?_; clear S; intro a S
 refine lv S (rn_assign (S.tm rfl)) rfl ?_; clear S; intro a S
 refine l_done ?_
 replace S := S.nk [] [(0, .int .u64 p_x), (1, .int .u64 p_y), (4, .int .u64 (IntKind.wrap .u64 ((IntKind.wrap .u64 ((IntKind.wrap .u64 ((bitShr .u64 p_x 32) * (bitShr .u64 p_y 32))) + (bitShr .u64 (IntKind.wrap .u64 ((IntKind.wrap .u64 ((bitShr .u64 p_x 32) * (bitAnd .u64 p_y 4294967295))) + (bitShr .u64 (IntKind.wrap .u64 ((bitAnd .u64 p_x 4294967295) * (bitAnd .u64 p_y 4294967295))) 32))) 32))) + (bitShr .u64 (IntKind.wrap .u64 ((bitAnd .u64 (IntKind.wrap .u64 ((IntKind.wrap .u64 ((bitShr .u64 p_x 32) * (bitAnd .u64 p_y 4294967295))) + (bitShr .u64 (IntKind.wrap .u64 ((bitAnd .u64 p_x 4294967295) * (bitAnd .u64 p_y 4294967295))) 32))) 4294967295) + (IntKind.wrap .u64 ((bitAnd .u64 p_x 4294967295) * (bitShr .u64 p_y 32))))) 32))))] [] rfl ⟨rfl, rfl, rfl, trivial⟩
 refine then_n ?_
 refine f_seq ?_
 refine f_region ?_
 refine lv S (rn_move (S.tm rfl)) rfl ?_; clear S; intro a S
 refine lv S (rn_move (S.tm rfl)) rfl ?_; clear S; intro a S
 refine lv S (rn_mulk (S.tm rfl) (S.tm rfl)) rfl ?_; clear S; intro a S
 refine lv S (rn_assign (S.tm rfl)) rfl ?_; clear S; intro a S
 refine l_done ?_
 replace S := S.nk [] [(4, .int .u64 (IntKind.wrap .u64 ((IntKind.wrap .u64 ((IntKind.wrap .u64 ((bitShr .u64 p_x 32) * (bitShr .u64 p_y 32))) + (bitShr .u64 (IntKind.wrap .u64 ((IntKind.wrap .u64 ((bitShr .u64 p_x 32) * (bitAnd .u64 p_y 4294967295))) + (bitShr .u64 (IntKind.wrap .u64 ((bitAnd .u64 p_x 4294967295) * (bitAnd .u64 p_y 4294967295))) 32))) 32))) + (bitShr .u64 (IntKind.wrap .u64 ((bitAnd .u64 (IntKind.wrap .u64 ((IntKind.wrap .u64 ((bitShr .u64 p_x 32) * (bitAnd .u64 p_y 4294967295))) + (bitShr .u64 (IntKind.wrap .u64 ((bitAnd .u64 p_x 4294967295) * (bitAnd .u64 p_y 4294967295))) 32))) 4294967295) + (IntKind.wrap .u64 ((bitAnd .u64 p_x 4294967295) * (bitShr .u64 p_y 32))))) 32)))), (5, .int .u64 (IntKind.wrap .u64 (p_x * p_y)))] [] rfl ⟨rfl, rfl, trivial⟩
 refine then_n ?_
 refine wp_ret ?_
 subst h
 exact f_ret2 S Tryd.results49 rfl rfl rfl
set_option maxRecDepth 20000 in
theorem bits_Len64_ok (w : World) (p_x : Int) (r : Int) (h : bits_Len64 p_x = some r) :
    Calls Tryd.prog 61 [.int .u64 p_x].toArray w (Ret w [] fun _ v _ => v = .int .i64 r) := by
 refine f_enter [] [] Tryd.func61 rfl Tryd.ntmps61 rfl (by simp) (by simp [fps]) (by simp [fps]) fun a S => ?_
 unfold bits_Len64 at h
 replace S := S.nk [] [(0, .int .u64 p_x)] [] rfl ⟨rfl, trivial⟩
 refine f_seq ?_
 refine f_region ?_
 refine lv S (rn_assign rfl) rfl ?_; clear S; intro a S
 refine l_done ?_
 replace S := S.nk [] [(0, .int .u64 p_x), (2, .int .i64 0)] [] rfl ⟨rfl, rfl, trivial⟩
 refine then_n ?_
 refine f_seq ?_
 refine f_seq ?_
 refine f_region ?_
 refine lv S (rn_move (S.tm rfl)) rfl ?_; clear S; intro a S
 refine lv S (rn_geq (S.tm rfl) rfl) rfl ?_; clear S; intro a S
 refine l_done ?_
 replace S := S.nk [] [(0, .int .u64 p_x), (2, .int .i64 0), (4, .bool (decide (4294967296 ≤ p_x)))] [] rfl ⟨rfl, rfl, rfl, trivial⟩
 refine then_n ?_
 obtain ⟨j1, hj1, h⟩ := joinE h
 refine f_join (fun a w' => ∃ x1 : Int, ∃ x2 : Int, j1 x1 x2 = some r ∧ Sx w [] nov [] [(0, .int .u64 x1), (2, .int .i64 x2)] 25 a w') ?_ ?_
 ·refine f_cond (S.tm rfl) (fun hb1 => ?_) (fun hb1 => ?_)
  ·replace h := iteT h hb1
   refine f_seq ?_
   refine f_region ?_
   refine lv S (rn_move (S.tm rfl)) rfl ?_; clear S; intro a S
   refine lv S (rn_shr (S.tm rfl) rfl (by decide)) rfl ?_; clear S; intro a S
   refine lv S (rn_assign (S.tm rfl)) rfl ?_; clear S; intro a S
   refine l_done ?_
   replace S := S.nk [] [(0, .int .u64 (bitShr .u64 p_x 32))] [] rfl ⟨rfl, trivial⟩
   refine then_n ?_
   refine f_region ?_
   refine lv S (rn_assign rfl) rfl ?_; clear S; intro a S
   refine l_done ?_
   replace S := S.nk [] [(0, .int .u64 (bitShr .u64 p_x 32)), (2, .int .i64 32)] [] rfl ⟨rfl, rfl, trivial⟩
   refine then_n ?_
   exact ⟨bitShr .u64 p_x 32, 32, h, S.nf [] rfl ⟨rfl, rfl, trivial⟩⟩
  ·replace h := iteF h hb1
   refine wp_skip ?_
   refine then_n ?_
   exact ⟨p_x, 0, h, S.nf [] rfl ⟨rfl, rfl, trivial⟩⟩
 clear S h; rintro a w1 ⟨x1, x2, h, S⟩; rw [hj1] at h; clear hj1 j1
 refine then_n ?_
 refine f_seq ?_
 refine f_seq ?_
 refine f_region ?_
 refine lv S (rn_move (S.tm rfl)) rfl ?_; clear S; intro a S
 refine lv S (rn_geq (S.tm rfl) rfl) rfl ?_; clear S; intro a S
 refine l_done ?_
 replace S := S.nk [] [(0, .int .u64 x1), (2, .int .i64 x2), (8, .bool (decide (65536 ≤ x1)))] [] rfl ⟨rfl, rfl, rfl, trivial⟩
 refine then_n ?_
 obtain ⟨j2, hj2, h⟩ := joinE h
 refine f_join (fun a w' => ∃ x3 : Int, ∃ x4 : Int, j2 x3 x4 = some r ∧ Sx w [] nov [] [(0, .int .u64 x3), (2, .int .i64 x4)] 25 a w') ?_ ?_
 ·refine f_cond (S.tm rfl) (fun hb2 => ?_) (fun hb2 => ?_)
  ·replace h := iteT h hb2
   refine f_seq ?_
   refine f_region ?_
   refine lv S (rn_move (S.tm rfl)) rfl ?_; clear S; intro a S
   refine lv S (rn_shr (S.tm rfl) rfl (by decide)) rfl ?_; clear S; intro a S
   refine lv S (rn_assign (S.tm rfl)) rfl ?_; clear S; intro a S
   refine l_done ?_
   replace S := S.nk [] [(0, .int .u64 (bitShr .u64 x1 16)), (2, .int .i64 x2)] [] rfl ⟨rfl, rfl, trivial⟩
   refine then_n ?_
   refine f_region ?_
   refine lv S (rn_move (S.tm rfl)) rfl ?_; clear S; intro a S
   refine lv S (rn_add (S.tm rfl) rfl) rfl ?_; clear S; intro a S
   refine lv S (rn_assign (S.tm rfl)) rfl ?_; clear S; intro a S
   refine l_done ?_
   replace S := S.nk [] [(0, .int .u64 (bitShr .u64 x1 16)), (2, .int .i64 (W (x2 + 16)))] [] rfl ⟨rfl, rfl, trivial⟩
   refine then_n ?_
   exact ⟨bitShr .u64 x1 16, W (x2 + 16), h, S.nf [] rfl ⟨rfl, rfl, trivial⟩⟩
  ·replace h := iteF h hb2
   refine wp_skip ?_
   refine then_n ?_
   exact ⟨x1, x2, h, S.nf [] rfl ⟨rfl, rfl, trivial⟩⟩
 clear S h; rintro a w2 ⟨x3, x4, h, S⟩; rw [hj2] at h; clear hj2 j2
 refine then_n ?_
 refine f_seq ?_
 refine f_seq ?_
 refine f_region ?_
 refine lv S (rn_move (S.tm rfl)) rfl ?_; clear S; intro a S
 refine lv S (rn_geq (S.tm rfl) rfl) rfl ?_; clear S; intro a S
 refine l_done ?_
 replace S := S.nk [] [(0, .int .u64 x3), (2, .int .i64 x4), (14, .bool (decide (256 ≤ x3)))] [] rfl ⟨rfl, rfl, rfl, trivial⟩
 refine then_n ?_
 obtain ⟨j3, hj3, h⟩ := joinE h
 refine f_join (fun a w' => ∃ x5 : Int, ∃ x6 : Int, j3 x5 x6 = some r ∧ Sx w [] nov [] [(0, .int .u64 x5), (2, .int .i64 x6)] 25 a w') ?_ ?_
 ·refine f_cond (S.tm rfl) (fun hb3 => ?_) (fun hb3 => ?_)
  ·replace h := iteT h hb3
   refine f_seq ?_
   refine f_region ?_
   refine lv S (rn_move (S.tm rfl)) rfl ?_; clear S; intro a S
   refine lv S (rn_shr (S.tm rfl) rfl (by decide)) rfl ?_; clear S; intro a S
   refine lv S (rn_assign (S.tm rfl)) rfl ?_; clear S; intro a S
   refine l_done ?_
   replace S := S.nk [] [(0, .int .u64 (bitShr .u64 x3 8)), (2, .int .i64 x4)] [] rfl ⟨rfl, rfl, trivial⟩
   refine then_n ?_
   refine f_region ?_
   refine lv S (rn_move (S.tm rfl)) rfl ?_; clear S; intro a S
   refine lv S (rn_add (S.tm rfl) rfl) rfl ?_; clear S; intro a S
   refine lv S (rn_assign (S.tm rfl)) rfl ?_; clear S; intro a S
   refine l_done ?_
   replace S := S.nk [] [(0, .int .u64 (bitShr .u64 x3 8)), (2, .int .i64 (W (x4 + 8)))] [] rfl ⟨rfl, rfl, trivial⟩
   refine then_n ?_
   exact ⟨bitShr .u64 x3 8, W (x4 + 8), h, S.nf [] rfl ⟨rfl, rfl, trivial⟩⟩
  ·replace h := iteF h hb3
   refine wp_skip ?_
   refine then_n ?_
   exact ⟨x3, x4, h, S.nf [] rfl ⟨rfl, rfl, trivial⟩⟩
 clear S h; rintro a w3 ⟨x5, x6, h, S⟩; rw [hj3] at h; clear hj3 j3
 refine then_n ?_
 refine f_seq ?_
 refine f_region ?_
 refine lv S (rn_move (S.tm rfl)) rfl ?_; clear S; intro a S
 refine lv S (rn_move (S.tm rfl)) rfl ?_; clear S; intro a S
 refine lv S (rn_conv Tryd.underlying86 Tryd.underlying5 (S.tm rfl)) rfl ?_; clear S; intro a S
 obtain ⟨hc1, h⟩ := chkE h
 refine lv S (rn_sindexT Tryd.underlying9 rfl (S.tm rfl) hc1) rfl ?_; clear S; intro a S
 refine lv S (rn_conv Tryd.underlying5 Tryd.underlying3 (S.tm rfl)) rfl ?_; clear S; intro a S
 refine lv S (rn_add (S.tm rfl) (S.tm rfl)) rfl ?_; clear S; intro a S
 refine lv S (rn_assign (S.tm rfl)) rfl ?_; clear S; intro a S
 refine l_done ?_
 replace S := S.nk [] [(2, .int .i64 (W (x6 + (W (sbyte k__00_01_02_02_h633d86 (IntKind.wrap .u8 x5))))))] [] rfl ⟨rfl, trivial⟩
 refine then_n ?_
 refine wp_ret ?_
 obtain rfl := Option.some.inj h
 exact f_ret S Tryd.results61 rfl rfl
theorem bits_LeadingZeros64_ok (w : World) (p_x : Int) (r : Int) (h : bits_LeadingZeros64 p_x = some r) :
    Calls Tryd.prog 57 [.int .u64 p_x].toArray w (Ret w [] fun _ v _ => v = .int .i64 r) := by
 refine f_enter [] [] Tryd.func57 rfl Tryd.ntmps57 rfl (by simp) (by simp [fps]) (by simp [fps]) fun a S => ?_
 unfold bits_LeadingZeros64 at h
 replace S := S.nk [] [(0, .int .u64 p_x)] [] rfl ⟨rfl, trivial⟩
 refine f_seq ?_
 refine f_region ?_
 refine lv S (rn_assign rfl) rfl ?_; clear S; intro a S
 refine l_done ?_
 replace S := S.nk [] [(0, .int .u64 p_x)] [] rfl ⟨rfl, trivial⟩
 refine then_n ?_
 refine f_seq ?_
 refine f_region ?_
 refine lv S (rn_move (S.tm rfl)) rfl ?_; clear S; intro a S
 obtain ⟨r1, hr1, h⟩ := bindE h
 refine l_enter S (fun _ => run_call (vs := [.int .u64 p_x]) ⟨(S.tm rfl), trivial⟩ Tryd.call61) (bits_Len64_ok _ p_x _ hr1) rfl ?_; clear S; intro v1 a w1 hv1 hk1 hn1 S
 subst hv1
 refine lv S (rn_sub rfl (S.tm rfl)) rfl ?_; clear S; intro a S
 refine lv S (rn_assign (S.tm rfl)) rfl ?_; clear S; intro a S
 refine l_done ?_
 replace S := S.nk [] [(2, .int .i64 (W (64 - r1)))] [] rfl ⟨rfl, trivial⟩
 refine then_n ?_
 refine wp_ret ?_
 obtain rfl := Option.some.inj h
 exact f_ret S Tryd.results57 rfl rfl
set_option maxRecDepth 20000 in
theorem bits_Div64_ok (w : World) (p_hi : Int) (p_lo : Int) (p_y : Int) (r : Int × Int) (h : bits_Div64 p_hi p_lo p_y = some r) :
    Calls Tryd.prog 50 [.int .u64 p_hi, .int .u64 p_lo, .int .u64 p_y].toArray w (Ret w [] fun _ v _ => v = .tuple #[.int .u64 r.1, .int .u64 r.2]) := by
 refine f_enter [] [] Tryd.func50 rfl Tryd.ntmps50 rfl (by simp) (by simp [fps]) (by simp [fps]) fun a S => ?_
 unfold bits_Div64 at h
 replace S := S.nk [] [(0, .int .u64 p_hi), (1, .int .u64 p_lo), (2, .int .u64 p_y)] [] rfl ⟨rfl, rfl, rfl, trivial⟩
 refine f_seq ?_
 refine f_region ?_
 refine lv S (rn_assign rfl) rfl ?_; clear S; intro a S
 refine lv S (rn_assign rfl) rfl ?_; clear S; intro a S
 refine l_done ?_
 replace S := S.nk [] [(0, .int .u64 p_hi), (1, .int .u64 p_lo), (2, .int .u64 p_y)] [] rfl ⟨rfl, rfl, rfl, trivial⟩
 refine then_n ?_
 refine f_seq ?_
 refine f_seq ?_
 refine f_region ?_
 refine lv S (rn_move (S.tm rfl)) rfl ?_; clear S; intro a S
 refine lv S (rn_eql (S.tm rfl) rfl) rfl ?_; clear S; intro a S
 refine l_done ?_
 replace S := S.nk [] [(0, .int .u64 p_hi), (1, .int .u64 p_lo), (2, .int .u64 p_y), (20, .bool (decide (p_y = 0)))] [] rfl ⟨rfl, rfl, rfl, rfl, trivial⟩
 refine then_n ?_
 refine f_cond (S.tm rfl) (fun hb1 => ?_) (fun hb1 => ?_)
 ·replace h := iteT h hb1
  cases h
 ·replace h := iteF h hb1
  refine wp_skip ?_
  refine then_n ?_
  refine f_seq ?_
  refine f_seq ?_
  refine f_region ?_
  refine lv S (rn_move (S.tm rfl)) rfl ?_; clear S; intro a S
  refine lv S (rn_move (S.tm rfl)) rfl ?_; clear S; intro a S
  refine lv S (rn_leq (S.tm rfl) (S.tm rfl)) rfl ?_; clear S; intro a S
  refine l_done ?_
  replace S := S.nk [] [(0, .int .u64 p_hi), (1, .int .u64 p_lo), (2, .int .u64 p_y), (24, .bool (decide (p_y ≤ p_hi)))] [] rfl ⟨rfl, rfl, rfl, rfl, trivial⟩
  refine then_n ?_
  refine f_cond (S.tm rfl) (fun hb2 => ?_) (fun hb2 => ?_)
  ·replace h := iteT h hb2
   cases h
  ·replace h := iteF h hb2
   refine wp_skip ?_
   refine then_n ?_
   refine f_seq ?_
   refine f_seq ?_
   refine f_region ?_
   refine lv S (rn_move (S.tm rfl)) rfl ?_; clear S; intro a S
   refine lv S (rn_eql (S.tm rfl) rfl) rfl ?_; clear S; intro a S
   refine l_done ?_
   replace S := S.nk [] [(0, .int .u64 p_hi), (1, .int .u64 p_lo), (2, .int .u64 p_y), (27, .bool (decide (p_hi = 0)))] [] rfl ⟨rfl, rfl, rfl, rfl, trivial⟩
   refine then_n ?_
   refine f_cond (S.tm rfl) (fun hb3 => ?_) (fun hb3 => ?_)
   ·replace h := iteT h hb3
    refine f_seq ?_
    refine d_region [] ([]) Tryd.mixed S rfl (by kernel_rfl) ?_; clear S; intro w1 hk1 hsel S
    refine d_rest [0, 1, 2, 3, 4, 5, 6, 7] hsel (by kernel_rfl) rfl ?_
    clear hsel
    refine s_lv S rfl (rn_move (S.tm rfl)) rfl ?_; clear S; intro a S
    refine s_lv S rfl (rn_move (S.tm rfl)) rfl ?_; clear S; intro a S
    obtain ⟨hc1, h⟩ := chkE h
    refine s_lv S rfl (rn_quok (S.tm rfl) (S.tm rfl) (ne0_of hc1)) rfl ?_; clear S; intro a S
    refine s_lv S rfl (rn_move (S.tm rfl)) rfl ?_; clear S; intro a S
    refine s_lv S rfl (rn_move (S.tm rfl)) rfl ?_; clear S; intro a S
    obtain ⟨hc2, h⟩ := chkE h
    refine s_lv S rfl (rn_remk (S.tm rfl) (S.tm rfl) (ne0_of hc2)) rfl ?_; clear S; intro a S
    refine s_lv S rfl (rn_assign (S.tm rfl)) rfl ?_; clear S; intro a S
    refine s_lv S rfl (rn_assign (S.tm rfl)) rfl ?_; clear S; intro a S
    refine s_done ?_
    replace S := S.nk [] [(6, .int .u64 (IntKind.wrap .u64 (Int.tdiv p_lo p_y))), (7, .int .u64 (Int.tmod p_lo p_y))] [] rfl ⟨rfl, rfl, trivial⟩
    refine then_n ?_
    refine wp_ret ?_
    refine then_r ?_
    obtain rfl := Option.some.inj h
    exact f_ret2 S Tryd.results50 rfl rfl rfl
   ·replace h := iteF h hb3
    refine wp_skip ?_
    refine then_n ?_
    refine f_seq ?_
    refine f_region ?_
    refine lv S (rn_move (S.tm rfl)) rfl ?_; clear S; intro a S
    obtain ⟨r1, hr1, h⟩ := bindE h
    refine l_enter S (fun _ => run_call (vs := [.int .u64 p_y]) ⟨(S.tm rfl), trivial⟩ Tryd.call57) (bits_LeadingZeros64_ok _ p_y _ hr1) rfl ?_; clear S; intro v1 a w2 hv1 hk2 hn1 S
    subst hv1
    refine lv S (rn_conv Tryd.underlying3 Tryd.underlying96 (S.tm rfl)) rfl ?_; clear S; intro a S
    refine lv S (rn_assign (S.tm rfl)) rfl ?_; clear S; intro a S
    refine l_done ?_
    replace S := S.nk [] [(0, .int .u64 p_hi), (1, .int .u64 p_lo), (2, .int .u64 p_y), (8, .int .u64 (IntKind.wrap .u64 r1))] [] rfl ⟨rfl, rfl, rfl, rfl, trivial⟩
    refine then_n ?_
    refine f_seq ?_
    refine f_region ?_
    refine lv S (rn_move (S.tm rfl)) rfl ?_; clear S; intro a S
    refine lv S (rn_move (S.tm rfl)) rfl ?_; clear S; intro a S
    obtain ⟨hc3, h⟩ := chkE h
    refine lv S (rn_shl (S.tm rfl) (S.tm rfl) (of_decide_eq_true hc3)) rfl ?_; clear S; intro a S
    refine lv S (rn_assign (S.tm rfl)) rfl ?_; clear S; intro a S
    refine l_done ?_
    replace S := S.nk [] [(0, .int .u64 p_hi), (1, .int .u64 p_lo), (2, .int .u64 (bitShl .u64 p_y (IntKind.wrap .u64 r1))), (8, .int .u64 (IntKind.wrap .u64 r1))] [] rfl ⟨rfl, rfl, rfl, rfl, trivial⟩
    refine then_n ?_
    refine f_seq ?_
    refine f_region ?_
    refine lv S (rn_move (S.tm rfl)) rfl ?_; clear S; intro a S
    refine lv S (rn_shr (S.tm rfl) rfl (by decide)) rfl ?_; clear S; intro a S
    refine lv S (rn_assign (S.tm rfl)) rfl ?_; clear S; intro a S
    refine l_done ?_
    replace S := S.nk [] [(0, .int .u64 p_hi), (1, .int .u64 p_lo), (2, .int .u64 (bitShl .u64 p_y (IntKind.wrap .u64 r1))), (8, .int .u64 (IntKind.wrap .u64 r1)), (9, .int .u64 (bitShr .u64 (bitShl .u64 p_y (IntKind.wrap .u64 r1)) 32))] [] rfl ⟨rfl, rfl, rfl, rfl, rfl, trivial⟩
    refine then_n ?_
    refine f_seq ?_
    refine f_region ?_
    refine lv S (rn_move (S.tm rfl)) rfl ?_; clear S; intro a S
    refine lv S (rn_and_ (S.tm rfl) rfl) rfl ?_; clear S; intro a S
    refine lv S (rn_assign (S.tm rfl)) rfl ?_; clear S; intro a S
    refine l_done ?_
    replace S := S.nk [] [(0, .int .u64 p_hi), (1, .int .u64 p_lo), (2, .int .u64 (bitShl .u64 p_y (IntKind.wrap .u64 r1))), (8, .int .u64 (IntKind.wrap .u64 r1)), (9, .int .u64 (bitShr .u64 (bitShl .u64 p_y (IntKind.wrap .u64 r1)) 32)), (10, .int .u64 (bitAnd .u64 (bitShl .u64 p_y (IntKind.wrap .u64 r1)) 4294967295))] [] rfl ⟨rfl, rfl, rfl, rfl, rfl, rfl, trivial⟩
    refine then_n ?_
    refine f_seq ?_
    refine f_region ?_
    refine lv S (rn_move (S.tm rfl)) rfl ?_; clear S; intro a S
    refine lv S (rn_move (S.tm rfl)) rfl ?_; clear S; intro a S
    obtain ⟨hc4, h⟩ := chkE h
    refine lv S (rn_shl (S.tm rfl) (S.tm rfl) (of_decide_eq_true hc4)) rfl ?_; clear S; intro a S
    refine lv S (rn_move (S.tm rfl)) rfl ?_; clear S; intro a S
    refine lv S (rn_move (S.tm rfl)) rfl ?_; clear S; intro a S
    refine lv S (rn_subk rfl (S.tm rfl)) rfl ?_; clear S; intro a S
    obtain ⟨hc5, h⟩ := chkE h
    refine lv S (rn_shr (S.tm rfl) (S.tm rfl) (of_decide_eq_true hc5)) rfl ?_; clear S; intro a S
    refine lv S (rn_or_ (S.tm rfl) (S.tm rfl)) rfl ?_; clear S; intro a S
    refine lv S (rn_assign (S.tm rfl)) rfl ?_; clear S; intro a S
    refine l_done ?_
    replace S := S.nk [] [(1, .int .u64 p_lo), (2, .int .u64 (bitShl .u64 p_y (IntKind.wrap .u64 r1))), (8, .int .u64 (IntKind.wrap .u64 r1)), (9, .int .u64 (bitShr .u64 (bitShl .u64 p_y (IntKind.wrap .u64 r1)) 32)), (10, .int .u64 (bitAnd .u64 (bitShl .u64 p_y (IntKind.wrap .u64 r1)) 4294967295)), (11, .int .u64 (bitOr .u64 (bitShl .u64 p_hi (IntKind.wrap .u64 r1)) (bitShr .u64 p_lo (IntKind.wrap .u64 (64 - (IntKind.wrap .u64 r1))))))] [] rfl ⟨rfl, rfl, rfl, rfl, rfl, rfl, trivial⟩
    refine then_n ?_
    refine f_seq ?_
    refine f_region ?_
    refine lv S (rn_move (S.tm rfl)) rfl ?_; clear S; intro a S
    refine lv S (rn_move (S.tm rfl)) rfl ?_; clear S; intro a S
    obtain ⟨hc6, h⟩ := chkE h
    refine lv S (rn_shl (S.tm rfl) (S.tm rfl) (of_decide_eq_true hc6)) rfl ?_; clear S; intro a S
    refine lv S (rn_assign (S.tm rfl)) rfl ?_; clear S; intro a S
    refine l_done ?_
    replace S := S.nk [] [(2, .int .u64 (bitShl .u64 p_y (IntKind.wrap .u64 r1))), (8, .int .u64 (IntKind.wrap .u64 r1)), (9, .int .u64 (bitShr .u64 (bitShl .u64 p_y (IntKind.wrap .u64 r1)) 32)), (10, .int .u64 (bitAnd .u64 (bitShl .u64 p_y (IntKind.wrap .u64 r1)) 4294967295)), (11, .int .u64 (bitOr .u64 (bitShl .u64 p_hi (IntKind.wrap .u64 r1)) (bitShr .u64 p_lo (IntKind.wrap .u64 (64 - (IntKind.wrap .u64 r1)))))), (12, .int .u64 (bitShl .u64 p_lo (IntKind.wrap .u64 r1)))] [] rfl ⟨rfl, rfl, rfl, rfl, rfl, rfl, trivial⟩
    refine then_n ?_
    refine f_seq ?_
    refine f_region ?_
    refine lv S (rn_move (S.tm rfl)) rfl ?_; clear S; intro a S
    refine lv S (rn_shr (S.tm rfl) rfl (by decide)) rfl ?_; clear S; intro a S
    refine lv S (rn_assign (S.tm rfl)) rfl ?_; clear S; intro a S
    refine l_done ?_
    replace S := S.nk [] [(2, .int .u64 (bitShl .u64 p_y (IntKind.wrap .u64 r1))), (8, .int .u64 (IntKind.wrap .u64 r1)), (9, .int .u64 (bitShr .u64 (bitShl .u64 p_y (IntKind.wrap .u64 r1)) 32)), (10, .int .u64 (bitAnd .u64 (bitShl .u64 p_y (IntKind.wrap .u64 r1)) 4294967295)), (11, .int .u64 (bitOr .u64 (bitShl .u64 p_hi (IntKind.wrap .u64 r1)) (bitShr .u64 p_lo (IntKind.wrap .u64 (64 - (IntKind.wrap .u64 r1)))))), (12, .int .u64 (bitShl .u64 p_lo (IntKind.wrap .u64 r1))), (13, .int .u64 (bitShr .u64 (bitShl .u64 p_lo (IntKind.wrap .u64 r1)) 32))] [] rfl ⟨rfl, rfl, rfl, rfl, rfl, rfl, rfl, trivial⟩
    refine then_n ?_
    refine f_seq ?_
    refine f_region ?_
    refine lv S (rn_move (S.tm rfl)) rfl ?_; clear S; intro a S
    refine lv S (rn_and_ (S.tm rfl) rfl) rfl ?_; clear S; intro a S
    refine lv S (rn_assign (S.tm rfl)) rfl ?_; clear S; intro a S
    refine l_done ?_
    replace S := S.nk [] [(2, .int .u64 (bitShl .u64 p_y (IntKind.wrap .u64 r1))), (8, .int .u64 (IntKind.wrap .u64 r1)), (9, .int .u64 (bitShr .u64 (bitShl .u64 p_y (IntKind.wrap .u64 r1)) 32)), (10, .int .u64 (bitAnd .u64 (bitShl .u64 p_y (IntKind.wrap .u64 r1)) 4294967295)), (11, .int .u64 (bitOr .u64 (bitShl .u64 p_hi (IntKind.wrap .u64 r1)) (bitShr .u64 p_lo (IntKind.wrap .u64 (64 - (IntKind.wrap .u64 r1)))))), (13, .int .u64 (bitShr .u64 (bitShl .u64 p_lo (IntKind.wrap .u64 r1)) 32)), (14, .int .u64 (bitAnd .u64 (bitShl .u64 p_lo (IntKind.wrap .u64 r1)) 4294967295))] [] rfl ⟨rfl, rfl, rfl, rfl, rfl, rfl, rfl, trivial⟩
    refine then_n ?_
    refine f_seq ?_
    refine f_region ?_
    refine lv S (rn_move (S.tm rfl)) rfl ?_; clear S; intro a S
    refine lv S (rn_move (S.tm rfl)) rfl ?_; clear S; intro a S
    obtain ⟨hc7, h⟩ := chkE h
    refine lv S (rn_quok (S.tm rfl) (S.tm rfl) (ne0_of hc7)) rfl ?_; clear S; intro a S
    refine lv S (rn_assign (S.tm rfl)) rfl ?_; clear S; intro a S
    refine l_done ?_
    replace S := S.nk [] [(2, .int .u64 (bitShl .u64 p_y (IntKind.wrap .u64 r1))), (8, .int .u64 (IntKind.wrap .u64 r1)), (9, .int .u64 (bitShr .u64 (bitShl .u64 p_y (IntKind.wrap .u64 r1)) 32)), (10, .int .u64 (bitAnd .u64 (bitShl .u64 p_y (IntKind.wrap .u64 r1)) 4294967295)), (11, .int .u64 (bitOr .u64 (bitShl .u64 p_hi (IntKind.wrap .u64 r1)) (bitShr .u64 p_lo (IntKind.wrap .u64 (64 - (IntKind.wrap .u64 r1)))))), (13, .int .u64 (bitShr .u64 (bitShl .u64 p_lo (IntKind.wrap .u64 r1)) 32)), (14, .int .u64 (bitAnd .u64 (bitShl .u64 p_lo (IntKind.wrap .u64 r1)) 4294967295)), (15, .int .u64 (IntKind.wrap .u64 (Int.tdiv (bitOr .u64 (bitShl .u64 p_hi (IntKind.wrap .u64 r1)) (bitShr .u64 p_lo (IntKind.wrap .u64 (64 - (IntKind.wrap .u64 r1))))) (bitShr .u64 (bitShl .u64 p_y (IntKind.wrap .u64 r1)) 32))))] [] rfl ⟨rfl, rfl, rfl, rfl, rfl, rfl, rfl, rfl, trivial⟩
    refine then_n ?_
    refine f_seq ?_
    refine f_region ?_
    refine lv S (rn_move (S.tm rfl)) rfl ?_; clear S; intro a S
    refine lv S (rn_move (S.tm rfl)) rfl ?_; clear S; intro a S
    refine lv S (rn_move (S.tm rfl)) rfl ?_; clear S; intro a S
    refine lv S (rn_mulk (S.tm rfl) (S.tm rfl)) rfl ?_; clear S; intro a S
    refine lv S (rn_subk (S.tm rfl) (S.tm rfl)) rfl ?_; clear S; intro a S
    refine lv S (rn_assign (S.tm rfl)) rfl ?_; clear S; intro a S
    refine l_done ?_
    replace S := S.nk [] [(2, .int .u64 (bitShl .u64 p_y (IntKind.wrap .u64 r1))), (8, .int .u64 (IntKind.wrap .u64 r1)), (9, .int .u64 (bitShr .u64 (bitShl .u64 p_y (IntKind.wrap .u64 r1)) 32)), (10, .int .u64 (bitAnd .u64 (bitShl .u64 p_y (IntKind.wrap .u64 r1)) 4294967295)), (11, .int .u64 (bitOr .u64 (bitShl .u64 p_hi (IntKind.wrap .u64 r1)) (bitShr .u64 p_lo (IntKind.wrap .u64 (64 - (IntKind.wrap .u64 r1)))))), (13, .int .u64 (bitShr .u64 (bitShl .u64 p_lo (IntKind.wrap .u64 r1)) 32)), (14, .int .u64 (bitAnd .u64 (bitShl .u64 p_lo (IntKind.wrap .u64 r1)) 4294967295)), (15, .int .u64 (IntKind.wrap .u64 (Int.tdiv (bitOr .u64 (bitShl .u64 p_hi (IntKind.wrap .u64 r1)) (bitShr .u64 p_lo (IntKind.wrap .u64 (64 - (IntKind.wrap .u64 r1))))) (bitShr .u64 (bitShl .u64 p_y (IntKind.wrap .u64 r1)) 32)))), (16, .int .u64 (IntKind.wrap .u64 ((bitOr .u64 (bitShl .u64 p_hi (IntKind.wrap .u64 r1)) (bitShr .u64 p_lo (IntKind.wrap .u64 (64 - (IntKind.wrap .u64 r1))))) - (IntKind.wrap .u64 ((IntKind.wrap .u64 (Int.tdiv (bitOr .u64 (bitShl .u64 p_hi (IntKind.wrap .u64 r1)) (bitShr .u64 p_lo (IntKind.wrap .u64 (64 - (IntKind.wrap .u64 r1))))) (bitShr .u64 (bitShl .u64 p_y (IntKind.wrap .u64 r1)) 32))) * (bitShr .u64 (bitShl .u64 p_y (IntKind.wrap .u64 r1)) 32))))))] [] rfl ⟨rfl, rfl, rfl, rfl, rfl, rfl, rfl, rfl, rfl, trivial⟩
    refine then_n ?_
    refine f_seq ?_
    obtain ⟨j1, hj1, h⟩ := joinE h
    refine f_join (fun a w' => ∃ x1 : Int, j1 x1 = some r ∧ Sx w [] nov [] [(2, .int .u64 (bitShl .u64 p_y (IntKind.wrap .u64 r1))), (8, .int .u64 (IntKind.wrap .u64 r1)), (9, .int .u64 (bitShr .u64 (bitShl .u64 p_y (IntKind.wrap .u64 r1)) 32)), (10, .int .u64 (bitAnd .u64 (bitShl .u64 p_y (IntKind.wrap .u64 r1)) 4294967295)), (11, .int .u64 (bitOr .u64 (bitShl .u64 p_hi (IntKind.wrap .u64 r1)) (bitShr .u64 p_lo (IntKind.wrap .u64 (64 - (IntKind.wrap .u64 r1)))))), (13, .int .u64 (bitShr .u64 (bitShl .u64 p_lo (IntKind.wrap .u64 r1)) 32)), (14, .int .u64 (bitAnd .u64 (bitShl .u64 p_lo (IntKind.wrap .u64 r1)) 4294967295)), (15, .int .u64 x1)] 135 a w') ?_ ?_
    ·refine wp_block ?_
     refine f_loop (fun (m1 : Nat) a w' => ∃ x1 : Int, ∃ x2 : Int, bits_Div64_l1 p_lo r1 p_y j1 m1 x1 x2 = some r ∧ Sx w [] nov [] [(2, .int .u64 (bitShl .u64 p_y (IntKind.wrap .u64 r1))), (8, .int .u64 (IntKind.wrap .u64 r1)), (9, .int .u64 (bitShr .u64 (bitShl .u64 p_y (IntKind.wrap .u64 r1)) 32)), (10, .int .u64 (bitAnd .u64 (bitShl .u64 p_y (IntKind.wrap .u64 r1)) 4294967295)), (11, .int .u64 (bitOr .u64 (bitShl .u64 p_hi (IntKind.wrap .u64 r1)) (bitShr .u64 p_lo (IntKind.wrap .u64 (64 - (IntKind.wrap .u64 r1)))))), (13, .int .u64 (bitShr .u64 (bitShl .u64 p_lo (IntKind.wrap .u64 r1)) 32)), (14, .int .u64 (bitAnd .u64 (bitShl .u64 p_lo (IntKind.wrap .u64 r1)) 4294967295)), (15, .int .u64 x1), (16, .int .u64 x2)] 135 a w') id (((IntKind.wrap .u64 (Int.tdiv (bitOr .u64 (bitShl .u64 p_hi (IntKind.wrap .u64 r1)) (bitShr .u64 p_lo (IntKind.wrap .u64 (64 - (IntKind.wrap .u64 r1))))) (bitShr .u64 (bitShl .u64 p_y (IntKind.wrap .u64 r1)) 32))) - 4294967296).toNat + 2) ⟨IntKind.wrap .u64 (Int.tdiv (bitOr .u64 (bitShl .u64 p_hi (IntKind.wrap .u64 r1)) (bitShr .u64 p_lo (IntKind.wrap .u64 (64 - (IntKind.wrap .u64 r1))))) (bitShr .u64 (bitShl .u64 p_y (IntKind.wrap .u64 r1)) 32)), IntKind.wrap .u64 ((bitOr .u64 (bitShl .u64 p_hi (IntKind.wrap .u64 r1)) (bitShr .u64 p_lo (IntKind.wrap .u64 (64 - (IntKind.wrap .u64 r1))))) - (IntKind.wrap .u64 ((IntKind.wrap .u64 (Int.tdiv (bitOr .u64 (bitShl .u64 p_hi (IntKind.wrap .u64 r1)) (bitShr .u64 p_lo (IntKind.wrap .u64 (64 - (IntKind.wrap .u64 r1))))) (bitShr .u64 (bitShl .u64 p_y (IntKind.wrap .u64 r1)) 32))) * (bitShr .u64 (bitShl .u64 p_y (IntKind.wrap .u64 r1)) 32)))), h, S.nf [] rfl ⟨rfl, rfl, rfl, rfl, rfl, rfl, rfl, rfl, rfl, trivial⟩⟩ ?_
     clear S h; rintro m1 a w3 ⟨x1, x2, h, S⟩
     cases m1 with
     | zero => rw [bits_Div64_l1.eq_1] at h; cases h
     | succ m1 =>
      rw [bits_Div64_l1.eq_2] at h
      refine f_seq ?_
      refine f_seq ?_
      refine f_region ?_
      refine lv S (rn_move (S.tm rfl)) rfl ?_; clear S; intro a S
      refine lv S (rn_geq (S.tm rfl) rfl) rfl ?_; clear S; intro a S
      refine lv S (rn_move (S.tm rfl)) rfl ?_; clear S; intro a S
      refine f_cutm 9 (fun a w' => Keep [] w3 w' ∧ Sx w [] nov [] [(2, .int .u64 (bitShl .u64 p_y (IntKind.wrap .u64 r1))), (8, .int .u64 (IntKind.wrap .u64 r1)), (9, .int .u64 (bitShr .u64 (bitShl .u64 p_y (IntKind.wrap .u64 r1)) 32)), (10, .int .u64 (bitAnd .u64 (bitShl .u64 p_y (IntKind.wrap .u64 r1)) 4294967295)), (11, .int .u64 (bitOr .u64 (bitShl .u64 p_hi (IntKind.wrap .u64 r1)) (bitShr .u64 p_lo (IntKind.wrap .u64 (64 - (IntKind.wrap .u64 r1)))))), (13, .int .u64 (bitShr .u64 (bitShl .u64 p_lo (IntKind.wrap .u64 r1)) 32)), (14, .int .u64 (bitAnd .u64 (bitShl .u64 p_lo (IntKind.wrap .u64 r1)) 4294967295)), (15, .int .u64 x1), (16, .int .u64 x2), (78, .bool ((decide (4294967296 ≤ x1)) || (decide ((IntKind.wrap .u64 ((IntKind.wrap .u64 (4294967296 * x2)) + (bitShr .u64 (bitShl .u64 p_lo (IntKind.wrap .u64 r1)) 32))) < (IntKind.wrap .u64 (x1 * (bitAnd .u64 (bitShl .u64 p_y (IntKind.wrap .u64 r1)) 4294967295)))))))] 135 a w') ?_ ?_
      ·rcases Bool.eq_false_or_eq_true (decide (4294967296 ≤ x1)) with hb4 | hb4
       ·refine l_skip S rfl rfl rfl (neq_t hb4) rfl ?_ rfl; clear S; intro a S
        refine l_skip S rfl rfl rfl (neq_t hb4) rfl ?_ rfl; clear S; intro a S
        refine l_skip S rfl rfl rfl (neq_t hb4) rfl ?_ rfl; clear S; intro a S
        refine l_skip S rfl rfl rfl (neq_t hb4) rfl ?_ rfl; clear S; intro a S
        refine l_skip S rfl rfl rfl (neq_t hb4) rfl ?_ rfl; clear S; intro a S
        refine l_skip S rfl rfl rfl (neq_t hb4) rfl ?_ rfl; clear S; intro a S
        refine l_skip S rfl rfl rfl (neq_t hb4) rfl ?_ rfl; clear S; intro a S
        refine l_skip S rfl rfl rfl (neq_t hb4) rfl ?_ rfl; clear S; intro a S
        refine lv S (rn_or_t (decide ((IntKind.wrap .u64 ((IntKind.wrap .u64 (4294967296 * x2)) + (bitShr .u64 (bitShl .u64 p_lo (IntKind.wrap .u64 r1)) 32))) < (IntKind.wrap .u64 (x1 * (bitAnd .u64 (bitShl .u64 p_y (IntKind.wrap .u64 r1)) 4294967295))))) hb4 (S.tm rfl) rfl) rfl ?_; clear S; intro a S
        refine l_done ?_
        refine then_n ?_
        exact ⟨Keep.refl _ _, S.nf [] rfl ⟨rfl, rfl, rfl, rfl, rfl, rfl, rfl, rfl, rfl, rfl, trivial⟩⟩
       ·refine l_want S rfl rfl rfl hb4 ?_
        refine lv S (rn_move (S.tm rfl)) rfl ?_; clear S; intro a S
        refine l_want S rfl rfl rfl hb4 ?_
        refine lv S (rn_move (S.tm rfl)) rfl ?_; clear S; intro a S
        refine l_want S rfl rfl rfl hb4 ?_
        refine lv S (rn_mulk (S.tm rfl) (S.tm rfl)) rfl ?_; clear S; intro a S
        refine l_want S rfl rfl rfl hb4 ?_
        refine lv S (rn_move (S.tm rfl)) rfl ?_; clear S; intro a S
        refine l_want S rfl rfl rfl hb4 ?_
        refine lv S (rn_mulk rfl (S.tm rfl)) rfl ?_; clear S; intro a S
        refine l_want S rfl rfl rfl hb4 ?_
        refine lv S (rn_move (S.tm rfl)) rfl ?_; clear S; intro a S
        refine l_want S rfl rfl rfl hb4 ?_
        refine lv S (rn_addk (S.tm rfl) (S.tm rfl)) rfl ?_; clear S; intro a S
        refine l_want S rfl rfl rfl hb4 ?_
        refine lv S (rn_gtr (S.tm rfl) (S.tm rfl)) rfl ?_; clear S; intro a S
        refine lv S (rn_or_f hb4 (S.tm rfl) (S.tm rfl)) rfl ?_; clear S; intro a S
        refine l_done ?_
        refine then_n ?_
        exact ⟨Keep.refl _ _, S.nf [] rfl ⟨rfl, rfl, rfl, rfl, rfl, rfl, rfl, rfl, rfl, rfl, trivial⟩⟩
      clear S; rintro a w5 ⟨hk3, S⟩
      refine l_done ?_
      replace S := S.nk [] [(2, .int .u64 (bitShl .u64 p_y (IntKind.wrap .u64 r1))), (8, .int .u64 (IntKind.wrap .u64 r1)), (9, .int .u64 (bitShr .u64 (bitShl .u64 p_y (IntKind.wrap .u64 r1)) 32)), (10, .int .u64 (bitAnd .u64 (bitShl .u64 p_y (IntKind.wrap .u64 r1)) 4294967295)), (11, .int .u64 (bitOr .u64 (bitShl .u64 p_hi (IntKind.wrap .u64 r1)) (bitShr .u64 p_lo (IntKind.wrap .u64 (64 - (IntKind.wrap .u64 r1)))))), (13, .int .u64 (bitShr .u64 (bitShl .u64 p_lo (IntKind.wrap .u64 r1)) 32)), (14, .int .u64 (bitAnd .u64 (bitShl .u64 p_lo (IntKind.wrap .u64 r1)) 4294967295)), (15, .int .u64 x1), (16, .int .u64 x2), (78, .bool ((decide (4294967296 ≤ x1)) || (decide ((IntKind.wrap .u64 ((IntKind.wrap .u64 (4294967296 * x2)) + (bitShr .u64 (bitShl .u64 p_lo (IntKind.wrap .u64 r1)) 32))) < (IntKind.wrap .u64 (x1 * (bitAnd .u64 (bitShl .u64 p_y (IntKind.wrap .u64 r1)) 4294967295)))))))] [] rfl ⟨rfl, rfl, rfl, rfl, rfl, rfl, rfl, rfl, rfl, rfl, trivial⟩
      refine then_n ?_
      refine f_cond (S.tm rfl) (fun hb5 => ?_) (fun hb5 => ?_)
      ·replace h := iteT h hb5
       refine wp_skip ?_
       refine then_n ?_
       refine wp_block ?_
       refine f_seq ?_
       refine f_region ?_
       refine lv S (rn_move (S.tm rfl)) rfl ?_; clear S; intro a S
       refine lv S (rn_subk (S.tm rfl) rfl) rfl ?_; clear S; intro a S
       refine lv S (rn_assign (S.tm rfl)) rfl ?_; clear S; intro a S
       refine l_done ?_
       replace S := S.nk [] [(2, .int .u64 (bitShl .u64 p_y (IntKind.wrap .u64 r1))), (8, .int .u64 (IntKind.wrap .u64 r1)), (9, .int .u64 (bitShr .u64 (bitShl .u64 p_y (IntKind.wrap .u64 r1)) 32)), (10, .int .u64 (bitAnd .u64 (bitShl .u64 p_y (IntKind.wrap .u64 r1)) 4294967295)), (11, .int .u64 (bitOr .u64 (bitShl .u64 p_hi (IntKind.wrap .u64 r1)) (bitShr .u64 p_lo (IntKind.wrap .u64 (64 - (IntKind.wrap .u64 r1)))))), (13, .int .u64 (bitShr .u64 (bitShl .u64 p_lo (IntKind.wrap .u64 r1)) 32)), (14, .int .u64 (bitAnd .u64 (bitShl .u64 p_lo (IntKind.wrap .u64 r1)) 4294967295)), (15, .int .u64 (IntKind.wrap .u64 (x1 - 1))), (16, .int .u64 x2)] [] rfl ⟨rfl, rfl, rfl, rfl, rfl, rfl, rfl, rfl, rfl, trivial⟩
       refine then_n ?_
       refine f_seq ?_
       refine f_region ?_
       refine lv S (rn_move (S.tm rfl)) rfl ?_; clear S; intro a S
       refine lv S (rn_move (S.tm rfl)) rfl ?_; clear S; intro a S
       refine lv S (rn_addk (S.tm rfl) (S.tm rfl)) rfl ?_; clear S; intro a S
       refine lv S (rn_assign (S.tm rfl)) rfl ?_; clear S; intro a S
       refine l_done ?_
       replace S := S.nk [] [(2, .int .u64 (bitShl .u64 p_y (IntKind.wrap .u64 r1))), (8, .int .u64 (IntKind.wrap .u64 r1)), (9, .int .u64 (bitShr .u64 (bitShl .u64 p_y (IntKind.wrap .u64 r1)) 32)), (10, .int .u64 (bitAnd .u64 (bitShl .u64 p_y (IntKind.wrap .u64 r1)) 4294967295)), (11, .int .u64 (bitOr .u64 (bitShl .u64 p_hi (IntKind.wrap .u64 r1)) (bitShr .u64 p_lo (IntKind.wrap .u64 (64 - (IntKind.wrap .u64 r1)))))), (13, .int .u64 (bitShr .u64 (bitShl .u64 p_lo (IntKind.wrap .u64 r1)) 32)), (14, .int .u64 (bitAnd .u64 (bitShl .u64 p_lo (IntKind.wrap .u64 r1)) 4294967295)), (15, .int .u64 (IntKind.wrap .u64 (x1 - 1))), (16, .int .u64 (IntKind.wrap .u64 (x2 + (bitShr .u64 (bitShl .u64 p_y (IntKind.wrap .u64 r1)) 32))))] [] rfl ⟨rfl, rfl, rfl, rfl, rfl, rfl, rfl, rfl, rfl, trivial⟩
       refine then_n ?_
       refine f_seq ?_
       refine f_region ?_
       refine lv S (rn_move (S.tm rfl)) rfl ?_; clear S; intro a S
       refine lv S (rn_geq (S.tm rfl) rfl) rfl ?_; clear S; intro a S
       refine l_done ?_
       replace S := S.nk [] [(2, .int .u64 (bitShl .u64 p_y (IntKind.wrap .u64 r1))), (8, .int .u64 (IntKind.wrap .u64 r1)), (9, .int .u64 (bitShr .u64 (bitShl .u64 p_y (IntKind.wrap .u64 r1)) 32)), (10, .int .u64 (bitAnd .u64 (bitShl .u64 p_y (IntKind.wrap .u64 r1)) 4294967295)), (11, .int .u64 (bitOr .u64 (bitShl .u64 p_hi (IntKind.wrap .u64 r1)) (bitShr .u64 p_lo (IntKind.wrap .u64 (64 - (IntKind.wrap .u64 r1)))))), (13, .int .u64 (bitShr .u64 (bitShl .u64 p_lo (IntKind.wrap .u64 r1)) 32)), (14, .int .u64 (bitAnd .u64 (bitShl .u64 p_lo (IntKind.wrap .u64 r1)) 4294967295)), (15, .int .u64 (IntKind.wrap .u64 (x1 - 1))), (16, .int .u64 (IntKind.wrap .u64 (x2 + (bitShr .u64 (bitShl .u64 p_y (IntKind.wrap .u64 r1)) 32)))), (85, .bool (decide (4294967296 ≤ (IntKind.wrap .u64 (x2 + (bitShr .u64 (bitShl .u64 p_y (IntKind.wrap .u64 r1)) 32))))))] [] rfl ⟨rfl, rfl, rfl, rfl, rfl, rfl, rfl, rfl, rfl, rfl, trivial⟩
       refine then_n ?_
       refine f_cond (S.tm rfl) (fun hb6 => ?_) (fun hb6 => ?_)
       ·replace h := iteT h hb6
        refine wp_exit ?_
        refine x_other rfl ?_
        refine then_x ?_
        refine x_same ?_
        refine then_n ?_
        exact ⟨IntKind.wrap .u64 (x1 - 1), h, S.nf [] rfl ⟨rfl, rfl, rfl, rfl, rfl, rfl, rfl, rfl, trivial⟩⟩
       ·replace h := iteF h hb6
        refine wp_skip ?_
        refine blk_n ?_
        refine then_n ?_
        exact ⟨m1, ⟨IntKind.wrap .u64 (x1 - 1), IntKind.wrap .u64 (x2 + (bitShr .u64 (bitShl .u64 p_y (IntKind.wrap .u64 r1)) 32)), h, S.nf [] rfl ⟨rfl, rfl, rfl, rfl, rfl, rfl, rfl, rfl, rfl, trivial⟩⟩, Nat.lt_succ_self _⟩
      ·replace h := iteF h hb5
       refine wp_exit ?_
       refine then_x ?_
       refine then_x ?_
       refine x_same ?_
       refine then_n ?_
       exact ⟨x1, h, S.nf [] rfl ⟨rfl, rfl, rfl, rfl, rfl, rfl, rfl, rfl, trivial⟩⟩
    clear S h; rintro a w4 ⟨x1, h, S⟩; rw [hj1] at h; clear hj1 j1
    refine then_n ?_
    refine f_seq ?_
    refine f_region ?_
    refine lv S (rn_move (S.tm rfl)) rfl ?_; clear S; intro a S
    refine lv S (rn_mulk (S.tm rfl) rfl) rfl ?_; clear S; intro a S
    refine lv S (rn_move (S.tm rfl)) rfl ?_; clear S; intro a S
    refine lv S (rn_addk (S.tm rfl) (S.tm rfl)) rfl ?_; clear S; intro a S
    refine lv S (rn_move (S.tm rfl)) rfl ?_; clear S; intro a S
    refine lv S (rn_move (S.tm rfl)) rfl ?_; clear S; intro a S
    refine lv S (rn_mulk (S.tm rfl) (S.tm rfl)) rfl ?_; clear S; intro a S
    refine lv S (rn_subk (S.tm rfl) (S.tm rfl)) rfl ?_; clear S; intro a S
    refine lv S (rn_assign (S.tm rfl)) rfl ?_; clear S; intro a S
    refine l_done ?_
    replace S := S.nk [] [(2, .int .u64 (bitShl .u64 p_y (IntKind.wrap .u64 r1))), (8, .int .u64 (IntKind.wrap .u64 r1)), (9, .int .u64 (bitShr .u64 (bitShl .u64 p_y (IntKind.wrap .u64 r1)) 32)), (10, .int .u64 (bitAnd .u64 (bitShl .u64 p_y (IntKind.wrap .u64 r1)) 4294967295)), (14, .int .u64 (bitAnd .u64 (bitShl .u64 p_lo (IntKind.wrap .u64 r1)) 4294967295)), (15, .int .u64 x1), (17, .int .u64 (IntKind.wrap .u64 ((IntKind.wrap .u64 ((IntKind.wrap .u64 ((bitOr .u64 (bitShl .u64 p_hi (IntKind.wrap .u64 r1)) (bitShr .u64 p_lo (IntKind.wrap .u64 (64 - (IntKind.wrap .u64 r1))))) * 4294967296)) + (bitShr .u64 (bitShl .u64 p_lo (IntKind.wrap .u64 r1)) 32))) - (IntKind.wrap .u64 (x1 * (bitShl .u64 p_y (IntKind.wrap .u64 r1)))))))] [] rfl ⟨rfl, rfl, rfl, rfl, rfl, rfl, rfl, trivial⟩
    refine then_n ?_
    refine f_seq ?_
    refine f_region ?_
    refine lv S (rn_move (S.tm rfl)) rfl ?_; clear S; intro a S
    refine lv S (rn_move (S.tm rfl)) rfl ?_; clear S; intro a S
    obtain ⟨hc8, h⟩ := chkE h
    refine lv S (rn_quok (S.tm rfl) (S.tm rfl) (ne0_of hc8)) rfl ?_; clear S; intro a S
    refine lv S (rn_assign (S.tm rfl)) rfl ?_; clear S; intro a S
    refine l_done ?_
    replace S := S.nk [] [(2, .int .u64 (bitShl .u64 p_y (IntKind.wrap .u64 r1))), (8, .int .u64 (IntKind.wrap .u64 r1)), (9, .int .u64 (bitShr .u64 (bitShl .u64 p_y (IntKind.wrap .u64 r1)) 32)), (10, .int .u64 (bitAnd .u64 (bitShl .u64 p_y (IntKind.wrap .u64 r1)) 4294967295)), (14, .int .u64 (bitAnd .u64 (bitShl .u64 p_lo (IntKind.wrap .u64 r1)) 4294967295)), (15, .int .u64 x1), (17, .int .u64 (IntKind.wrap .u64 ((IntKind.wrap .u64 ((IntKind.wrap .u64 ((bitOr .u64 (bitShl .u64 p_hi (IntKind.wrap .u64 r1)) (bitShr .u64 p_lo (IntKind.wrap .u64 (64 - (IntKind.wrap .u64 r1))))) * 4294967296)) + (bitShr .u64 (bitShl .u64 p_lo (IntKind.wrap .u64 r1)) 32))) - (IntKind.wrap .u64 (x1 * (bitShl .u64 p_y (IntKind.wrap .u64 r1))))))), (18, .int .u64 (IntKind.wrap .u64 (Int.tdiv (IntKind.wrap .u64 ((IntKind.wrap .u64 ((IntKind.wrap .u64 ((bitOr .u64 (bitShl .u64 p_hi (IntKind.wrap .u64 r1)) (bitShr .u64 p_lo (IntKind.wrap .u64 (64 - (IntKind.wrap .u64 r1))))) * 4294967296)) + (bitShr .u64 (bitShl .u64 p_lo (IntKind.wrap .u64 r1)) 32))) - (IntKind.wrap .u64 (x1 * (bitShl .u64 p_y (IntKind.wrap .u64 r1)))))) (bitShr .u64 (bitShl .u64 p_y (IntKind.wrap .u64 r1)) 32))))] [] rfl ⟨rfl, rfl, rfl, rfl, rfl, rfl, rfl, rfl, trivial⟩
    refine then_n ?_
    refine f_seq ?_
    refine f_region ?_
    refine lv S (rn_move (S.tm rfl)) rfl ?_; clear S; intro a S
    refine lv S (rn_move (S.tm rfl)) rfl ?_; clear S; intro a S
    refine lv S (rn_move (S.tm rfl)) rfl ?_; clear S; intro a S
    refine lv S (rn_mulk (S.tm rfl) (S.tm rfl)) rfl ?_; clear S; intro a S
    refine lv S (rn_subk (S.tm rfl) (S.tm rfl)) rfl ?_; clear S; intro a S
    refine lv S (rn_assign (S.tm rfl)) rfl ?_; clear S; intro a S
    refine l_done ?_
    replace S := S.nk [] [(2, .int .u64 (bitShl .u64 p_y (IntKind.wrap .u64 r1))), (8, .int .u64 (IntKind.wrap .u64 r1)), (9, .int .u64 (bitShr .u64 (bitShl .u64 p_y (IntKind.wrap .u64 r1)) 32)), (10, .int .u64 (bitAnd .u64 (bitShl .u64 p_y (IntKind.wrap .u64 r1)) 4294967295)), (14, .int .u64 (bitAnd .u64 (bitShl .u64 p_lo (IntKind.wrap .u64 r1)) 4294967295)), (15, .int .u64 x1), (16, .int .u64 (IntKind.wrap .u64 ((IntKind.wrap .u64 ((IntKind.wrap .u64 ((IntKind.wrap .u64 ((bitOr .u64 (bitShl .u64 p_hi (IntKind.wrap .u64 r1)) (bitShr .u64 p_lo (IntKind.wrap .u64 (64 - (IntKind.wrap .u64 r1))))) * 4294967296)) + (bitShr .u64 (bitShl .u64 p_lo (IntKind.wrap .u64 r1)) 32))) - (IntKind.wrap .u64 (x1 * (bitShl .u64 p_y (IntKind.wrap .u64 r1)))))) - (IntKind.wrap .u64 ((IntKind.wrap .u64 (Int.tdiv (IntKind.wrap .u64 ((IntKind.wrap .u64 ((IntKind.wrap .u64 ((bitOr .u64 (bitShl .u64 p_hi (IntKind.wrap .u64 r1)) (bitShr .u64 p_lo (IntKind.wrap .u64 (64 - (IntKind.wrap .u64 r1))))) * 4294967296)) + (bitShr .u64 (bitShl .u64 p_lo (IntKind.wrap .u64 r1)) 32))) - (IntKind.wrap .u64 (x1 * (bitShl .u64 p_y (IntKind.wrap .u64 r1)))))) (bitShr .u64 (bitShl .u64 p_y (IntKind.wrap .u64 r1)) 32))) * (bitShr .u64 (bitShl .u64 p_y (IntKind.wrap .u64 r1)) 32)))))), (17, .int .u64 (IntKind.wrap .u64 ((IntKind.wrap .u64 ((IntKind.wrap .u64 ((bitOr .u64 (bitShl .u64 p_hi (IntKind.wrap .u64 r1)) (bitShr .u64 p_lo (IntKind.wrap .u64 (64 - (IntKind.wrap .u64 r1))))) * 4294967296)) + (bitShr .u64 (bitShl .u64 p_lo (IntKind.wrap .u64 r1)) 32))) - (IntKind.wrap .u64 (x1 * (bitShl .u64 p_y (IntKind.wrap .u64 r1))))))), (18, .int .u64 (IntKind.wrap .u64 (Int.tdiv (IntKind.wrap .u64 ((IntKind.wrap .u64 ((IntKind.wrap .u64 ((bitOr .u64 (bitShl .u64 p_hi (IntKind.wrap .u64 r1)) (bitShr .u64 p_lo (IntKind.wrap .u64 (64 - (IntKind.wrap .u64 r1))))) * 4294967296)) + (bitShr .u64 (bitShl .u64 p_lo (IntKind.wrap .u64 r1)) 32))) - (IntKind.wrap .u64 (x1 * (bitShl .u64 p_y (IntKind.wrap .u64 r1)))))) (bitShr .u64 (bitShl .u64 p_y (IntKind.wrap .u64 r1)) 32))))] [] rfl ⟨rfl, rfl, rfl, rfl, rfl, rfl, rfl, rfl, rfl, trivial⟩
    refine then_n ?_
    refine f_seq ?_
    obtain ⟨j2, hj2, h⟩ := joinE h
    refine f_join (fun a w' => ∃ x4 : Int, j2 x4 = some r ∧ Sx w [] nov [] [(2, .int .u64 (bitShl .u64 p_y (IntKind.wrap .u64 r1))), (8, .int .u64 (IntKind.wrap .u64 r1)), (14, .int .u64 (bitAnd .u64 (bitShl .u64 p_lo (IntKind.wrap .u64 r1)) 4294967295)), (15, .int .u64 x1), (17, .int .u64 (IntKind.wrap .u64 ((IntKind.wrap .u64 ((IntKind.wrap .u64 ((bitOr .u64 (bitShl .u64 p_hi (IntKind.wrap .u64 r1)) (bitShr .u64 p_lo (IntKind.wrap .u64 (64 - (IntKind.wrap .u64 r1))))) * 4294967296)) + (bitShr .u64 (bitShl .u64 p_lo (IntKind.wrap .u64 r1)) 32))) - (IntKind.wrap .u64 (x1 * (bitShl .u64 p_y (IntKind.wrap .u64 r1))))))), (18, .int .u64 x4)] 135 a w') ?_ ?_
    ·refine wp_block ?_
     refine f_loop (fun (m2 : Nat) a w' => ∃ x3 : Int, ∃ x4 : Int, bits_Div64_l2 p_lo r1 p_y j2 m2 x3 x4 = some r ∧ Sx w [] nov [] [(2, .int .u64 (bitShl .u64 p_y (IntKind.wrap .u64 r1))), (8, .int .u64 (IntKind.wrap .u64 r1)), (9, .int .u64 (bitShr .u64 (bitShl .u64 p_y (IntKind.wrap .u64 r1)) 32)), (10, .int .u64 (bitAnd .u64 (bitShl .u64 p_y (IntKind.wrap .u64 r1)) 4294967295)), (14, .int .u64 (bitAnd .u64 (bitShl .u64 p_lo (IntKind.wrap .u64 r1)) 4294967295)), (15, .int .u64 x1), (16, .int .u64 x3), (17, .int .u64 (IntKind.wrap .u64 ((IntKind.wrap .u64 ((IntKind.wrap .u64 ((bitOr .u64 (bitShl .u64 p_hi (IntKind.wrap .u64 r1)) (bitShr .u64 p_lo (IntKind.wrap .u64 (64 - (IntKind.wrap .u64 r1))))) * 4294967296)) + (bitShr .u64 (bitShl .u64 p_lo (IntKind.wrap .u64 r1)) 32))) - (IntKind.wrap .u64 (x1 * (bitShl .u64 p_y (IntKind.wrap .u64 r1))))))), (18, .int .u64 x4)] 135 a w') id (((IntKind.wrap .u64 (Int.tdiv (IntKind.wrap .u64 ((IntKind.wrap .u64 ((IntKind.wrap .u64 ((bitOr .u64 (bitShl .u64 p_hi (IntKind.wrap .u64 r1)) (bitShr .u64 p_lo (IntKind.wrap .u64 (64 - (IntKind.wrap .u64 r1))))) * 4294967296)) + (bitShr .u64 (bitShl .u64 p_lo (IntKind.wrap .u64 r1)) 32))) - (IntKind.wrap .u64 (x1 * (bitShl .u64 p_y (IntKind.wrap .u64 r1)))))) (bitShr .u64 (bitShl .u64 p_y (IntKind.wrap .u64 r1)) 32))) - 4294967296).toNat + 2) ⟨IntKind.wrap .u64 ((IntKind.wrap .u64 ((IntKind.wrap .u64 ((IntKind.wrap .u64 ((bitOr .u64 (bitShl .u64 p_hi (IntKind.wrap .u64 r1)) (bitShr .u64 p_lo (IntKind.wrap .u64 (64 - (IntKind.wrap .u64 r1))))) * 4294967296)) + (bitShr .u64 (bitShl .u64 p_lo (IntKind.wrap .u64 r1)) 32))) - (IntKind.wrap .u64 (x1 * (bitShl .u64 p_y (IntKind.wrap .u64 r1)))))) - (IntKind.wrap .u64 ((IntKind.wrap .u64 (Int.tdiv (IntKind.wrap .u64 ((IntKind.wrap .u64 ((IntKind.wrap .u64 ((bitOr .u64 (bitShl .u64 p_hi (IntKind.wrap .u64 r1)) (bitShr .u64 p_lo (IntKind.wrap .u64 (64 - (IntKind.wrap .u64 r1))))) * 4294967296)) + (bitShr .u64 (bitShl .u64 p_lo (IntKind.wrap .u64 r1)) 32))) - (IntKind.wrap .u64 (x1 * (bitShl .u64 p_y (IntKind.wrap .u64 r1)))))) (bitShr .u64 (bitShl .u64 p_y (IntKind.wrap .u64 r1)) 32))) * (bitShr .u64 (bitShl .u64 p_y (IntKind.wrap .u64 r1)) 32)))), IntKind.wrap .u64 (Int.tdiv (IntKind.wrap .u64 ((IntKind.wrap .u64 ((IntKind.wrap .u64 ((bitOr .u64 (bitShl .u64 p_hi (IntKind.wrap .u64 r1)) (bitShr .u64 p_lo (IntKind.wrap .u64 (64 - (IntKind.wrap .u64 r1))))) * 4294967296)) + (bitShr .u64 (bitShl .u64 p_lo (IntKind.wrap .u64 r1)) 32))) - (IntKind.wrap .u64 (x1 * (bitShl .u64 p_y (IntKind.wrap .u64 r1)))))) (bitShr .u64 (bitShl .u64 p_y (IntKind.wrap .u64 r1)) 32)), h, S.nf [] rfl ⟨rfl, rfl, rfl, rfl, rfl, rfl, rfl, rfl, rfl, trivial⟩⟩ ?_
     clear S h; rintro m2 a w6 ⟨x3, x4, h, S⟩
     cases m2 with
     | zero => rw [bits_Div64_l2.eq_1] at h; cases h
     | succ m2 =>
      rw [bits_Div64_l2.eq_2] at h
      refine f_seq ?_
      refine f_seq ?_
      refine f_region ?_
      refine lv S (rn_move (S.tm rfl)) rfl ?_; clear S; intro a S
      refine lv S (rn_geq (S.tm rfl) rfl) rfl ?_; clear S; intro a S
      refine lv S (rn_move (S.tm rfl)) rfl ?_; clear S; intro a S
      refine f_cutm 9 (fun a w' => Keep [] w6 w' ∧ Sx w [] nov [] [(2, .int .u64 (bitShl .u64 p_y (IntKind.wrap .u64 r1))), (8, .int .u64 (IntKind.wrap .u64 r1)), (9, .int .u64 (bitShr .u64 (bitShl .u64 p_y (IntKind.wrap .u64 r1)) 32)), (10, .int .u64 (bitAnd .u64 (bitShl .u64 p_y (IntKind.wrap .u64 r1)) 4294967295)), (14, .int .u64 (bitAnd .u64 (bitShl .u64 p_lo (IntKind.wrap .u64 r1)) 4294967295)), (15, .int .u64 x1), (16, .int .u64 x3), (17, .int .u64 (IntKind.wrap .u64 ((IntKind.wrap .u64 ((IntKind.wrap .u64 ((bitOr .u64 (bitShl .u64 p_hi (IntKind.wrap .u64 r1)) (bitShr .u64 p_lo (IntKind.wrap .u64 (64 - (IntKind.wrap .u64 r1))))) * 4294967296)) + (bitShr .u64 (bitShl .u64 p_lo (IntKind.wrap .u64 r1)) 32))) - (IntKind.wrap .u64 (x1 * (bitShl .u64 p_y (IntKind.wrap .u64 r1))))))), (18, .int .u64 x4), (113, .bool ((decide (4294967296 ≤ x4)) || (decide ((IntKind.wrap .u64 ((IntKind.wrap .u64 (4294967296 * x3)) + (bitAnd .u64 (bitShl .u64 p_lo (IntKind.wrap .u64 r1)) 4294967295))) < (IntKind.wrap .u64 (x4 * (bitAnd .u64 (bitShl .u64 p_y (IntKind.wrap .u64 r1)) 4294967295)))))))] 135 a w') ?_ ?_
      ·rcases Bool.eq_false_or_eq_true (decide (4294967296 ≤ x4)) with hb7 | hb7
       ·refine l_skip S rfl rfl rfl (neq_t hb7) rfl ?_ rfl; clear S; intro a S
        refine l_skip S rfl rfl rfl (neq_t hb7) rfl ?_ rfl; clear S; intro a S
        refine l_skip S rfl rfl rfl (neq_t hb7) rfl ?_ rfl; clear S; intro a S
        refine l_skip S rfl rfl rfl (neq_t hb7) rfl ?_ rfl; clear S; intro a S
        refine l_skip S rfl rfl rfl (neq_t hb7) rfl ?_ rfl; clear S; intro a S
        refine l_skip S rfl rfl rfl (neq_t hb7) rfl ?_ rfl; clear S; intro a S
        refine l_skip S rfl rfl rfl (neq_t hb7) rfl ?_ rfl; clear S; intro a S
        refine l_skip S rfl rfl rfl (neq_t hb7) rfl ?_ rfl; clear S; intro a S
        refine lv S (rn_or_t (decide ((IntKind.wrap .u64 ((IntKind.wrap .u64 (4294967296 * x3)) + (bitAnd .u64 (bitShl .u64 p_lo (IntKind.wrap .u64 r1)) 4294967295))) < (IntKind.wrap .u64 (x4 * (bitAnd .u64 (bitShl .u64 p_y (IntKind.wrap .u64 r1)) 4294967295))))) hb7 (S.tm rfl) rfl) rfl ?_; clear S; intro a S
        refine l_done ?_
        refine then_n ?_
        exact ⟨Keep.refl _ _, S.nf [] rfl ⟨rfl, rfl, rfl, rfl, rfl, rfl, rfl, rfl, rfl, rfl, trivial⟩⟩
       ·refine l_want S rfl rfl rfl hb7 ?_
        refine lv S (rn_move (S.tm rfl)) rfl ?_; clear S; intro a S
        refine l_want S rfl rfl rfl hb7 ?_
        refine lv S (rn_move (S.tm rfl)) rfl ?_; clear S; intro a S
        refine l_want S rfl rfl rfl hb7 ?_
        refine lv S (rn_mulk (S.tm rfl) (S.tm rfl)) rfl ?_; clear S; intro a S
        refine l_want S rfl rfl rfl hb7 ?_
        refine lv S (rn_move (S.tm rfl)) rfl ?_; clear S; intro a S
        refine l_want S rfl rfl rfl hb7 ?_
        refine lv S (rn_mulk rfl (S.tm rfl)) rfl ?_; clear S; intro a S
        refine l_want S rfl rfl rfl hb7 ?_
        refine lv S (rn_move (S.tm rfl)) rfl ?_; clear S; intro a S
        refine l_want S rfl rfl rfl hb7 ?_
        refine lv S (rn_addk (S.tm rfl) (S.tm rfl)) rfl ?_; clear S; intro a S
        refine l_want S rfl rfl rfl hb7 ?_
        refine lv S (rn_gtr (S.tm rfl) (S.tm rfl)) rfl ?_; clear S; intro a S
        refine lv S (rn_or_f hb7 (S.tm rfl) (S.tm rfl)) rfl ?_; clear S; intro a S
        refine l_done ?_
        refine then_n ?_
        exact ⟨Keep.refl _ _, S.nf [] rfl ⟨rfl, rfl, rfl, rfl, rfl, rfl, rfl, rfl, rfl, rfl, trivial⟩⟩
      clear S; rintro a w8 ⟨hk4, S⟩
      refine l_done ?_
      replace S := S.nk [] [(2, .int .u64 (bitShl .u64 p_y (IntKind.wrap .u64 r1))), (8, .int .u64 (IntKind.wrap .u64 r1)), (9, .int .u64 (bitShr .u64 (bitShl .u64 p_y (IntKind.wrap .u64 r1)) 32)), (10, .int .u64 (bitAnd .u64 (bitShl .u64 p_y (IntKind.wrap .u64 r1)) 4294967295)), (14, .int .u64 (bitAnd .u64 (bitShl .u64 p_lo (IntKind.wrap .u64 r1)) 4294967295)), (15, .int .u64 x1), (16, .int .u64 x3), (17, .int .u64 (IntKind.wrap .u64 ((IntKind.wrap .u64 ((IntKind.wrap .u64 ((bitOr .u64 (bitShl .u64 p_hi (IntKind.wrap .u64 r1)) (bitShr .u64 p_lo (IntKind.wrap .u64 (64 - (IntKind.wrap .u64 r1))))) * 4294967296)) + (bitShr .u64 (bitShl .u64 p_lo (IntKind.wrap .u64 r1)) 32))) - (IntKind.wrap .u64 (x1 * (bitShl .u64 p_y (IntKind.wrap .u64 r1))))))), (18, .int .u64 x4), (113, .bool ((decide (4294967296 ≤ x4)) || (decide ((IntKind.wrap .u64 ((IntKind.wrap .u64 (4294967296 * x3)) + (bitAnd .u64 (bitShl .u64 p_lo (IntKind.wrap .u64 r1)) 4294967295))) < (IntKind.wrap .u64 (x4 * (bitAnd .u64 (bitShl .u64 p_y (IntKind.wrap .u64 r1)) 4294967295)))))))] [] rfl ⟨rfl, rfl, rfl, rfl, rfl, rfl, rfl, rfl, rfl, rfl, trivial⟩
      refine then_n ?_
      refine f_cond (S.tm rfl) (fun hb8 => ?_) (fun hb8 => ?_)
      ·replace h := iteT h hb8
       refine wp_skip ?_
       refine then_n ?_
       refine wp_block ?_
       refine f_seq ?_
       refine f_region ?_
       refine lv S (rn_move (S.tm rfl)) rfl ?_; clear S; intro a S
       refine lv S (rn_subk (S.tm rfl) rfl) rfl ?_; clear S; intro a S
       refine lv S (rn_assign (S.tm rfl)) rfl ?_; clear S; intro a S
       refine l_done ?_
       replace S := S.nk [] [(2, .int .u64 (bitShl .u64 p_y (IntKind.wrap .u64 r1))), (8, .int .u64 (IntKind.wrap .u64 r1)), (9, .int .u64 (bitShr .u64 (bitShl .u64 p_y (IntKind.wrap .u64 r1)) 32)), (10, .int .u64 (bitAnd .u64 (bitShl .u64 p_y (IntKind.wrap .u64 r1)) 4294967295)), (14, .int .u64 (bitAnd .u64 (bitShl .u64 p_lo (IntKind.wrap .u64 r1)) 4294967295)), (15, .int .u64 x1), (16, .int .u64 x3), (17, .int .u64 (IntKind.wrap .u64 ((IntKind.wrap .u64 ((IntKind.wrap .u64 ((bitOr .u64 (bitShl .u64 p_hi (IntKind.wrap .u64 r1)) (bitShr .u64 p_lo (IntKind.wrap .u64 (64 - (IntKind.wrap .u64 r1))))) * 4294967296)) + (bitShr .u64 (bitShl .u64 p_lo (IntKind.wrap .u64 r1)) 32))) - (IntKind.wrap .u64 (x1 * (bitShl .u64 p_y (IntKind.wrap .u64 r1))))))), (18, .int .u64 (IntKind.wrap .u64 (x4 - 1)))] [] rfl ⟨rfl, rfl, rfl, rfl, rfl, rfl, rfl, rfl, rfl, trivial⟩
       refine then_n ?_
       refine f_seq ?_
       refine f_region ?_
       refine lv S (rn_move (S.tm rfl)) rfl ?_; clear S; intro a S
       refine lv S (rn_move (S.tm rfl)) rfl ?_; clear S; intro a S
       refine lv S (rn_addk (S.tm rfl) (S.tm rfl)) rfl ?_; clear S; intro a S
       refine lv S (rn_assign (S.tm rfl)) rfl ?_; clear S; intro a S
       refine l_done ?_
       replace S := S.nk [] [(2, .int .u64 (bitShl .u64 p_y (IntKind.wrap .u64 r1))), (8, .int .u64 (IntKind.wrap .u64 r1)), (9, .int .u64 (bitShr .u64 (bitShl .u64 p_y (IntKind.wrap .u64 r1)) 32)), (10, .int .u64 (bitAnd .u64 (bitShl .u64 p_y (IntKind.wrap .u64 r1)) 4294967295)), (14, .int .u64 (bitAnd .u64 (bitShl .u64 p_lo (IntKind.wrap .u64 r1)) 4294967295)), (15, .int .u64 x1), (16, .int .u64 (IntKind.wrap .u64 (x3 + (bitShr .u64 (bitShl .u64 p_y (IntKind.wrap .u64 r1)) 32)))), (17, .int .u64 (IntKind.wrap .u64 ((IntKind.wrap .u64 ((IntKind.wrap .u64 ((bitOr .u64 (bitShl .u64 p_hi (IntKind.wrap .u64 r1)) (bitShr .u64 p_lo (IntKind.wrap .u64 (64 - (IntKind.wrap .u64 r1))))) * 4294967296)) + (bitShr .u64 (bitShl .u64 p_lo (IntKind.wrap .u64 r1)) 32))) - (IntKind.wrap .u64 (x1 * (bitShl .u64 p_y (IntKind.wrap .u64 r1))))))), (18, .int .u64 (IntKind.wrap .u64 (x4 - 1)))] [] rfl ⟨rfl, rfl, rfl, rfl, rfl, rfl, rfl, rfl, rfl, trivial⟩
       refine then_n ?_
       refine f_seq ?_
       refine f_region ?_
       refine lv S (rn_move (S.tm rfl)) rfl ?_; clear S; intro a S
       refine lv S (rn_geq (S.tm rfl) rfl) rfl ?_; clear S; intro a S
       refine l_done ?_
       replace S := S.nk [] [(2, .int .u64 (bitShl .u64 p_y (IntKind.wrap .u64 r1))), (8, .int .u64 (IntKind.wrap .u64 r1)), (9, .int .u64 (bitShr .u64 (bitShl .u64 p_y (IntKind.wrap .u64 r1)) 32)), (10, .int .u64 (bitAnd .u64 (bitShl .u64 p_y (IntKind.wrap .u64 r1)) 4294967295)), (14, .int .u64 (bitAnd .u64 (bitShl .u64 p_lo (IntKind.wrap .u64 r1)) 4294967295)), (15, .int .u64 x1), (16, .int .u64 (IntKind.wrap .u64 (x3 + (bitShr .u64 (bitShl .u64 p_y (IntKind.wrap .u64 r1)) 32)))), (17, .int .u64 (IntKind.wrap .u64 ((IntKind.wrap .u64 ((IntKind.wrap .u64 ((bitOr .u64 (bitShl .u64 p_hi (IntKind.wrap .u64 r1)) (bitShr .u64 p_lo (IntKind.wrap .u64 (64 - (IntKind.wrap .u64 r1))))) * 4294967296)) + (bitShr .u64 (bitShl .u64 p_lo (IntKind.wrap .u64 r1)) 32))) - (IntKind.wrap .u64 (x1 * (bitShl .u64 p_y (IntKind.wrap .u64 r1))))))), (18, .int .u64 (IntKind.wrap .u64 (x4 - 1))), (120, .bool (decide (4294967296 ≤ (IntKind.wrap .u64 (x3 + (bitShr .u64 (bitShl .u64 p_y (IntKind.wrap .u64 r1)) 32))))))] [] rfl ⟨rfl, rfl, rfl, rfl, rfl, rfl, rfl, rfl, rfl, rfl, trivial⟩
       refine then_n ?_
       refine f_cond (S.tm rfl) (fun hb9 => ?_) (fun hb9 => ?_)
       ·replace h := iteT h hb9
        refine wp_exit ?_
        refine x_other rfl ?_
        refine then_x ?_
        refine x_same ?_
        refine then_n ?_
        exact ⟨IntKind.wrap .u64 (x4 - 1), h, S.nf [] rfl ⟨rfl, rfl, rfl, rfl, rfl, rfl, trivial⟩⟩
       ·replace h := iteF h hb9
        refine wp_skip ?_
        refine blk_n ?_
        refine then_n ?_
        exact ⟨m2, ⟨IntKind.wrap .u64 (x3 + (bitShr .u64 (bitShl .u64 p_y (IntKind.wrap .u64 r1)) 32)), IntKind.wrap .u64 (x4 - 1), h, S.nf [] rfl ⟨rfl, rfl, rfl, rfl, rfl, rfl, rfl, rfl, rfl, trivial⟩⟩, Nat.lt_succ_self _⟩
      ·replace h := iteF h hb8
       refine wp_exit ?_
       refine then_x ?_
       refine then_x ?_
       refine x_same ?_
       refine then_n ?_
       exact ⟨x4, h, S.nf [] rfl ⟨rfl, rfl, rfl, rfl, rfl, rfl, trivial⟩⟩
    clear S h; rintro a w7 ⟨x4, h, S⟩; rw [hj2] at h; clear hj2 j2
    refine then_n ?_
    refine f_seq ?_
    refine f_region ?_
    refine lv S (rn_move (S.tm rfl)) rfl ?_; clear S; intro a S
    refine lv S (rn_mulk (S.tm rfl) rfl) rfl ?_; clear S; intro a S
    refine lv S (rn_move (S.tm rfl)) rfl ?_; clear S; intro a S
    refine lv S (rn_addk (S.tm rfl) (S.tm rfl)) rfl ?_; clear S; intro a S
    refine lv S (rn_move (S.tm rfl)) rfl ?_; clear S; intro a S
    refine lv S (rn_mulk (S.tm rfl) rfl) rfl ?_; clear S; intro a S
    refine lv S (rn_move (S.tm rfl)) rfl ?_; clear S; intro a S
    refine lv S (rn_addk (S.tm rfl) (S.tm rfl)) rfl ?_; clear S; intro a S
    refine lv S (rn_move (S.tm rfl)) rfl ?_; clear S; intro a S
    refine lv S (rn_move (S.tm rfl)) rfl ?_; clear S; intro a S
    refine lv S (rn_mulk (S.tm rfl) (S.tm rfl)) rfl ?_; clear S; intro a S
    refine lv S (rn_subk (S.tm rfl) (S.tm rfl)) rfl ?_; clear S; intro a S
    refine lv S (rn_move (S.tm rfl)) rfl ?_; clear S; intro a S
    obtain ⟨hc9, h⟩ := chkE h
    refine lv S (rn_shr (S.tm rfl) (S.tm rfl) (of_decide_eq_true hc9)) rfl ?_; clear S; intro a S
    refine lv S (rn_assign (S.tm rfl)) rfl ?_; clear S; intro a S
    refine lv S (rn_assign (S.tm rfl)) rfl ?_; clear S; intro a S
    refine l_done ?_
    replace S := S.nk [] [(6, .int .u64 (IntKind.wrap .u64 ((IntKind.wrap .u64 (x1 * 4294967296)) + x4))), (7, .int .u64 (bitShr .u64 (IntKind.wrap .u64 ((IntKind.wrap .u64 ((IntKind.wrap .u64 ((IntKind.wrap .u64 ((IntKind.wrap .u64 ((IntKind.wrap .u64 ((bitOr .u64 (bitShl .u64 p_hi (IntKind.wrap .u64 r1)) (bitShr .u64 p_lo (IntKind.wrap .u64 (64 - (IntKind.wrap .u64 r1))))) * 4294967296)) + (bitShr .u64 (bitShl .u64 p_lo (IntKind.wrap .u64 r1)) 32))) - (IntKind.wrap .u64 (x1 * (bitShl .u64 p_y (IntKind.wrap .u64 r1)))))) * 4294967296)) + (bitAnd .u64 (bitShl .u64 p_lo (IntKind.wrap .u64 r1)) 4294967295))) - (IntKind.wrap .u64 (x4 * (bitShl .u64 p_y (IntKind.wrap .u64 r1)))))) (IntKind.wrap .u64 r1)))] [] rfl ⟨rfl, rfl, trivial⟩
    refine then_n ?_
    refine wp_ret ?_
    obtain rfl := Option.some.inj h
    exact f_ret2 S Tryd.results50 rfl rfl rfl
theorem points_byTime_ok (w : World) (p_base : Int) (p_time : Int) (r : Int) (h : points_byTime p_base p_time = some r) :
    Calls Tryd.prog 37 [.int .i64 p_base, .int .i64 p_time].toArray w (Ret w [] fun _ v _ => v = .int .i64 r) := by
 refine f_enter [] [] Tryd.func37 rfl Tryd.ntmps37 rfl (by simp) (by simp [fps]) (by simp [fps]) fun a S => ?_
 unfold points_byTime at h
 replace S := S.nk [] [(0, .int .i64 p_base), (1, .int .i64 p_time)] [] rfl ⟨rfl, rfl, trivial⟩
 refine f_seq ?_
 refine f_region ?_
 refine lv S (rn_assign rfl) rfl ?_; clear S; intro a S
 refine l_done ?_
 replace S := S.nk [] [(0, .int .i64 p_base), (1, .int .i64 p_time)] [] rfl ⟨rfl, rfl, trivial⟩
 refine then_n ?_
 refine f_seq ?_
 refine f_region ?_
 refine lv S (rn_move (S.tm rfl)) rfl ?_; clear S; intro a S
 refine lv S (rn_conv Tryd.underlying3 Tryd.underlying86 (S.tm rfl)) rfl ?_; clear S; intro a S
 refine lv S (rn_move (S.tm rfl)) rfl ?_; clear S; intro a S
 refine lv S (rn_conv Tryd.underlying3 Tryd.underlying86 (S.tm rfl)) rfl ?_; clear S; intro a S
 refine lv S (rn_assign (S.tm rfl)) rfl ?_; clear S; intro a S
 refine lv S (rn_assign (S.tm rfl)) rfl ?_; clear S; intro a S
 refine l_done ?_
 replace S := S.nk [] [(5, .int .u64 (IntKind.wrap .u64 p_base)), (6, .int .u64 (IntKind.wrap .u64 p_time))] [] rfl ⟨rfl, rfl, trivial⟩
 refine then_n ?_
 refine f_seq ?_
 refine f_region ?_
 refine lv S (rn_move (S.tm rfl)) rfl ?_; clear S; intro a S
 refine lv S (rn_move (S.tm rfl)) rfl ?_; clear S; intro a S
 refine lv S (rn_mulk (S.tm rfl) (S.tm rfl)) rfl ?_; clear S; intro a S
 refine lv S (rn_move (S.tm rfl)) rfl ?_; clear S; intro a S
 refine lv S (rn_mulk (S.tm rfl) (S.tm rfl)) rfl ?_; clear S; intro a S
 refine l_enter S (fun _ => run_call (vs := [.int .u64 (IntKind.wrap .u64 ((IntKind.wrap .u64 ((IntKind.wrap .u64 p_base) * (IntKind.wrap .u64 p_base))) * (IntKind.wrap .u64 p_base))), .int .u64 1000]) ⟨(S.tm rfl), rfl, trivial⟩ Tryd.call49) (bits_Mul64_ok _ (IntKind.wrap .u64 ((IntKind.wrap .u64 ((IntKind.wrap .u64 p_base) * (IntKind.wrap .u64 p_base))) * (IntKind.wrap .u64 p_base))) 1000 _ rfl) rfl ?_; clear S; intro v1 a w1 hv1 hk1 hn1 S
 subst hv1
 refine lv S (rn_move (S.tm rfl)) rfl ?_; clear S; intro a S
 refine lv S (rn_extract (S.tm rfl) rfl) rfl ?_; clear S; intro a S
 refine lv S (rn_extract (S.tm rfl) rfl) rfl ?_; clear S; intro a S
 refine lv S (rn_assign (S.tm rfl)) rfl ?_; clear S; intro a S
 refine lv S (rn_assign (S.tm rfl)) rfl ?_; clear S; intro a S
 refine l_done ?_
 replace S := S.nk [] [(6, .int .u64 (IntKind.wrap .u64 p_time)), (7, .int .u64 ((bits_Mul64 (IntKind.wrap .u64 ((IntKind.wrap .u64 ((IntKind.wrap .u64 p_base) * (IntKind.wrap .u64 p_base))) * (IntKind.wrap .u64 p_base))) 1000).1)), (8, .int .u64 ((bits_Mul64 (IntKind.wrap .u64 ((IntKind.wrap .u64 ((IntKind.wrap .u64 p_base) * (IntKind.wrap .u64 p_base))) * (IntKind.wrap .u64 p_base))) 1000).2))] [] rfl ⟨rfl, rfl, rfl, trivial⟩
 refine then_n ?_
 refine f_seq ?_
 refine f_region ?_
 refine lv S (rn_move (S.tm rfl)) rfl ?_; clear S; intro a S
 refine lv S (rn_move (S.tm rfl)) rfl ?_; clear S; intro a S
 refine lv S (rn_mulk (S.tm rfl) (S.tm rfl)) rfl ?_; clear S; intro a S
 refine lv S (rn_move (S.tm rfl)) rfl ?_; clear S; intro a S
 refine lv S (rn_mulk (S.tm rfl) (S.tm rfl)) rfl ?_; clear S; intro a S
 refine lv S (rn_assign (S.tm rfl)) rfl ?_; clear S; intro a S
 refine l_done ?_
 replace S := S.nk [] [(6, .int .u64 (IntKind.wrap .u64 ((IntKind.wrap .u64 ((IntKind.wrap .u64 p_time) * (IntKind.wrap .u64 p_time))) * (IntKind.wrap .u64 p_time)))), (7, .int .u64 ((bits_Mul64 (IntKind.wrap .u64 ((IntKind.wrap .u64 ((IntKind.wrap .u64 p_base) * (IntKind.wrap .u64 p_base))) * (IntKind.wrap .u64 p_base))) 1000).1)), (8, .int .u64 ((bits_Mul64 (IntKind.wrap .u64 ((IntKind.wrap .u64 ((IntKind.wrap .u64 p_base) * (IntKind.wrap .u64 p_base))) * (IntKind.wrap .u64 p_base))) 1000).2))] [] rfl ⟨rfl, rfl, rfl, trivial⟩
 refine then_n ?_
 refine f_seq ?_
 refine f_seq ?_
 refine f_region ?_
 refine lv S (rn_move (S.tm rfl)) rfl ?_; clear S; intro a S
 refine lv S (rn_move (S.tm rfl)) rfl ?_; clear S; intro a S
 refine lv S (rn_geq (S.tm rfl) (S.tm rfl)) rfl ?_; clear S; intro a S
 refine l_done ?_
 replace S := S.nk [] [(6, .int .u64 (IntKind.wrap .u64 ((IntKind.wrap .u64 ((IntKind.wrap .u64 p_time) * (IntKind.wrap .u64 p_time))) * (IntKind.wrap .u64 p_time)))), (7, .int .u64 ((bits_Mul64 (IntKind.wrap .u64 ((IntKind.wrap .u64 ((IntKind.wrap .u64 p_base) * (IntKind.wrap .u64 p_base))) * (IntKind.wrap .u64 p_base))) 1000).1)), (8, .int .u64 ((bits_Mul64 (IntKind.wrap .u64 ((IntKind.wrap .u64 ((IntKind.wrap .u64 p_base) * (IntKind.wrap .u64 p_base))) * (IntKind.wrap .u64 p_base))) 1000).2)), (31, .bool (decide ((IntKind.wrap .u64 ((IntKind.wrap .u64 ((IntKind.wrap .u64 p_time) * (IntKind.wrap .u64 p_time))) * (IntKind.wrap .u64 p_time))) ≤ ((bits_Mul64 (IntKind.wrap .u64 ((IntKind.wrap .u64 ((IntKind.wrap .u64 p_base) * (IntKind.wrap .u64 p_base))) * (IntKind.wrap .u64 p_base))) 1000).1))))] [] rfl ⟨rfl, rfl, rfl, rfl, trivial⟩
 refine then_n ?_
 refine f_cond (S.tm rfl) (fun hb1 => ?_) (fun hb1 => ?_)
 ·replace h := iteT h hb1
  refine f_seq ?_
  refine f_region ?_
  refine lv S (rn_assign rfl) rfl ?_; clear S; intro a S
  refine l_done ?_
  replace S := S.nk [] [(4, .int .i64 1000000000)] [] rfl ⟨rfl, trivial⟩
  refine then_n ?_
  refine wp_ret ?_
  refine then_r ?_
  obtain rfl := Option.some.inj h
  exact f_ret S Tryd.results37 rfl rfl
 ·replace h := iteF h hb1
  refine wp_skip ?_
  refine then_n ?_
  refine f_seq ?_
  refine f_region ?_
  refine lv S (rn_move (S.tm rfl)) rfl ?_; clear S; intro a S
  refine lv S (rn_move (S.tm rfl)) rfl ?_; clear S; intro a S
  refine lv S (rn_move (S.tm rfl)) rfl ?_; clear S; intro a S
  obtain ⟨r1, hr1, h⟩ := bindE h
  refine l_enter S (fun _ => run_call (vs := [.int .u64 ((bits_Mul64 (IntKind.wrap .u64 ((IntKind.wrap .u64 ((IntKind.wrap .u64 p_base) * (IntKind.wrap .u64 p_base))) * (IntKind.wrap .u64 p_base))) 1000).1), .int .u64 ((bits_Mul64 (IntKind.wrap .u64 ((IntKind.wrap .u64 ((IntKind.wrap .u64 p_base) * (IntKind.wrap .u64 p_base))) * (IntKind.wrap .u64 p_base))) 1000).2), .int .u64 (IntKind.wrap .u64 ((IntKind.wrap .u64 ((IntKind.wrap .u64 p_time) * (IntKind.wrap .u64 p_time))) * (IntKind.wrap .u64 p_time)))]) ⟨(S.tm rfl), (S.tm rfl), (S.tm rfl), trivial⟩ Tryd.call50) (bits_Div64_ok _ ((bits_Mul64 (IntKind.wrap .u64 ((IntKind.wrap .u64 ((IntKind.wrap .u64 p_base) * (IntKind.wrap .u64 p_base))) * (IntKind.wrap .u64 p_base))) 1000).1) ((bits_Mul64 (IntKind.wrap .u64 ((IntKind.wrap .u64 ((IntKind.wrap .u64 p_base) * (IntKind.wrap .u64 p_base))) * (IntKind.wrap .u64 p_base))) 1000).2) (IntKind.wrap .u64 ((IntKind.wrap .u64 ((IntKind.wrap .u64 p_time) * (IntKind.wrap .u64 p_time))) * (IntKind.wrap .u64 p_time))) _ hr1) rfl ?_; clear S; intro v2 a w2 hv2 hk2 hn2 S
  subst hv2
  refine lv S (rn_move (S.tm rfl)) rfl ?_; clear S; intro a S
  refine lv S (rn_extract (S.tm rfl) rfl) rfl ?_; clear S; intro a S
  refine lv S (rn_extract (S.tm rfl) rfl) rfl ?_; clear S; intro a S
  refine lv S (rn_assign (S.tm rfl)) rfl ?_; clear S; intro a S
  refine lv S (rn_assign (S.tm rfl)) rfl ?_; clear S; intro a S
  refine l_done ?_
  replace S := S.nk [] [(9, .int .u64 r1.1)] [] rfl ⟨rfl, trivial⟩
  refine then_n ?_
  refine f_seq ?_
  refine f_region ?_
  refine lv S (rn_move (S.tm rfl)) rfl ?_; clear S; intro a S
  refine lv S (rn_min2 (S.tm rfl) rfl) rfl ?_; clear S; intro a S
  refine lv S (rn_conv Tryd.underlying86 Tryd.underlying3 (S.tm rfl)) rfl ?_; clear S; intro a S
  refine lv S (rn_assign (S.tm rfl)) rfl ?_; clear S; intro a S
  refine l_done ?_
  replace S := S.nk [] [(4, .int .i64 (W (imin r1.1 1000000000)))] [] rfl ⟨rfl, trivial⟩
  refine then_n ?_
  refine wp_ret ?_
  obtain rfl := Option.some.inj h
  exact f_ret S Tryd.results37 rfl rfl
theorem points_ByTime_ok (w : World) (v_p_l : Value) (p_l : List GBase) (hs_p_l : Slc (view w []) 2 v_p_l (p_l.map GBase.enc)) (p_race : ByteArray) (p_time : Int) (r : Int × Int) (h : points_ByTime p_l p_race p_time = some r) :
    Calls Tryd.prog 23 [v_p_l, .string p_race, .int .i64 p_time].toArray w (Ret w [] fun _ v _ => v = .tuple #[.int .i64 r.1, .int .i64 r.2]) := by
 refine f_enter [] [] Tryd.func23 rfl Tryd.ntmps23 rfl (by simp) (by simp [fps]) (by simp [fps]) fun a S => ?_
 unfold points_ByTime at h
 replace S := S.nk [] [(0, v_p_l), (1, .string p_race), (2, .int .i64 p_time)] [] rfl ⟨rfl, rfl, rfl, trivial⟩
 refine f_seq ?_
 refine f_region ?_
 refine lv S (rn_assign rfl) rfl ?_; clear S; intro a S
 refine lv S (rn_assign rfl) rfl ?_; clear S; intro a S
 refine l_done ?_
 replace S := S.nk [] [(0, v_p_l), (1, .string p_race), (2, .int .i64 p_time)] [] rfl ⟨rfl, rfl, rfl, trivial⟩
 refine then_n ?_
 refine f_seq ?_
 refine f_seq ?_
 refine f_region ?_
 refine lv S (rn_move (S.tm rfl)) rfl ?_; clear S; intro a S
 obtain ⟨r1, hr1, h⟩ := bindE h
 refine l_enter S (fun _ => run_call (vs := [v_p_l]) ⟨(S.tm rfl), trivial⟩ Tryd.call35) (points_CheckBase_ok _ v_p_l p_l (hs_p_l.mono (S.le_arg nil_sub)) _ hr1) rfl ?_; clear S; intro v1 a w1 hv1 hk1 hn1 S
 subst hv1
 refine lv S (rn_assign (S.tm rfl)) rfl ?_; clear S; intro a S
 refine l_done ?_
 replace S := S.nk [] [(0, v_p_l), (1, .string p_race), (2, .int .i64 p_time), (8, .int .i64 r1)] [] rfl ⟨rfl, rfl, rfl, rfl, trivial⟩
 refine then_n ?_
 refine f_seq ?_
 refine f_region ?_
 refine lv S (rn_move (S.tm rfl)) rfl ?_; clear S; intro a S
 refine lv S (rn_neq (S.tm rfl) rfl) rfl ?_; clear S; intro a S
 refine l_done ?_
 replace S := S.nk [] [(0, v_p_l), (1, .string p_race), (2, .int .i64 p_time), (8, .int .i64 r1), (13, .bool (!decide (r1 = 0)))] [] rfl ⟨rfl, rfl, rfl, rfl, rfl, trivial⟩
 refine then_n ?_
 refine f_cond (S.tm rfl) (fun hb1 => ?_) (fun hb1 => ?_)
 ·replace h := iteT h hb1
  refine f_seq ?_
  refine f_region ?_
  refine lv S (rn_move (S.tm rfl)) rfl ?_; clear S; intro a S
  refine lv S (rn_assign rfl) rfl ?_; clear S; intro a S
  refine lv S (rn_assign (S.tm rfl)) rfl ?_; clear S; intro a S
  refine l_done ?_
  replace S := S.nk [] [(6, .int .i64 0), (7, .int .i64 r1)] [] rfl ⟨rfl, rfl, trivial⟩
  refine then_n ?_
  refine wp_ret ?_
  refine then_r ?_
  obtain rfl := Option.some.inj h
  exact f_ret2 S Tryd.results23 rfl rfl rfl
 ·replace h := iteF h hb1
  refine wp_skip ?_
  refine then_n ?_
  refine f_seq ?_
  refine f_region ?_
  refine lv S (rn_move (S.tm rfl)) rfl ?_; clear S; intro a S
  refine lv S (rn_move (S.tm rfl)) rfl ?_; clear S; intro a S
  refine l_enter S (fun _ => run_call (vs := [v_p_l, .string p_race]) ⟨(S.tm rfl), (S.tm rfl), trivial⟩ Tryd.call36) (points_baseOf_ok _ v_p_l p_l (hs_p_l.mono (S.le_arg nil_sub)) p_race _ rfl) rfl ?_; clear S; intro v2 a w2 hv2 hk2 hn2 S
  subst hv2
  refine lv S (rn_assign (S.tm rfl)) rfl ?_; clear S; intro a S
  refine l_done ?_
  replace S := S.nk [] [(2, .int .i64 p_time), (9, .int .i64 (points_baseOf p_l p_race))] [] rfl ⟨rfl, rfl, trivial⟩
  refine then_n ?_
  refine f_seq ?_
  refine f_seq ?_
  refine f_region ?_
  refine lv S (rn_move (S.tm rfl)) rfl ?_; clear S; intro a S
  refine lv S (rn_eql (S.tm rfl) rfl) rfl ?_; clear S; intro a S
  refine l_done ?_
  replace S := S.nk [] [(2, .int .i64 p_time), (9, .int .i64 (points_baseOf p_l p_race)), (19, .bool (decide ((points_baseOf p_l p_race) = 0)))] [] rfl ⟨rfl, rfl, rfl, trivial⟩
  refine then_n ?_
  refine f_cond (S.tm rfl) (fun hb2 => ?_) (fun hb2 => ?_)
  ·replace h := iteT h hb2
   refine f_seq ?_
   refine f_region ?_
   refine lv S (rn_assign rfl) rfl ?_; clear S; intro a S
   refine lv S (rn_assign rfl) rfl ?_; clear S; intro a S
   refine l_done ?_
   replace S := S.nk [] [(6, .int .i64 0), (7, .int .i64 8)] [] rfl ⟨rfl, rfl, trivial⟩
   refine then_n ?_
   refine wp_ret ?_
   refine then_r ?_
   obtain rfl := Option.some.inj h
   exact f_ret2 S Tryd.results23 rfl rfl rfl
  ·replace h := iteF h hb2
   refine wp_skip ?_
   refine then_n ?_
   refine f_seq ?_
   refine f_seq ?_
   refine f_region ?_
   refine lv S (rn_move (S.tm rfl)) rfl ?_; clear S; intro a S
   refine l_enter S (fun _ => run_call (vs := [.int .i64 p_time]) ⟨(S.tm rfl), trivial⟩ Tryd.call27) (timing_IsTime_ok _ p_time _ rfl) rfl ?_; clear S; intro v3 a w3 hv3 hk3 hn3 S
   subst hv3
   refine lv S (rn_not (S.tm rfl)) rfl ?_; clear S; intro a S
   refine l_done ?_
   replace S := S.nk [] [(2, .int .i64 p_time), (9, .int .i64 (points_baseOf p_l p_race)), (22, .bool (!(timing_IsTime p_time)))] [] rfl ⟨rfl, rfl, rfl, trivial⟩
   refine then_n ?_
   refine f_cond (S.tm rfl) (fun hb3 => ?_) (fun hb3 => ?_)
   ·replace h := iteT h hb3
    refine f_seq ?_
    refine f_region ?_
    refine lv S (rn_assign rfl) rfl ?_; clear S; intro a S
    refine lv S (rn_assign rfl) rfl ?_; clear S; intro a S
    refine l_done ?_
    replace S := S.nk [] [(6, .int .i64 0), (7, .int .i64 1)] [] rfl ⟨rfl, rfl, trivial⟩
    refine then_n ?_
    refine wp_ret ?_
    refine then_r ?_
    obtain rfl := Option.some.inj h
    exact f_ret2 S Tryd.results23 rfl rfl rfl
   ·replace h := iteF h hb3
    refine wp_skip ?_
    refine then_n ?_
    refine f_seq ?_
    refine f_region ?_
    refine lv S (rn_move (S.tm rfl)) rfl ?_; clear S; intro a S
    refine lv S (rn_move (S.tm rfl)) rfl ?_; clear S; intro a S
    obtain ⟨r2, hr2, h⟩ := bindE h
    refine l_enter S (fun _ => run_call (vs := [.int .i64 (points_baseOf p_l p_race), .int .i64 p_time]) ⟨(S.tm rfl), (S.tm rfl), trivial⟩ Tryd.call37) (points_byTime_ok _ (points_baseOf p_l p_race) p_time _ hr2) rfl ?_; clear S; intro v4 a w4 hv4 hk4 hn4 S
    subst hv4
    refine lv S (rn_assign (S.tm rfl)) rfl ?_; clear S; intro a S
    refine lv S (rn_assign rfl) rfl ?_; clear S; intro a S
    refine l_done ?_
    replace S := S.nk [] [(6, .int .i64 r2), (7, .int .i64 0)] [] rfl ⟨rfl, rfl, trivial⟩
    refine then_n ?_
    refine wp_ret ?_
    obtain rfl := Option.some.inj h
    exact f_ret2 S Tryd.results23 rfl rfl rfl
theorem tumbtop_h10facts_ok (w : World) (r : Bool) (h : tumbtop_h10facts = some r) :
    Calls Tryd.prog 9 [].toArray w (Ret w [] fun _ v _ => v = .bool r) := by
 refine f_enter [] [] Tryd.func9 rfl Tryd.ntmps9 rfl (by simp) (by simp [fps]) (by simp [fps]) fun a S => ?_
 unfold tumbtop_h10facts at h
 replace S := S.nk [] [] [] rfl trivial
 refine f_seq ?_
 refine f_region ?_
 refine lv S (rn_assign rfl) rfl ?_; clear S; intro a S
 refine l_done ?_
 replace S := S.nk [] [] [] rfl trivial
 refine then_n ?_
 refine f_seq ?_
 refine f_region ?_
 refine lv S (rn_bld bt_56 (pv := [(0, .int .i64 2024), (1, .int .i64 3), (2, .int .i64 1)]) ⟨rfl, rfl, rfl, rfl, rfl, rfl, trivial⟩ (cs := [.int .i64 2024, .int .i64 3, .int .i64 1]) (by kernel_rfl)) rfl ?_; clear S; intro a S
 obtain ⟨r1, hr1, h⟩ := bindE h
 refine l_enter S (fun _ => run_call (vs := [.agg (GDate.enc (GDate.mk 2024 3 1)).toArray]) ⟨(S.tm rfl), trivial⟩ Tryd.call21) (swimmer_DayOf_ok _ (GDate.mk 2024 3 1) _ hr1) rfl ?_; clear S; intro v1 a w1 hv1 hk1 hn1 S
 subst hv1
 refine lv S (rn_move (S.tm rfl)) rfl ?_; clear S; intro a S
 refine lv S (rn_extract (S.tm rfl) rfl) rfl ?_; clear S; intro a S
 refine lv S (rn_extract (S.tm rfl) rfl) rfl ?_; clear S; intro a S
 refine lv S (rn_assign (S.tm rfl)) rfl ?_; clear S; intro a S
 refine lv S (rn_assign (S.tm rfl)) rfl ?_; clear S; intro a S
 refine l_done ?_
 replace S := S.nk [] [(1, .int .i64 r1.1), (2, .int .i64 r1.2)] [] rfl ⟨rfl, rfl, trivial⟩
 refine then_n ?_
 refine f_seq ?_
 refine f_region ?_
 refine lv S (rn_bld bt_59 (pv := [(0, .string k_a), (1, .int .i64 2), (2, .int .i64 10), (3, .int .i64 5)]) ⟨rfl, rfl, rfl, rfl, rfl, rfl, rfl, rfl, trivial⟩ (cs := [.string k_a, .int .i64 2, .int .i64 10, .int .i64 5, .int .i64 0]) (by kernel_rfl)) rfl ?_; clear S; intro a S
 refine l_buildSlice S Tryd.underlying60 Tryd.sizeOf59 Tryd.zeroValue59 rfl rfl (pv := [(0, .agg #[.string k_a, .int .i64 2, .int .i64 10, .int .i64 5, .int .i64 0])]) ⟨rfl, (S.tm rfl), trivial⟩ (cs := [.string k_a, .int .i64 2, .int .i64 10, .int .i64 5, .int .i64 0]) (by kernel_rfl) rfl ?_; clear S; intro a w2 b1 hz1 hk2 S
 obtain ⟨r2, hr2, h⟩ := bindE h
 refine l_enter S (fun _ => run_call (vs := [.slice (some ⟨b1, 0, none⟩) 1 1, .int .i64 0]) ⟨(S.tm rfl), rfl, trivial⟩ Tryd.call22) (session_Ends_ok _ (.slice (some ⟨b1, 0, none⟩) 1 1) [(GItem.mk k_a 2 10 5 0)] (lit_slcT GItem.enc_ok S (i := 0) rfl rfl rfl rfl ((ne_nil (e' := .blk b1 [.string k_a, .int .i64 2, .int .i64 10, .int .i64 5, .int .i64 0] 59)) _ rfl)) 0 _ hr2) rfl ?_; clear S; intro v2 a w3 hv2 hk3 hn2 S
 subst hv2
 refine lv S (rn_move (S.tm rfl)) rfl ?_; clear S; intro a S
 refine lv S (rn_extract (S.tm rfl) rfl) rfl ?_; clear S; intro a S
 refine lv S (rn_extract (S.tm rfl) rfl) rfl ?_; clear S; intro a S
 refine lv S (rn_assign (S.tm rfl)) rfl ?_; clear S; intro a S
 refine lv S (rn_assign (S.tm rfl)) rfl ?_; clear S; intro a S
 refine l_done ?_
 replace S := S.nk [] [(1, .int .i64 r1.1), (2, .int .i64 r1.2), (3, .int .i64 r2.1), (4, .int .i64 r2.2)] [false] rfl ⟨rfl, rfl, rfl, rfl, trivial⟩
 refine then_n ?_
 refine f_seq ?_
 refine f_region ?_
 refine lv S (rn_bld bt_63 (pv := [(0, .string k_r), (1, .int .i64 3000)]) ⟨rfl, rfl, rfl, rfl, trivial⟩ (cs := [.string k_r, .int .i64 3000]) (by kernel_rfl)) rfl ?_; clear S; intro a S
 refine l_buildSlice S Tryd.underlying64 Tryd.sizeOf63 Tryd.zeroValue63 rfl rfl (pv := [(0, .agg #[.string k_r, .int .i64 3000])]) ⟨rfl, (S.tm rfl), trivial⟩ (cs := [.string k_r, .int .i64 3000]) (by kernel_rfl) rfl ?_; clear S; intro a w4 b2 hz2 hk4 S
 obtain ⟨r3, hr3, h⟩ := bindE h
 refine l_enter S (fun _ => run_call (vs := [.slice (some ⟨b2, 0, none⟩) 1 1, .string k_r, .int .i64 6000]) ⟨(S.tm rfl), rfl, rfl, trivial⟩ Tryd.call23) (points_ByTime_ok _ (.slice (some ⟨b2, 0, none⟩) 1 1) [(GBase.mk k_r 3000)] (lit_slcT GBase.enc_ok S (i := 0) rfl rfl rfl rfl ((ne_nil (e' := .blk b2 [.string k_r, .int .i64 3000] 63)) _ rfl)) k_r 6000 _ hr3) rfl ?_; clear S; intro v3 a w5 hv3 hk5 hn3 S
 subst hv3
 refine lv S (rn_move (S.tm rfl)) rfl ?_; clear S; intro a S
 refine lv S (rn_extract (S.tm rfl) rfl) rfl ?_; clear S; intro a S
 refine lv S (rn_extract (S.tm rfl) rfl) rfl ?_; clear S; intro a S
 refine lv S (rn_assign (S.tm rfl)) rfl ?_; clear S; intro a S
 refine lv S (rn_assign (S.tm rfl)) rfl ?_; clear S; intro a S
 refine l_done ?_
 replace S := S.nk [] [(1, .int .i64 r1.1), (2, .int .i64 r1.2), (3, .int .i64 r2.1), (4, .int .i64 r2.2), (5, .int .i64 r3.1), (6, .int .i64 r3.2)] [false] rfl ⟨rfl, rfl, rfl, rfl, rfl, rfl, trivial⟩
 refine then_n ?_
 refine f_seq ?_
 refine f_region ?_
 refine lv S (rn_move (S.tm rfl)) rfl ?_; clear S; intro a S
 refine lv S (rn_eql (S.tm rfl) rfl) rfl ?_; clear S; intro a S
 refine lv S (rn_move (S.tm rfl)) rfl ?_; clear S; intro a S
 refine f_cutm 3 (fun a w' => Keep [] w5 w' ∧ Sx w [] nov [] [(1, .int .i64 r1.1), (3, .int .i64 r2.1), (5, .int .i64 r3.1), (6, .int .i64 r3.2), (29, .bool ((decide (r1.2 = 0)) && (decide (r2.2 = 0))))] 46 a w') ?_ ?_
 ·rcases Bool.eq_false_or_eq_true (decide (r1.2 = 0)) with hb1 | hb1
  ·refine l_want S rfl rfl rfl hb1 ?_
   refine lv S (rn_move (S.tm rfl)) rfl ?_; clear S; intro a S
   refine l_want S rfl rfl rfl hb1 ?_
   refine lv S (rn_eql (S.tm rfl) rfl) rfl ?_; clear S; intro a S
   refine lv S (rn_and_t hb1 (S.tm rfl) (S.tm rfl)) rfl ?_; clear S; intro a S
   refine l_done ?_
   refine then_n ?_
   exact ⟨Keep.refl _ _, S.nf [] rfl ⟨rfl, rfl, rfl, rfl, rfl, trivial⟩⟩
  ·refine l_skip S rfl rfl rfl (neq_f hb1) rfl ?_ rfl; clear S; intro a S
   refine l_skip S rfl rfl rfl (neq_f hb1) rfl ?_ rfl; clear S; intro a S
   refine lv S (rn_and_f (decide (r2.2 = 0)) hb1 (S.tm rfl) rfl) rfl ?_; clear S; intro a S
   refine l_done ?_
   refine then_n ?_
   exact ⟨Keep.refl _ _, S.nf [] rfl ⟨rfl, rfl, rfl, rfl, rfl, trivial⟩⟩
 clear S; rintro a w6 ⟨hk6, S⟩
 refine lv S (rn_move (S.tm rfl)) rfl ?_; clear S; intro a S
 refine f_cutm 3 (fun a w' => Keep [] w6 w' ∧ Sx w [] nov [] [(1, .int .i64 r1.1), (3, .int .i64 r2.1), (5, .int .i64 r3.1), (33, .bool (((decide (r1.2 = 0)) && (decide (r2.2 = 0))) && (decide (r3.2 = 0))))] 46 a w') ?_ ?_
 ·rcases Bool.eq_false_or_eq_true ((decide (r1.2 = 0)) && (decide (r2.2 = 0))) with hb2 | hb2
  ·refine l_want S rfl rfl rfl hb2 ?_
   refine lv S (rn_move (S.tm rfl)) rfl ?_; clear S; intro a S
   refine l_want S rfl rfl rfl hb2 ?_
   refine lv S (rn_eql (S.tm rfl) rfl) rfl ?_; clear S; intro a S
   refine lv S (rn_and_t hb2 (S.tm rfl) (S.tm rfl)) rfl ?_; clear S; intro a S
   refine l_done ?_
   refine then_n ?_
   exact ⟨Keep.refl _ _, S.nf [] rfl ⟨rfl, rfl, rfl, rfl, trivial⟩⟩
  ·refine l_skip S rfl rfl rfl (neq_f hb2) rfl ?_ rfl; clear S; intro a S
   refine l_skip S rfl rfl rfl (neq_f hb2) rfl ?_ rfl; clear S; intro a S
   refine lv S (rn_and_f (decide (r3.2 = 0)) hb2 (S.tm rfl) rfl) rfl ?_; clear S; intro a S
   refine l_done ?_
   refine then_n ?_
   exact ⟨Keep.refl _ _, S.nf [] rfl ⟨rfl, rfl, rfl, rfl, trivial⟩⟩
 clear S; rintro a w7 ⟨hk7, S⟩
 refine lv S (rn_move (S.tm rfl)) rfl ?_; clear S; intro a S
 refine f_cutm 3 (fun a w' => Keep [] w7 w' ∧ Sx w [] nov [] [(3, .int .i64 r2.1), (5, .int .i64 r3.1), (37, .bool ((((decide (r1.2 = 0)) && (decide (r2.2 = 0))) && (decide (r3.2 = 0))) && (decide (r1.1 = 60))))] 46 a w') ?_ ?_
 ·rcases Bool.eq_false_or_eq_true (((decide (r1.2 = 0)) && (decide (r2.2 = 0))) && (decide (r3.2 = 0))) with hb3 | hb3
  ·refine l_want S rfl rfl rfl hb3 ?_
   refine lv S (rn_move (S.tm rfl)) rfl ?_; clear S; intro a S
   refine l_want S rfl rfl rfl hb3 ?_
   refine lv S (rn_eql (S.tm rfl) rfl) rfl ?_; clear S; intro a S
   refine lv S (rn_and_t hb3 (S.tm rfl) (S.tm rfl)) rfl ?_; clear S; intro a S
   refine l_done ?_
   refine then_n ?_
   exact ⟨Keep.refl _ _, S.nf [] rfl ⟨rfl, rfl, rfl, trivial⟩⟩
  ·refine l_skip S rfl rfl rfl (neq_f hb3) rfl ?_ rfl; clear S; intro a S
   refine l_skip S rfl rfl rfl (neq_f hb3) rfl ?_ rfl; clear S; intro a S
   refine lv S (rn_and_f (decide (r1.1 = 60)) hb3 (S.tm rfl) rfl) rfl ?_; clear S; intro a S
   refine l_done ?_
   refine then_n ?_
   exact ⟨Keep.refl _ _, S.nf [] rfl ⟨rfl, rfl, rfl, trivial⟩⟩
 clear S; rintro a w8 ⟨hk8, S⟩
 refine lv S (rn_move (S.tm rfl)) rfl ?_; clear S; intro a S
 refine f_cutm 3 (fun a w' => Keep [] w8 w' ∧ Sx w [] nov [] [(5, .int .i64 r3.1), (41, .bool (((((decide (r1.2 = 0)) && (decide (r2.2 = 0))) && (decide (r3.2 = 0))) && (decide (r1.1 = 60))) && (decide (r2.1 = 25))))] 46 a w') ?_ ?_
 ·rcases Bool.eq_false_or_eq_true ((((decide (r1.2 = 0)) && (decide (r2.2 = 0))) && (decide (r3.2 = 0))) && (decide (r1.1 = 60))) with hb4 | hb4
  ·refine l_want S rfl rfl rfl hb4 ?_
   refine lv S (rn_move (S.tm rfl)) rfl ?_; clear S; intro a S
   refine l_want S rfl rfl rfl hb4 ?_
   refine lv S (rn_eql (S.tm rfl) rfl) rfl ?_; clear S; intro a S
   refine lv S (rn_and_t hb4 (S.tm rfl) (S.tm rfl)) rfl ?_; clear S; intro a S
   refine l_done ?_
   refine then_n ?_
   exact ⟨Keep.refl _ _, S.nf [] rfl ⟨rfl, rfl, trivial⟩⟩
  ·refine l_skip S rfl rfl rfl (neq_f hb4) rfl ?_ rfl; clear S; intro a S
   refine l_skip S rfl rfl rfl (neq_f hb4) rfl ?_ rfl; clear S; intro a S
   refine lv S (rn_and_f (decide (r2.1 = 25)) hb4 (S.tm rfl) rfl) rfl ?_; clear S; intro a S
   refine l_done ?_
   refine then_n ?_
   exact ⟨Keep.refl _ _, S.nf [] rfl ⟨rfl, rfl, trivial⟩⟩
 clear S; rintro a w9 ⟨hk9, S⟩
 refine lv S (rn_move (S.tm rfl)) rfl ?_; clear S; intro a S
 refine f_cutm 3 (fun a w' => Keep [] w9 w' ∧ Sx w [] nov [] [(45, .bool ((((((decide (r1.2 = 0)) && (decide (r2.2 = 0))) && (decide (r3.2 = 0))) && (decide (r1.1 = 60))) && (decide (r2.1 = 25))) && (decide (r3.1 = 125))))] 46 a w') ?_ ?_
 ·rcases Bool.eq_false_or_eq_true (((((decide (r1.2 = 0)) && (decide (r2.2 = 0))) && (decide (r3.2 = 0))) && (decide (r1.1 = 60))) && (decide (r2.1 = 25))) with hb5 | hb5
  ·refine l_want S rfl rfl rfl hb5 ?_
   refine lv S (rn_move (S.tm rfl)) rfl ?_; clear S; intro a S
   refine l_want S rfl rfl rfl hb5 ?_
   refine lv S (rn_eql (S.tm rfl) rfl) rfl ?_; clear S; intro a S
   refine lv S (rn_and_t hb5 (S.tm rfl) (S.tm rfl)) rfl ?_; clear S; intro a S
   refine l_done ?_
   refine then_n ?_
   exact ⟨Keep.refl _ _, S.nf [] rfl ⟨rfl, trivial⟩⟩
  ·refine l_skip S rfl rfl rfl (neq_f hb5) rfl ?_ rfl; clear S; intro a S
   refine l_skip S rfl rfl rfl (neq_f hb5) rfl ?_ rfl; clear S; intro a S
   refine lv S (rn_and_f (decide (r3.1 = 125)) hb5 (S.tm rfl) rfl) rfl ?_; clear S; intro a S
   refine l_done ?_
   refine then_n ?_
   exact ⟨Keep.refl _ _, S.nf [] rfl ⟨rfl, trivial⟩⟩
 clear S; rintro a w10 ⟨hk10, S⟩
 refine lv S (rn_assign (S.tm rfl)) rfl ?_; clear S; intro a S
 refine l_done ?_
 replace S := S.nk [] [(0, .bool ((((((decide (r1.2 = 0)) && (decide (r2.2 = 0))) && (decide (r3.2 = 0))) && (decide (r1.1 = 60))) && (decide (r2.1 = 25))) && (decide (r3.1 = 125))))] [] rfl ⟨rfl, trivial⟩
 refine then_n ?_
 refine wp_ret ?_
 obtain rfl := Option.some.inj h
 exact f_ret S Tryd.results9 rfl rfl
set_option maxRecDepth 20000 in
theorem swimmer_CheckStandards_ok (w : World) (v_p_l : Value) (p_l : List GStandard) (hs_p_l : Slc (view w []) 4 v_p_l (p_l.map GStandard.enc)) (r : Int) (h : swimmer_CheckStandards p_l = some r) :
    Calls Tryd.prog 24 [v_p_l].toArray w (Ret w [] fun _ v _ => v = .int .i64 r) := by
 refine f_enter [] [] Tryd.func24 rfl Tryd.ntmps24 rfl (by simp) (by simp [fps]) (by simp [fps]) fun a S => ?_
 unfold swimmer_CheckStandards at h
 replace S := S.nk [] [(0, v_p_l)] [] rfl ⟨rfl, trivial⟩
 refine f_seq ?_
 refine f_region ?_
 refine lv S (rn_assign rfl) rfl ?_; clear S; intro a S
 refine l_done ?_
 replace S := S.nk [] [(0, v_p_l)] [] rfl ⟨rfl, trivial⟩
 refine then_n ?_
 refine f_seq ?_
 refine f_seq ?_
 refine f_region ?_
 refine lv S (rn_move (S.tm rfl)) rfl ?_; clear S; intro a S
 refine lv S (rn_lenT sl_41 (S.tm rfl) (slc_len hs_p_l)) rfl ?_; clear S; intro a S
 refine lv S (rn_gtr (S.tm rfl) rfl) rfl ?_; clear S; intro a S
 refine l_done ?_
 replace S := S.nk [] [(0, v_p_l), (7, .bool (decide (200 < (p_l.length : Int))))] [] rfl ⟨rfl, rfl, trivial⟩
 refine then_n ?_
 refine f_cond (S.tm rfl) (fun hb1 => ?_) (fun hb1 => ?_)
 ·replace h := iteT h hb1
  refine f_seq ?_
  refine f_region ?_
  refine lv S (rn_assign rfl) rfl ?_; clear S; intro a S
  refine l_done ?_
  replace S := S.nk [] [(2, .int .i64 2)] [] rfl ⟨rfl, trivial⟩
  refine then_n ?_
  refine wp_ret ?_
  refine then_r ?_
  obtain rfl := Option.some.inj h
  exact f_ret S Tryd.results24 rfl rfl
 ·replace h := iteF h hb1
  refine wp_skip ?_
  refine then_n ?_
  refine f_seq ?_
  refine f_seq ?_
  refine f_region ?_
  refine lv S (rn_move (S.tm rfl)) rfl ?_; clear S; intro a S
  refine lv S (rn_lenT sl_41 (S.tm rfl) (slc_len hs_p_l)) rfl ?_; clear S; intro a S
  refine lv S (rn_move rfl) rfl ?_; clear S; intro a S
  refine l_done ?_
  replace S := S.nk [] [(0, v_p_l), (8, v_p_l), (9, .int .i64 (p_l.length : Int)), (10, .int .i64 0)] [] rfl ⟨rfl, rfl, rfl, rfl, trivial⟩
  refine then_n ?_
  obtain ⟨j1, hj1, h⟩ := joinE h
  refine f_join (fun a w' => j1 = some r ∧ Sx w [] nov [] [] 53 a w') ?_ ?_
  ·refine wp_block ?_
   refine f_loop (fun (ys1 : List GStandard) a w' => ∃ i1 : Nat, (∃ dn, p_l = dn ++ ys1 ∧ dn.length = i1) ∧ swimmer_CheckStandards_l1 p_l j1 ys1 i1 = some r ∧ Sx w [] nov [] [(0, v_p_l), (8, v_p_l), (9, .int .i64 (p_l.length : Int)), (10, .int .i64 (i1 : Int))] 53 a w') List.length p_l ⟨0, ⟨[], rfl, rfl⟩, h, S.nf [] rfl ⟨rfl, rfl, rfl, rfl, trivial⟩⟩ ?_
   clear S h; rintro ys1 a w1 ⟨i1, ⟨dn, hd1, hi1⟩, h, S⟩
   cases ys1 with
   | nil =>
    rw [swimmer_CheckStandards_l1.eq_1] at h
    refine f_seq ?_
    refine f_region ?_
    refine lv S (rn_lss (S.tm rfl) (S.tm rfl)) rfl ?_; clear S; intro a S
    refine l_done ?_
    replace S := S.nk [] [(0, v_p_l), (8, v_p_l), (9, .int .i64 (p_l.length : Int)), (10, .int .i64 (i1 : Int)), (11, .bool (decide ((i1 : Int) < (p_l.length : Int))))] [] rfl ⟨rfl, rfl, rfl, rfl, rfl, trivial⟩
    refine then_n ?_
    refine f_seq ?_
    refine wp_cond_false ((S.tm rfl).trans (congrArg Value.bool (rng_nil hd1 hi1))) ?_
    refine wp_exit ?_
    refine then_x ?_
    refine then_x ?_
    refine x_same ?_
    refine then_n ?_
    exact ⟨h, S.nf [] rfl trivial⟩
   | cons y1 ys1 =>
    rw [swimmer_CheckStandards_l1.eq_2] at h
    refine f_seq ?_
    refine f_region ?_
    refine lv S (rn_lss (S.tm rfl) (S.tm rfl)) rfl ?_; clear S; intro a S
    refine l_done ?_
    replace S := S.nk [] [(0, v_p_l), (8, v_p_l), (9, .int .i64 (p_l.length : Int)), (10, .int .i64 (i1 : Int)), (11, .bool (decide ((i1 : Int) < (p_l.length : Int))))] [] rfl ⟨rfl, rfl, rfl, rfl, rfl, trivial⟩
    refine then_n ?_
    refine f_seq ?_
    refine wp_cond_true ((S.tm rfl).trans (congrArg Value.bool (rng_cons hd1 hi1))) ?_
    refine wp_skip ?_
    refine then_n ?_
    refine f_seq ?_
    refine wp_block ?_
    refine f_seq ?_
    refine f_region ?_
    refine lv S (rn_move (S.tm rfl)) rfl ?_; clear S; intro a S
    obtain ⟨b1, o1, hm1, hr1⟩ := rn_indexT (a := a) (x := .tmp 8) (y := .tmp 10) (ty := 0) sl_41 hs_p_l (get_mid hd1 hi1) rfl (S.tm rfl) (S.tm rfl)
    refine lv S (hr1 _) rfl ?_; clear S; intro a S
    clear hr1
    refine lv S (rn_ldA Tryd.isAgg40 Tryd.sizeOf40 (off := o1) (o := 0) (part := [.string y1.Race, .int .i64 y1.Time, .int .i64 y1.From, .int .i64 y1.To]) rfl rfl (S.tm rfl) (hm1.at S.emb0)) rfl ?_; clear S; intro a S
    refine l_alloc S Tryd.zeroValue40 (cs := [.string k_empty, .int .i64 0, .int .i64 0, .int .i64 0]) rfl rfl ?_; clear S; intro a w3 b2 hz1 hk1 S
    refine lv S (rn_assign (S.tm rfl)) rfl ?_; clear S; intro a S
    refine l_store S (S.tm rfl) (S.tm rfl) (i := 0) (off := 0) rfl Tryd.sizeOf40 (vs := [.string y1.Race, .int .i64 y1.Time, .int .i64 y1.From, .int .i64 y1.To]) rfl rfl rfl rfl ?_; clear S; intro w4 hk2 S
    refine l_done ?_
    replace S := S.nk [.blk b2 [.string y1.Race, .int .i64 y1.Time, .int .i64 y1.From, .int .i64 y1.To] 40] [(0, v_p_l), (3, .int .i64 (i1 : Int)), (4, .pointer (some ⟨b2, 0, none⟩)), (8, v_p_l), (9, .int .i64 (p_l.length : Int)), (10, .int .i64 (i1 : Int))] [true] rfl ⟨rfl, rfl, rfl, rfl, rfl, rfl, trivial⟩
    refine then_n ?_
    refine wp_block ?_
    refine f_seq ?_
    refine f_region ?_
    refine lv S (rn_fld fa_40_0 (S.tm rfl)) rfl ?_; clear S; intro a S
    refine lv S (rn_load Tryd.isAgg9 (S.tm rfl) (S.cell (i := 0) rfl rfl)) rfl ?_; clear S; intro a S
    obtain ⟨r1, hr2, h⟩ := bindE h
    refine l_enter S (fun _ => run_call (vs := [.string y1.Race]) ⟨(S.tm rfl), trivial⟩ Tryd.call17) (words_IsKey_ok _ y1.Race _ hr2) rfl ?_; clear S; intro v1 a w5 hv1 hk3 hn1 S
    subst hv1
    refine lv S (rn_not (S.tm rfl)) rfl ?_; clear S; intro a S
    refine lv S (rn_assign (S.tm rfl)) rfl ?_; clear S; intro a S
    refine l_done ?_
    replace S := S.nk [.blk b2 [.string y1.Race, .int .i64 y1.Time, .int .i64 y1.From, .int .i64 y1.To] 40] [(0, v_p_l), (3, .int .i64 (i1 : Int)), (4, .pointer (some ⟨b2, 0, none⟩)), (8, v_p_l), (9, .int .i64 (p_l.length : Int)), (10, .int .i64 (i1 : Int)), (15, .bool (!r1))] [true] rfl ⟨rfl, rfl, rfl, rfl, rfl, rfl, rfl, trivial⟩
    refine then_n ?_
    refine f_cond (S.tm rfl) (fun hb2 => ?_) (fun hb2 => ?_)
    ·replace h := iteT h hb2
     refine f_seq ?_
     refine f_region ?_
     refine lv S (rn_assign rfl) rfl ?_; clear S; intro a S
     refine l_done ?_
     replace S := S.nk [] [(2, .int .i64 5)] [false] rfl ⟨rfl, trivial⟩
     refine then_n ?_
     refine wp_ret ?_
     refine blk_r ?_
     refine blk_r ?_
     refine then_r ?_
     refine then_r ?_
     refine blk_r ?_
     refine then_r ?_
     refine then_r ?_
     obtain rfl := Option.some.inj h
     exact f_ret S Tryd.results24 rfl rfl
    ·replace h := iteF h hb2
     refine f_seq ?_
     refine f_region ?_
     refine lv S (rn_fld fa_40_1 (S.tm rfl)) rfl ?_; clear S; intro a S
     refine lv S (rn_load Tryd.isAgg3 (S.tm rfl) (S.cell (i := 0) rfl rfl)) rfl ?_; clear S; intro a S
     refine l_enter S (fun _ => run_call (vs := [.int .i64 y1.Time]) ⟨(S.tm rfl), trivial⟩ Tryd.call27) (timing_IsTime_ok _ y1.Time _ rfl) rfl ?_; clear S; intro v2 a w6 hv2 hk4 hn2 S
     subst hv2
     refine lv S (rn_not (S.tm rfl)) rfl ?_; clear S; intro a S
     refine lv S (rn_move (S.tm rfl)) rfl ?_; clear S; intro a S
     refine f_cutm 7 (fun a w' => Keep [] w6 w' ∧ Sx w [] nov [.blk b2 [.string y1.Race, .int .i64 y1.Time, .int .i64 y1.From, .int .i64 y1.To] 40] [(0, v_p_l), (3, .int .i64 (i1 : Int)), (4, .pointer (some ⟨b2, 0, none⟩)), (8, v_p_l), (9, .int .i64 (p_l.length : Int)), (10, .int .i64 (i1 : Int)), (32, .bool ((!(timing_IsTime y1.Time)) || (!(words_Within y1.From (-40000) y1.To))))] 53 a w') ?_ ?_
     ·rcases Bool.eq_false_or_eq_true (!(timing_IsTime y1.Time)) with hb3 | hb3
      ·refine l_skip S rfl rfl rfl (neq_t hb3) rfl ?_ rfl; clear S; intro a S
       refine l_skip S rfl rfl rfl (neq_t hb3) rfl ?_ rfl; clear S; intro a S
       refine l_skip S rfl rfl rfl (neq_t hb3) rfl ?_ rfl; clear S; intro a S
       refine l_skip S rfl rfl rfl (neq_t hb3) rfl ?_ rfl; clear S; intro a S
       refine l_skip S rfl rfl rfl (neq_t hb3) rfl ?_ rfl; clear S; intro a S
       refine l_skip S rfl rfl rfl (neq_t hb3) rfl ?_ rfl; clear S; intro a S
       refine lv S (rn_or_t (!(words_Within y1.From (-40000) y1.To)) hb3 (S.tm rfl) rfl) rfl ?_; clear S; intro a S
       refine l_done ?_
       refine then_n ?_
       exact ⟨Keep.refl _ _, S.nf [true] rfl ⟨rfl, rfl, rfl, rfl, rfl, rfl, rfl, trivial⟩⟩
      ·refine l_want S rfl rfl rfl hb3 ?_
       refine lv S (rn_fld fa_40_2 (S.tm rfl)) rfl ?_; clear S; intro a S
       refine l_want S rfl rfl rfl hb3 ?_
       refine lv S (rn_load Tryd.isAgg3 (S.tm rfl) (S.cell (i := 0) rfl rfl)) rfl ?_; clear S; intro a S
       refine l_want S rfl rfl rfl hb3 ?_
       refine lv S (rn_fld fa_40_3 (S.tm rfl)) rfl ?_; clear S; intro a S
       refine l_want S rfl rfl rfl hb3 ?_
       refine lv S (rn_load Tryd.isAgg3 (S.tm rfl) (S.cell (i := 0) rfl rfl)) rfl ?_; clear S; intro a S
       refine l_want S rfl rfl rfl hb3 ?_
       refine l_enter S (fun _ => run_call (vs := [.int .i64 y1.From, .int .i64 (-40000), .int .i64 y1.To]) ⟨(S.tm rfl), rfl, (S.tm rfl), trivial⟩ Tryd.call18) (words_Within_ok _ y1.From (-40000) y1.To _ rfl) rfl ?_; clear S; intro v3 a w8 hv3 hk5 hn3 S
       subst hv3
       refine l_want S rfl rfl rfl hb3 ?_
       refine lv S (rn_not (S.tm rfl)) rfl ?_; clear S; intro a S
       refine lv S (rn_or_f hb3 (S.tm rfl) (S.tm rfl)) rfl ?_; clear S; intro a S
       refine l_done ?_
       refine then_n ?_
       exact ⟨hk5, S.nf [true] rfl ⟨rfl, rfl, rfl, rfl, rfl, rfl, rfl, trivial⟩⟩
     clear S; rintro a w7 ⟨hk6, S⟩
     refine lv S (rn_move (S.tm rfl)) rfl ?_; clear S; intro a S
     refine f_cutm 4 (fun a w' => Keep [] w7 w' ∧ Sx w [] nov [.blk b2 [.string y1.Race, .int .i64 y1.Time, .int .i64 y1.From, .int .i64 y1.To] 40] [(0, v_p_l), (3, .int .i64 (i1 : Int)), (4, .pointer (some ⟨b2, 0, none⟩)), (8, v_p_l), (9, .int .i64 (p_l.length : Int)), (10, .int .i64 (i1 : Int)), (37, .bool (((!(timing_IsTime y1.Time)) || (!(words_Within y1.From (-40000) y1.To))) || (decide (4000 < y1.To))))] 53 a w') ?_ ?_
     ·rcases Bool.eq_false_or_eq_true ((!(timing_IsTime y1.Time)) || (!(words_Within y1.From (-40000) y1.To))) with hb4 | hb4
      ·refine l_skip S rfl rfl rfl (neq_t hb4) rfl ?_ rfl; clear S; intro a S
       refine l_skip S rfl rfl rfl (neq_t hb4) rfl ?_ rfl; clear S; intro a S
       refine l_skip S rfl rfl rfl (neq_t hb4) rfl ?_ rfl; clear S; intro a S
       refine lv S (rn_or_t (decide (4000 < y1.To)) hb4 (S.tm rfl) rfl) rfl ?_; clear S; intro a S
       refine l_done ?_
       refine then_n ?_
       exact ⟨Keep.refl _ _, S.nf [true] rfl ⟨rfl, rfl, rfl, rfl, rfl, rfl, rfl, trivial⟩⟩
      ·refine l_want S rfl rfl rfl hb4 ?_
       refine lv S (rn_fld fa_40_3 (S.tm rfl)) rfl ?_; clear S; intro a S
       refine l_want S rfl rfl rfl hb4 ?_
       refine lv S (rn_load Tryd.isAgg3 (S.tm rfl) (S.cell (i := 0) rfl rfl)) rfl ?_; clear S; intro a S
       refine l_want S rfl rfl rfl hb4 ?_
       refine lv S (rn_gtr (S.tm rfl) rfl) rfl ?_; clear S; intro a S
       refine lv S (rn_or_f hb4 (S.tm rfl) (S.tm rfl)) rfl ?_; clear S; intro a S
       refine l_done ?_
       refine then_n ?_
       exact ⟨Keep.refl _ _, S.nf [true] rfl ⟨rfl, rfl, rfl, rfl, rfl, rfl, rfl, trivial⟩⟩
     clear S; rintro a w9 ⟨hk7, S⟩
     refine lv S (rn_assign (S.tm rfl)) rfl ?_; clear S; intro a S
     refine l_done ?_
     replace S := S.nk [.blk b2 [.string y1.Race, .int .i64 y1.Time, .int .i64 y1.From, .int .i64 y1.To] 40] [(0, v_p_l), (3, .int .i64 (i1 : Int)), (4, .pointer (some ⟨b2, 0, none⟩)), (8, v_p_l), (9, .int .i64 (p_l.length : Int)), (10, .int .i64 (i1 : Int)), (20, .bool (((!(timing_IsTime y1.Time)) || (!(words_Within y1.From (-40000) y1.To))) || (decide (4000 < y1.To))))] [true] rfl ⟨rfl, rfl, rfl, rfl, rfl, rfl, rfl, trivial⟩
     refine then_n ?_
     refine f_cond (S.tm rfl) (fun hb5 => ?_) (fun hb5 => ?_)
     ·replace h := iteT h hb5
      refine f_seq ?_
      refine f_region ?_
      refine lv S (rn_assign rfl) rfl ?_; clear S; intro a S
      refine l_done ?_
      replace S := S.nk [] [(2, .int .i64 1)] [false] rfl ⟨rfl, trivial⟩
      refine then_n ?_
      refine wp_ret ?_
      refine blk_r ?_
      refine blk_r ?_
      refine then_r ?_
      refine then_r ?_
      refine blk_r ?_
      refine then_r ?_
      refine then_r ?_
      obtain rfl := Option.some.inj h
      exact f_ret S Tryd.results24 rfl rfl
     ·replace h := iteF h hb5
      refine f_seq ?_
      refine d_region [] ([]) Tryd.mixed S rfl (by kernel_rfl) ?_; clear S; intro w10 hk8 hsel S
      refine d_rest [0, 1, 2, 3, 4, 5, 6, 7, 8, 9, 10, 11, 12, 13] hsel (by kernel_rfl) rfl ?_
      clear hsel
      refine s_lv S rfl (rn_move (S.tm rfl)) rfl ?_; clear S; intro a S
      refine s_lv S rfl (rn_gtr (S.tm rfl) rfl) rfl ?_; clear S; intro a S
      refine s_lv S rfl (rn_move (S.tm rfl)) rfl ?_; clear S; intro a S
      obtain ⟨j2, hj2, h⟩ := joinE h
      refine s_cutm 10 (fun a w' => ∃ c1, j2 c1 = some r ∧ Keep [] w10 w' ∧ Sx w [] nov [.blk b2 [.string y1.Race, .int .i64 y1.Time, .int .i64 y1.From, .int .i64 y1.To] 40] [(0, v_p_l), (8, v_p_l), (9, .int .i64 (p_l.length : Int)), (10, .int .i64 (i1 : Int)), (51, .bool c1)] 53 a w') ?_ ?_
      ·rcases Bool.eq_false_or_eq_true (decide (0 < (i1 : Int))) with hb6 | hb6
       ·replace h := iteT h hb6
        refine s_want S rfl rfl rfl rfl hb6 ?_
        refine s_lv0 S (rn_fld fa_40_0 (S.tm rfl)) rfl ?_; clear S; intro a S
        refine s_want S rfl rfl rfl rfl hb6 ?_
        refine s_lv0 S (rn_load Tryd.isAgg9 (S.tm rfl) (S.cell (i := 0) rfl rfl)) rfl ?_; clear S; intro a S
        refine s_want S rfl rfl rfl rfl hb6 ?_
        refine s_lv0 S (rn_move (S.tm rfl)) rfl ?_; clear S; intro a S
        refine s_want S rfl rfl rfl rfl hb6 ?_
        refine s_lv0 S (rn_move (S.tm rfl)) rfl ?_; clear S; intro a S
        refine s_want S rfl rfl rfl rfl hb6 ?_
        refine s_lv0 S (rn_sub (S.tm rfl) rfl) rfl ?_; clear S; intro a S
        refine s_want S rfl rfl rfl rfl hb6 ?_
        obtain ⟨hc1, h⟩ := chkE h
        obtain ⟨b3, o2, hm2, hr3⟩ := rn_indexT (a := a) (x := .tmp 44) (y := .tmp 46) (ty := 0) sl_41 hs_p_l (inB_get hc1).1 (inB_get hc1).2 (S.tm rfl) (S.tm rfl)
        refine s_lv0 S (hr3 _) rfl ?_; clear S; intro a S
        clear hr3
        refine s_want S rfl rfl rfl rfl hb6 ?_
        refine s_lv0 S (rn_fld fa_40_0 (S.tm rfl)) rfl ?_; clear S; intro a S
        refine s_want S rfl rfl rfl rfl hb6 ?_
        refine s_lv0 S (rn_ld Tryd.isAgg9 (off := o2) (o := 0) (S.tm rfl) (hm2.at S.emb0) rfl) rfl ?_; clear S; intro a S
        refine s_want S rfl rfl rfl rfl hb6 ?_
        refine s_lv0 S (rn_slss (S.tm rfl) (S.tm rfl)) rfl ?_; clear S; intro a S
        refine s_lv S rfl (rn_and_t hb6 (S.tm rfl) (S.tm rfl)) rfl ?_; clear S; intro a S
        refine s_done ?_
        exact ⟨_, h, Keep.refl _ _, S.nf [true] rfl ⟨rfl, rfl, rfl, rfl, rfl, trivial⟩⟩
       ·replace h := iteF h hb6
        refine s_skip S rfl rfl rfl rfl (neq_f hb6) rfl ?_ rfl; clear S; intro a S
        refine s_skip S rfl rfl rfl rfl (neq_f hb6) rfl ?_ rfl; clear S; intro a S
        refine s_skip S rfl rfl rfl rfl (neq_f hb6) rfl ?_ rfl; clear S; intro a S
        refine s_skip S rfl rfl rfl rfl (neq_f hb6) rfl ?_ rfl; clear S; intro a S
        refine s_skip S rfl rfl rfl rfl (neq_f hb6) rfl ?_ rfl; clear S; intro a S
        refine s_skip S rfl rfl rfl rfl (neq_f hb6) rfl ?_ rfl; clear S; intro a S
        refine s_skip S rfl rfl rfl rfl (neq_f hb6) rfl ?_ rfl; clear S; intro a S
        refine s_skip S rfl rfl rfl rfl (neq_f hb6) rfl ?_ rfl; clear S; intro a S
        refine s_skip S rfl rfl rfl rfl (neq_f hb6) rfl ?_ rfl; clear S; intro a S
        refine s_lv S rfl (rn_and_f true hb6 (S.tm rfl) rfl) rfl ?_; clear S; intro a S
        refine s_done ?_
        exact ⟨_, h, Keep.refl _ _, S.nf [true] rfl ⟨rfl, rfl, rfl, rfl, rfl, trivial⟩⟩
      clear S h; rintro a w11 ⟨c1, h, hk9, S⟩; rw [hj2] at h; clear hj2 j2
      refine s_lv S rfl (rn_assign (S.tm rfl)) rfl ?_; clear S; intro a S
      refine s_done ?_
      replace S := S.nk [] [(0, v_p_l), (8, v_p_l), (9, .int .i64 (p_l.length : Int)), (10, .int .i64 (i1 : Int)), (38, .bool c1)] [false] rfl ⟨rfl, rfl, rfl, rfl, rfl, trivial⟩
      refine then_n ?_
      refine f_cond (S.tm rfl) (fun hb7 => ?_) (fun hb7 => ?_)
      ·replace h := iteT h hb7
       refine f_seq ?_
       refine f_region ?_
       refine lv S (rn_assign rfl) rfl ?_; clear S; intro a S
       refine l_done ?_
       replace S := S.nk [] [(2, .int .i64 7)] [] rfl ⟨rfl, trivial⟩
       refine then_n ?_
       refine wp_ret ?_
       refine blk_r ?_
       refine blk_r ?_
       refine then_r ?_
       refine then_r ?_
       refine blk_r ?_
       refine then_r ?_
       refine then_r ?_
       obtain rfl := Option.some.inj h
       exact f_ret S Tryd.results24 rfl rfl
      ·replace h := iteF h hb7
       refine wp_skip ?_
       refine blk_n ?_
       refine blk_n ?_
       refine then_n ?_
       refine f_region ?_
       refine lv S (rn_add (S.tm rfl) rfl) rfl ?_; clear S; intro a S
       refine lv S (rn_move (S.tm rfl)) rfl ?_; clear S; intro a S
       refine l_done ?_
       replace S := S.nk [] [(0, v_p_l), (8, v_p_l), (9, .int .i64 (p_l.length : Int)), (10, .int .i64 (W ((i1 : Int) + 1)))] [] rfl ⟨rfl, rfl, rfl, rfl, trivial⟩
       refine then_n ?_
       exact ⟨ys1, ⟨i1 + 1, ⟨_, (hd1).trans (List.append_cons _ _ _), by simp [hi1]⟩, h, S.nf [] rfl ⟨rfl, rfl, rfl, (congrArg (fun z => some (Value.int .i64 z)) (rng_next hd1 hi1 (slc_max hs_p_l))), trivial⟩⟩, Nat.lt_succ_self _⟩
  clear S h; rintro a w2 ⟨h, S⟩; rw [hj1] at h; clear hj1 j1
  refine then_n ?_
  refine f_seq ?_
  refine f_region ?_
  refine lv S (rn_assign rfl) rfl ?_; clear S; intro a S
  refine l_done ?_
  replace S := S.nk [] [(2, .int .i64 0)] [] rfl ⟨rfl, trivial⟩
  refine then_n ?_
  refine wp_ret ?_
  obtain rfl := Option.some.inj h
  exact f_ret S Tryd.results24 rfl rfl
theorem swimmer_Qualified_ok (w : World) (v_p_l : Value) (p_l : List GStandard) (hs_p_l : Slc (view w []) 4 v_p_l (p_l.map GStandard.enc)) (v_p_m : Value) (p_m : List GMark) (hs_p_m : Slc (view w []) 4 v_p_m (p_m.map GMark.enc)) (p_race : ByteArray) (p_who : ByteArray) (r : Bool × Int) (h : swimmer_Qualified p_l p_m p_race p_who = some r) :
    Calls Tryd.prog 10 [v_p_l, v_p_m, .string p_race, .string p_who].toArray w (Ret w [] fun _ v _ => v = .tuple #[.bool r.1, .int .i64 r.2]) := by
 refine f_enter [] [] Tryd.func10 rfl Tryd.ntmps10 rfl (by simp) (by simp [fps]) (by simp [fps]) fun a S => ?_
 unfold swimmer_Qualified at h
 replace S := S.nk [] [(0, v_p_l), (1, v_p_m), (2, .string p_race), (3, .string p_who)] [] rfl ⟨rfl, rfl, rfl, rfl, trivial⟩
 refine f_seq ?_
 refine f_region ?_
 refine lv S (rn_assign rfl) rfl ?_; clear S; intro a S
 refine lv S (rn_assign rfl) rfl ?_; clear S; intro a S
 refine l_done ?_
 replace S := S.nk [] [(0, v_p_l), (1, v_p_m), (2, .string p_race), (3, .string p_who)] [] rfl ⟨rfl, rfl, rfl, rfl, trivial⟩
 refine then_n ?_
 refine f_seq ?_
 refine f_seq ?_
 refine f_region ?_
 refine lv S (rn_move (S.tm rfl)) rfl ?_; clear S; intro a S
 obtain ⟨r1, hr1, h⟩ := bindE h
 refine l_enter S (fun _ => run_call (vs := [v_p_l]) ⟨(S.tm rfl), trivial⟩ Tryd.call24) (swimmer_CheckStandards_ok _ v_p_l p_l (hs_p_l.mono (S.le_arg nil_sub)) _ hr1) rfl ?_; clear S; intro v1 a w1 hv1 hk1 hn1 S
 subst hv1
 refine lv S (rn_assign (S.tm rfl)) rfl ?_; clear S; intro a S
 refine l_done ?_
 replace S := S.nk [] [(0, v_p_l), (1, v_p_m), (2, .string p_race), (3, .string p_who), (10, .int .i64 r1)] [] rfl ⟨rfl, rfl, rfl, rfl, rfl, trivial⟩
 refine then_n ?_
 refine f_seq ?_
 refine f_region ?_
 refine lv S (rn_move (S.tm rfl)) rfl ?_; clear S; intro a S
 refine lv S (rn_neq (S.tm rfl) rfl) rfl ?_; clear S; intro a S
 refine l_done ?_
 replace S := S.nk [] [(0, v_p_l), (1, v_p_m), (2, .string p_race), (3, .string p_who), (10, .int .i64 r1), (20, .bool (!decide (r1 = 0)))] [] rfl ⟨rfl, rfl, rfl, rfl, rfl, rfl, trivial⟩
 refine then_n ?_
 refine f_cond (S.tm rfl) (fun hb1 => ?_) (fun hb1 => ?_)
 ·replace h := iteT h hb1
  refine f_seq ?_
  refine f_region ?_
  refine lv S (rn_move (S.tm rfl)) rfl ?_; clear S; intro a S
  refine lv S (rn_assign rfl) rfl ?_; clear S; intro a S
  refine lv S (rn_assign (S.tm rfl)) rfl ?_; clear S; intro a S
  refine l_done ?_
  replace S := S.nk [] [(8, .bool false), (9, .int .i64 r1)] [] rfl ⟨rfl, rfl, trivial⟩
  refine then_n ?_
  refine wp_ret ?_
  refine then_r ?_
  obtain rfl := Option.some.inj h
  exact f_ret2 S Tryd.results10 rfl rfl rfl
 ·replace h := iteF h hb1
  refine wp_skip ?_
  refine then_n ?_
  refine f_seq ?_
  refine f_seq ?_
  refine f_region ?_
  refine lv S (rn_move (S.tm rfl)) rfl ?_; clear S; intro a S
  obtain ⟨r2, hr2, h⟩ := bindE h
  refine l_enter S (fun _ => run_call (vs := [v_p_m]) ⟨(S.tm rfl), trivial⟩ Tryd.call16) (swimmer_CheckMarks_ok _ v_p_m p_m (hs_p_m.mono (S.le_arg nil_sub)) _ hr2) rfl ?_; clear S; intro v2 a w2 hv2 hk2 hn2 S
  subst hv2
  refine lv S (rn_assign (S.tm rfl)) rfl ?_; clear S; intro a S
  refine l_done ?_
  replace S := S.nk [] [(0, v_p_l), (1, v_p_m), (2, .string p_race), (3, .string p_who), (11, .int .i64 r2)] [] rfl ⟨rfl, rfl, rfl, rfl, rfl, trivial⟩
  refine then_n ?_
  refine f_seq ?_
  refine f_region ?_
  refine lv S (rn_move (S.tm rfl)) rfl ?_; clear S; intro a S
  refine lv S (rn_neq (S.tm rfl) rfl) rfl ?_; clear S; intro a S
  refine l_done ?_
  replace S := S.nk [] [(0, v_p_l), (1, v_p_m), (2, .string p_race), (3, .string p_who), (11, .int .i64 r2), (25, .bool (!decide (r2 = 0)))] [] rfl ⟨rfl, rfl, rfl, rfl, rfl, rfl, trivial⟩
  refine then_n ?_
  refine f_cond (S.tm rfl) (fun hb2 => ?_) (fun hb2 => ?_)
  ·replace h := iteT h hb2
   refine f_seq ?_
   refine f_region ?_
   refine lv S (rn_move (S.tm rfl)) rfl ?_; clear S; intro a S
   refine lv S (rn_assign rfl) rfl ?_; clear S; intro a S
   refine lv S (rn_assign (S.tm rfl)) rfl ?_; clear S; intro a S
   refine l_done ?_
   replace S := S.nk [] [(8, .bool false), (9, .int .i64 r2)] [] rfl ⟨rfl, rfl, trivial⟩
   refine then_n ?_
   refine wp_ret ?_
   refine then_r ?_
   obtain rfl := Option.some.inj h
   exact f_ret2 S Tryd.results10 rfl rfl rfl
  ·replace h := iteF h hb2
   refine wp_skip ?_
   refine then_n ?_
   refine f_seq ?_
   refine f_seq ?_
   refine f_region ?_
   refine lv S (rn_move (S.tm rfl)) rfl ?_; clear S; intro a S
   obtain ⟨r3, hr3, h⟩ := bindE h
   refine l_enter S (fun _ => run_call (vs := [.string p_race]) ⟨(S.tm rfl), trivial⟩ Tryd.call17) (words_IsKey_ok _ p_race _ hr3) rfl ?_; clear S; intro v3 a w3 hv3 hk3 hn3 S
   subst hv3
   refine lv S (rn_not (S.tm rfl)) rfl ?_; clear S; intro a S
   refine lv S (rn_move (S.tm rfl)) rfl ?_; clear S; intro a S
   obtain ⟨j1, hj1, h⟩ := joinE h
   refine f_cutm 4 (fun a w' => ∃ c1, j1 c1 = some r ∧ Keep [] w3 w' ∧ Sx w [] nov [] [(0, v_p_l), (1, v_p_m), (2, .string p_race), (3, .string p_who), (34, .bool c1)] 66 a w') ?_ ?_
   ·rcases Bool.eq_false_or_eq_true (!r3) with hb3 | hb3
    ·replace h := iteT h hb3
     refine l_skip S rfl rfl rfl (neq_t hb3) rfl ?_ rfl; clear S; intro a S
     refine l_skip S rfl rfl rfl (neq_t hb3) rfl ?_ rfl; clear S; intro a S
     refine l_skip S rfl rfl rfl (neq_t hb3) rfl ?_ rfl; clear S; intro a S
     refine lv S (rn_or_t true hb3 (S.tm rfl) rfl) rfl ?_; clear S; intro a S
     refine l_done ?_
     refine then_n ?_
     exact ⟨_, h, Keep.refl _ _, S.nf [] rfl ⟨rfl, rfl, rfl, rfl, rfl, trivial⟩⟩
    ·replace h := iteF h hb3
     refine l_want S rfl rfl rfl hb3 ?_
     refine lv S (rn_move (S.tm rfl)) rfl ?_; clear S; intro a S
     refine l_want S rfl rfl rfl hb3 ?_
     obtain ⟨r4, hr4, h⟩ := bindE h
     refine l_enter S (fun _ => run_call (vs := [.string p_who]) ⟨(S.tm rfl), trivial⟩ Tryd.call17) (words_IsKey_ok _ p_who _ hr4) rfl ?_; clear S; intro v4 a w5 hv4 hk4 hn4 S
     subst hv4
     refine l_want S rfl rfl rfl hb3 ?_
     refine lv S (rn_not (S.tm rfl)) rfl ?_; clear S; intro a S
     refine lv S (rn_or_f hb3 (S.tm rfl) (S.tm rfl)) rfl ?_; clear S; intro a S
     refine l_done ?_
     refine then_n ?_
     exact ⟨_, h, hk4, S.nf [] rfl ⟨rfl, rfl, rfl, rfl, rfl, trivial⟩⟩
   clear S h; rintro a w4 ⟨c1, h, hk5, S⟩; rw [hj1] at h; clear hj1 j1
   refine l_done ?_
   replace S := S.nk [] [(0, v_p_l), (1, v_p_m), (2, .string p_race), (3, .string p_who), (34, .bool c1)] [] rfl ⟨rfl, rfl, rfl, rfl, rfl, trivial⟩
   refine then_n ?_
   refine f_cond (S.tm rfl) (fun hb4 => ?_) (fun hb4 => ?_)
   ·replace h := iteT h hb4
    refine f_seq ?_
    refine f_region ?_
    refine lv S (rn_assign rfl) rfl ?_; clear S; intro a S
    refine lv S (rn_assign rfl) rfl ?_; clear S; intro a S
    refine l_done ?_
    replace S := S.nk [] [(8, .bool false), (9, .int .i64 5)] [] rfl ⟨rfl, rfl, trivial⟩
    refine then_n ?_
    refine wp_ret ?_
    refine then_r ?_
    obtain rfl := Option.some.inj h
    exact f_ret2 S Tryd.results10 rfl rfl rfl
   ·replace h := iteF h hb4
    refine wp_skip ?_
    refine then_n ?_
    refine f_seq ?_
    refine f_region ?_
    refine lv S (rn_assign rfl) rfl ?_; clear S; intro a S
    refine l_done ?_
    replace S := S.nk [] [(0, v_p_l), (1, v_p_m), (2, .string p_race), (3, .string p_who), (12, .bool true)] [] rfl ⟨rfl, rfl, rfl, rfl, rfl, trivial⟩
    refine then_n ?_
    refine f_seq ?_
    refine f_seq ?_
    refine f_region ?_
    refine lv S (rn_move (S.tm rfl)) rfl ?_; clear S; intro a S
    refine lv S (rn_lenT sl_41 (S.tm rfl) (slc_len hs_p_l)) rfl ?_; clear S; intro a S
    refine lv S (rn_move rfl) rfl ?_; clear S; intro a S
    refine l_done ?_
    replace S := S.nk [] [(1, v_p_m), (2, .string p_race), (3, .string p_who), (12, .bool true), (35, v_p_l), (36, .int .i64 (p_l.length : Int)), (37, .int .i64 0)] [] rfl ⟨rfl, rfl, rfl, rfl, rfl, rfl, rfl, trivial⟩
    refine then_n ?_
    obtain ⟨j2, hj2, h⟩ := joinE h
    refine f_join (fun a w' => ∃ x1 : Bool, j2 x1 = some r ∧ Sx w [] nov [] [(12, .bool x1)] 66 a w') ?_ ?_
    ·refine wp_block ?_
     refine f_loop (fun (ys1 : List GStandard) a w' => ∃ i1 : Nat, ∃ x1 : Bool, (∃ dn, p_l = dn ++ ys1 ∧ dn.length = i1) ∧ swimmer_Qualified_l1 p_race p_m p_who j2 ys1 i1 x1 = some r ∧ Sx w [] nov [] [(1, v_p_m), (2, .string p_race), (3, .string p_who), (12, .bool x1), (35, v_p_l), (36, .int .i64 (p_l.length : Int)), (37, .int .i64 (i1 : Int))] 66 a w') List.length p_l ⟨0, true, ⟨[], rfl, rfl⟩, h, S.nf [] rfl ⟨rfl, rfl, rfl, rfl, rfl, rfl, rfl, trivial⟩⟩ ?_
     clear S h; rintro ys1 a w6 ⟨i1, x1, ⟨dn, hd1, hi1⟩, h, S⟩
     cases ys1 with
     | nil =>
      rw [swimmer_Qualified_l1.eq_1] at h
      refine f_seq ?_
      refine f_region ?_
      refine lv S (rn_lss (S.tm rfl) (S.tm rfl)) rfl ?_; clear S; intro a S
      refine l_done ?_
      replace S := S.nk [] [(1, v_p_m), (2, .string p_race), (3, .string p_who), (12, .bool x1), (35, v_p_l), (36, .int .i64 (p_l.length : Int)), (37, .int .i64 (i1 : Int)), (38, .bool (decide ((i1 : Int) < (p_l.length : Int))))] [] rfl ⟨rfl, rfl, rfl, rfl, rfl, rfl, rfl, rfl, trivial⟩
      refine then_n ?_
      refine f_seq ?_
      refine wp_cond_false ((S.tm rfl).trans (congrArg Value.bool (rng_nil hd1 hi1))) ?_
      refine wp_exit ?_
      refine then_x ?_
      refine then_x ?_
      refine x_same ?_
      refine then_n ?_
      exact ⟨x1, h, S.nf [] rfl ⟨rfl, trivial⟩⟩
     | cons y1 ys1 =>
      rw [swimmer_Qualified_l1.eq_2] at h
      refine f_seq ?_
      refine f_region ?_
      refine lv S (rn_lss (S.tm rfl) (S.tm rfl)) rfl ?_; clear S; intro a S
      refine l_done ?_
      replace S := S.nk [] [(1, v_p_m), (2, .string p_race), (3, .string p_who), (12, .bool x1), (35, v_p_l), (36, .int .i64 (p_l.length : Int)), (37, .int .i64 (i1 : Int)), (38, .bool (decide ((i1 : Int) < (p_l.length : Int))))] [] rfl ⟨rfl, rfl, rfl, rfl, rfl, rfl, rfl, rfl, trivial⟩
      refine then_n ?_
      refine f_seq ?_
      refine wp_cond_true ((S.tm rfl).trans (congrArg Value.bool (rng_cons hd1 hi1))) ?_
      refine wp_skip ?_
      refine then_n ?_
      refine f_seq ?_
      obtain ⟨j3, hj3, h⟩ := joinE h
      refine f_join (fun a w' => ∃ x2 : Bool, j3 x2 = some r ∧ Sx w [] nov [] [(1, v_p_m), (2, .string p_race), (3, .string p_who), (12, .bool x2), (35, v_p_l), (36, .int .i64 (p_l.length : Int)), (37, .int .i64 (i1 : Int))] 66 a w') ?_ ?_
      ·refine wp_block ?_
       refine f_seq ?_
       refine f_region ?_
       obtain ⟨b1, o1, hm1, hr5⟩ := rn_indexT (a := a) (x := .tmp 35) (y := .tmp 37) (ty := 0) sl_41 hs_p_l (get_mid hd1 hi1) rfl (S.tm rfl) (S.tm rfl)
       refine lv S (hr5 _) rfl ?_; clear S; intro a S
       clear hr5
       refine lv S (rn_ldA Tryd.isAgg40 Tryd.sizeOf40 (off := o1) (o := 0) (part := [.string y1.Race, .int .i64 y1.Time, .int .i64 y1.From, .int .i64 y1.To]) rfl rfl (S.tm rfl) (hm1.at S.emb0)) rfl ?_; clear S; intro a S
       refine l_alloc S Tryd.zeroValue40 (cs := [.string k_empty, .int .i64 0, .int .i64 0, .int .i64 0]) rfl rfl ?_; clear S; intro a w9 b2 hz1 hk6 S
       refine l_store S (S.tm rfl) (S.tm rfl) (i := 0) (off := 0) rfl Tryd.sizeOf40 (vs := [.string y1.Race, .int .i64 y1.Time, .int .i64 y1.From, .int .i64 y1.To]) rfl rfl rfl rfl ?_; clear S; intro w10 hk7 S
       refine l_done ?_
       replace S := S.nk [.blk b2 [.string y1.Race, .int .i64 y1.Time, .int .i64 y1.From, .int .i64 y1.To] 40] [(1, v_p_m), (2, .string p_race), (3, .string p_who), (12, .bool x1), (14, .pointer (some ⟨b2, 0, none⟩)), (35, v_p_l), (36, .int .i64 (p_l.length : Int)), (37, .int .i64 (i1 : Int))] [true] rfl ⟨rfl, rfl, rfl, rfl, rfl, rfl, rfl, rfl, trivial⟩
       refine then_n ?_
       refine f_seq ?_
       refine f_seq ?_
       refine f_region ?_
       refine lv S (rn_fld fa_40_0 (S.tm rfl)) rfl ?_; clear S; intro a S
       refine lv S (rn_load Tryd.isAgg9 (S.tm rfl) (S.cell (i := 0) rfl rfl)) rfl ?_; clear S; intro a S
       refine lv S (rn_move (S.tm rfl)) rfl ?_; clear S; intro a S
       refine lv S (rn_sneq (S.tm rfl) (S.tm rfl)) rfl ?_; clear S; intro a S
       refine l_done ?_
       replace S := S.nk [.blk b2 [.string y1.Race, .int .i64 y1.Time, .int .i64 y1.From, .int .i64 y1.To] 40] [(1, v_p_m), (2, .string p_race), (3, .string p_who), (12, .bool x1), (14, .pointer (some ⟨b2, 0, none⟩)), (35, v_p_l), (36, .int .i64 (p_l.length : Int)), (37, .int .i64 (i1 : Int)), (44, .bool (!decide (y1.Race = p_race)))] [true] rfl ⟨rfl, rfl, rfl, rfl, rfl, rfl, rfl, rfl, rfl, trivial⟩
       refine then_n ?_
       refine f_cond (S.tm rfl) (fun hb5 => ?_) (fun hb5 => ?_)
       ·replace h := iteT h hb5
        refine wp_exit ?_
        refine then_x ?_
        refine x_same ?_
        refine then_n ?_
        exact ⟨x1, h, S.nf [false] rfl ⟨rfl, rfl, rfl, rfl, rfl, rfl, rfl, trivial⟩⟩
       ·replace h := iteF h hb5
        refine wp_skip ?_
        refine then_n ?_
        refine f_seq ?_
        refine f_region ?_
        refine lv S (rn_assign rfl) rfl ?_; clear S; intro a S
        refine l_done ?_
        replace S := S.nk [.blk b2 [.string y1.Race, .int .i64 y1.Time, .int .i64 y1.From, .int .i64 y1.To] 40] [(1, v_p_m), (2, .string p_race), (3, .string p_who), (12, .bool false), (14, .pointer (some ⟨b2, 0, none⟩)), (35, v_p_l), (36, .int .i64 (p_l.length : Int)), (37, .int .i64 (i1 : Int))] [true] rfl ⟨rfl, rfl, rfl, rfl, rfl, rfl, rfl, rfl, trivial⟩
        refine then_n ?_
        refine f_seq ?_
        refine f_region ?_
        refine lv S (rn_move (S.tm rfl)) rfl ?_; clear S; intro a S
        refine lv S (rn_move (S.tm rfl)) rfl ?_; clear S; intro a S
        refine lv S (rn_move (S.tm rfl)) rfl ?_; clear S; intro a S
        refine lv S (rn_fld fa_40_2 (S.tm rfl)) rfl ?_; clear S; intro a S
        refine lv S (rn_load Tryd.isAgg3 (S.tm rfl) (S.cell (i := 0) rfl rfl)) rfl ?_; clear S; intro a S
        refine lv S (rn_fld fa_40_3 (S.tm rfl)) rfl ?_; clear S; intro a S
        refine lv S (rn_load Tryd.isAgg3 (S.tm rfl) (S.cell (i := 0) rfl rfl)) rfl ?_; clear S; intro a S
        refine l_enter S (fun _ => run_call (vs := [v_p_m, .string p_race, .string p_who, .int .i64 y1.From, .int .i64 y1.To]) ⟨(S.tm rfl), (S.tm rfl), (S.tm rfl), (S.tm rfl), (S.tm rfl), trivial⟩ Tryd.call19) (swimmer_best_ok _ v_p_m p_m (hs_p_m.mono (S.le_arg nil_sub)) p_race p_who y1.From y1.To _ rfl) rfl ?_; clear S; intro v5 a w11 hv5 hk8 hn5 S
        subst hv5
        refine lv S (rn_move (S.tm rfl)) rfl ?_; clear S; intro a S
        refine lv S (rn_extract (S.tm rfl) rfl) rfl ?_; clear S; intro a S
        refine lv S (rn_extract (S.tm rfl) rfl) rfl ?_; clear S; intro a S
        refine l_alloc S Tryd.zeroValue30 (cs := [.string k_empty, .string k_empty, .int .i64 0, .int .i64 0]) rfl rfl ?_; clear S; intro a w12 b3 hz2 hk9 S
        refine l_store S (S.tm rfl) (S.tm rfl) (i := 0) (off := 0) rfl Tryd.sizeOf30 (vs := [.string (((swimmer_best p_m p_race p_who y1.From y1.To).1).Who), .string (((swimmer_best p_m p_race p_who y1.From y1.To).1).Race), .int .i64 (((swimmer_best p_m p_race p_who y1.From y1.To).1).Day), .int .i64 (((swimmer_best p_m p_race p_who y1.From y1.To).1).Time)]) rfl rfl rfl rfl ?_; clear S; intro w13 hk10 S
        refine lv S (rn_assign (S.tm rfl)) rfl ?_; clear S; intro a S
        refine l_done ?_
        replace S := S.nk [.blk b3 [.string (((swimmer_best p_m p_race p_who y1.From y1.To).1).Who), .string (((swimmer_best p_m p_race p_who y1.From y1.To).1).Race), .int .i64 (((swimmer_best p_m p_race p_who y1.From y1.To).1).Day), .int .i64 (((swimmer_best p_m p_race p_who y1.From y1.To).1).Time)] 30, .blk b2 [.string y1.Race, .int .i64 y1.Time, .int .i64 y1.From, .int .i64 y1.To] 40] [(1, v_p_m), (2, .string p_race), (3, .string p_who), (12, .bool false), (14, .pointer (some ⟨b2, 0, none⟩)), (15, .pointer (some ⟨b3, 0, none⟩)), (16, .bool ((swimmer_best p_m p_race p_who y1.From y1.To).2)), (35, v_p_l), (36, .int .i64 (p_l.length : Int)), (37, .int .i64 (i1 : Int))] [true, true] rfl ⟨rfl, rfl, rfl, rfl, rfl, rfl, rfl, rfl, rfl, rfl, trivial⟩
        refine then_n ?_
        refine f_seq ?_
        refine f_region ?_
        refine lv S (rn_move (S.tm rfl)) rfl ?_; clear S; intro a S
        refine lv S (rn_move (S.tm rfl)) rfl ?_; clear S; intro a S
        refine f_cutm 6 (fun a w' => Keep [] w13 w' ∧ Sx w [] nov [.blk b3 [.string (((swimmer_best p_m p_race p_who y1.From y1.To).1).Who), .string (((swimmer_best p_m p_race p_who y1.From y1.To).1).Race), .int .i64 (((swimmer_best p_m p_race p_who y1.From y1.To).1).Day), .int .i64 (((swimmer_best p_m p_race p_who y1.From y1.To).1).Time)] 30, .blk b2 [.string y1.Race, .int .i64 y1.Time, .int .i64 y1.From, .int .i64 y1.To] 40] [(1, v_p_m), (2, .string p_race), (3, .string p_who), (12, .bool false), (35, v_p_l), (36, .int .i64 (p_l.length : Int)), (37, .int .i64 (i1 : Int)), (63, .bool (((swimmer_best p_m p_race p_who y1.From y1.To).2) && (decide ((((swimmer_best p_m p_race p_who y1.From y1.To).1).Time) ≤ y1.Time))))] 66 a w') ?_ ?_
        ·rcases Bool.eq_false_or_eq_true ((swimmer_best p_m p_race p_who y1.From y1.To).2) with hb6 | hb6
         ·refine l_want S rfl rfl rfl hb6 ?_
          refine lv S (rn_fld fa_30_3 (S.tm rfl)) rfl ?_; clear S; intro a S
          refine l_want S rfl rfl rfl hb6 ?_
          refine lv S (rn_load Tryd.isAgg3 (S.tm rfl) (S.cell (i := 0) rfl rfl)) rfl ?_; clear S; intro a S
          refine l_want S rfl rfl rfl hb6 ?_
          refine lv S (rn_fld fa_40_1 (S.tm rfl)) rfl ?_; clear S; intro a S
          refine l_want S rfl rfl rfl hb6 ?_
          refine lv S (rn_load Tryd.isAgg3 (S.tm rfl) (S.cell (i := 1) rfl rfl)) rfl ?_; clear S; intro a S
          refine l_want S rfl rfl rfl hb6 ?_
          refine lv S (rn_leq (S.tm rfl) (S.tm rfl)) rfl ?_; clear S; intro a S
          refine lv S (rn_and_t hb6 (S.tm rfl) (S.tm rfl)) rfl ?_; clear S; intro a S
          refine l_done ?_
          refine then_n ?_
          exact ⟨Keep.refl _ _, S.nf [true, true] rfl ⟨rfl, rfl, rfl, rfl, rfl, rfl, rfl, rfl, trivial⟩⟩
         ·refine l_skip S rfl rfl rfl (neq_f hb6) rfl ?_ rfl; clear S; intro a S
          refine l_skip S rfl rfl rfl (neq_f hb6) rfl ?_ rfl; clear S; intro a S
          refine l_skip S rfl rfl rfl (neq_f hb6) rfl ?_ rfl; clear S; intro a S
          refine l_skip S rfl rfl rfl (neq_f hb6) rfl ?_ rfl; clear S; intro a S
          refine l_skip S rfl rfl rfl (neq_f hb6) rfl ?_ rfl; clear S; intro a S
          refine lv S (rn_and_f (decide ((((swimmer_best p_m p_race p_who y1.From y1.To).1).Time) ≤ y1.Time)) hb6 (S.tm rfl) rfl) rfl ?_; clear S; intro a S
          refine l_done ?_
          refine then_n ?_
          exact ⟨Keep.refl _ _, S.nf [true, true] rfl ⟨rfl, rfl, rfl, rfl, rfl, rfl, rfl, rfl, trivial⟩⟩
        clear S; rintro a w14 ⟨hk11, S⟩
        refine l_done ?_
        replace S := S.nk [] [(1, v_p_m), (2, .string p_race), (3, .string p_who), (12, .bool false), (35, v_p_l), (36, .int .i64 (p_l.length : Int)), (37, .int .i64 (i1 : Int)), (63, .bool (((swimmer_best p_m p_race p_who y1.From y1.To).2) && (decide ((((swimmer_best p_m p_race p_who y1.From y1.To).1).Time) ≤ y1.Time))))] [false, false] rfl ⟨rfl, rfl, rfl, rfl, rfl, rfl, rfl, rfl, trivial⟩
        refine then_n ?_
        refine f_cond (S.tm rfl) (fun hb7 => ?_) (fun hb7 => ?_)
        ·replace h := iteT h hb7
         refine f_seq ?_
         refine f_region ?_
         refine lv S (rn_assign rfl) rfl ?_; clear S; intro a S
         refine lv S (rn_assign rfl) rfl ?_; clear S; intro a S
         refine l_done ?_
         replace S := S.nk [] [(8, .bool true), (9, .int .i64 0)] [] rfl ⟨rfl, rfl, trivial⟩
         refine then_n ?_
         refine wp_ret ?_
         refine blk_r ?_
         refine then_r ?_
         refine then_r ?_
         refine then_r ?_
         refine blk_r ?_
         refine then_r ?_
         refine then_r ?_
         obtain rfl := Option.some.inj h
         exact f_ret2 S Tryd.results10 rfl rfl rfl
        ·replace h := iteF h hb7
         refine wp_skip ?_
         refine blk_n ?_
         refine then_n ?_
         exact ⟨false, h, S.nf [] rfl ⟨rfl, rfl, rfl, rfl, rfl, rfl, rfl, trivial⟩⟩
      clear S h; rintro a w8 ⟨x2, h, S⟩; rw [hj3] at h; clear hj3 j3
      refine then_n ?_
      refine f_region ?_
      refine lv S (rn_add (S.tm rfl) rfl) rfl ?_; clear S; intro a S
      refine lv S (rn_move (S.tm rfl)) rfl ?_; clear S; intro a S
      refine l_done ?_
      replace S := S.nk [] [(1, v_p_m), (2, .string p_race), (3, .string p_who), (12, .bool x2), (35, v_p_l), (36, .int .i64 (p_l.length : Int)), (37, .int .i64 (W ((i1 : Int) + 1)))] [] rfl ⟨rfl, rfl, rfl, rfl, rfl, rfl, rfl, trivial⟩
      refine then_n ?_
      exact ⟨ys1, ⟨i1 + 1, x2, ⟨_, (hd1).trans (List.append_cons _ _ _), by simp [hi1]⟩, h, S.nf [] rfl ⟨rfl, rfl, rfl, rfl, rfl, rfl, (congrArg (fun z => some (Value.int .i64 z)) (rng_next hd1 hi1 (slc_max hs_p_l))), trivial⟩⟩, Nat.lt_succ_self _⟩
    clear S h; rintro a w7 ⟨x1, h, S⟩; rw [hj2] at h; clear hj2 j2
    refine then_n ?_
    refine f_seq ?_
    refine f_region ?_
    refine lv S (rn_move (S.tm rfl)) rfl ?_; clear S; intro a S
    refine lv S (rn_assign (S.tm rfl)) rfl ?_; clear S; intro a S
    refine lv S (rn_assign rfl) rfl ?_; clear S; intro a S
    refine l_done ?_
    replace S := S.nk [] [(8, .bool x1), (9, .int .i64 0)] [] rfl ⟨rfl, rfl, trivial⟩
    refine then_n ?_
    refine wp_ret ?_
    obtain rfl := Option.some.inj h
    exact f_ret2 S Tryd.results10 rfl rfl rfl
theorem tumbtop_TopQualifiedEnter_ok (w : World) (v_p_l : Value) (p_l : List Int) (hs_p_l : Slc (view w []) 1 v_p_l (p_l.map eInt)) (r : Bool) (h : tumbtop_TopQualifiedEnter p_l = some r) :
    Calls Tryd.prog 3 [v_p_l].toArray w (Ret w [] fun _ v _ => v = .bool r) := by
 refine f_enter [] [] Tryd.func3 rfl Tryd.ntmps3 rfl (by simp) (by simp [fps]) (by simp [fps]) fun a S => ?_
 unfold tumbtop_TopQualifiedEnter at h
 replace S := S.nk [] [(0, v_p_l)] [] rfl ⟨rfl, trivial⟩
 refine f_seq ?_
 refine f_region ?_
 refine lv S (rn_assign rfl) rfl ?_; clear S; intro a S
 refine l_done ?_
 replace S := S.nk [] [(0, v_p_l)] [] rfl ⟨rfl, trivial⟩
 refine then_n ?_
 refine f_seq ?_
 refine f_region ?_
 refine lv S (rn_move (S.tm rfl)) rfl ?_; clear S; intro a S
 refine lv S (rn_bld bt_25 (pv := [(0, v_p_l)]) ⟨rfl, (S.tm rfl), trivial⟩ (cs := [v_p_l, .int .i64 0]) (by obtain ⟨_, _, hv⟩ := (slc_len hs_p_l); rw [hv]; clear hv; kernel_rfl)) rfl ?_; clear S; intro a S
 refine l_box S (S.tm rfl) (cs := [v_p_l, .int .i64 0]) rfl rfl ?_; clear S; intro a w1 b1 hz1 hk1 S
 refine lv S (rn_assign (S.tm rfl)) rfl ?_; clear S; intro a S
 refine l_done ?_
 replace S := S.nk [.blk b1 [v_p_l, .int .i64 0] 25] [(3, .pointer (some ⟨b1, 0, none⟩))] [true] rfl ⟨rfl, trivial⟩
 refine then_n ?_
 refine f_seq ?_
 refine f_region ?_
 refine lv S (rn_move (S.tm rfl)) rfl ?_; clear S; intro a S
 refine lv S (rn_move (S.tm rfl)) rfl ?_; clear S; intro a S
 obtain ⟨r1, hr1, h⟩ := bindE h
 refine l_enter1 0 S (b := b1) rfl rfl (fun _ => .blk b1 [v_p_l, .int .i64 r1.2] 25) (fun _ => run_call (vs := [.pointer (some ⟨b1, 0, none⟩), .int .i64 1, .int .i64 8]) ⟨(S.tm rfl), rfl, rfl, trivial⟩ Tryd.call5) (Stream_Range_ok _ b1 v_p_l p_l (hs_p_l.mono (S.le_arg (fp_sub (i := 0) (e := .blk b1 [v_p_l, .int .i64 0] 25) rfl))) 0 (S.holds _ (List.mem_of_getElem? (i := 0) rfl)) 1 8 _ hr1) rfl (fun _ _ _ h => ⟨h.1, fun _ hc => by cases hc; rfl⟩) ?_; clear S; intro v1 a w2 hv1 hk2 hn1 S
 replace hv1 := hv1.2
 subst hv1
 obtain ⟨r2, hr2, h⟩ := bindE h
 have hz2 := S.keep.size
 refine l_enter1 0 S (b := b1) rfl rfl (fun _ => .blk b1 [v_p_l, .int .i64 r2.2] 25) (fun _ => run_call (vs := [.pointer (some ⟨b1, 0, none⟩), .int .i64 r1.1]) ⟨(S.tm rfl), (S.tm rfl), trivial⟩ Tryd.call4) (Stream_Marks_ok _ b1 v_p_l p_l (hs_p_l.mono (S.le_arg (fp_sub (i := 0) (e := .blk b1 [v_p_l, .int .i64 r1.2] 25) rfl))) r1.2 (S.holds _ (List.mem_of_getElem? (i := 0) rfl)) r1.1 _ hr2) rfl (fun _ _ _ h => ⟨h.1, fun _ hc => by cases hc; rfl⟩) ?_; clear S; intro v2 a w3 hv2 hk3 hn2 S
 replace hv2 := hv2.2
 obtain ⟨φ1, hl1, hm1, S⟩ := S.see' hn2 hz2
 have hs1 := hv2.mono hm1
 refine lv S (rn_assign (S.tm rfl)) rfl ?_; clear S; intro a S
 refine l_done ?_
 replace S := S.nk [] [(4, v2)] [false] rfl ⟨rfl, trivial⟩
 refine then_n ?_
 refine f_seq ?_
 refine f_region ?_
 refine lv S (rn_move (S.tm rfl)) rfl ?_; clear S; intro a S
 obtain ⟨r3, hr3, h⟩ := bindE h
 refine l_enter S (fun _ => run_call (vs := [v2, .string k_ra, .string k_ann, .int .i64 0, .int .i64 10]) ⟨(S.tm rfl), rfl, rfl, rfl, rfl, trivial⟩ Tryd.call6) (swimmer_Best_ok _ v2 r2.1 (((ownV_slcT GMark.enc_ok hs1)).mono (S.le_new nil_sub)) k_ra k_ann 0 10 _ hr3) rfl ?_; clear S; intro v3 a w4 hv3 hk4 hn3 S
 subst hv3
 refine lv S (rn_move (S.tm rfl)) rfl ?_; clear S; intro a S
 refine lv S (rn_extract (S.tm rfl) rfl) rfl ?_; clear S; intro a S
 refine lv S (rn_extract (S.tm rfl) rfl) rfl ?_; clear S; intro a S
 refine lv S (rn_extract (S.tm rfl) rfl) rfl ?_; clear S; intro a S
 refine l_alloc S Tryd.zeroValue30 (cs := [.string k_empty, .string k_empty, .int .i64 0, .int .i64 0]) rfl rfl ?_; clear S; intro a w5 b2 hz3 hk5 S
 refine l_store S (S.tm rfl) (S.tm rfl) (i := 0) (off := 0) rfl Tryd.sizeOf30 (vs := [.string r3.1.Who, .string r3.1.Race, .int .i64 r3.1.Day, .int .i64 r3.1.Time]) rfl rfl rfl rfl ?_; clear S; intro w6 hk6 S
 refine lv S (rn_assign (S.tm rfl)) rfl ?_; clear S; intro a S
 refine lv S (rn_assign (S.tm rfl)) rfl ?_; clear S; intro a S
 refine l_done ?_
 replace S := S.nk [.blk b2 [.string r3.1.Who, .string r3.1.Race, .int .i64 r3.1.Day, .int .i64 r3.1.Time] 30] [(4, v2), (5, .pointer (some ⟨b2, 0, none⟩)), (6, .bool r3.2.1), (7, .int .i64 r3.2.2)] [true] rfl ⟨rfl, rfl, rfl, rfl, trivial⟩
 refine then_n ?_
 refine f_seq ?_
 refine f_seq ?_
 refine f_region ?_
 refine lv S (rn_move (S.tm rfl)) rfl ?_; clear S; intro a S
 refine lv S (rn_neq (S.tm rfl) rfl) rfl ?_; clear S; intro a S
 refine lv S (rn_move (S.tm rfl)) rfl ?_; clear S; intro a S
 refine f_cutm 3 (fun a w' => Keep [] w6 w' ∧ Sx w [] φ1 [.blk b2 [.string r3.1.Who, .string r3.1.Race, .int .i64 r3.1.Day, .int .i64 r3.1.Time] 30] [(4, v2), (5, .pointer (some ⟨b2, 0, none⟩)), (7, .int .i64 r3.2.2), (30, .bool ((!decide (r3.2.2 = 0)) || (!r3.2.1)))] 84 a w') ?_ ?_
 ·rcases Bool.eq_false_or_eq_true (!decide (r3.2.2 = 0)) with hb1 | hb1
  ·refine l_skip S rfl rfl rfl (neq_t hb1) rfl ?_ rfl; clear S; intro a S
   refine l_skip S rfl rfl rfl (neq_t hb1) rfl ?_ rfl; clear S; intro a S
   refine lv S (rn_or_t (!r3.2.1) hb1 (S.tm rfl) rfl) rfl ?_; clear S; intro a S
   refine l_done ?_
   refine then_n ?_
   exact ⟨Keep.refl _ _, S.nf [true] rfl ⟨rfl, rfl, rfl, rfl, trivial⟩⟩
  ·refine l_want S rfl rfl rfl hb1 ?_
   refine lv S (rn_move (S.tm rfl)) rfl ?_; clear S; intro a S
   refine l_want S rfl rfl rfl hb1 ?_
   refine lv S (rn_not (S.tm rfl)) rfl ?_; clear S; intro a S
   refine lv S (rn_or_f hb1 (S.tm rfl) (S.tm rfl)) rfl ?_; clear S; intro a S
   refine l_done ?_
   refine then_n ?_
   exact ⟨Keep.refl _ _, S.nf [true] rfl ⟨rfl, rfl, rfl, rfl, trivial⟩⟩
 clear S; rintro a w7 ⟨hk7, S⟩
 refine l_done ?_
 replace S := S.nk [.blk b2 [.string r3.1.Who, .string r3.1.Race, .int .i64 r3.1.Day, .int .i64 r3.1.Time] 30] [(4, v2), (5, .pointer (some ⟨b2, 0, none⟩)), (7, .int .i64 r3.2.2), (30, .bool ((!decide (r3.2.2 = 0)) || (!r3.2.1)))] [true] rfl ⟨rfl, rfl, rfl, rfl, trivial⟩
 refine then_n ?_
 refine f_cond (S.tm rfl) (fun hb2 => ?_) (fun hb2 => ?_)
 ·replace h := iteT h hb2
  refine f_seq ?_
  refine f_region ?_
  refine lv S (rn_move (S.tm rfl)) rfl ?_; clear S; intro a S
  refine lv S (rn_eql (S.tm rfl) rfl) rfl ?_; clear S; intro a S
  refine lv S (rn_move (S.tm rfl)) rfl ?_; clear S; intro a S
  refine l_enter S (fun _ => run_call (vs := [v2, .func (.func 8) #[] #[]]) ⟨(S.tm rfl), rfl, trivial⟩ Tryd.call7) (slices_ContainsFunc_Mark_tumbtop_TopQualifiedEnter_c1_ok _ v2 r2.1 (((ownV_slcT GMark.enc_ok hs1)).mono (S.le_new nil_sub)) _ rfl) rfl ?_; clear S; intro v4 a w8 hv4 hk8 hn4 S
  subst hv4
  refine lv S (rn_bneq Tryd.underlying4 (S.tm rfl) (S.tm rfl)) rfl ?_; clear S; intro a S
  refine lv S (rn_move (S.tm rfl)) rfl ?_; clear S; intro a S
  obtain ⟨j1, hj1, h⟩ := joinE h
  refine f_cutm 2 (fun a w' => ∃ c1, j1 c1 = some r ∧ Keep [] w8 w' ∧ Sx w [] φ1 [.blk b2 [.string r3.1.Who, .string r3.1.Race, .int .i64 r3.1.Day, .int .i64 r3.1.Time] 30] [(38, .bool c1)] 84 a w') ?_ ?_
  ·rcases Bool.eq_false_or_eq_true (!decide ((decide (r3.2.2 = 0)) = (slices_ContainsFunc_Mark_tumbtop_TopQualifiedEnter_c1 r2.1))) with hb3 | hb3
   ·replace h := iteT h hb3
    refine l_want S rfl rfl rfl hb3 ?_
    obtain ⟨r4, hr4, h⟩ := bindE h
    refine l_enter S (fun _ => run_call (vs := []) trivial Tryd.call9) (tumbtop_h10facts_ok _ _ hr4) rfl ?_; clear S; intro v5 a w10 hv5 hk9 hn5 S
    subst hv5
    refine lv S (rn_and_t hb3 (S.tm rfl) (S.tm rfl)) rfl ?_; clear S; intro a S
    refine l_done ?_
    refine then_n ?_
    exact ⟨_, h, hk9, S.nf [true] rfl ⟨rfl, trivial⟩⟩
   ·replace h := iteF h hb3
    refine l_skip S rfl rfl rfl (neq_f hb3) rfl ?_ rfl; clear S; intro a S
    refine lv S (rn_and_f true hb3 (S.tm rfl) rfl) rfl ?_; clear S; intro a S
    refine l_done ?_
    refine then_n ?_
    exact ⟨_, h, Keep.refl _ _, S.nf [true] rfl ⟨rfl, trivial⟩⟩
  clear S h; rintro a w9 ⟨c1, h, hk10, S⟩; rw [hj1] at h; clear hj1 j1
  refine lv S (rn_assign (S.tm rfl)) rfl ?_; clear S; intro a S
  refine l_done ?_
  replace S := S.nk [] [(2, .bool c1)] [false] rfl ⟨rfl, trivial⟩
  refine then_n ?_
  refine wp_ret ?_
  refine then_r ?_
  obtain rfl := Option.some.inj h
  exact f_ret S Tryd.results3 rfl rfl
 ·replace h := iteF h hb2
  refine wp_skip ?_
  refine then_n ?_
  refine f_seq ?_
  refine f_region ?_
  refine lv S (rn_fld fa_30_3 (S.tm rfl)) rfl ?_; clear S; intro a S
  refine lv S (rn_load Tryd.isAgg3 (S.tm rfl) (S.cell (i := 0) rfl rfl)) rfl ?_; clear S; intro a S
  refine lv S (rn_fld fa_30_2 (S.tm rfl)) rfl ?_; clear S; intro a S
  refine lv S (rn_load Tryd.isAgg3 (S.tm rfl) (S.cell (i := 0) rfl rfl)) rfl ?_; clear S; intro a S
  refine lv S (rn_fld fa_30_2 (S.tm rfl)) rfl ?_; clear S; intro a S
  refine lv S (rn_load Tryd.isAgg3 (S.tm rfl) (S.cell (i := 0) rfl rfl)) rfl ?_; clear S; intro a S
  refine lv S (rn_bld bt_40 (pv := [(0, .string k_ra), (1, .int .i64 r3.1.Time), (2, .int .i64 r3.1.Day), (3, .int .i64 r3.1.Day)]) ⟨rfl, rfl, rfl, (S.tm rfl), rfl, (S.tm rfl), rfl, (S.tm rfl), trivial⟩ (cs := [.string k_ra, .int .i64 r3.1.Time, .int .i64 r3.1.Day, .int .i64 r3.1.Day]) (by kernel_rfl)) rfl ?_; clear S; intro a S
  refine l_buildSlice S Tryd.underlying41 Tryd.sizeOf40 Tryd.zeroValue40 rfl rfl (pv := [(0, .agg #[.string k_ra, .int .i64 r3.1.Time, .int .i64 r3.1.Day, .int .i64 r3.1.Day])]) ⟨rfl, (S.tm rfl), trivial⟩ (cs := [.string k_ra, .int .i64 r3.1.Time, .int .i64 r3.1.Day, .int .i64 r3.1.Day]) (by kernel_rfl) rfl ?_; clear S; intro a w11 b3 hz4 hk11 S
  refine lv S (rn_move (S.tm rfl)) rfl ?_; clear S; intro a S
  obtain ⟨r5, hr5, h⟩ := bindE h
  refine l_enter S (fun _ => run_call (vs := [.slice (some ⟨b3, 0, none⟩) 1 1, v2, .string k_ra, .string k_ann]) ⟨(S.tm rfl), (S.tm rfl), rfl, rfl, trivial⟩ Tryd.call10) (swimmer_Qualified_ok _ (.slice (some ⟨b3, 0, none⟩) 1 1) [(GStandard.mk k_ra r3.1.Time r3.1.Day r3.1.Day)] (lit_slcT GStandard.enc_ok S (i := 0) rfl rfl rfl rfl ((ne_nil (e' := .blk b3 [.string k_ra, .int .i64 r3.1.Time, .int .i64 r3.1.Day, .int .i64 r3.1.Day] 40)) _ rfl)) v2 r2.1 (((ownV_slcT GMark.enc_ok hs1)).mono (S.le_new nil_sub)) k_ra k_ann _ hr5) rfl ?_; clear S; intro v6 a w12 hv6 hk12 hn6 S
  subst hv6
  refine lv S (rn_move (S.tm rfl)) rfl ?_; clear S; intro a S
  refine lv S (rn_extract (S.tm rfl) rfl) rfl ?_; clear S; intro a S
  refine lv S (rn_extract (S.tm rfl) rfl) rfl ?_; clear S; intro a S
  refine lv S (rn_assign (S.tm rfl)) rfl ?_; clear S; intro a S
  refine lv S (rn_assign (S.tm rfl)) rfl ?_; clear S; intro a S
  refine l_done ?_
  replace S := S.nk [.blk b2 [.string r3.1.Who, .string r3.1.Race, .int .i64 r3.1.Day, .int .i64 r3.1.Time] 30] [(4, v2), (5, .pointer (some ⟨b2, 0, none⟩)), (8, .bool r5.1), (9, .int .i64 r5.2)] [false, true] rfl ⟨rfl, rfl, rfl, rfl, trivial⟩
  refine then_n ?_
  refine f_seq ?_
  refine f_region ?_
  refine lv S (rn_fld fa_30_3 (S.tm rfl)) rfl ?_; clear S; intro a S
  refine lv S (rn_load Tryd.isAgg3 (S.tm rfl) (S.cell (i := 0) rfl rfl)) rfl ?_; clear S; intro a S
  refine lv S (rn_sub (S.tm rfl) rfl) rfl ?_; clear S; intro a S
  refine lv S (rn_max2 rfl (S.tm rfl)) rfl ?_; clear S; intro a S
  refine lv S (rn_bld bt_40 (pv := [(0, .string k_ra), (1, .int .i64 (imax 1 (W (r3.1.Time - 1)))), (2, .int .i64 0), (3, .int .i64 10)]) ⟨rfl, rfl, rfl, (S.tm rfl), rfl, rfl, rfl, rfl, trivial⟩ (cs := [.string k_ra, .int .i64 (imax 1 (W (r3.1.Time - 1))), .int .i64 0, .int .i64 10]) (by kernel_rfl)) rfl ?_; clear S; intro a S
  refine l_buildSlice S Tryd.underlying41 Tryd.sizeOf40 Tryd.zeroValue40 rfl rfl (pv := [(0, .agg #[.string k_ra, .int .i64 (imax 1 (W (r3.1.Time - 1))), .int .i64 0, .int .i64 10])]) ⟨rfl, (S.tm rfl), trivial⟩ (cs := [.string k_ra, .int .i64 (imax 1 (W (r3.1.Time - 1))), .int .i64 0, .int .i64 10]) (by kernel_rfl) rfl ?_; clear S; intro a w13 b4 hz5 hk13 S
  refine lv S (rn_move (S.tm rfl)) rfl ?_; clear S; intro a S
  obtain ⟨r6, hr6, h⟩ := bindE h
  refine l_enter S (fun _ => run_call (vs := [.slice (some ⟨b4, 0, none⟩) 1 1, v2, .string k_ra, .string k_ann]) ⟨(S.tm rfl), (S.tm rfl), rfl, rfl, trivial⟩ Tryd.call10) (swimmer_Qualified_ok _ (.slice (some ⟨b4, 0, none⟩) 1 1) [(GStandard.mk k_ra (imax 1 (W (r3.1.Time - 1))) 0 10)] (lit_slcT GStandard.enc_ok S (i := 0) rfl rfl rfl rfl ((ne_nil (e' := .blk b4 [.string k_ra, .int .i64 (imax 1 (W (r3.1.Time - 1))), .int .i64 0, .int .i64 10] 40)) _ rfl)) v2 r2.1 (((ownV_slcT GMark.enc_ok hs1)).mono (S.le_new nil_sub)) k_ra k_ann _ hr6) rfl ?_; clear S; intro v7 a w14 hv7 hk14 hn7 S
  subst hv7
  refine lv S (rn_move (S.tm rfl)) rfl ?_; clear S; intro a S
  refine lv S (rn_extract (S.tm rfl) rfl) rfl ?_; clear S; intro a S
  refine lv S (rn_extract (S.tm rfl) rfl) rfl ?_; clear S; intro a S
  refine lv S (rn_assign (S.tm rfl)) rfl ?_; clear S; intro a S
  refine lv S (rn_assign (S.tm rfl)) rfl ?_; clear S; intro a S
  refine l_done ?_
  replace S := S.nk [.blk b2 [.string r3.1.Who, .string r3.1.Race, .int .i64 r3.1.Day, .int .i64 r3.1.Time] 30] [(5, .pointer (some ⟨b2, 0, none⟩)), (8, .bool r5.1), (9, .int .i64 r5.2), (10, .bool r6.1), (11, .int .i64 r6.2)] [false, true] rfl ⟨rfl, rfl, rfl, rfl, rfl, trivial⟩
  refine then_n ?_
  refine f_seq ?_
  refine f_region ?_
  refine lv S (rn_move (S.tm rfl)) rfl ?_; clear S; intro a S
  refine lv S (rn_eql (S.tm rfl) rfl) rfl ?_; clear S; intro a S
  refine lv S (rn_move (S.tm rfl)) rfl ?_; clear S; intro a S
  refine f_cutm 3 (fun a w' => Keep [] w14 w' ∧ Sx w [] φ1 [.blk b2 [.string r3.1.Who, .string r3.1.Race, .int .i64 r3.1.Day, .int .i64 r3.1.Time] 30] [(5, .pointer (some ⟨b2, 0, none⟩)), (8, .bool r5.1), (10, .bool r6.1), (68, .bool ((decide (r5.2 = 0)) && (decide (r6.2 = 0))))] 84 a w') ?_ ?_
  ·rcases Bool.eq_false_or_eq_true (decide (r5.2 = 0)) with hb4 | hb4
   ·refine l_want S rfl rfl rfl hb4 ?_
    refine lv S (rn_move (S.tm rfl)) rfl ?_; clear S; intro a S
    refine l_want S rfl rfl rfl hb4 ?_
    refine lv S (rn_eql (S.tm rfl) rfl) rfl ?_; clear S; intro a S
    refine lv S (rn_and_t hb4 (S.tm rfl) (S.tm rfl)) rfl ?_; clear S; intro a S
    refine l_done ?_
    refine then_n ?_
    exact ⟨Keep.refl _ _, S.nf [true] rfl ⟨rfl, rfl, rfl, rfl, trivial⟩⟩
   ·refine l_skip S rfl rfl rfl (neq_f hb4) rfl ?_ rfl; clear S; intro a S
    refine l_skip S rfl rfl rfl (neq_f hb4) rfl ?_ rfl; clear S; intro a S
    refine lv S (rn_and_f (decide (r6.2 = 0)) hb4 (S.tm rfl) rfl) rfl ?_; clear S; intro a S
    refine l_done ?_
    refine then_n ?_
    exact ⟨Keep.refl _ _, S.nf [true] rfl ⟨rfl, rfl, rfl, rfl, trivial⟩⟩
  clear S; rintro a w15 ⟨hk15, S⟩
  refine lv S (rn_move (S.tm rfl)) rfl ?_; clear S; intro a S
  refine f_cutm 2 (fun a w' => Keep [] w15 w' ∧ Sx w [] φ1 [.blk b2 [.string r3.1.Who, .string r3.1.Race, .int .i64 r3.1.Day, .int .i64 r3.1.Time] 30] [(5, .pointer (some ⟨b2, 0, none⟩)), (10, .bool r6.1), (71, .bool (((decide (r5.2 = 0)) && (decide (r6.2 = 0))) && r5.1))] 84 a w') ?_ ?_
  ·rcases Bool.eq_false_or_eq_true ((decide (r5.2 = 0)) && (decide (r6.2 = 0))) with hb5 | hb5
   ·refine l_want S rfl rfl rfl hb5 ?_
    refine lv S (rn_move (S.tm rfl)) rfl ?_; clear S; intro a S
    refine lv S (rn_and_t hb5 (S.tm rfl) (S.tm rfl)) rfl ?_; clear S; intro a S
    refine l_done ?_
    refine then_n ?_
    exact ⟨Keep.refl _ _, S.nf [true] rfl ⟨rfl, rfl, rfl, trivial⟩⟩
   ·refine l_skip S rfl rfl rfl (neq_f hb5) rfl ?_ rfl; clear S; intro a S
    refine lv S (rn_and_f r5.1 hb5 (S.tm rfl) rfl) rfl ?_; clear S; intro a S
    refine l_done ?_
    refine then_n ?_
    exact ⟨Keep.refl _ _, S.nf [true] rfl ⟨rfl, rfl, rfl, trivial⟩⟩
  clear S; rintro a w16 ⟨hk16, S⟩
  refine lv S (rn_move (S.tm rfl)) rfl ?_; clear S; intro a S
  refine f_cutm 8 (fun a w' => Keep [] w16 w' ∧ Sx w [] φ1 [.blk b2 [.string r3.1.Who, .string r3.1.Race, .int .i64 r3.1.Day, .int .i64 r3.1.Time] 30] [(80, .bool ((((decide (r5.2 = 0)) && (decide (r6.2 = 0))) && r5.1) && ((!r6.1) || (decide (r3.1.Time = 1)))))] 84 a w') ?_ ?_
  ·rcases Bool.eq_false_or_eq_true (((decide (r5.2 = 0)) && (decide (r6.2 = 0))) && r5.1) with hb6 | hb6
   ·refine l_want S rfl rfl rfl hb6 ?_
    refine lv S (rn_move (S.tm rfl)) rfl ?_; clear S; intro a S
    refine l_want S rfl rfl rfl hb6 ?_
    refine lv S (rn_not (S.tm rfl)) rfl ?_; clear S; intro a S
    refine l_want S rfl rfl rfl hb6 ?_
    refine lv S (rn_move (S.tm rfl)) rfl ?_; clear S; intro a S
    refine f_cutm 4 (fun a w' => Keep [] w16 w' ∧ Sx w [] φ1 [.blk b2 [.string r3.1.Who, .string r3.1.Race, .int .i64 r3.1.Day, .int .i64 r3.1.Time] 30] [(72, .bool (((decide (r5.2 = 0)) && (decide (r6.2 = 0))) && r5.1)), (79, .bool ((!r6.1) || (decide (r3.1.Time = 1))))] 84 a w') ?_ ?_
    ·rcases Bool.eq_false_or_eq_true (!r6.1) with hb7 | hb7
     ·refine l_skip S rfl rfl rfl (neq_t hb7) rfl ?_ rfl; clear S; intro a S
      refine l_skip S rfl rfl rfl (neq_t hb7) rfl ?_ rfl; clear S; intro a S
      refine l_skip S rfl rfl rfl (neq_t hb7) rfl ?_ rfl; clear S; intro a S
      refine l_want S rfl rfl rfl hb6 ?_
      refine lv S (rn_or_t (decide (r3.1.Time = 1)) hb7 (S.tm rfl) rfl) rfl ?_; clear S; intro a S
      refine l_done ?_
      refine then_n ?_
      exact ⟨Keep.refl _ _, S.nf [true] rfl ⟨rfl, rfl, trivial⟩⟩
     ·refine l_want S rfl rfl rfl hb7 ?_
      refine lv S (rn_fld fa_30_3 (S.tm rfl)) rfl ?_; clear S; intro a S
      refine l_want S rfl rfl rfl hb7 ?_
      refine lv S (rn_load Tryd.isAgg3 (S.tm rfl) (S.cell (i := 0) rfl rfl)) rfl ?_; clear S; intro a S
      refine l_want S rfl rfl rfl hb7 ?_
      refine lv S (rn_eql (S.tm rfl) rfl) rfl ?_; clear S; intro a S
      refine l_want S rfl rfl rfl hb6 ?_
      refine lv S (rn_or_f hb7 (S.tm rfl) (S.tm rfl)) rfl ?_; clear S; intro a S
      refine l_done ?_
      refine then_n ?_
      exact ⟨Keep.refl _ _, S.nf [true] rfl ⟨rfl, rfl, trivial⟩⟩
    clear S; rintro a w18 ⟨hk17, S⟩
    refine lv S (rn_and_t hb6 (S.tm rfl) (S.tm rfl)) rfl ?_; clear S; intro a S
    refine l_done ?_
    refine then_n ?_
    exact ⟨hk17, S.nf [true] rfl ⟨rfl, trivial⟩⟩
   ·refine l_skip S rfl rfl rfl (neq_f hb6) rfl ?_ rfl; clear S; intro a S
    refine l_skip S rfl rfl rfl (neq_f hb6) rfl ?_ rfl; clear S; intro a S
    refine l_skip S rfl rfl rfl (neq_f hb6) rfl ?_ rfl; clear S; intro a S
    refine l_skipU S rfl rfl rfl rfl ?_; clear S; intro a S
    refine l_skipU S rfl rfl rfl rfl ?_; clear S; intro a S
    refine l_skipU S rfl rfl rfl rfl ?_; clear S; intro a S
    refine l_skip S rfl rfl rfl (neq_f hb6) rfl ?_ rfl; clear S; intro a S
    refine lv S (rn_and_f ((!r6.1) || (decide (r3.1.Time = 1))) hb6 (S.tm rfl) rfl) rfl ?_; clear S; intro a S
    refine l_done ?_
    refine then_n ?_
    exact ⟨Keep.refl _ _, S.nf [true] rfl ⟨rfl, trivial⟩⟩
  clear S; rintro a w17 ⟨hk18, S⟩
  refine lv S (rn_move (S.tm rfl)) rfl ?_; clear S; intro a S
  obtain ⟨j2, hj2, h⟩ := joinE h
  refine f_cutm 2 (fun a w' => ∃ c2, j2 c2 = some r ∧ Keep [] w17 w' ∧ Sx w [] φ1 [.blk b2 [.string r3.1.Who, .string r3.1.Race, .int .i64 r3.1.Day, .int .i64 r3.1.Time] 30] [(83, .bool c2)] 84 a w') ?_ ?_
  ·rcases Bool.eq_false_or_eq_true ((((decide (r5.2 = 0)) && (decide (r6.2 = 0))) && r5.1) && ((!r6.1) || (decide (r3.1.Time = 1)))) with hb8 | hb8
   ·replace h := iteT h hb8
    refine l_want S rfl rfl rfl hb8 ?_
    obtain ⟨r7, hr7, h⟩ := bindE h
    refine l_enter S (fun _ => run_call (vs := []) trivial Tryd.call9) (tumbtop_h10facts_ok _ _ hr7) rfl ?_; clear S; intro v8 a w20 hv8 hk19 hn8 S
    subst hv8
    refine lv S (rn_and_t hb8 (S.tm rfl) (S.tm rfl)) rfl ?_; clear S; intro a S
    refine l_done ?_
    refine then_n ?_
    exact ⟨_, h, hk19, S.nf [true] rfl ⟨rfl, trivial⟩⟩
   ·replace h := iteF h hb8
    refine l_skip S rfl rfl rfl (neq_f hb8) rfl ?_ rfl; clear S; intro a S
    refine lv S (rn_and_f true hb8 (S.tm rfl) rfl) rfl ?_; clear S; intro a S
    refine l_done ?_
    refine then_n ?_
    exact ⟨_, h, Keep.refl _ _, S.nf [true] rfl ⟨rfl, trivial⟩⟩
  clear S h; rintro a w19 ⟨c2, h, hk20, S⟩; rw [hj2] at h; clear hj2 j2
  refine lv S (rn_assign (S.tm rfl)) rfl ?_; clear S; intro a S
  refine l_done ?_
  replace S := S.nk [] [(2, .bool c2)] [false] rfl ⟨rfl, trivial⟩
  refine then_n ?_
  refine wp_ret ?_
  obtain rfl := Option.some.inj h
  exact f_ret S Tryd.results3 rfl rfl
end Go.Proofs.YtgpokjjodimbmaaDoor
